/- Parts of proofs about package rules and what it stands on: contracts of functions, and plain laws. -/
import Derived.Test.YtaoodchjggimcaaBl0
import Derived.Test.YtaoodchjggimcaaBa0
import Derived.Laws.MakeOwn
import Derived.Test.YtaoodchjggimcaaBa2
import Derived.Deep.RegionHeld2
import Derived.BigQuiet
import Derived.Test.YtaoodchjggimcaaBa3

/- The walk of order's open: a term whose annotations are all made unknown. -/
set_option linter.unusedVariables false
set_option linter.unusedSimpArgs false
namespace Go.Proofs.Ytaoodchjggimcaa
open Go.RowKit

mutual
def RTm.opened : RTm → RTm
  | .mk k nm g u _ _ lb p ks => .mk k nm g u RTy.unk RTy.unk lb p (RTm.openedL ks)
def RTm.openedL : List RTm → List RTm
  | [] => []
  | t :: ts => t.opened :: RTm.openedL ts
end
theorem RTm.opened_eq (t : RTm) : t.opened = .mk t.k t.name t.arg t.num RTy.unk RTy.unk t.label t.spot (RTm.openedL t.ks) := by cases t; rw [RTm.opened]; rfl
theorem RTm.openedL_snoc (x : RTm) : ∀ ts : List RTm, RTm.openedL (ts ++ [x]) = RTm.openedL ts ++ [x.opened]
  | [] => by simp [RTm.openedL]
  | t :: ts => by simp [RTm.openedL, RTm.openedL_snoc x ts]
theorem RTm.openedL_length : ∀ ts : List RTm, (RTm.openedL ts).length = ts.length
  | [] => by simp [RTm.openedL]
  | t :: ts => by simp [RTm.openedL, RTm.openedL_length ts]
theorem RTm.hasL_kid {ks : List RTm} {k : Int} {j : Nat} {x : RTm} (h : ks[j]? = some x) (hn : RTm.hasL k ks = false) : x.has k = false := by
  induction ks generalizing j with
  | nil => simp at h
  | cons u us ih =>
    rw [RTm.hasL, Bool.or_eq_false_iff] at hn
    cases j with
    | zero => simp at h; subst h; exact hn.1
    | succ j => exact ih (by simpa using h) hn.2
/-- make of no elements, with room for some. -/
theorem wpList_make_none {P : Program} (w : World) {ops : Array Oper} {rest : List Oper} {o : Oper} {a : Act} {Q : Exit → Act → World → Prop}
    (hg : o.guard = none) (l c : Operand) (t : TypeId) (hop : o.op = Op.makeSlice t l c) (base : Nat)
    (e : TypeId) (i : TypeInfo) (z : Value) (size : Nat) (ht : P.underlying t = some (.slice e)) (hi : P.info? e = some i) (hz : i.zero = some z) (hsize : i.size = size)
    (kl kc : IntKind) (n : Nat) (hl : a.eval l = .int kl 0) (hc : a.eval c = .int kc (n : Int)) (hbytes : i.bytes * n ≤ 281474976710656) (h63 : n ≤ maxLen) (hbase : base ≤ w.heap.size)
    (hK : ∀ o' : Obj, (w.alloc o').ownsRow base e size (.slice (some ⟨w.heap.size, 0, none⟩) 0 n) 0 [] → wpList P ops Q rest (a.put o.dst (.slice (some ⟨w.heap.size, 0, none⟩) 0 n)) (w.alloc o')) :
    wpList P ops Q (o :: rest) a w := by
  refine wpList_plain hg fun K hK' => ?_
  subst hsize
  have h63' : (n : Int) ≤ 9223372036854775807 := by
    have h := h63
    simp [maxLen] at h
    omega
  have hb' : (i.bytes : Int) * (n : Int) ≤ 281474976710656 := by
    have h : ((i.bytes * n : Nat) : Int) ≤ 281474976710656 := by omega
    rwa [Int.natCast_mul] at h
  have hr := run_make (P := P) w t e i z ht hi hz kl kc 0 n (Int.le_refl _) (by omega) hb' h63'
  simp only [Int.toNat_zero, Int.toNat_natCast] at hr
  unfold Oper.wp
  simp [execOp, hop, hl, hc, hr, Result.andThen]
  exact hK' _ _ (hK _ (World.ownsRow_made w _ n hbase h63 (size_madeCells _ _)))
theorem RTy.unk_inS2 (w : World) (S : Nat → Prop) (a : Option Addr) : RTy.unk.InS w S a := by
  unfold RTy.unk RTy.InS RTy.InsS
  exact ⟨by unfold Kind8; decide, by decide, trivial⟩

def OpenPost (t : RTm) (B : Nat) (w : World) (e : Ending) (w' : World) : Prop :=
  ∃ s, e = .returned (.tuple #[t.opened.v s, .bool true]) ∧ t.opened.InS w' (OldNew (fun b => b < B) w.heap.size w') s ∧ Below w.heap.size w w'

set_option maxRecDepth 100000 in
set_option maxHeartbeats 4000000 in
theorem open_step (N : Nat) (ih : ∀ (t : RTm) (B : Nat) (s : TmSh) (w : World), t.nodes ≤ N → t.In w B s → t.right = true → t.has 17 = false → B ≤ w.heap.size →
      Calls Try.prog 53 #[t.v s] w (OpenPost t B w))
    (t : RTm) (B : Nat) (s : TmSh) (w : World) (hN : t.nodes ≤ N + 1) (hin : t.In w B s) (hrt : t.right = true) (hh : t.has 17 = false) (hB : B ≤ w.heap.size) :
    Calls Try.prog 53 #[t.v s] w (OpenPost t B w) := by
  have hlen := RTm.right_small hrt
  rw [RTm.has_eq, Bool.or_eq_false_iff] at hh
  have q17 := hh.1
  have HH := Lib.hid hh.2
  clear hh
  obtain ⟨i0, hi, hz0, hz1, hz2⟩ := info_parts infoTm
  have HI := Lib.hid (And.intro hi (And.intro hz0 (And.intro hz1 hz2)))
  clear hi hz0 hz1 hz2
  have HR := Lib.hid hrt
  clear hrt
  go_enter Try.func53, Try.ntmps53
  go_upto_region 3 with fail
  generalize hW : World.alloc (World.alloc w _) _ = w0
  have hb0 : Below w.heap.size w w0 := by rw [← hW]; (repeat (first | assumption | exact Below.refl _ _ | apply below_drewN | apply Below.drew | (refine Below.alloc ?_ (by first | omega | (simp; done) | (simp; omega)) _) | (refine Below.setCell ?_ (by first | omega | (simp; done) | (simp; omega)) _)))
  have hsz0 : w0.heap.size = w.heap.size + 2 := by rw [← hW]; simp
  have hin0 := hin.below hb0 hB
  have L0 : LessBox w w0 B t t.ty t.to s := by
    have iy : t.ty.InS w0 (OldNew (fun b => b < B) (w.heap.size + 2) w0) s.ta := RTy.InS.up hin0.ty fun b hb => .inl hb
    have iz : t.to.InS w0 (OldNew (fun b => b < B) (w.heap.size + 2) w0) s.oa := RTy.InS.up hin0.to fun b hb => .inl hb
    have hle : w.heap.size + 2 ≤ w0.heap.size := by omega
    subst hW
    exact { c0 := by simp [go_sem], c1 := by simp [go_sem], c2 := by simp [go_sem], c3 := by simp [go_sem], c4 := by simp [go_sem], c5 := by simp [go_sem], c6 := by simp [go_sem], c7 := by simp [go_sem], c8 := by simp [go_sem], c9 := by simp [go_sem], c10 := by simp [go_sem], b4 := by simp [go_sem], b5 := by simp [go_sem], b6 := by simp [go_sem], b7 := by simp [go_sem], b10 := by simp [go_sem], r0 := by simp [go_sem], f0 := by simp [go_sem], r1 := by simp [go_sem], f1 := by simp [go_sem], r2 := by simp [go_sem], f2 := by simp [go_sem], r3 := by simp [go_sem], f3 := by simp [go_sem], r4 := by simp [go_sem], f4 := by simp [go_sem], r5 := by simp [go_sem], f5 := by simp [go_sem], r6 := by simp [go_sem], f6 := by simp [go_sem], r7 := by simp [go_sem], f7 := by simp [go_sem], r8 := by simp [go_sem], f8 := by simp [go_sem], r9 := by simp [go_sem], f9 := by simp [go_sem], r10 := by simp [go_sem], f10 := by simp [go_sem], iny := iy, inz := iz, lt := hle, below := hb0 }
  clear hW
  have c4 := L0.c4
  have b4 := L0.b4
  have c5 := L0.c5
  have b5 := L0.b5
  have c6 := L0.c6
  have b6 := L0.b6
  have c7 := L0.c7
  have b7 := L0.b7
  go_upto_region 4 with fail
  generalize hW : World.setCell _ _ _ = wa
  have L1 : LessBox w wa B t RTy.unk RTy.unk { s with ta := none, tc := 0, oa := none, oc := 0 } := by
    rw [← hW]
    exact (L0.setTy hB (RTy.unk_inS2 _ _ none)).setTo (a := none) (c := 0) hB (RTy.unk_inS2 _ _ none)
  clear hW L0 c4 c5 c6 c7 b4 b5 b6 b7 hsz0 hb0 hin0
  have c10 := L1.c10
  dsimp only at c10
  have hwa := L1.lt
  have hbwa := L1.below
  go_wp2_with (at_make; refine wpList_make_none _ rfl _ _ 26 rfl wa.heap.size 28 i0 _ 11 Try.underlying26 HI.out.1 HI.out.2.1 HI.out.2.2.1 .i64 .i64 t.ks.length rfl rfl (by rw [HI.out.2.2.2]; omega) (by unfold maxLen; omega) (Nat.le_refl _) ?_; intro om hom; have hmade : Below wa.heap.size wa (wa.alloc om) := (Below.refl _ _).alloc (Nat.le_refl _) _; have c10 := cell_kept hmade c10)
  go_loopw [4, 24] (fun s4 i wr => ∃ j : Nat, j ≤ t.ks.length ∧ i = .int .i64 j ∧ ∃ cs, OwnTms wr wa.heap.size 28 (OldNew (fun b => b < B) wa.heap.size wr) s4 (RTm.openedL (t.ks.take j)) cs ∧ Below wa.heap.size wa wr) (fun _ i _ => t.ks.length - (intOf i).toNat)
  case atStart => exact ⟨0, by omega, rfl, [], by simpa [RTm.openedL] using OwnTms.mk (S := OldNew (fun b => b < B) wa.heap.size (wa.alloc om)) (ts := []) hom rfl, hmade⟩
  case round =>
    obtain ⟨j, hj, rfl, cs, hown, hba⟩ := hrel
    have hsa := hba.size
    have hbw := hbwa.trans (hba.mono hbwa.size)
    by_cases hlt : j < t.ks.length
    · have hk := List.getElem?_eq_getElem hlt
      generalize hkid : t.ks[j] = kid at hk
      have HT := Lib.hid (show t.ks.take (j + 1) = t.ks.take j ++ [kid] by rw [List.take_add_one, hk]; rfl)
      obtain ⟨kb, ko, ks, hke, hkat⟩ := (hin.below hbw hB).kid hk
      have hnk := RTm.kid_nodes hk
      have hkr := Lib.hid (RTm.right_kid HR.out hk)
      have hkh := Lib.hid (RTm.hasL_kid hk HH.out)
      have hkl2 : (RTm.openedL (t.ks.take j)).length = j := by rw [RTm.openedL_length, List.length_take]; omega
      have HL := Lib.hid hkl2
      clear hk hkid hkl2
      obtain ⟨va, vc, rfl, hva⟩ := hown.shape
      rw [HL.out] at hown
      rw [HL.out, hke]
      have k0 := hkat.c0
      have k1 := hkat.c1
      have k2 := hkat.c2
      have k3 := hkat.c3
      have k4 := hkat.c4
      have k5 := hkat.c5
      have k6 := hkat.c6
      have k7 := hkat.c7
      have k8 := hkat.c8
      have k9 := hkat.c9
      have k10 := hkat.c10
      have hbl := hkat.lt
      have hbl0 : kb < wr.heap.size := by omega
      clear hke
      go_wp2_with fail
      generalize hW : World.alloc wr _ = wq
      have hbq : Below wr.heap.size wr wq := by rw [← hW]; (repeat (first | assumption | exact Below.refl _ _ | apply below_drewN | apply Below.drew | (refine Below.alloc ?_ (by first | omega | (simp; done) | (simp; omega)) _) | (refine Below.setCell ?_ (by first | omega | (simp; done) | (simp; omega)) _)))
      have hzq : wq.heap.size = wr.heap.size + 1 := by rw [← hW]; simp
      clear hW k0 k1 k2 k3 k4 k5 k6 k7 k8 k9 k10
      have hbwq := hbw.trans (hbq.mono hbw.size)
      refine (ih kid B ks wq (by omega) (hkat.inn.below hbq (by omega)) hkr.out hkh.out (by omega)).mono ?_
      rintro e w1 ⟨xs, rfl, hx, hb1⟩
      generalize hX : kid.opened = x at *
      have HX := Lib.hid hX
      clear hX
      have hs1 := hb1.size
      go_upto_region 9 with fail
      generalize hW : World.alloc _ _ = w2
      have hzw : w2.heap.size = w1.heap.size + 1 := by rw [← hW]; simp
      have hb2 : Below wr.heap.size wr w2 := by
        rw [← hW]
        have h := hbq.trans (hb1.mono (by omega))
        (repeat (first | assumption | exact Below.refl _ _ | apply below_drewN | apply Below.drew | (refine Below.alloc ?_ (by first | omega | (simp; done) | (simp; omega)) _) | (refine Below.setCell ?_ (by first | omega | (simp; done) | (simp; omega)) _)))
      have D : AtRow w2 w1.heap.size (.int .i8 x.k) (.string x.name) (.string x.arg) (.int .i64 x.num) (.int .i8 x.ty.k) (.slice xs.ta x.ty.ks.length xs.tc) (.int .i8 x.to.k) (.slice xs.oa x.to.ks.length xs.oc) (.int .i64 x.label) (.int .i64 x.spot) (.slice xs.ka x.ks.length xs.kc) := by rw [← hW]; exact { c0 := by simp [go_sem], f0 := by simp [go_sem], c1 := by simp [go_sem], f1 := by simp [go_sem], c2 := by simp [go_sem], f2 := by simp [go_sem], c3 := by simp [go_sem], f3 := by simp [go_sem], c4 := by simp [go_sem], f4 := by simp [go_sem], c5 := by simp [go_sem], f5 := by simp [go_sem], c6 := by simp [go_sem], f6 := by simp [go_sem], c7 := by simp [go_sem], f7 := by simp [go_sem], c8 := by simp [go_sem], f8 := by simp [go_sem], c9 := by simp [go_sem], f9 := by simp [go_sem], c10 := by simp [go_sem], f10 := by simp [go_sem] }
      have d0 := D.c0
      have d1 := D.c1
      have d2 := D.c2
      have d3 := D.c3
      have d4 := D.c4
      have d5 := D.c5
      have d6 := D.c6
      have d7 := D.c7
      have d8 := D.c8
      have d9 := D.c9
      have d10 := D.c10
      have hx2 : x.InS w2 (OldNew (fun b => b < B) wr.heap.size w2) xs := by
        refine hx.mono (fun b hb => ?_) fun b o hb => ?_
        · rcases hb with hb | hb
          · exact .inl hb
          · exact .inr (by omega)
        · have hne : b < w1.heap.size := by
            rcases hb with hb | hb
            · have hb : b < B := hb
              omega
            · omega
          rw [← hW]
          exact (below_new' w1 _).cell (p := ⟨b, o, none⟩) hne
      clear hW
      have hl3 : w1.heap.size < w2.heap.size := by omega
      have hsz2 := hb2.size
      clear hzw hzq
      have hown1 : Hid (∀ o : Obj, (w2.alloc o).ownsRow wa.heap.size 28 11 (.slice va j vc) j cs) := fun o => by
        have h := hown.own
        rw [HL.out] at h
        exact (World.ownsRow.alloc (h.kept (w' := w2) (row := none) ⟨hb2.os, hb2.tape, hb2.output, hb2.size, fun k hk _ => hb2.block k hk⟩ (by cases Value.ownBlock (Value.slice va j vc) <;> simp)) o)
      go_wp2_with (at_builtin; refine wpList_append_lies _ rfl _ _ 26 rfl wa.heap.size 28 i0 _ 11 152 Try.underlying26 HI.out.1 HI.out.2.1 HI.out.2.2.1 HI.out.2.2.2 rfl (by omega) (.slice va j vc) j cs rfl (hown1.out _) ⟨w2.heap.size, 0, none⟩ 1 1 [.int .i8 x.k, .string x.name, .string x.arg, .int .i64 x.num, .int .i8 x.ty.k, .slice xs.ta x.ty.ks.length xs.tc, .int .i8 x.to.k, .slice xs.oa x.to.ks.length xs.oc, .int .i64 x.label, .int .i64 x.spot, .slice xs.ka x.ks.length xs.kc] rfl rfl (World.news_of_block (cs := #[.int .i8 x.k, .string x.name, .string x.arg, .int .i64 x.num, .int .i8 x.ty.k, .slice xs.ta x.ty.ks.length xs.tc, .int .i8 x.to.k, .slice xs.oa x.to.ks.length xs.oc, .int .i64 x.label, .int .i64 x.spot, .slice xs.ka x.ks.length xs.kc]) (t := 28) (fr := (0, 0)) (heap_alloc_new w2 _)) (by simp [Value.oneCell']) (by omega) (by unfold maxLen; omega) (by omega) (by rw [World.size_alloc]; omega) (w2.heap.size + 1) (by rw [World.size_alloc]) ?_; intro g cap w3 hown2 hgrow hat hlt2)
      have hpush := hown.step (s := xs) (t := x) (fun b hb => by have hb : b < B := hb; have := hbwa.size; omega) hb2 hsa hx2 (by rw [HL.out]) hown2 hgrow hat
      have hfar := hown.far hb2 hsa hgrow
      have e1 : RTm.openedL (t.ks.take (j + 1)) = RTm.openedL (t.ks.take j) ++ [x] := by rw [HT.out, RTm.openedL_snoc, HX.out]
      refine ⟨⟨j + 1, by omega, by go_num, cs ++ x.cells xs, ?_, hba.trans hfar⟩, by simp [intOf]; omega⟩
      rw [e1]
      exact hpush
    · have : j = t.ks.length := by omega
      subst this
      rw [List.take_length] at hown
      have hel : (RTm.openedL t.ks).length = t.ks.length := RTm.openedL_length t.ks
      have HEL := Lib.hid hel
      clear hel
      have hown0 := hown
      obtain ⟨va, vc, rfl, hva⟩ := hown.shape
      obtain ⟨va', vc', hve, hins⟩ := hown0.insS (OldNew (fun b => b < B) wa.heap.size wr) (fun b hb => hb) (fun b hb => .inr (by have := hown0.own.lt b hb; omega))
      simp only [Value.slice.injEq, true_and] at hve
      obtain ⟨rfl, rfl⟩ := hve
      have LR := L1.on hB hba
      rw [HEL.out]
      rw [HEL.out] at hown0
      have c0 : wr.cell? ⟨w.heap.size, 0, none⟩ = some (.int .i8 t.k) := LR.c0
      have c1 : wr.cell? ⟨w.heap.size, 1, none⟩ = some (.string t.name) := LR.c1
      have c2 : wr.cell? ⟨w.heap.size, 2, none⟩ = some (.string t.arg) := LR.c2
      have c3 : wr.cell? ⟨w.heap.size, 3, none⟩ = some (.int .i64 t.num) := LR.c3
      have c4 : wr.cell? ⟨w.heap.size, 4, none⟩ = some (.int .i8 0) := LR.c4
      have c5 : wr.cell? ⟨w.heap.size, 5, none⟩ = some (.slice none 0 0) := LR.c5
      have c6 : wr.cell? ⟨w.heap.size, 6, none⟩ = some (.int .i8 0) := LR.c6
      have c7 : wr.cell? ⟨w.heap.size, 7, none⟩ = some (.slice none 0 0) := LR.c7
      have c8 : wr.cell? ⟨w.heap.size, 8, none⟩ = some (.int .i64 t.label) := LR.c8
      have c9 : wr.cell? ⟨w.heap.size, 9, none⟩ = some (.int .i64 t.spot) := LR.c9
      have c10 : wr.cell? ⟨w.heap.size, 10, none⟩ = some (.slice s.ka t.ks.length s.kc) := LR.c10
      have r0 := LR.r0
      have f0 := LR.f0
      have r1 := LR.r1
      have f1 := LR.f1
      have r2 := LR.r2
      have f2 := LR.f2
      have r3 := LR.r3
      have f3 := LR.f3
      have r4 := LR.r4
      have f4 := LR.f4
      have r5 := LR.r5
      have f5 := LR.f5
      have r6 := LR.r6
      have f6 := LR.f6
      have r7 := LR.r7
      have f7 := LR.f7
      have r8 := LR.r8
      have f8 := LR.f8
      have r9 := LR.r9
      have f9 := LR.f9
      have r10 := LR.r10
      have f10 := LR.f10
      have b10 := LR.b10
      have RR : AtRow wr (w.heap.size + 1) (.int .i8 0) (.string ⟨#[]⟩) (.string ⟨#[]⟩) (.int .i64 0) (.int .i8 0) (.slice none 0 0) (.int .i8 0) (.slice none 0 0) (.int .i64 0) (.int .i64 0) (.slice none 0 0) := { c0 := r0, f0 := f0, c1 := r1, f1 := f1, c2 := r2, f2 := f2, c3 := r3, f3 := f3, c4 := r4, f4 := f4, c5 := r5, f5 := f5, c6 := r6, f6 := f6, c7 := r7, f7 := f7, c8 := r8, f8 := f8, c9 := r9, f9 := f9, c10 := r10, f10 := f10 }
      have hltr := LR.lt
      clear L1 LR
      go_wp2_with fail
      generalize hW : World.setCell _ _ _ = w2
      have D : AtRow w2 (w.heap.size + 1) (.int .i8 t.k) (.string t.name) (.string t.arg) (.int .i64 t.num) (.int .i8 0) (.slice none 0 0) (.int .i8 0) (.slice none 0 0) (.int .i64 t.label) (.int .i64 t.spot) (.slice va t.ks.length vc) := by rw [← hW]; exact (RR.far (by show w.heap.size ≠ w.heap.size + 1; omega)).store
      have hb2 : Below w.heap.size w w2 := by
        rw [← hW]
        exact AtRow.store_below (Below.setCell hbw (by show w.heap.size ≤ w.heap.size; omega) _) (by omega)
      have hs2 : w2.heap.size = wr.heap.size := by rw [← hW]; exact AtRow.store_size.trans (by simp)
      have hC : ∀ b o, OldNew (fun b => b < B) (w.heap.size + 2) wr b → w2.cell? ⟨b, o, none⟩ = wr.cell? ⟨b, o, none⟩ := by
        intro b o hb
        have hne : w.heap.size + 1 ≠ b ∧ w.heap.size ≠ b := by
          rcases hb with hb | hb
          · have hb : b < B := hb
            omega
          · omega
        rw [← hW]
        exact (AtRow.store_far hne.1).trans (World.cell?_setCell_far _ _ _ _ (by show w.heap.size ≠ b; exact hne.2))
      clear hW RR
      have d0 := D.c0
      have d1 := D.c1
      have d2 := D.c2
      have d3 := D.c3
      have d4 := D.c4
      have d5 := D.c5
      have d6 := D.c6
      have d7 := D.c7
      have d8 := D.c8
      have d9 := D.c9
      have d10 := D.c10
      clear c0 r0 f0 c1 r1 f1 c2 r2 f2 c3 r3 f3 c4 r4 f4 c5 r5 f5 c6 r6 f6 c7 r7 f7 c8 r8 f8 c9 r9 f9 c10 r10 f10
      refine bodyPost_ret (v := .tuple #[.agg #[.int .i8 t.k, .string t.name, .string t.arg, .int .i64 t.num, .int .i8 0, .slice none 0 0, .int .i8 0, .slice none 0 0, .int .i64 t.label, .int .i64 t.spot, .slice va t.ks.length vc], .bool true]) (by simp [results, Try.results53, go_sem, d0, d1, d2, d3, d4, d5, d6, d7, d8, d9, d10]) rfl ?_
      unfold OpenPost
      rw [RTm.opened_eq]
      refine ⟨⟨none, 0, none, 0, va, vc⟩, ?_, RTm.InS.of ?_ (RTy.unk_inS2 _ _ _) (RTy.unk_inS2 _ _ _) ?_, hb2⟩
      · show _ = Ending.returned (.tuple #[.agg #[.int .i8 t.k, .string t.name, .string t.arg, .int .i64 t.num, .int .i8 0, .slice none 0 0, .int .i8 0, .slice none 0 0, .int .i64 t.label, .int .i64 t.spot, .slice va (RTm.openedL t.ks).length vc], .bool true])
        rw [HEL.out]
      · have hfi := hin.fine
        exact ⟨hfi.kind, hfi.name, hfi.arg, hfi.num, hfi.label, hfi.spot, by show (RTm.openedL t.ks).length ≤ _; rw [HEL.out]; omega⟩
      · refine (hins.mono (fun b hb => ?_) fun b o hb => hC b o ?_)
        · rcases hb with hb | hb
          · exact .inl hb
          · exact .inr (by omega)
        · rcases hb with hb | hb
          · exact .inl hb
          · exact .inr (by omega)

theorem opened_any (N : Nat) : ∀ (t : RTm) (B : Nat) (s : TmSh) (w : World), t.nodes ≤ N → t.In w B s → t.right = true → t.has 17 = false → B ≤ w.heap.size →
      Calls Try.prog 53 #[t.v s] w (OpenPost t B w) := by
  induction N with
  | zero => intro t B s w h; have := t.nodes_eq; omega
  | succ N ih => exact fun t B s w hN hin hr hh hB => open_step N ih t B s w hN hin hr hh hB
end Go.Proofs.Ytaoodchjggimcaa

/- The walks of package order: the order of types. -/
set_option linter.unusedVariables false
set_option linter.unusedSimpArgs false
namespace Go.Proofs.Ytaoodchjggimcaa
open Go.RowKit

theorem ret2 {a b c d : Value} (h : a = c) (h' : b = d) : Ending.returned (.tuple #[a, b]) = .returned (.tuple #[c, d]) := by rw [h, h']

theorem less1_any (b o b' o' : Nat) (k k' : Int) (x y : Bool) (hx : (k == 0) = x) (hy : (k == 0 || k != k') = y) (w : World) (h1 : w.cell? ⟨b, o, none⟩ = some (.int .i8 k)) (h2 : w.cell? ⟨b', o', none⟩ = some (.int .i8 k')) :
    Calls Try.prog 90 #[.pointer (some ⟨b, o, none⟩), .pointer (some ⟨b', o', none⟩)] w fun e w' => e = .returned (.tuple #[.bool x, .bool y]) ∧ Below w.heap.size w w' := by
  subst hx
  subst hy
  by_cases h : k = 0
  · subst h
    go_enter Try.func90, Try.ntmps90
    go_wp2_with fail
    go_ret2
    exact ⟨rfl, Below.refl _ _⟩
  · have h' : (k == 0) = false := by simp [h]
    clear h
    go_enter Try.func90, Try.ntmps90
    go_wp2_with fail
    go_quiet (fail)
    go_wp2_with fail
    go_ret2
    exact ⟨ret2 (congrArg Value.bool h'.symm) (congrArg Value.bool (by rw [h']; rfl : (k != k') = (k == 0 || k != k'))), by (repeat (first | assumption | exact Below.refl _ _ | apply below_drewN | apply Below.drew | (refine Below.alloc ?_ (by first | omega | (simp; done) | (simp; omega)) _) | (refine Below.setCell ?_ (by first | omega | (simp; done) | (simp; omega)) _)))⟩

theorem down_any (N : Nat) : ∀ (t u : RTy) (B b o b' o' : Nat) (a a' : Option Addr) (c c' : Nat) (w : World), t.nodes ≤ N → RTy.At w B b o a c t → RTy.At w B b' o' a' c' u → t.right = true → u.right = true → B ≤ w.heap.size →
    Calls Try.prog 89 #[.pointer (some ⟨b, o, none⟩), .pointer (some ⟨b', o', none⟩), .func (.func 90) #[] #[]] w fun e w' => e = .returned (.bool (t.le u)) ∧ Below w.heap.size w w' := by
  induction N with
  | zero => intro t u B b o b' o' a a' c c' w h; have := t.nodes_pos; omega
  | succ N ih =>
  intro t u B b o b' o' a a' c c' w hN hat hat' hr hr' hB
  have hlen := hat.inn.len
  have hlen' := hat'.inn.len
  have hre := Lib.hid (t.le_eq u)
  have hc0 := hat.c0
  have hc0' := hat'.c0
  by_cases h0 : t.k = 0
  · have e : t.le u = true := by rw [hre.out]; simp [h0]
    have h0' : (t.k == 0) = true := by simp [h0]
    have h0s : (t.k == 0 || t.k != u.k) = true := by simp [h0]
    clear h0 hr hr' hlen hlen'
    go_enter Try.func89, Try.ntmps89
    go_wp2_with fail
    refine (less1_any b o b' o' t.k u.k _ _ h0' h0s _ hat.c0 hat'.c0).mono ?_
    rintro e w1 ⟨rfl, hb1⟩
    go_wp2_with fail
    go_ret
    exact ⟨ret_bool e.symm, hb1⟩
  by_cases hp : t.k = u.k
  · have h0' : (t.k == 0) = false := by simp [h0]
    have h0s : (t.k == 0 || t.k != u.k) = false := by simp [hp]; omega
    have hll : t.ks.length = u.ks.length := by
      have h1 := RTy.right_len hr
      have h2 := RTy.right_len hr'
      rw [hp] at h1; omega
    have hre2 : t.le u = RTy.leL t.ks u.ks := by rw [hre.out]; simp [h0, hp]; omega
    have HR := Lib.hid hre2
    have hle : t.ks.length ≤ u.ks.length := by omega
    have Hr := Lib.hid hr
    have Hr' := Lib.hid hr'
    clear hp hll hre2 hr hr' h0
    go_enter Try.func89, Try.ntmps89
    go_wp2_with fail
    refine (less1_any b o b' o' t.k u.k _ _ h0' h0s _ hat.c0 hat'.c0).mono ?_
    rintro e w1 ⟨rfl, hb1⟩
    have hat1 := hat.below hb1 hB
    have hat1' := hat'.below hb1 hB
    have hd0 := hat1.c0
    have hd1 := hat1.c1
    have hd0' := hat1'.c0
    have hd1' := hat1'.c1
    go_wp2_with fail
    go_loopw [24] (fun i wr => ∃ j : Nat, j ≤ t.ks.length ∧ i = .int .i64 j ∧ RTy.leL (t.ks.drop j) (u.ks.drop j) = RTy.leL t.ks u.ks ∧ Below w.heap.size w wr) (fun i _ => t.ks.length - (intOf i).toNat)
    case atStart => exact ⟨0, by omega, rfl, by simp, hb1⟩
    case round =>
      obtain ⟨j, hj, rfl, hinv, hb0⟩ := hrel
      by_cases hlt : j < t.ks.length
      · have hlt' : j < u.ks.length := by omega
        have hk := List.getElem?_eq_getElem hlt
        generalize hkid : t.ks[j] = kid at hk
        have hk' := List.getElem?_eq_getElem hlt'
        generalize hkid' : u.ks[j] = kid' at hk'
        have hd := Lib.hid (RTy.leL_drop hk hk')
        have hr1 := hat.below hb0 hB
        have hr1' := hat'.below hb0 hB
        obtain ⟨kb, ko, ka, kc, rfl, hkat⟩ := hr1.kid hk
        obtain ⟨kb', ko', ka', kc', rfl, hkat'⟩ := hr1'.kid hk'
        have hnk := RTy.kid_nodes hk
        have hkr := Lib.hid (RTy.right_kid Hr.out hk)
        have hkr' := Lib.hid (RTy.right_kid Hr'.out hk')
        have q1 := hr1.c1
        have q2 := hr1'.c1
        clear hk hkid hk' hkid' hc0 hc0' hd0 hd1 hd0' hd1'
        have HI := Lib.hid hinv
        clear hinv
        have hbs := hb0.size
        have hcall := Lib.hid fun (W : World) (hW : Below wr.heap.size wr W) => ih kid kid' B kb (ko + j * 2) kb' (ko' + j * 2) ka ka' kc kc' W (by omega) (hkat.below hW (by omega)) (hkat'.below hW (by omega)) hkr.out hkr'.out (by have := hW.size; omega)
        go_wp2_with fail
        go_region_held3 (fun w' => w'.cell? ⟨b, o + 1, none⟩ = some (.slice (some ⟨kb, ko, none⟩) t.ks.length c) ∧ w'.cell? ⟨b', o' + 1, none⟩ = some (.slice (some ⟨kb', ko', none⟩) u.ks.length c'))
          (first | exact ⟨q1, q2⟩ | exact ⟨cell_kept hb1 q1, cell_kept hb1 q2⟩)
          (first | (go_at_call 89; refine (hcall.out _ ?_).mono ?_; (repeat (first | assumption | exact Below.refl _ _ | apply below_drewN | apply Below.drew | (refine Below.alloc ?_ (by first | omega | (simp; done) | (simp; omega)) _) | (refine Below.setCell ?_ (by first | omega | (simp; done) | (simp; omega)) _))); rintro e w1 ⟨rfl, hb1⟩))
        have hb2 : Below w.heap.size w w1 := hb0.trans (Below.trans (Below.refl w.heap.size wr).drew (hb1.mono (by simp; omega)))
        by_cases hke : kid.le kid' = true
        · simp only [hke, Bool.not_true]
          have HKE := Lib.hid hke
          clear hke
          go_wp2_with fail
          go_round
          case rel =>
            refine ⟨j + 1, by omega, by go_num, ?_, hb2⟩
            have := hd.out
            rw [HKE.out, HI.out] at this; simpa using this.symm
          case measure => simp [intOf]; omega
        · have hke' : kid.le kid' = false := by simpa using hke
          simp only [hke', Bool.not_false]
          have HKE := Lib.hid hke'
          clear hke hke'
          go_wp2_with fail
          go_ret
          refine ⟨ret_bool ?_, hb2⟩
          have := hd.out
          rw [HKE.out, HI.out] at this
          rw [HR.out, this]; simp
      · have : j = t.ks.length := by omega
        subst this
        go_wp2_with fail
        go_ret
        refine ⟨ret_bool ?_, hb0⟩
        simp [RTy.leL] at hinv
        rw [HR.out, ← hinv]
  · have h0' : (t.k == 0) = false := by simp [h0]
    have h0s : (t.k == 0 || t.k != u.k) = true := by simp [hp]
    have e : t.le u = false := by rw [hre.out]; simp [h0, hp]
    clear h0 hp hr hr' hlen hlen'
    go_enter Try.func89, Try.ntmps89
    go_wp2_with fail
    refine (less1_any b o b' o' t.k u.k _ _ h0' h0s _ hat.c0 hat'.c0).mono ?_
    rintro e w1 ⟨rfl, hb1⟩
    go_wp2_with fail
    go_ret
    exact ⟨ret_bool e.symm, hb1⟩

theorem less_any (t u : RTy) (B b o b' o' : Nat) (a a' : Option Addr) (c c' : Nat) (w : World) (hat : RTy.At w B b o a c t) (hat' : RTy.At w B b' o' a' c' u) (hr : t.right = true) (hr' : u.right = true) (hB : B ≤ w.heap.size) :
    Calls Try.prog 55 #[.pointer (some ⟨b, o, none⟩), .pointer (some ⟨b', o', none⟩)] w fun e w' => e = .returned (.bool (t.le u)) ∧ Below w.heap.size w w' := by
  have Hr := Lib.hid hr
  have Hr' := Lib.hid hr'
  clear hr hr'
  go_enter Try.func55, Try.ntmps55
  go_wp2_with fail
  refine (down_any t.nodes t u B b o b' o' a a' c c' _ (Nat.le_refl _) hat hat' Hr.out Hr'.out hB).mono ?_
  rintro e w1 ⟨rfl, hb1⟩
  go_wp2_with fail
  go_ret
  exact ⟨rfl, hb1⟩
theorem Less_any (t u : RTy) (B : Nat) (a a' : Option Addr) (c c' : Nat) (w : World) (hin : t.In w B a) (hin' : u.In w B a') (hB : B ≤ w.heap.size) :
    Calls Try.prog 21 #[.agg #[.int .i8 t.k, .slice a t.ks.length c], .agg #[.int .i8 u.k, .slice a' u.ks.length c']] w fun e w' => e = .returned (.bool (t.less u)) ∧ Below w.heap.size w w' := by
  have q0 : ∀ (A B : Obj), Below w.heap.size w ((w.alloc A).alloc B) := fun A B => by (repeat (first | assumption | exact Below.refl _ _ | apply below_drewN | apply Below.drew | (refine Below.alloc ?_ (by first | omega | (simp; done) | (simp; omega)) _) | (refine Below.setCell ?_ (by first | omega | (simp; done) | (simp; omega)) _)))
  have qs : ∀ (A B : Obj), ((w.alloc A).alloc B).heap.size = w.heap.size + 1 + 1 := fun A B => by simp
  have Q0 := Lib.hid q0
  have QS := Lib.hid qs
  clear q0 qs
  by_cases h1 : t.check = 0
  · have h1' : (t.check == 0) = true := by simp [h1]
    have H1 : Hid (t.ok = true) := h1'
    clear h1
    go_enter Try.func21, Try.ntmps21
    go_wp2_with fail
    refine (tcheck_any t B a c _ (hin.below (Q0.out _ _) hB) (by rw [QS.out]; omega)).mono ?_
    rintro e w1 ⟨rfl, hb1⟩
    have hb0 : Below w.heap.size w w1 := Below.trans (Q0.out _ _) (hb1.mono (by rw [QS.out]; omega))
    have hs := hb0.size
    have q1 : w1.cell? ⟨w.heap.size, 0, none⟩ = some (.int .i8 t.k) := cell_kept hb1 (by simp [go_sem])
    have q2 : w1.cell? ⟨w.heap.size, 1, none⟩ = some (.slice a t.ks.length c) := cell_kept hb1 (by simp [go_sem])
    have q3 : w1.cell? ⟨w.heap.size + 1, 0, none⟩ = some (.int .i8 u.k) := cell_kept hb1 (by simp [go_sem])
    have q4 : w1.cell? ⟨w.heap.size + 1, 1, none⟩ = some (.slice a' u.ks.length c') := cell_kept hb1 (by simp [go_sem])
    go_wp2_with fail
    refine (tcheck_any u B a' c' _ (hin'.below hb0 hB) (by omega)).mono ?_
    rintro e w2 ⟨rfl, hb2⟩
    have hb02 := hb0.trans (hb2.mono hs)
    have hs2 := hb02.size
    by_cases h2 : u.check = 0
    · have h2' : (u.check == 0) = true := by simp [h2]
      have H2 : Hid (u.ok = true) := h2'
      clear h2
      have q1 := cell_kept hb2 q1
      have q2 := cell_kept hb2 q2
      have q3 := cell_kept hb2 q3
      have q4 := cell_kept hb2 q4
      go_wp2_with fail
      have hw2 := hb2.size
      have hw1 := hb1.size
      rw [QS.out] at hw1
      refine (less_any t u (w.heap.size + 2) w.heap.size 0 (w.heap.size + 1) 0 a a' c c' _ ⟨by omega, q1, q2, (hin.below hb02 hB).up (by omega)⟩ ⟨by omega, q3, q4, (hin'.below hb02 hB).up (by omega)⟩ (RTy.ok_right H1.out) (RTy.ok_right H2.out) (by omega)).mono ?_
      rintro e w3 ⟨rfl, hb3⟩
      go_wp2_with fail
      go_ret
      exact ⟨ret_bool (by unfold RTy.less; rw [H1.out, H2.out]; simp), hb02.trans (hb3.mono hs2)⟩
    · have h2' : (u.check == 0) = false := by simp [h2]
      have H2 : Hid (u.ok = false) := h2'
      clear h2
      go_wp2_with fail
      go_ret
      exact ⟨ret_bool (by unfold RTy.less; rw [H2.out]; simp), hb02⟩
  · have h1' : (t.check == 0) = false := by simp [h1]
    have H1 : Hid (t.ok = false) := h1'
    clear h1
    go_enter Try.func21, Try.ntmps21
    go_wp2_with fail
    refine (tcheck_any t B a c _ (hin.below (Q0.out _ _) hB) (by rw [QS.out]; omega)).mono ?_
    rintro e w1 ⟨rfl, hb1⟩
    go_wp2_with fail
    go_ret
    exact ⟨ret_bool (by unfold RTy.less; rw [H1.out]; simp), Below.trans (Q0.out _ _) (hb1.mono (by rw [QS.out]; omega))⟩

end Go.Proofs.Ytaoodchjggimcaa

/- The walks of order's annotated and each. -/
set_option linter.unusedVariables false
set_option linter.unusedSimpArgs false
namespace Go.Proofs.Ytaoodchjggimcaa
open Go.RowKit

mutual
/-- Two terms of one build, the first's annotations less than the second's. -/
def RTm.LeA : RTm → RTm → Prop
  | .mk k nm g m ty tz lb p ks, u => u.k = k ∧ (annFrom k = true → ty.le u.ty = true) ∧ (annTo k = true → tz.le u.to = true) ∧ RTm.LeAL ks u.ks
def RTm.LeAL : List RTm → List RTm → Prop
  | [], us => us = []
  | t :: ts, us => ∃ v vs, us = v :: vs ∧ t.LeA v ∧ RTm.LeAL ts vs
end
theorem RTm.LeA.eq {t u : RTm} (h : t.LeA u) : u.k = t.k ∧ (annFrom t.k = true → t.ty.le u.ty = true) ∧ (annTo t.k = true → t.to.le u.to = true) ∧ RTm.LeAL t.ks u.ks := by
  cases t; rw [RTm.LeA] at h; exact h
theorem RTm.LeAL.get {x : RTm} : ∀ {ts us : List RTm} {j : Nat}, RTm.LeAL ts us → ts[j]? = some x → ∃ y, us[j]? = some y ∧ x.LeA y
  | [], us, j, h, hj => by simp at hj
  | t :: ts, us, j, h, hj => by
    rw [RTm.LeAL] at h
    obtain ⟨v, vs, rfl, h1, h2⟩ := h
    cases j with
    | zero => simp at hj; subst hj; exact ⟨v, by simp, h1⟩
    | succ j =>
      obtain ⟨y, e1, e2⟩ := RTm.LeAL.get h2 (j := j) (by simpa using hj)
      exact ⟨y, by simpa using e1, e2⟩
set_option maxHeartbeats 4000000 in
theorem annotated_any (k : Int) (w : World) : Calls Try.prog 88 #[.int .i8 k] w fun e w' => e = .returned (.tuple #[.bool (annFrom k), .bool (annTo k)]) ∧ Below w.heap.size w w' := by
  by_cases h5 : k = 5
  · subst h5
    go_enter Try.func88, Try.ntmps88
    go_wp2_with fail
    exact bodyPost_ret (v := .tuple #[.bool true, .bool true]) (by simp [results, Try.results88, go_sem]) rfl ⟨rfl, by (repeat (first | assumption | exact Below.refl _ _ | apply below_drewN | apply Below.drew | (refine Below.alloc ?_ (by first | omega | (simp; done) | (simp; omega)) _) | (refine Below.setCell ?_ (by first | omega | (simp; done) | (simp; omega)) _)))⟩
  by_cases h4 : k = 4
  · subst h4
    go_enter Try.func88, Try.ntmps88
    go_wp2_with fail
    exact bodyPost_ret (v := .tuple #[.bool true, .bool false]) (by simp [results, Try.results88, go_sem]) rfl ⟨rfl, by (repeat (first | assumption | exact Below.refl _ _ | apply below_drewN | apply Below.drew | (refine Below.alloc ?_ (by first | omega | (simp; done) | (simp; omega)) _) | (refine Below.setCell ?_ (by first | omega | (simp; done) | (simp; omega)) _)))⟩
  by_cases h7 : k = 7
  · subst h7
    go_enter Try.func88, Try.ntmps88
    go_wp2_with fail
    exact bodyPost_ret (v := .tuple #[.bool true, .bool false]) (by simp [results, Try.results88, go_sem]) rfl ⟨rfl, by (repeat (first | assumption | exact Below.refl _ _ | apply below_drewN | apply Below.drew | (refine Below.alloc ?_ (by first | omega | (simp; done) | (simp; omega)) _) | (refine Below.setCell ?_ (by first | omega | (simp; done) | (simp; omega)) _)))⟩
  by_cases h12 : k = 12
  · subst h12
    go_enter Try.func88, Try.ntmps88
    go_wp2_with fail
    exact bodyPost_ret (v := .tuple #[.bool true, .bool false]) (by simp [results, Try.results88, go_sem]) rfl ⟨rfl, by (repeat (first | assumption | exact Below.refl _ _ | apply below_drewN | apply Below.drew | (refine Below.alloc ?_ (by first | omega | (simp; done) | (simp; omega)) _) | (refine Below.setCell ?_ (by first | omega | (simp; done) | (simp; omega)) _)))⟩
  by_cases h13 : k = 13
  · subst h13
    go_enter Try.func88, Try.ntmps88
    go_wp2_with fail
    exact bodyPost_ret (v := .tuple #[.bool true, .bool false]) (by simp [results, Try.results88, go_sem]) rfl ⟨rfl, by (repeat (first | assumption | exact Below.refl _ _ | apply below_drewN | apply Below.drew | (refine Below.alloc ?_ (by first | omega | (simp; done) | (simp; omega)) _) | (refine Below.setCell ?_ (by first | omega | (simp; done) | (simp; omega)) _)))⟩
  by_cases h16 : k = 16
  · subst h16
    go_enter Try.func88, Try.ntmps88
    go_wp2_with fail
    exact bodyPost_ret (v := .tuple #[.bool true, .bool false]) (by simp [results, Try.results88, go_sem]) rfl ⟨rfl, by (repeat (first | assumption | exact Below.refl _ _ | apply below_drewN | apply Below.drew | (refine Below.alloc ?_ (by first | omega | (simp; done) | (simp; omega)) _) | (refine Below.setCell ?_ (by first | omega | (simp; done) | (simp; omega)) _)))⟩
  have e1 : annFrom k = false := by simp [annFrom, h5, h4, h7, h12, h13, h16]
  have e2 : annTo k = false := by simp [annTo, h5]
  have q5 : (k == 5) = false := by simp [h5]
  have q4 : (k == 4) = false := by simp [h4]
  have q7 : (k == 7) = false := by simp [h7]
  have q12 : (k == 12) = false := by simp [h12]
  have q13 : (k == 13) = false := by simp [h13]
  have q16 : (k == 16) = false := by simp [h16]
  clear h5 h4 h7 h12 h13 h16
  rw [e1, e2]
  go_enter Try.func88, Try.ntmps88
  go_wp2_with fail
  exact bodyPost_ret (v := .tuple #[.bool false, .bool false]) (by simp [results, Try.results88, go_sem]) rfl ⟨rfl, by (repeat (first | assumption | exact Below.refl _ _ | apply below_drewN | apply Below.drew | (refine Below.alloc ?_ (by first | omega | (simp; done) | (simp; omega)) _) | (refine Below.setCell ?_ (by first | omega | (simp; done) | (simp; omega)) _)))⟩

set_option maxRecDepth 100000 in
set_option maxHeartbeats 4000000 in
theorem each_step (N : Nat) (ih : ∀ (t u : RTm) (B b o b' o' : Nat) (s s' : TmSh) (w : World), t.nodes ≤ N → RTm.At w B b o s t → RTm.At w B b' o' s' u → t.right = true → u.right = true → t.LeA u → B ≤ w.heap.size →
      Calls Try.prog 54 #[.pointer (some ⟨b, o, none⟩), .pointer (some ⟨b', o', none⟩)] w fun e w' => e = .returned (.bool true) ∧ Below w.heap.size w w')
    (t u : RTm) (B b o b' o' : Nat) (s s' : TmSh) (w : World) (hN : t.nodes ≤ N + 1) (hat : RTm.At w B b o s t) (hat' : RTm.At w B b' o' s' u) (hr : t.right = true) (hr' : u.right = true) (hle : t.LeA u) (hB : B ≤ w.heap.size) :
    Calls Try.prog 54 #[.pointer (some ⟨b, o, none⟩), .pointer (some ⟨b', o', none⟩)] w fun e w' => e = .returned (.bool true) ∧ Below w.heap.size w w' := by
  have hlen := RTm.right_small hr
  obtain ⟨hk, hl1, hl2, hl3⟩ := hle.eq
  have hlen' : u.ks.length ≤ 3 := RTm.right_small hr'
  have HL := Lib.hid hl3
  have Hr := Lib.hid hr
  have Hr' := Lib.hid hr'
  have hty : annFrom t.k = true → t.ty.right = true ∧ u.ty.right = true := fun h => ⟨RTm.right_ty hr (annFrom_hasFrom h), RTm.right_ty hr' (by rw [hk]; exact annFrom_hasFrom h)⟩
  have hto : annTo t.k = true → t.to.right = true ∧ u.to.right = true := fun h => ⟨RTm.right_to hr (annTo_hasTo h), RTm.right_to hr' (by rw [hk]; exact annTo_hasTo h)⟩
  have HK := Lib.hid hk
  clear hl3 hr hr' hle hk
  have k0 := hat.c0
  go_enter Try.func54, Try.ntmps54
  go_wp2_with fail
  refine (annotated_any t.k _).mono ?_
  rintro e w1 ⟨rfl, hb1⟩
  have hs1 := hb1.size
  have hat1 := hat.below hb1 hB
  have hat1' := hat'.below hb1 hB
  have hc1 : annFrom t.k = true → Hid (∀ W : World, Below w1.heap.size w1 W → Calls Try.prog 55 #[.pointer (some ⟨b, o + 4, none⟩), .pointer (some ⟨b', o' + 4, none⟩)] W fun e w' => e = .returned (.bool true) ∧ Below w1.heap.size w1 w') := fun h W hW => by
    have hx := hat1.below hW (by omega)
    have hx' := hat1'.below hW (by omega)
    have hws := hW.size
    refine (less_any t.ty u.ty B b (o + 4) b' (o' + 4) s.ta s'.ta s.tc s'.tc W ⟨hx.lt, hx.c4, hx.c5, hx.inn.ty⟩ ⟨hx'.lt, hx'.c4, hx'.c5, hx'.inn.ty⟩ (hty h).1 (hty h).2 (by omega)).mono ?_
    rintro e w' ⟨rfl, hb⟩
    exact ⟨by rw [hl1 h], hW.trans (hb.mono hws)⟩
  have hc2 : annTo t.k = true → Hid (∀ W : World, Below w1.heap.size w1 W → Calls Try.prog 55 #[.pointer (some ⟨b, o + 5 + 1, none⟩), .pointer (some ⟨b', o' + 5 + 1, none⟩)] W fun e w' => e = .returned (.bool true) ∧ Below w1.heap.size w1 w') := fun h W hW => by
    have hx := hat1.below hW (by omega)
    have hx' := hat1'.below hW (by omega)
    have hws := hW.size
    refine (less_any t.to u.to B b (o + 6) b' (o' + 6) s.oa s'.oa s.oc s'.oc W ⟨hx.lt, hx.c6, hx.c7, hx.inn.to⟩ ⟨hx'.lt, hx'.c6, hx'.c7, hx'.inn.to⟩ (hto h).1 (hto h).2 (by omega)).mono ?_
    rintro e w' ⟨rfl, hb⟩
    exact ⟨by rw [hl2 h], hW.trans (hb.mono hws)⟩
  clear hl1 hl2 hty hto k0
  have hcase : (annFrom t.k = true ∧ annTo t.k = true) ∨ (annFrom t.k = true ∧ annTo t.k = false) ∨ (annFrom t.k = false ∧ annTo t.k = false) := by
    by_cases h5 : t.k = 5
    · exact .inl ⟨by simp [annFrom, h5], by simp [annTo, h5]⟩
    · have : annTo t.k = false := by simp [annTo, h5]
      cases h : annFrom t.k
      · exact .inr (.inr ⟨rfl, this⟩)
      · exact .inr (.inl ⟨rfl, this⟩)
  rcases hcase with ⟨g1, g2⟩ | ⟨g1, g2⟩ | ⟨g1, g2⟩
  · rw [g1, g2]
    have hcc1 := hc1 g1
    have hcc2 := hc2 g2
    clear hc1 hc2 g1 g2
    go_wp2_with fail
    go_region_held3 (fun _ => True) (trivial)
      (first | (go_at_call 55; refine (hcc1.out _ ?_).mono ?_; (repeat (first | assumption | exact Below.refl _ _ | apply below_drewN | apply Below.drew | (refine Below.alloc ?_ (by first | omega | (simp; done) | (simp; omega)) _) | (refine Below.setCell ?_ (by first | omega | (simp; done) | (simp; omega)) _))); rintro e w2 ⟨rfl, hb2⟩) | (go_at_call 55; refine (hcc2.out _ ?_).mono ?_; (repeat (first | assumption | exact Below.refl _ _ | apply below_drewN | apply Below.drew | (refine Below.alloc ?_ (by first | omega | (simp; done) | (simp; omega)) _) | (refine Below.setCell ?_ (by first | omega | (simp; done) | (simp; omega)) _))); rintro e w3 ⟨rfl, hb3⟩))
    have hb8 : Below w1.heap.size w1 w3 := hb3
    generalize hw9 : w3 = w9 at *
    have hb9 : Below w.heap.size w w9 := hb1.trans (hb8.mono hs1)
    clear hb8 hw9
    have hat9 := hat.below hb9 hB
    have c10 := hat9.c10
    clear hat9
    go_wp2_with fail
    go_loopw [45] (fun i wr => ∃ j : Nat, j ≤ t.ks.length ∧ i = .int .i64 j ∧ Below w.heap.size w wr) (fun i _ => t.ks.length - (intOf i).toNat)
    case atStart => exact ⟨0, by omega, rfl, hb9⟩
    case round =>
      obtain ⟨j, hj, rfl, hb0⟩ := hrel
      by_cases hlt : j < t.ks.length
      · have hk := List.getElem?_eq_getElem hlt
        generalize hkid : t.ks[j] = kid at hk
        obtain ⟨kid', hk', hkl⟩ := HL.out.get hk
        have hlt' : j < u.ks.length := (List.getElem?_eq_some_iff.1 hk').1
        have hr1 := hat.below hb0 hB
        have hr1' := hat'.below hb0 hB
        obtain ⟨kb, ko, ks, hke, hkat⟩ := hr1.inn.kid hk
        obtain ⟨kb', ko', ks', hke', hkat'⟩ := hr1'.inn.kid hk'
        have hnk := RTm.kid_nodes hk
        have hkr := Lib.hid (RTm.right_kid Hr.out hk)
        have hkr' := Lib.hid (RTm.right_kid Hr'.out hk')
        have q1 := hr1.c10
        have q2 := hr1'.c10
        rw [hke] at q1
        rw [hke'] at q2
        have hbs := hb0.size
        have hcall := Lib.hid fun (W : World) (hW : Below wr.heap.size wr W) => ih kid kid' B kb (ko + j * 11) kb' (ko' + j * 11) ks ks' W (by omega) (hkat.below hW (by omega)) (hkat'.below hW (by omega)) hkr.out hkr'.out hkl (by have := hW.size; omega)
        clear hk hkid hk' hkl hke hke' hr1 hr1' hkat hkat'
        go_wp2_with fail
        go_region_held3 (fun w' => w'.cell? ⟨b, o + 10, none⟩ = some (.slice (some ⟨kb, ko, none⟩) t.ks.length s.kc) ∧ w'.cell? ⟨b', o' + 10, none⟩ = some (.slice (some ⟨kb', ko', none⟩) u.ks.length s'.kc))
          (first | exact ⟨q1, q2⟩ | exact ⟨cell_kept hb1 q1, cell_kept hb1 q2⟩)
          (first | (go_at_call 54; refine (hcall.out _ ?_).mono ?_; (repeat (first | assumption | exact Below.refl _ _ | apply below_drewN | apply Below.drew | (refine Below.alloc ?_ (by first | omega | (simp; done) | (simp; omega)) _) | (refine Below.setCell ?_ (by first | omega | (simp; done) | (simp; omega)) _))); rintro e w1 ⟨rfl, hb1⟩))
        have hb2 : Below w.heap.size w w1 := hb0.trans (Below.trans (Below.refl w.heap.size wr).drew (hb1.mono (by simp; omega)))
        go_wp2_with fail
        go_round
        case rel => exact ⟨j + 1, by omega, by go_num, hb2⟩
        case measure => simp [intOf]; omega
      · go_wp2_with fail
        go_ret
        exact ⟨rfl, hb0⟩
  · rw [g1, g2]
    have hcc1 := hc1 g1
    clear hc1 hc2 g1 g2
    go_wp2_with fail
    refine wp_region_held_drew (S := fun _ => True) (by kernel_rfl) ?_ (fun hHeld => ?_)
    · trivial
    refine wpAnyH_take (i := 0) (v := ?_) rfl (by kernel_rfl) (by kernel_rfl) (by kernel_rfl) (fun _ _ _ h => h) (Or.inl ⟨by rfl, ?_⟩) (by assumption) ?_
    rotate_left
    · intro w hSw; (try dsimp only at hSw); go_simp; try with_reducible rfl
    try simp only [Act.put, List.setIfInBounds_toArray, List.set_cons_zero, List.set_cons_succ, List.getElem_toArray, List.getElem_cons_zero, List.getElem_cons_succ]
    refine wpAnyH_take (i := 1) (v := ?_) rfl (by kernel_rfl) (by kernel_rfl) (by kernel_rfl) (fun _ _ _ h => h) (Or.inl ⟨by rfl, ?_⟩) (by assumption) ?_
    rotate_left
    · intro w hSw; (try dsimp only at hSw); go_simp; try with_reducible rfl
    try simp only [Act.put, List.setIfInBounds_toArray, List.set_cons_zero, List.set_cons_succ, List.getElem_toArray, List.getElem_cons_zero, List.getElem_cons_succ]
    refine wpAnyH_take (i := 2) (v := ?_) rfl (by kernel_rfl) (by kernel_rfl) (by kernel_rfl) (fun _ _ _ h => h) (Or.inl ⟨by rfl, ?_⟩) (by assumption) ?_
    rotate_left
    · intro w hSw; (try dsimp only at hSw); go_simp; try with_reducible rfl
    try simp only [Act.put, List.setIfInBounds_toArray, List.set_cons_zero, List.set_cons_succ, List.getElem_toArray, List.getElem_cons_zero, List.getElem_cons_succ]
    refine wpAnyH_take (i := 3) (v := ?_) rfl (by kernel_rfl) (by kernel_rfl) (by kernel_rfl) (fun _ _ _ h => h) (Or.inl ⟨by rfl, ?_⟩) (by assumption) ?_
    rotate_left
    · intro w hSw; (try dsimp only at hSw); go_simp; try with_reducible rfl
    try simp only [Act.put, List.setIfInBounds_toArray, List.set_cons_zero, List.set_cons_succ, List.getElem_toArray, List.getElem_cons_zero, List.getElem_cons_succ]
    refine wpAnyH_take (i := 4) (v := ?_) rfl (by kernel_rfl) (by kernel_rfl) (by kernel_rfl) (fun _ _ _ h => h) (Or.inl ⟨by rfl, ?_⟩) (by assumption) ?_
    rotate_left
    · intro w hSw; (try dsimp only at hSw); go_simp; try with_reducible rfl
    try simp only [Act.put, List.setIfInBounds_toArray, List.set_cons_zero, List.set_cons_succ, List.getElem_toArray, List.getElem_cons_zero, List.getElem_cons_succ]
    refine wpAnyH_take (i := 5) (v := ?_) rfl (by kernel_rfl) (by kernel_rfl) (by kernel_rfl) (fun _ _ _ h => h) (Or.inl ⟨by rfl, ?_⟩) (by assumption) ?_
    rotate_left
    · intro w hSw; (try dsimp only at hSw); go_simp; try with_reducible rfl
    try simp only [Act.put, List.setIfInBounds_toArray, List.set_cons_zero, List.set_cons_succ, List.getElem_toArray, List.getElem_cons_zero, List.getElem_cons_succ]
    refine wpAnyH_take (i := 6) (v := ?_) rfl (by kernel_rfl) (by kernel_rfl) (by kernel_rfl) (fun _ _ _ h => h) (Or.inl ⟨by rfl, ?_⟩) (by assumption) ?_
    rotate_left
    · intro w hSw; (try dsimp only at hSw); go_simp; try with_reducible rfl
    try simp only [Act.put, List.setIfInBounds_toArray, List.set_cons_zero, List.set_cons_succ, List.getElem_toArray, List.getElem_cons_zero, List.getElem_cons_succ]
    refine wpAnyH_take (i := 7) (v := ?_) rfl (by kernel_rfl) (by kernel_rfl) (by kernel_rfl) (fun _ _ _ h => h) (Or.inl ⟨by rfl, ?_⟩) (by assumption) ?_
    rotate_left
    · intro w hSw; (try dsimp only at hSw); go_simp; try with_reducible rfl
    try simp only [Act.put, List.setIfInBounds_toArray, List.set_cons_zero, List.set_cons_succ, List.getElem_toArray, List.getElem_cons_zero, List.getElem_cons_succ]
    refine wpAnyH_ready (rs := [8]) (by kernel_rfl) (by simp) ?_
    refine AllReadyH.cons rfl (fun K hK => ?_) AllReadyH.nil
    go_simp
    go_at_call 55
    refine (hcc1.out _ ?_).mono ?_
    · (repeat (first | assumption | exact Below.refl _ _ | apply below_drewN | apply Below.drew | (refine Below.alloc ?_ (by first | omega | (simp; done) | (simp; omega)) _) | (refine Below.setCell ?_ (by first | omega | (simp; done) | (simp; omega)) _)))
    rintro e w2 ⟨rfl, hb2⟩
    refine hK.out _ _ ?_ (fun hHeld => ?_)
    · trivial
    clear hK K
    try simp only [Act.put, List.setIfInBounds_toArray, List.set_cons_zero, List.set_cons_succ, List.getElem_toArray, List.getElem_cons_zero, List.getElem_cons_succ]
    refine wpAnyH_take (i := 9) (v := ?_) rfl (by kernel_rfl) (by kernel_rfl) (by kernel_rfl) (fun _ _ _ h => h) (Or.inl ⟨by rfl, ?_⟩) (by assumption) ?_
    rotate_left
    · intro w hSw; (try dsimp only at hSw); go_simp; try with_reducible rfl
    try simp only [Act.put, List.setIfInBounds_toArray, List.set_cons_zero, List.set_cons_succ, List.getElem_toArray, List.getElem_cons_zero, List.getElem_cons_succ]
    refine wpAnyH_take (i := 10) (v := ?_) rfl (by kernel_rfl) (by kernel_rfl) (by kernel_rfl) (fun _ _ _ h => h) (Or.inl ⟨by rfl, ?_⟩) (by assumption) ?_
    rotate_left
    · intro w hSw; (try dsimp only at hSw); go_simp; try with_reducible rfl
    try simp only [Act.put, List.setIfInBounds_toArray, List.set_cons_zero, List.set_cons_succ, List.getElem_toArray, List.getElem_cons_zero, List.getElem_cons_succ]
    refine wpAnyH_take (i := 11) (v := ?_) rfl (by kernel_rfl) (by kernel_rfl) (by kernel_rfl) (fun _ _ _ h => h) (Or.inl ⟨by rfl, ?_⟩) (by assumption) ?_
    rotate_left
    · intro w hSw; (try dsimp only at hSw); go_simp; try with_reducible rfl
    try simp only [Act.put, List.setIfInBounds_toArray, List.set_cons_zero, List.set_cons_succ, List.getElem_toArray, List.getElem_cons_zero, List.getElem_cons_succ]
    refine wpAnyH_take (i := 12) (v := ?_) rfl (by kernel_rfl) (by kernel_rfl) (by kernel_rfl) (fun _ _ _ h => h) (Or.inl ⟨by rfl, ?_⟩) (by assumption) ?_
    rotate_left
    · intro w hSw; (try dsimp only at hSw); go_simp; try with_reducible rfl
    try simp only [Act.put, List.setIfInBounds_toArray, List.set_cons_zero, List.set_cons_succ, List.getElem_toArray, List.getElem_cons_zero, List.getElem_cons_succ]
    refine wpAnyH_take (i := 13) (v := ?_) rfl (by kernel_rfl) (by kernel_rfl) (by kernel_rfl) (fun _ _ _ h => h) (Or.inl ⟨by rfl, ?_⟩) (by assumption) ?_
    rotate_left
    · intro w hSw; (try dsimp only at hSw); go_simp; try with_reducible rfl
    try simp only [Act.put, List.setIfInBounds_toArray, List.set_cons_zero, List.set_cons_succ, List.getElem_toArray, List.getElem_cons_zero, List.getElem_cons_succ]
    refine wpAnyH_off (i := 14) rfl (by kernel_rfl) (by kernel_rfl) (by kernel_rfl) (fun _ _ _ h => h) (by rfl) (by rfl) (by assumption) ?_
    try simp only [Act.put, List.setIfInBounds_toArray, List.set_cons_zero, List.set_cons_succ, List.getElem_toArray, List.getElem_cons_zero, List.getElem_cons_succ]
    refine wpAnyH_off (i := 15) rfl (by kernel_rfl) (by kernel_rfl) (by kernel_rfl) (fun _ _ _ h => h) (by rfl) (by rfl) (by assumption) ?_
    try simp only [Act.put, List.setIfInBounds_toArray, List.set_cons_zero, List.set_cons_succ, List.getElem_toArray, List.getElem_cons_zero, List.getElem_cons_succ]
    refine wpAnyH_off (i := 16) rfl (by kernel_rfl) (by kernel_rfl) (by kernel_rfl) (fun _ _ _ h => h) (by rfl) (by rfl) (by assumption) ?_
    try simp only [Act.put, List.setIfInBounds_toArray, List.set_cons_zero, List.set_cons_succ, List.getElem_toArray, List.getElem_cons_zero, List.getElem_cons_succ]
    refine wpAnyH_off (i := 17) rfl (by kernel_rfl) (by kernel_rfl) (by kernel_rfl) (fun _ _ _ h => h) (by rfl) (by rfl) (by assumption) ?_
    try simp only [Act.put, List.setIfInBounds_toArray, List.set_cons_zero, List.set_cons_succ, List.getElem_toArray, List.getElem_cons_zero, List.getElem_cons_succ]
    refine wpAnyH_off (i := 18) rfl (by kernel_rfl) (by kernel_rfl) (by kernel_rfl) (fun _ _ _ h => h) (by rfl) (by rfl) (by assumption) ?_
    try simp only [Act.put, List.setIfInBounds_toArray, List.set_cons_zero, List.set_cons_succ, List.getElem_toArray, List.getElem_cons_zero, List.getElem_cons_succ]
    refine wpAnyH_off (i := 19) rfl (by kernel_rfl) (by kernel_rfl) (by kernel_rfl) (fun _ _ _ h => h) (by rfl) (by rfl) (by assumption) ?_
    try simp only [Act.put, List.setIfInBounds_toArray, List.set_cons_zero, List.set_cons_succ, List.getElem_toArray, List.getElem_cons_zero, List.getElem_cons_succ]
    refine wpAnyH_off (i := 20) rfl (by kernel_rfl) (by kernel_rfl) (by kernel_rfl) (fun _ _ _ h => h) (by rfl) (by rfl) (by assumption) ?_
    try simp only [Act.put, List.setIfInBounds_toArray, List.set_cons_zero, List.set_cons_succ, List.getElem_toArray, List.getElem_cons_zero, List.getElem_cons_succ]
    refine wpAnyH_off (i := 21) rfl (by kernel_rfl) (by kernel_rfl) (by kernel_rfl) (fun _ _ _ h => h) (by rfl) (by rfl) (by assumption) ?_
    try simp only [Act.put, List.setIfInBounds_toArray, List.set_cons_zero, List.set_cons_succ, List.getElem_toArray, List.getElem_cons_zero, List.getElem_cons_succ]
    refine wpAnyH_take (i := 22) (v := ?_) rfl (by kernel_rfl) (by kernel_rfl) (by kernel_rfl) (fun _ _ _ h => h) (Or.inl ⟨by rfl, ?_⟩) (by assumption) ?_
    rotate_left
    · intro w hSw; (try dsimp only at hSw); go_simp; try with_reducible rfl
    try simp only [Act.put, List.setIfInBounds_toArray, List.set_cons_zero, List.set_cons_succ, List.getElem_toArray, List.getElem_cons_zero, List.getElem_cons_succ]
    refine wpAnyH_take (i := 23) (v := ?_) rfl (by kernel_rfl) (by kernel_rfl) (by kernel_rfl) (fun _ _ _ h => h) (Or.inl ⟨by rfl, ?_⟩) (by assumption) ?_
    rotate_left
    · intro w hSw; (try dsimp only at hSw); go_simp; try with_reducible rfl
    try simp only [Act.put, List.setIfInBounds_toArray, List.set_cons_zero, List.set_cons_succ, List.getElem_toArray, List.getElem_cons_zero, List.getElem_cons_succ]
    refine wpAnyH_done (by kernel_rfl) ?_ _
    have hb8 : Below w1.heap.size w1 w2 := hb2
    generalize hw9 : w2 = w9 at *
    have hb9 : Below w.heap.size w w9 := hb1.trans (hb8.mono hs1)
    clear hb8 hw9
    have hat9 := hat.below hb9 hB
    have c10 := hat9.c10
    clear hat9
    go_wp2_with fail
    go_loopw [45] (fun i wr => ∃ j : Nat, j ≤ t.ks.length ∧ i = .int .i64 j ∧ Below w.heap.size w wr) (fun i _ => t.ks.length - (intOf i).toNat)
    case atStart => exact ⟨0, by omega, rfl, hb9⟩
    case round =>
      obtain ⟨j, hj, rfl, hb0⟩ := hrel
      by_cases hlt : j < t.ks.length
      · have hk := List.getElem?_eq_getElem hlt
        generalize hkid : t.ks[j] = kid at hk
        obtain ⟨kid', hk', hkl⟩ := HL.out.get hk
        have hlt' : j < u.ks.length := (List.getElem?_eq_some_iff.1 hk').1
        have hr1 := hat.below hb0 hB
        have hr1' := hat'.below hb0 hB
        obtain ⟨kb, ko, ks, hke, hkat⟩ := hr1.inn.kid hk
        obtain ⟨kb', ko', ks', hke', hkat'⟩ := hr1'.inn.kid hk'
        have hnk := RTm.kid_nodes hk
        have hkr := Lib.hid (RTm.right_kid Hr.out hk)
        have hkr' := Lib.hid (RTm.right_kid Hr'.out hk')
        have q1 := hr1.c10
        have q2 := hr1'.c10
        rw [hke] at q1
        rw [hke'] at q2
        have hbs := hb0.size
        have hcall := Lib.hid fun (W : World) (hW : Below wr.heap.size wr W) => ih kid kid' B kb (ko + j * 11) kb' (ko' + j * 11) ks ks' W (by omega) (hkat.below hW (by omega)) (hkat'.below hW (by omega)) hkr.out hkr'.out hkl (by have := hW.size; omega)
        clear hk hkid hk' hkl hke hke' hr1 hr1' hkat hkat'
        go_wp2_with fail
        go_region_held3 (fun w' => w'.cell? ⟨b, o + 10, none⟩ = some (.slice (some ⟨kb, ko, none⟩) t.ks.length s.kc) ∧ w'.cell? ⟨b', o' + 10, none⟩ = some (.slice (some ⟨kb', ko', none⟩) u.ks.length s'.kc))
          (first | exact ⟨q1, q2⟩ | exact ⟨cell_kept hb1 q1, cell_kept hb1 q2⟩)
          (first | (go_at_call 54; refine (hcall.out _ ?_).mono ?_; (repeat (first | assumption | exact Below.refl _ _ | apply below_drewN | apply Below.drew | (refine Below.alloc ?_ (by first | omega | (simp; done) | (simp; omega)) _) | (refine Below.setCell ?_ (by first | omega | (simp; done) | (simp; omega)) _))); rintro e w1 ⟨rfl, hb1⟩))
        have hb2 : Below w.heap.size w w1 := hb0.trans (Below.trans (Below.refl w.heap.size wr).drew (hb1.mono (by simp; omega)))
        go_wp2_with fail
        go_round
        case rel => exact ⟨j + 1, by omega, by go_num, hb2⟩
        case measure => simp [intOf]; omega
      · go_wp2_with fail
        go_ret
        exact ⟨rfl, hb0⟩
  · rw [g1, g2]
    clear hc1 hc2 g1 g2
    go_wp2_with fail
    go_quiet (fail)
    have hb8 : Below w1.heap.size w1 (w1.drewN nq) := by (repeat (first | assumption | exact Below.refl _ _ | apply below_drewN | apply Below.drew | (refine Below.alloc ?_ (by first | omega | (simp; done) | (simp; omega)) _) | (refine Below.setCell ?_ (by first | omega | (simp; done) | (simp; omega)) _)))
    generalize hw9 : World.drewN w1 nq = w9 at *
    have hb9 : Below w.heap.size w w9 := hb1.trans (hb8.mono hs1)
    clear hb8 hw9
    have hat9 := hat.below hb9 hB
    have c10 := hat9.c10
    clear hat9
    go_wp2_with fail
    go_loopw [45] (fun i wr => ∃ j : Nat, j ≤ t.ks.length ∧ i = .int .i64 j ∧ Below w.heap.size w wr) (fun i _ => t.ks.length - (intOf i).toNat)
    case atStart => exact ⟨0, by omega, rfl, hb9⟩
    case round =>
      obtain ⟨j, hj, rfl, hb0⟩ := hrel
      by_cases hlt : j < t.ks.length
      · have hk := List.getElem?_eq_getElem hlt
        generalize hkid : t.ks[j] = kid at hk
        obtain ⟨kid', hk', hkl⟩ := HL.out.get hk
        have hlt' : j < u.ks.length := (List.getElem?_eq_some_iff.1 hk').1
        have hr1 := hat.below hb0 hB
        have hr1' := hat'.below hb0 hB
        obtain ⟨kb, ko, ks, hke, hkat⟩ := hr1.inn.kid hk
        obtain ⟨kb', ko', ks', hke', hkat'⟩ := hr1'.inn.kid hk'
        have hnk := RTm.kid_nodes hk
        have hkr := Lib.hid (RTm.right_kid Hr.out hk)
        have hkr' := Lib.hid (RTm.right_kid Hr'.out hk')
        have q1 := hr1.c10
        have q2 := hr1'.c10
        rw [hke] at q1
        rw [hke'] at q2
        have hbs := hb0.size
        have hcall := Lib.hid fun (W : World) (hW : Below wr.heap.size wr W) => ih kid kid' B kb (ko + j * 11) kb' (ko' + j * 11) ks ks' W (by omega) (hkat.below hW (by omega)) (hkat'.below hW (by omega)) hkr.out hkr'.out hkl (by have := hW.size; omega)
        clear hk hkid hk' hkl hke hke' hr1 hr1' hkat hkat'
        go_wp2_with fail
        go_region_held3 (fun w' => w'.cell? ⟨b, o + 10, none⟩ = some (.slice (some ⟨kb, ko, none⟩) t.ks.length s.kc) ∧ w'.cell? ⟨b', o' + 10, none⟩ = some (.slice (some ⟨kb', ko', none⟩) u.ks.length s'.kc))
          (first | exact ⟨q1, q2⟩ | exact ⟨cell_kept hb1 q1, cell_kept hb1 q2⟩)
          (first | (go_at_call 54; refine (hcall.out _ ?_).mono ?_; (repeat (first | assumption | exact Below.refl _ _ | apply below_drewN | apply Below.drew | (refine Below.alloc ?_ (by first | omega | (simp; done) | (simp; omega)) _) | (refine Below.setCell ?_ (by first | omega | (simp; done) | (simp; omega)) _))); rintro e w1 ⟨rfl, hb1⟩))
        have hb2 : Below w.heap.size w w1 := hb0.trans (Below.trans (Below.refl w.heap.size wr).drew (hb1.mono (by simp; omega)))
        go_wp2_with fail
        go_round
        case rel => exact ⟨j + 1, by omega, by go_num, hb2⟩
        case measure => simp [intOf]; omega
      · go_wp2_with fail
        go_ret
        exact ⟨rfl, hb0⟩

theorem each_any (N : Nat) : ∀ (t u : RTm) (B b o b' o' : Nat) (s s' : TmSh) (w : World), t.nodes ≤ N → RTm.At w B b o s t → RTm.At w B b' o' s' u → t.right = true → u.right = true → t.LeA u → B ≤ w.heap.size →
      Calls Try.prog 54 #[.pointer (some ⟨b, o, none⟩), .pointer (some ⟨b', o', none⟩)] w fun e w' => e = .returned (.bool true) ∧ Below w.heap.size w w' := by
  induction N with
  | zero => intro t u B b o b' o' s s' w h; have := t.nodes_pos; omega
  | succ N ih => exact fun t u B b o b' o' s s' w hN h1 h2 h3 h4 h5 h6 => each_step N ih t u B b o b' o' s s' w hN h1 h2 h3 h4 h5 h6
end Go.Proofs.Ytaoodchjggimcaa

/- Plain laws: opened terms; the plain law of CheckLessened. -/
set_option linter.unusedVariables false
set_option linter.unusedSimpArgs false
namespace Go.Proofs.Ytaoodchjggimcaa

mutual
theorem RTm.Le.toA : ∀ {t u : RTm}, t.Le u → t.LeA u
  | .mk k nm ag nu ty tz lb sp ks, u, h => by
    rw [RTm.Le] at h
    rw [RTm.LeA]
    exact ⟨h.1, fun ha => (h.2.2.2.2.2.2.1 (annFrom_hasFrom ha)).2, fun ha => (h.2.2.2.2.2.2.2.1 (annTo_hasTo ha)).2, RTm.LeL.toA h.2.2.2.2.2.2.2.2⟩
theorem RTm.LeL.toA : ∀ {ts us : List RTm}, RTm.LeL ts us → RTm.LeAL ts us
  | [], us, h => by rw [RTm.LeL] at h; rw [RTm.LeAL]; exact h
  | t :: ts, us, h => by
    rw [RTm.LeL] at h
    rw [RTm.LeAL]
    obtain ⟨v, vs, rfl, h1, h2⟩ := h
    exact ⟨v, vs, rfl, RTm.Le.toA h1, RTm.LeL.toA h2⟩
end
mutual
theorem RTm.Le.opened : ∀ {t u : RTm}, t.Le u → t.opened = u.opened
  | .mk k nm ag nu ty tz lb sp ks, u, h => by
    rw [RTm.Le] at h
    obtain ⟨e, e1, e2, e3, e4, e5, _, _, h3⟩ := h
    rw [RTm.opened, RTm.opened_eq u, e, e1, e2, e3, e4, e5, RTm.LeL.opened h3]
theorem RTm.LeL.opened : ∀ {ts us : List RTm}, RTm.LeL ts us → RTm.openedL ts = RTm.openedL us
  | [], us, h => by rw [RTm.LeL] at h; simp [h, RTm.openedL]
  | t :: ts, us, h => by
    rw [RTm.LeL] at h
    obtain ⟨v, vs, rfl, h1, h2⟩ := h
    simp only [RTm.openedL, RTm.Le.opened h1, RTm.LeL.opened h2]
end
mutual
theorem RTm.opened_le : ∀ t : RTm, t.opened.Le t
  | .mk k nm ag nu ty tz lb sp ks => by
    rw [RTm.opened, RTm.Le]
    exact ⟨rfl, rfl, rfl, rfl, rfl, rfl, fun _ => ⟨RTy.right_unk, RTy.unk_le _⟩, fun _ => ⟨RTy.right_unk, RTy.unk_le _⟩, RTm.openedL_le ks⟩
theorem RTm.openedL_le : ∀ ts : List RTm, RTm.LeL (RTm.openedL ts) ts
  | [] => by simp [RTm.openedL, RTm.LeL]
  | t :: ts => by
    rw [RTm.openedL, RTm.LeL]
    exact ⟨t, ts, rfl, RTm.opened_le t, RTm.openedL_le ts⟩
end
theorem RTm.check_of_ok {t : RTm} (h : t.ok = true) : t.check = 0 := by unfold RTm.ok at h; simpa using h
theorem RTm.ok_of_check {t : RTm} (h : t.check = 0) : t.ok = true := by unfold RTm.ok; rw [h]; rfl
/-- All that the law asks of a term u that is less precise than t, which is taken. -/
structure LessLaw (t u : RTm) (a : RTy) : Prop where
  tc : t.check = 0
  t17 : t.has 17 = false
  uc : u.check = 0
  u17 : u.has 17 = false
  leA : u.LeA t
  opened : u.opened = t.opened
  oc : t.opened.check = 0
  typed : ∃ b, gradual.type u 17 = .ok b ∧ b.less a = true
theorem lessLaw_of {t u : RTm} {a : RTy} (hle : u.Le t) (h : gradual.type t 17 = .ok a) : LessLaw t u a := by
  obtain ⟨hc, hn, hr⟩ := Mode.type_ok_inv h
  have hok := RTm.ok_of_check hc
  exact ⟨hc, hn, RTm.check_of_ok (hle.ok hok), by rw [hle.has]; exact hn, hle.toA, hle.opened, RTm.check_of_ok ((RTm.opened_le t).ok hok), type_mono hle h⟩
theorem lessenedLaw {t : RTm} {a : RTy} (l : List Bool) (h : gradual.type t 17 = .ok a) : LessLaw t (t.lessen l 0).1 a :=
  lessLaw_of (RTm.lessen_le l t 0 (RTm.ok_iff.1 (RTm.ok_of_check (Mode.type_ok_inv h).1)).2.2) h
end Go.Proofs.Ytaoodchjggimcaa

/- The walk of terms.same: two copies of one term. -/
set_option linter.unusedVariables false
set_option linter.unusedSimpArgs false
namespace Go.Proofs.Ytaoodchjggimcaa
open Go.RowKit

theorem RTm.right_tyok {t : RTm} (h : t.right = true) (hf : hasFrom t.k = true) : t.ty.ok = true := by
  have := RTm.right_own h
  unfold RTm.own at this
  simp only [hf, Bool.not_true, Bool.false_or, Bool.and_eq_true] at this
  exact this.2.2.2.2.2.1
theorem RTm.right_took {t : RTm} (h : t.right = true) (hf : hasTo t.k = true) : t.to.ok = true := by
  have := RTm.right_own h
  unfold RTm.own at this
  simp only [hf, Bool.not_true, Bool.false_or, Bool.and_eq_true] at this
  exact this.2.2.2.2.2.2.1
/- Two terms that are alike in all that counts. -/
mutual
def RTm.Twin : RTm → RTm → Prop
  | .mk k nm ag nu ty tz lb sp ks, u => u.k = k ∧ (hasName k = true → u.name = nm) ∧ (hasOp k = true → u.name = nm) ∧ (hasArg k = true → u.arg = ag) ∧ (hasNum k = true → u.num = nu) ∧ (hasLabel k = true → u.label = lb) ∧ (hasFrom k = true → u.ty = ty) ∧ (hasTo k = true → u.to = tz) ∧ RTm.TwinL ks u.ks
def RTm.TwinL : List RTm → List RTm → Prop
  | [], us => us = []
  | t :: ts, us => ∃ v vs, us = v :: vs ∧ t.Twin v ∧ RTm.TwinL ts vs
end
theorem RTm.Twin.eq {t u : RTm} (h : t.Twin u) : u.k = t.k ∧ (hasName t.k = true → u.name = t.name) ∧ (hasOp t.k = true → u.name = t.name) ∧ (hasArg t.k = true → u.arg = t.arg) ∧ (hasNum t.k = true → u.num = t.num) ∧ (hasLabel t.k = true → u.label = t.label) ∧ (hasFrom t.k = true → u.ty = t.ty) ∧ (hasTo t.k = true → u.to = t.to) ∧ RTm.TwinL t.ks u.ks := by
  cases t; rw [RTm.Twin] at h; exact h
theorem RTm.TwinL.get {x : RTm} : ∀ {ts us : List RTm} {j : Nat}, RTm.TwinL ts us → ts[j]? = some x → ∃ y, us[j]? = some y ∧ x.Twin y
  | [], us, j, h, hj => by simp at hj
  | t :: ts, us, j, h, hj => by
    rw [RTm.TwinL] at h
    obtain ⟨v, vs, rfl, h1, h2⟩ := h
    cases j with
    | zero => simp at hj; subst hj; exact ⟨v, by simp, h1⟩
    | succ j =>
      obtain ⟨y, e1, e2⟩ := RTm.TwinL.get h2 (j := j) (by simpa using hj)
      exact ⟨y, by simpa using e1, e2⟩
theorem RTm.TwinL.length : ∀ {ts us : List RTm}, RTm.TwinL ts us → us.length = ts.length
  | [], us, h => by rw [RTm.TwinL] at h; simp [h]
  | t :: ts, us, h => by
    rw [RTm.TwinL] at h
    obtain ⟨v, vs, rfl, h1, h2⟩ := h
    simp [RTm.TwinL.length h2]
mutual
theorem RTm.twin_refl : ∀ t : RTm, t.Twin t
  | .mk k nm ag nu ty tz lb sp ks => by
    rw [RTm.Twin]
    exact ⟨rfl, fun _ => rfl, fun _ => rfl, fun _ => rfl, fun _ => rfl, fun _ => rfl, fun _ => rfl, fun _ => rfl, RTm.twinL_refl ks⟩
theorem RTm.twinL_refl : ∀ ts : List RTm, RTm.TwinL ts ts
  | [] => by rw [RTm.TwinL]
  | t :: ts => by rw [RTm.TwinL]; exact ⟨t, ts, rfl, RTm.twin_refl t, RTm.twinL_refl ts⟩
end
end Go.Proofs.Ytaoodchjggimcaa

/- The walk of terms.same: two copies of one term. -/
set_option linter.unusedVariables false
set_option linter.unusedSimpArgs false
namespace Go.Proofs.Ytaoodchjggimcaa
open Go.RowKit

set_option maxRecDepth 100000 in
set_option maxHeartbeats 4000000 in
theorem same_P0 (N : Nat) (ih : ∀ (t t' : RTm) (B b o b' o' : Nat) (s s' : TmSh) (w : World), t.nodes ≤ N → RTm.At w B b o s t → RTm.At w B b' o' s' t' → t.right = true → t.Twin t' → B ≤ w.heap.size → Calls Try.prog 60 #[.pointer (some ⟨b, o, none⟩), .pointer (some ⟨b', o', none⟩)] w fun e w' => e = .returned (.bool true) ∧ Below w.heap.size w w')
    (t t' : RTm) (B b o b' o' : Nat) (s s' : TmSh) (w : World) (hN : t.nodes ≤ N + 1) (hat : RTm.At w B b o s t) (hat' : RTm.At w B b' o' s' t') (hr : t.right = true) (htw : t.Twin t') (hB : B ≤ w.heap.size) (hnm : hasName t.k = true) (hag : hasArg t.k = false) (hnu : hasNum t.k = false) (hfr : hasFrom t.k = false) (hto : hasTo t.k = false) (hlb : hasLabel t.k = false) (hop : hasOp t.k = false) :
    Calls Try.prog 60 #[.pointer (some ⟨b, o, none⟩), .pointer (some ⟨b', o', none⟩)] w fun e w' => e = .returned (.bool true) ∧ Below w.heap.size w w' := by
  have hlen := RTm.right_small hr
  have Hr := Lib.hid hr
  have HL := Lib.hid (RTm.TwinL.length htw.eq.2.2.2.2.2.2.2.2)
  have E0 := Lib.hid htw.eq.1
  have E1 := Lib.hid (htw.eq.2.1 hnm)
  have k0 := hat.c0
  go_enter Try.func60, Try.ntmps60
  go_wp2_with fail
  refine (of_any t.k _).mono ?_
  unfold shapeV
  simp only [hnm, hag, hnu, hfr, hto, hlb, hop]
  rintro e w2 ⟨rfl, hb2⟩
  have hs2 := hb2.size
  have hat2 := hat.below hb2 hB
  have hat2' := hat'.below hb2 hB
  have hlt2 : b < w2.heap.size := by have := hat.lt; omega
  have hlt2' : b' < w2.heap.size := by have := hat'.lt; omega
  clear hat2 hat2'
  go_upto_region 2 with fail
  generalize hW : World.alloc w2 _ = w3
  have hb3 : Below w.heap.size w w3 := by rw [← hW]; exact hb2.trans ((below_new' w2 _).mono hs2)
  have z1 : w3.cell? ⟨w2.heap.size, 1, none⟩ = some (.bool true) := by rw [← hW]; simp [go_sem]
  have z2 : w3.cell? ⟨w2.heap.size, 2, none⟩ = some (.bool false) := by rw [← hW]; simp [go_sem]
  have z3 : w3.cell? ⟨w2.heap.size, 3, none⟩ = some (.bool false) := by rw [← hW]; simp [go_sem]
  have z4 : w3.cell? ⟨w2.heap.size, 4, none⟩ = some (.bool false) := by rw [← hW]; simp [go_sem]
  have z5 : w3.cell? ⟨w2.heap.size, 5, none⟩ = some (.bool false) := by rw [← hW]; simp [go_sem]
  have z6 : w3.cell? ⟨w2.heap.size, 6, none⟩ = some (.bool false) := by rw [← hW]; simp [go_sem]
  have z7 : w3.cell? ⟨w2.heap.size, 7, none⟩ = some (.bool false) := by rw [← hW]; simp [go_sem]
  clear hW hlt2 hlt2' k0
  have hs3 := hb3.size
  have hat3 := hat.below hb3 hB
  have hat3' := hat'.below hb3 hB
  have k0 := hat3.c0
  have m0 := hat3'.c0
  rw [E0.out] at m0
  have k1 := hat3.c1
  have m1 := hat3'.c1
  rw [E1.out] at m1
  clear hat3 hat3'
  go_wp2_with fail
  simp only [List.append_eq, List.cons_append, List.nil_append]
  go_big_quiet (fail)
  have hbq : Below w3.heap.size w3 (w3.drewN nq) := by (repeat (first | assumption | exact Below.refl _ _ | apply below_drewN | apply Below.drew | (refine Below.alloc ?_ (by first | omega | (simp; done) | (simp; omega)) _) | (refine Below.setCell ?_ (by first | omega | (simp; done) | (simp; omega)) _)))
  generalize hwq : World.drewN w3 nq = w3q at *
  have hb3q : Below w.heap.size w w3q := hb3.trans (hbq.mono hs3)
  have z4q := cell_kept hbq z4
  have z5q := cell_kept hbq z5
  have hs3q := hb3q.size
  have hat3 := hat.below hb3q hB
  have hat3' := hat'.below hb3q hB
  clear hwq hbq hb3 hs3 z1 z2 z3 z4 z5 z6 z7 k0 m0 k1 m1
  clear hnm hag hnu hfr hto hlb hop
  go_wp2_with fail
  go_quiet (fail)
  have hb8 : Below w3q.heap.size w3q (w3q.drewN nq) := by (repeat (first | assumption | exact Below.refl _ _ | apply below_drewN | apply Below.drew | (refine Below.alloc ?_ (by first | omega | (simp; done) | (simp; omega)) _) | (refine Below.setCell ?_ (by first | omega | (simp; done) | (simp; omega)) _)))
  generalize hw9 : World.drewN w3q nq = w9 at *
  clear hw9 hat3 hat3' z4q z5q
  have hb9 : Below w.heap.size w w9 := hb3q.trans (hb8.mono hs3q)
  clear hb8
  have hat9 := hat.below hb9 hB
  have c10 := hat9.c10
  clear hat9
  go_wp2_with fail
  go_loopw [124] (fun i wr => ∃ j : Nat, j ≤ t.ks.length ∧ i = .int .i64 j ∧ Below w.heap.size w wr) (fun i _ => t.ks.length - (intOf i).toNat)
  case atStart => exact ⟨0, by omega, rfl, hb9⟩
  case round =>
    obtain ⟨j, hj, rfl, hb0⟩ := hrel
    by_cases hlt : j < t.ks.length
    · have hk := List.getElem?_eq_getElem hlt
      generalize hkid : t.ks[j] = kid at hk
      have hr1 := hat.below hb0 hB
      have hr1' := hat'.below hb0 hB
      obtain ⟨kid', hk', hkt⟩ := RTm.TwinL.get htw.eq.2.2.2.2.2.2.2.2 hk
      have HKT := Lib.hid hkt
      obtain ⟨kb, ko, ks, hke, hkat⟩ := hr1.inn.kid hk
      obtain ⟨kb', ko', ks', hke', hkat'⟩ := hr1'.inn.kid hk'
      have hnk := RTm.kid_nodes hk
      have hkr := Lib.hid (RTm.right_kid Hr.out hk)
      have q1 := hr1.c10
      have q2 := hr1'.c10
      rw [hke] at q1
      rw [hke', HL.out] at q2
      have hbs := hb0.size
      have hcall := Lib.hid fun (W : World) (hW : Below wr.heap.size wr W) => ih kid kid' B kb (ko + j * 11) kb' (ko' + j * 11) ks ks' W (by omega) (hkat.below hW (by omega)) (hkat'.below hW (by omega)) hkr.out HKT.out (by have := hW.size; omega)
      clear hk hkid hke hke' hr1 hr1' hkat hkat' hkt hk'
      go_wp2_with fail
      go_region_held3 (fun w' => w'.cell? ⟨b, o + 10, none⟩ = some (.slice (some ⟨kb, ko, none⟩) t.ks.length s.kc) ∧ w'.cell? ⟨b', o' + 10, none⟩ = some (.slice (some ⟨kb', ko', none⟩) t.ks.length s'.kc))
        (first | exact ⟨q1, q2⟩ | exact ⟨cell_kept hb1 q1, cell_kept hb1 q2⟩)
        (first | (go_at_call 60; refine (hcall.out _ ?_).mono ?_; (repeat (first | assumption | exact Below.refl _ _ | apply below_drewN | apply Below.drew | (refine Below.alloc ?_ (by first | omega | (simp; done) | (simp; omega)) _) | (refine Below.setCell ?_ (by first | omega | (simp; done) | (simp; omega)) _))); rintro e w1 ⟨rfl, hb1⟩))
      have hb2 : Below w.heap.size w w1 := hb0.trans (Below.trans (Below.refl w.heap.size wr).drew (hb1.mono (by simp; omega)))
      go_wp2_with fail
      go_round
      case rel => exact ⟨j + 1, by omega, by go_num, hb2⟩
      case measure => simp [intOf]; omega
    · go_wp2_with fail
      go_ret
      exact ⟨rfl, hb0⟩

set_option maxRecDepth 100000 in
set_option maxHeartbeats 4000000 in
theorem same_P1 (N : Nat) (ih : ∀ (t t' : RTm) (B b o b' o' : Nat) (s s' : TmSh) (w : World), t.nodes ≤ N → RTm.At w B b o s t → RTm.At w B b' o' s' t' → t.right = true → t.Twin t' → B ≤ w.heap.size → Calls Try.prog 60 #[.pointer (some ⟨b, o, none⟩), .pointer (some ⟨b', o', none⟩)] w fun e w' => e = .returned (.bool true) ∧ Below w.heap.size w w')
    (t t' : RTm) (B b o b' o' : Nat) (s s' : TmSh) (w : World) (hN : t.nodes ≤ N + 1) (hat : RTm.At w B b o s t) (hat' : RTm.At w B b' o' s' t') (hr : t.right = true) (htw : t.Twin t') (hB : B ≤ w.heap.size) (hnm : hasName t.k = false) (hag : hasArg t.k = false) (hnu : hasNum t.k = true) (hfr : hasFrom t.k = false) (hto : hasTo t.k = false) (hlb : hasLabel t.k = false) (hop : hasOp t.k = false) :
    Calls Try.prog 60 #[.pointer (some ⟨b, o, none⟩), .pointer (some ⟨b', o', none⟩)] w fun e w' => e = .returned (.bool true) ∧ Below w.heap.size w w' := by
  have hlen := RTm.right_small hr
  have Hr := Lib.hid hr
  have HL := Lib.hid (RTm.TwinL.length htw.eq.2.2.2.2.2.2.2.2)
  have E0 := Lib.hid htw.eq.1
  have E3 := Lib.hid (htw.eq.2.2.2.2.1 hnu)
  have k0 := hat.c0
  go_enter Try.func60, Try.ntmps60
  go_wp2_with fail
  refine (of_any t.k _).mono ?_
  unfold shapeV
  simp only [hnm, hag, hnu, hfr, hto, hlb, hop]
  rintro e w2 ⟨rfl, hb2⟩
  have hs2 := hb2.size
  have hat2 := hat.below hb2 hB
  have hat2' := hat'.below hb2 hB
  have hlt2 : b < w2.heap.size := by have := hat.lt; omega
  have hlt2' : b' < w2.heap.size := by have := hat'.lt; omega
  clear hat2 hat2'
  go_upto_region 2 with fail
  generalize hW : World.alloc w2 _ = w3
  have hb3 : Below w.heap.size w w3 := by rw [← hW]; exact hb2.trans ((below_new' w2 _).mono hs2)
  have z1 : w3.cell? ⟨w2.heap.size, 1, none⟩ = some (.bool false) := by rw [← hW]; simp [go_sem]
  have z2 : w3.cell? ⟨w2.heap.size, 2, none⟩ = some (.bool false) := by rw [← hW]; simp [go_sem]
  have z3 : w3.cell? ⟨w2.heap.size, 3, none⟩ = some (.bool true) := by rw [← hW]; simp [go_sem]
  have z4 : w3.cell? ⟨w2.heap.size, 4, none⟩ = some (.bool false) := by rw [← hW]; simp [go_sem]
  have z5 : w3.cell? ⟨w2.heap.size, 5, none⟩ = some (.bool false) := by rw [← hW]; simp [go_sem]
  have z6 : w3.cell? ⟨w2.heap.size, 6, none⟩ = some (.bool false) := by rw [← hW]; simp [go_sem]
  have z7 : w3.cell? ⟨w2.heap.size, 7, none⟩ = some (.bool false) := by rw [← hW]; simp [go_sem]
  clear hW hlt2 hlt2' k0
  have hs3 := hb3.size
  have hat3 := hat.below hb3 hB
  have hat3' := hat'.below hb3 hB
  have k0 := hat3.c0
  have m0 := hat3'.c0
  rw [E0.out] at m0
  have k3 := hat3.c3
  have m3 := hat3'.c3
  rw [E3.out] at m3
  clear hat3 hat3'
  go_wp2_with fail
  simp only [List.append_eq, List.cons_append, List.nil_append]
  go_big_quiet (fail)
  have hbq : Below w3.heap.size w3 (w3.drewN nq) := by (repeat (first | assumption | exact Below.refl _ _ | apply below_drewN | apply Below.drew | (refine Below.alloc ?_ (by first | omega | (simp; done) | (simp; omega)) _) | (refine Below.setCell ?_ (by first | omega | (simp; done) | (simp; omega)) _)))
  generalize hwq : World.drewN w3 nq = w3q at *
  have hb3q : Below w.heap.size w w3q := hb3.trans (hbq.mono hs3)
  have z4q := cell_kept hbq z4
  have z5q := cell_kept hbq z5
  have hs3q := hb3q.size
  have hat3 := hat.below hb3q hB
  have hat3' := hat'.below hb3q hB
  clear hwq hbq hb3 hs3 z1 z2 z3 z4 z5 z6 z7 k0 m0 k3 m3
  clear hnm hag hnu hfr hto hlb hop
  go_wp2_with fail
  go_quiet (fail)
  have hb8 : Below w3q.heap.size w3q (w3q.drewN nq) := by (repeat (first | assumption | exact Below.refl _ _ | apply below_drewN | apply Below.drew | (refine Below.alloc ?_ (by first | omega | (simp; done) | (simp; omega)) _) | (refine Below.setCell ?_ (by first | omega | (simp; done) | (simp; omega)) _)))
  generalize hw9 : World.drewN w3q nq = w9 at *
  clear hw9 hat3 hat3' z4q z5q
  have hb9 : Below w.heap.size w w9 := hb3q.trans (hb8.mono hs3q)
  clear hb8
  have hat9 := hat.below hb9 hB
  have c10 := hat9.c10
  clear hat9
  go_wp2_with fail
  go_loopw [124] (fun i wr => ∃ j : Nat, j ≤ t.ks.length ∧ i = .int .i64 j ∧ Below w.heap.size w wr) (fun i _ => t.ks.length - (intOf i).toNat)
  case atStart => exact ⟨0, by omega, rfl, hb9⟩
  case round =>
    obtain ⟨j, hj, rfl, hb0⟩ := hrel
    by_cases hlt : j < t.ks.length
    · have hk := List.getElem?_eq_getElem hlt
      generalize hkid : t.ks[j] = kid at hk
      have hr1 := hat.below hb0 hB
      have hr1' := hat'.below hb0 hB
      obtain ⟨kid', hk', hkt⟩ := RTm.TwinL.get htw.eq.2.2.2.2.2.2.2.2 hk
      have HKT := Lib.hid hkt
      obtain ⟨kb, ko, ks, hke, hkat⟩ := hr1.inn.kid hk
      obtain ⟨kb', ko', ks', hke', hkat'⟩ := hr1'.inn.kid hk'
      have hnk := RTm.kid_nodes hk
      have hkr := Lib.hid (RTm.right_kid Hr.out hk)
      have q1 := hr1.c10
      have q2 := hr1'.c10
      rw [hke] at q1
      rw [hke', HL.out] at q2
      have hbs := hb0.size
      have hcall := Lib.hid fun (W : World) (hW : Below wr.heap.size wr W) => ih kid kid' B kb (ko + j * 11) kb' (ko' + j * 11) ks ks' W (by omega) (hkat.below hW (by omega)) (hkat'.below hW (by omega)) hkr.out HKT.out (by have := hW.size; omega)
      clear hk hkid hke hke' hr1 hr1' hkat hkat' hkt hk'
      go_wp2_with fail
      go_region_held3 (fun w' => w'.cell? ⟨b, o + 10, none⟩ = some (.slice (some ⟨kb, ko, none⟩) t.ks.length s.kc) ∧ w'.cell? ⟨b', o' + 10, none⟩ = some (.slice (some ⟨kb', ko', none⟩) t.ks.length s'.kc))
        (first | exact ⟨q1, q2⟩ | exact ⟨cell_kept hb1 q1, cell_kept hb1 q2⟩)
        (first | (go_at_call 60; refine (hcall.out _ ?_).mono ?_; (repeat (first | assumption | exact Below.refl _ _ | apply below_drewN | apply Below.drew | (refine Below.alloc ?_ (by first | omega | (simp; done) | (simp; omega)) _) | (refine Below.setCell ?_ (by first | omega | (simp; done) | (simp; omega)) _))); rintro e w1 ⟨rfl, hb1⟩))
      have hb2 : Below w.heap.size w w1 := hb0.trans (Below.trans (Below.refl w.heap.size wr).drew (hb1.mono (by simp; omega)))
      go_wp2_with fail
      go_round
      case rel => exact ⟨j + 1, by omega, by go_num, hb2⟩
      case measure => simp [intOf]; omega
    · go_wp2_with fail
      go_ret
      exact ⟨rfl, hb0⟩

set_option maxRecDepth 100000 in
set_option maxHeartbeats 4000000 in
theorem same_P2 (N : Nat) (ih : ∀ (t t' : RTm) (B b o b' o' : Nat) (s s' : TmSh) (w : World), t.nodes ≤ N → RTm.At w B b o s t → RTm.At w B b' o' s' t' → t.right = true → t.Twin t' → B ≤ w.heap.size → Calls Try.prog 60 #[.pointer (some ⟨b, o, none⟩), .pointer (some ⟨b', o', none⟩)] w fun e w' => e = .returned (.bool true) ∧ Below w.heap.size w w')
    (t t' : RTm) (B b o b' o' : Nat) (s s' : TmSh) (w : World) (hN : t.nodes ≤ N + 1) (hat : RTm.At w B b o s t) (hat' : RTm.At w B b' o' s' t') (hr : t.right = true) (htw : t.Twin t') (hB : B ≤ w.heap.size) (hnm : hasName t.k = false) (hag : hasArg t.k = false) (hnu : hasNum t.k = false) (hfr : hasFrom t.k = false) (hto : hasTo t.k = false) (hlb : hasLabel t.k = false) (hop : hasOp t.k = false) :
    Calls Try.prog 60 #[.pointer (some ⟨b, o, none⟩), .pointer (some ⟨b', o', none⟩)] w fun e w' => e = .returned (.bool true) ∧ Below w.heap.size w w' := by
  have hlen := RTm.right_small hr
  have Hr := Lib.hid hr
  have HL := Lib.hid (RTm.TwinL.length htw.eq.2.2.2.2.2.2.2.2)
  have E0 := Lib.hid htw.eq.1
  have k0 := hat.c0
  go_enter Try.func60, Try.ntmps60
  go_wp2_with fail
  refine (of_any t.k _).mono ?_
  unfold shapeV
  simp only [hnm, hag, hnu, hfr, hto, hlb, hop]
  rintro e w2 ⟨rfl, hb2⟩
  have hs2 := hb2.size
  have hat2 := hat.below hb2 hB
  have hat2' := hat'.below hb2 hB
  have hlt2 : b < w2.heap.size := by have := hat.lt; omega
  have hlt2' : b' < w2.heap.size := by have := hat'.lt; omega
  clear hat2 hat2'
  go_upto_region 2 with fail
  generalize hW : World.alloc w2 _ = w3
  have hb3 : Below w.heap.size w w3 := by rw [← hW]; exact hb2.trans ((below_new' w2 _).mono hs2)
  have z1 : w3.cell? ⟨w2.heap.size, 1, none⟩ = some (.bool false) := by rw [← hW]; simp [go_sem]
  have z2 : w3.cell? ⟨w2.heap.size, 2, none⟩ = some (.bool false) := by rw [← hW]; simp [go_sem]
  have z3 : w3.cell? ⟨w2.heap.size, 3, none⟩ = some (.bool false) := by rw [← hW]; simp [go_sem]
  have z4 : w3.cell? ⟨w2.heap.size, 4, none⟩ = some (.bool false) := by rw [← hW]; simp [go_sem]
  have z5 : w3.cell? ⟨w2.heap.size, 5, none⟩ = some (.bool false) := by rw [← hW]; simp [go_sem]
  have z6 : w3.cell? ⟨w2.heap.size, 6, none⟩ = some (.bool false) := by rw [← hW]; simp [go_sem]
  have z7 : w3.cell? ⟨w2.heap.size, 7, none⟩ = some (.bool false) := by rw [← hW]; simp [go_sem]
  clear hW hlt2 hlt2' k0
  have hs3 := hb3.size
  have hat3 := hat.below hb3 hB
  have hat3' := hat'.below hb3 hB
  have k0 := hat3.c0
  have m0 := hat3'.c0
  rw [E0.out] at m0
  clear hat3 hat3'
  go_wp2_with fail
  simp only [List.append_eq, List.cons_append, List.nil_append]
  go_big_quiet (fail)
  have hbq : Below w3.heap.size w3 (w3.drewN nq) := by (repeat (first | assumption | exact Below.refl _ _ | apply below_drewN | apply Below.drew | (refine Below.alloc ?_ (by first | omega | (simp; done) | (simp; omega)) _) | (refine Below.setCell ?_ (by first | omega | (simp; done) | (simp; omega)) _)))
  generalize hwq : World.drewN w3 nq = w3q at *
  have hb3q : Below w.heap.size w w3q := hb3.trans (hbq.mono hs3)
  have z4q := cell_kept hbq z4
  have z5q := cell_kept hbq z5
  have hs3q := hb3q.size
  have hat3 := hat.below hb3q hB
  have hat3' := hat'.below hb3q hB
  clear hwq hbq hb3 hs3 z1 z2 z3 z4 z5 z6 z7 k0 m0
  clear hnm hag hnu hfr hto hlb hop
  go_wp2_with fail
  go_quiet (fail)
  have hb8 : Below w3q.heap.size w3q (w3q.drewN nq) := by (repeat (first | assumption | exact Below.refl _ _ | apply below_drewN | apply Below.drew | (refine Below.alloc ?_ (by first | omega | (simp; done) | (simp; omega)) _) | (refine Below.setCell ?_ (by first | omega | (simp; done) | (simp; omega)) _)))
  generalize hw9 : World.drewN w3q nq = w9 at *
  clear hw9 hat3 hat3' z4q z5q
  have hb9 : Below w.heap.size w w9 := hb3q.trans (hb8.mono hs3q)
  clear hb8
  have hat9 := hat.below hb9 hB
  have c10 := hat9.c10
  clear hat9
  go_wp2_with fail
  go_loopw [124] (fun i wr => ∃ j : Nat, j ≤ t.ks.length ∧ i = .int .i64 j ∧ Below w.heap.size w wr) (fun i _ => t.ks.length - (intOf i).toNat)
  case atStart => exact ⟨0, by omega, rfl, hb9⟩
  case round =>
    obtain ⟨j, hj, rfl, hb0⟩ := hrel
    by_cases hlt : j < t.ks.length
    · have hk := List.getElem?_eq_getElem hlt
      generalize hkid : t.ks[j] = kid at hk
      have hr1 := hat.below hb0 hB
      have hr1' := hat'.below hb0 hB
      obtain ⟨kid', hk', hkt⟩ := RTm.TwinL.get htw.eq.2.2.2.2.2.2.2.2 hk
      have HKT := Lib.hid hkt
      obtain ⟨kb, ko, ks, hke, hkat⟩ := hr1.inn.kid hk
      obtain ⟨kb', ko', ks', hke', hkat'⟩ := hr1'.inn.kid hk'
      have hnk := RTm.kid_nodes hk
      have hkr := Lib.hid (RTm.right_kid Hr.out hk)
      have q1 := hr1.c10
      have q2 := hr1'.c10
      rw [hke] at q1
      rw [hke', HL.out] at q2
      have hbs := hb0.size
      have hcall := Lib.hid fun (W : World) (hW : Below wr.heap.size wr W) => ih kid kid' B kb (ko + j * 11) kb' (ko' + j * 11) ks ks' W (by omega) (hkat.below hW (by omega)) (hkat'.below hW (by omega)) hkr.out HKT.out (by have := hW.size; omega)
      clear hk hkid hke hke' hr1 hr1' hkat hkat' hkt hk'
      go_wp2_with fail
      go_region_held3 (fun w' => w'.cell? ⟨b, o + 10, none⟩ = some (.slice (some ⟨kb, ko, none⟩) t.ks.length s.kc) ∧ w'.cell? ⟨b', o' + 10, none⟩ = some (.slice (some ⟨kb', ko', none⟩) t.ks.length s'.kc))
        (first | exact ⟨q1, q2⟩ | exact ⟨cell_kept hb1 q1, cell_kept hb1 q2⟩)
        (first | (go_at_call 60; refine (hcall.out _ ?_).mono ?_; (repeat (first | assumption | exact Below.refl _ _ | apply below_drewN | apply Below.drew | (refine Below.alloc ?_ (by first | omega | (simp; done) | (simp; omega)) _) | (refine Below.setCell ?_ (by first | omega | (simp; done) | (simp; omega)) _))); rintro e w1 ⟨rfl, hb1⟩))
      have hb2 : Below w.heap.size w w1 := hb0.trans (Below.trans (Below.refl w.heap.size wr).drew (hb1.mono (by simp; omega)))
      go_wp2_with fail
      go_round
      case rel => exact ⟨j + 1, by omega, by go_num, hb2⟩
      case measure => simp [intOf]; omega
    · go_wp2_with fail
      go_ret
      exact ⟨rfl, hb0⟩
end Go.Proofs.Ytaoodchjggimcaa

/- The walk of terms.same: two copies of one term. -/
set_option linter.unusedVariables false
set_option linter.unusedSimpArgs false
namespace Go.Proofs.Ytaoodchjggimcaa
open Go.RowKit

set_option maxRecDepth 100000 in
set_option maxHeartbeats 4000000 in
theorem same_P3 (N : Nat) (ih : ∀ (t t' : RTm) (B b o b' o' : Nat) (s s' : TmSh) (w : World), t.nodes ≤ N → RTm.At w B b o s t → RTm.At w B b' o' s' t' → t.right = true → t.Twin t' → B ≤ w.heap.size → Calls Try.prog 60 #[.pointer (some ⟨b, o, none⟩), .pointer (some ⟨b', o', none⟩)] w fun e w' => e = .returned (.bool true) ∧ Below w.heap.size w w')
    (t t' : RTm) (B b o b' o' : Nat) (s s' : TmSh) (w : World) (hN : t.nodes ≤ N + 1) (hat : RTm.At w B b o s t) (hat' : RTm.At w B b' o' s' t') (hr : t.right = true) (htw : t.Twin t') (hB : B ≤ w.heap.size) (hnm : hasName t.k = true) (hag : hasArg t.k = false) (hnu : hasNum t.k = false) (hfr : hasFrom t.k = true) (hto : hasTo t.k = false) (hlb : hasLabel t.k = false) (hop : hasOp t.k = false) :
    Calls Try.prog 60 #[.pointer (some ⟨b, o, none⟩), .pointer (some ⟨b', o', none⟩)] w fun e w' => e = .returned (.bool true) ∧ Below w.heap.size w w' := by
  have hlen := RTm.right_small hr
  have Hr := Lib.hid hr
  have HL := Lib.hid (RTm.TwinL.length htw.eq.2.2.2.2.2.2.2.2)
  have E0 := Lib.hid htw.eq.1
  have E1 := Lib.hid (htw.eq.2.1 hnm)
  have ET := Lib.hid (htw.eq.2.2.2.2.2.2.1 hfr)
  have k0 := hat.c0
  go_enter Try.func60, Try.ntmps60
  go_wp2_with fail
  refine (of_any t.k _).mono ?_
  unfold shapeV
  simp only [hnm, hag, hnu, hfr, hto, hlb, hop]
  rintro e w2 ⟨rfl, hb2⟩
  have hs2 := hb2.size
  have hat2 := hat.below hb2 hB
  have hat2' := hat'.below hb2 hB
  have hlt2 : b < w2.heap.size := by have := hat.lt; omega
  have hlt2' : b' < w2.heap.size := by have := hat'.lt; omega
  clear hat2 hat2'
  go_upto_region 2 with fail
  generalize hW : World.alloc w2 _ = w3
  have hb3 : Below w.heap.size w w3 := by rw [← hW]; exact hb2.trans ((below_new' w2 _).mono hs2)
  have z1 : w3.cell? ⟨w2.heap.size, 1, none⟩ = some (.bool true) := by rw [← hW]; simp [go_sem]
  have z2 : w3.cell? ⟨w2.heap.size, 2, none⟩ = some (.bool false) := by rw [← hW]; simp [go_sem]
  have z3 : w3.cell? ⟨w2.heap.size, 3, none⟩ = some (.bool false) := by rw [← hW]; simp [go_sem]
  have z4 : w3.cell? ⟨w2.heap.size, 4, none⟩ = some (.bool true) := by rw [← hW]; simp [go_sem]
  have z5 : w3.cell? ⟨w2.heap.size, 5, none⟩ = some (.bool false) := by rw [← hW]; simp [go_sem]
  have z6 : w3.cell? ⟨w2.heap.size, 6, none⟩ = some (.bool false) := by rw [← hW]; simp [go_sem]
  have z7 : w3.cell? ⟨w2.heap.size, 7, none⟩ = some (.bool false) := by rw [← hW]; simp [go_sem]
  clear hW hlt2 hlt2' k0
  have hs3 := hb3.size
  have hat3 := hat.below hb3 hB
  have hat3' := hat'.below hb3 hB
  have k0 := hat3.c0
  have m0 := hat3'.c0
  rw [E0.out] at m0
  have k1 := hat3.c1
  have m1 := hat3'.c1
  rw [E1.out] at m1
  clear hat3 hat3'
  go_wp2_with fail
  simp only [List.append_eq, List.cons_append, List.nil_append]
  go_big_quiet (fail)
  have hbq : Below w3.heap.size w3 (w3.drewN nq) := by (repeat (first | assumption | exact Below.refl _ _ | apply below_drewN | apply Below.drew | (refine Below.alloc ?_ (by first | omega | (simp; done) | (simp; omega)) _) | (refine Below.setCell ?_ (by first | omega | (simp; done) | (simp; omega)) _)))
  generalize hwq : World.drewN w3 nq = w3q at *
  have hb3q : Below w.heap.size w w3q := hb3.trans (hbq.mono hs3)
  have z4q := cell_kept hbq z4
  have z5q := cell_kept hbq z5
  have hs3q := hb3q.size
  have hat3 := hat.below hb3q hB
  have hat3' := hat'.below hb3q hB
  clear hwq hbq hb3 hs3 z1 z2 z3 z4 z5 z6 z7 k0 m0 k1 m1
  clear hnm hag hnu hto hlb hop
  have n4 := hat3'.c4
  rw [ET.out] at n4
  have n5 := hat3'.c5
  rw [ET.out] at n5
  have hyin : t.ty.In w3q B s'.ta := by have h := hat3'.inn.ty; rwa [ET.out] at h
  have hc1 := Lib.hid fun (W : World) (hW : Below w3q.heap.size w3q W) => (show Calls Try.prog 18 #[.agg #[.int .i8 t.ty.k, .slice s.ta t.ty.ks.length s.tc], .agg #[.int .i8 t.ty.k, .slice s'.ta t.ty.ks.length s'.tc]] W (fun e w' => e = .returned (.bool true) ∧ Below w3q.heap.size w3q w') from (tsame_any t.ty t.ty B s.ta s'.ta s.tc s'.tc W (hat3.below hW (by omega)).inn.ty (hyin.below hW (by omega)) (by have := hW.size; omega)).mono fun e w' h => And.intro (by rw [h.1, RTy.same_refl (RTm.right_tyok Hr.out hfr)]) (hW.trans (h.2.mono hW.size)))
  have hkeep := Lib.hid fun (W : World) (hW : Below w3q.heap.size w3q W) => And.intro (cell_kept hW z4q) (And.intro (cell_kept hW z5q) (And.intro (cell_kept hW hat3.c4) (And.intro (cell_kept hW hat3.c5) (And.intro (cell_kept hW n4) (cell_kept hW n5)))))
  go_wp2_with fail
  have hcc1 := hc1
  refine wp_region_held_drew (S := (fun v => v.cell? ⟨w2.heap.size, 4, none⟩ = some (.bool true) ∧ v.cell? ⟨w2.heap.size, 5, none⟩ = some (.bool false) ∧ v.cell? ⟨b, o + 4, none⟩ = some (.int .i8 t.ty.k) ∧ v.cell? ⟨b, o + 5, none⟩ = some (.slice s.ta t.ty.ks.length s.tc) ∧ v.cell? ⟨b', o' + 4, none⟩ = some (.int .i8 t.ty.k) ∧ v.cell? ⟨b', o' + 5, none⟩ = some (.slice s'.ta t.ty.ks.length s'.tc))) (by kernel_rfl) ?_ (fun hHeld => ?_)
  · refine hkeep.out _ ?_; (repeat (first | assumption | exact Below.refl _ _ | apply below_drewN | apply Below.drew | (refine Below.alloc ?_ (by first | omega | (simp; done) | (simp; omega)) _) | (refine Below.setCell ?_ (by first | omega | (simp; done) | (simp; omega)) _)))
  refine wpAnyH_take (i := 0) (v := ?_) rfl (by kernel_rfl) (by kernel_rfl) (by kernel_rfl) (fun _ _ _ h => h) (Or.inl ⟨by rfl, ?_⟩) (by assumption) ?_
  rotate_left
  · intro w hSw; (try dsimp only at hSw); go_simp; try with_reducible rfl
  try simp only [Act.put, List.setIfInBounds_toArray, List.set_cons_zero, List.set_cons_succ, List.getElem_toArray, List.getElem_cons_zero, List.getElem_cons_succ]
  refine wpAnyH_take (i := 1) (v := ?_) rfl (by kernel_rfl) (by kernel_rfl) (by kernel_rfl) (fun _ _ _ h => h) (Or.inl ⟨by rfl, ?_⟩) (by assumption) ?_
  rotate_left
  · intro w hSw; (try dsimp only at hSw); go_simp; try with_reducible rfl
  try simp only [Act.put, List.setIfInBounds_toArray, List.set_cons_zero, List.set_cons_succ, List.getElem_toArray, List.getElem_cons_zero, List.getElem_cons_succ]
  refine wpAnyH_take (i := 2) (v := ?_) rfl (by kernel_rfl) (by kernel_rfl) (by kernel_rfl) (fun _ _ _ h => h) (Or.inl ⟨by rfl, ?_⟩) (by assumption) ?_
  rotate_left
  · intro w hSw; (try dsimp only at hSw); go_simp; try with_reducible rfl
  try simp only [Act.put, List.setIfInBounds_toArray, List.set_cons_zero, List.set_cons_succ, List.getElem_toArray, List.getElem_cons_zero, List.getElem_cons_succ]
  refine wpAnyH_take (i := 3) (v := ?_) rfl (by kernel_rfl) (by kernel_rfl) (by kernel_rfl) (fun _ _ _ h => h) (Or.inl ⟨by rfl, ?_⟩) (by assumption) ?_
  rotate_left
  · intro w hSw; (try dsimp only at hSw); go_simp; try with_reducible rfl
  try simp only [Act.put, List.setIfInBounds_toArray, List.set_cons_zero, List.set_cons_succ, List.getElem_toArray, List.getElem_cons_zero, List.getElem_cons_succ]
  refine wpAnyH_take (i := 4) (v := ?_) rfl (by kernel_rfl) (by kernel_rfl) (by kernel_rfl) (fun _ _ _ h => h) (Or.inl ⟨by rfl, ?_⟩) (by assumption) ?_
  rotate_left
  · intro w hSw; (try dsimp only at hSw); go_simp; try with_reducible rfl
  try simp only [Act.put, List.setIfInBounds_toArray, List.set_cons_zero, List.set_cons_succ, List.getElem_toArray, List.getElem_cons_zero, List.getElem_cons_succ]
  refine wpAnyH_take (i := 5) (v := ?_) rfl (by kernel_rfl) (by kernel_rfl) (by kernel_rfl) (fun _ _ _ h => h) (Or.inl ⟨by rfl, ?_⟩) (by assumption) ?_
  rotate_left
  · intro w hSw; (try dsimp only at hSw); go_simp; try with_reducible rfl
  try simp only [Act.put, List.setIfInBounds_toArray, List.set_cons_zero, List.set_cons_succ, List.getElem_toArray, List.getElem_cons_zero, List.getElem_cons_succ]
  refine wpAnyH_take (i := 6) (v := ?_) rfl (by kernel_rfl) (by kernel_rfl) (by kernel_rfl) (fun _ _ _ h => h) (Or.inl ⟨by rfl, ?_⟩) (by assumption) ?_
  rotate_left
  · intro w hSw; (try dsimp only at hSw); go_simp; try with_reducible rfl
  try simp only [Act.put, List.setIfInBounds_toArray, List.set_cons_zero, List.set_cons_succ, List.getElem_toArray, List.getElem_cons_zero, List.getElem_cons_succ]
  refine wpAnyH_take (i := 7) (v := ?_) rfl (by kernel_rfl) (by kernel_rfl) (by kernel_rfl) (fun _ _ _ h => h) (Or.inl ⟨by rfl, ?_⟩) (by assumption) ?_
  rotate_left
  · intro w hSw; (try dsimp only at hSw); go_simp; try with_reducible rfl
  try simp only [Act.put, List.setIfInBounds_toArray, List.set_cons_zero, List.set_cons_succ, List.getElem_toArray, List.getElem_cons_zero, List.getElem_cons_succ]
  refine wpAnyH_take (i := 8) (v := ?_) rfl (by kernel_rfl) (by kernel_rfl) (by kernel_rfl) (fun _ _ _ h => h) (Or.inl ⟨by rfl, ?_⟩) (by assumption) ?_
  rotate_left
  · intro w hSw; (try dsimp only at hSw); go_simp; try with_reducible rfl
  try simp only [Act.put, List.setIfInBounds_toArray, List.set_cons_zero, List.set_cons_succ, List.getElem_toArray, List.getElem_cons_zero, List.getElem_cons_succ]
  refine wpAnyH_take (i := 9) (v := ?_) rfl (by kernel_rfl) (by kernel_rfl) (by kernel_rfl) (fun _ _ _ h => h) (Or.inl ⟨by rfl, ?_⟩) (by assumption) ?_
  rotate_left
  · intro w hSw; (try dsimp only at hSw); go_simp; try with_reducible rfl
  try simp only [Act.put, List.setIfInBounds_toArray, List.set_cons_zero, List.set_cons_succ, List.getElem_toArray, List.getElem_cons_zero, List.getElem_cons_succ]
  refine wpAnyH_take (i := 10) (v := ?_) rfl (by kernel_rfl) (by kernel_rfl) (by kernel_rfl) (fun _ _ _ h => h) (Or.inl ⟨by rfl, ?_⟩) (by assumption) ?_
  rotate_left
  · intro w hSw; (try dsimp only at hSw); go_simp; try with_reducible rfl
  try simp only [Act.put, List.setIfInBounds_toArray, List.set_cons_zero, List.set_cons_succ, List.getElem_toArray, List.getElem_cons_zero, List.getElem_cons_succ]
  refine wpAnyH_ready (rs := [11]) (by kernel_rfl) (by simp) ?_
  refine AllReadyH.cons rfl (fun K hK => ?_) AllReadyH.nil
  go_simp
  go_at_call 18
  refine (hcc1.out _ ?_).mono ?_
  · (repeat (first | assumption | exact Below.refl _ _ | apply below_drewN | apply Below.drew | (refine Below.alloc ?_ (by first | omega | (simp; done) | (simp; omega)) _) | (refine Below.setCell ?_ (by first | omega | (simp; done) | (simp; omega)) _)))
  rintro e w4 ⟨rfl, hb4⟩
  refine hK.out _ _ ?_ (fun hHeld => ?_)
  · refine hkeep.out _ ?_; (repeat (first | assumption | exact Below.refl _ _ | apply below_drewN | apply Below.drew | (refine Below.alloc ?_ (by first | omega | (simp; done) | (simp; omega)) _) | (refine Below.setCell ?_ (by first | omega | (simp; done) | (simp; omega)) _)))
  clear hK K
  try simp only [Act.put, List.setIfInBounds_toArray, List.set_cons_zero, List.set_cons_succ, List.getElem_toArray, List.getElem_cons_zero, List.getElem_cons_succ]
  refine wpAnyH_take (i := 12) (v := ?_) rfl (by kernel_rfl) (by kernel_rfl) (by kernel_rfl) (fun _ _ _ h => h) (Or.inl ⟨by rfl, ?_⟩) (by assumption) ?_
  rotate_left
  · intro w hSw; (try dsimp only at hSw); go_simp; try with_reducible rfl
  try simp only [Act.put, List.setIfInBounds_toArray, List.set_cons_zero, List.set_cons_succ, List.getElem_toArray, List.getElem_cons_zero, List.getElem_cons_succ]
  refine wpAnyH_take (i := 13) (v := ?_) rfl (by kernel_rfl) (by kernel_rfl) (by kernel_rfl) (fun _ _ _ h => h) (Or.inl ⟨by rfl, ?_⟩) (by assumption) ?_
  rotate_left
  · intro w hSw; (try dsimp only at hSw); go_simp; try with_reducible rfl
  try simp only [Act.put, List.setIfInBounds_toArray, List.set_cons_zero, List.set_cons_succ, List.getElem_toArray, List.getElem_cons_zero, List.getElem_cons_succ]
  refine wpAnyH_take (i := 14) (v := ?_) rfl (by kernel_rfl) (by kernel_rfl) (by kernel_rfl) (fun _ _ _ h => h) (Or.inl ⟨by rfl, ?_⟩) (by assumption) ?_
  rotate_left
  · intro w hSw; (try dsimp only at hSw); go_simp; try with_reducible rfl
  try simp only [Act.put, List.setIfInBounds_toArray, List.set_cons_zero, List.set_cons_succ, List.getElem_toArray, List.getElem_cons_zero, List.getElem_cons_succ]
  refine wpAnyH_take (i := 15) (v := ?_) rfl (by kernel_rfl) (by kernel_rfl) (by kernel_rfl) (fun _ _ _ h => h) (Or.inl ⟨by rfl, ?_⟩) (by assumption) ?_
  rotate_left
  · intro w hSw; (try dsimp only at hSw); go_simp; try with_reducible rfl
  try simp only [Act.put, List.setIfInBounds_toArray, List.set_cons_zero, List.set_cons_succ, List.getElem_toArray, List.getElem_cons_zero, List.getElem_cons_succ]
  refine wpAnyH_take (i := 16) (v := ?_) rfl (by kernel_rfl) (by kernel_rfl) (by kernel_rfl) (fun _ _ _ h => h) (Or.inl ⟨by rfl, ?_⟩) (by assumption) ?_
  rotate_left
  · intro w hSw; (try dsimp only at hSw); go_simp; try with_reducible rfl
  try simp only [Act.put, List.setIfInBounds_toArray, List.set_cons_zero, List.set_cons_succ, List.getElem_toArray, List.getElem_cons_zero, List.getElem_cons_succ]
  refine wpAnyH_take (i := 17) (v := ?_) rfl (by kernel_rfl) (by kernel_rfl) (by kernel_rfl) (fun _ _ _ h => h) (Or.inl ⟨by rfl, ?_⟩) (by assumption) ?_
  rotate_left
  · intro w hSw; (try dsimp only at hSw); go_simp; try with_reducible rfl
  try simp only [Act.put, List.setIfInBounds_toArray, List.set_cons_zero, List.set_cons_succ, List.getElem_toArray, List.getElem_cons_zero, List.getElem_cons_succ]
  refine wpAnyH_off (i := 18) rfl (by kernel_rfl) (by kernel_rfl) (by kernel_rfl) (fun _ _ _ h => h) (by rfl) (by rfl) (by assumption) ?_
  try simp only [Act.put, List.setIfInBounds_toArray, List.set_cons_zero, List.set_cons_succ, List.getElem_toArray, List.getElem_cons_zero, List.getElem_cons_succ]
  refine wpAnyH_off (i := 19) rfl (by kernel_rfl) (by kernel_rfl) (by kernel_rfl) (fun _ _ _ h => h) (by rfl) (by rfl) (by assumption) ?_
  try simp only [Act.put, List.setIfInBounds_toArray, List.set_cons_zero, List.set_cons_succ, List.getElem_toArray, List.getElem_cons_zero, List.getElem_cons_succ]
  refine wpAnyH_off (i := 20) rfl (by kernel_rfl) (by kernel_rfl) (by kernel_rfl) (fun _ _ _ h => h) (by rfl) (by rfl) (by assumption) ?_
  try simp only [Act.put, List.setIfInBounds_toArray, List.set_cons_zero, List.set_cons_succ, List.getElem_toArray, List.getElem_cons_zero, List.getElem_cons_succ]
  refine wpAnyH_off (i := 21) rfl (by kernel_rfl) (by kernel_rfl) (by kernel_rfl) (fun _ _ _ h => h) (by rfl) (by rfl) (by assumption) ?_
  try simp only [Act.put, List.setIfInBounds_toArray, List.set_cons_zero, List.set_cons_succ, List.getElem_toArray, List.getElem_cons_zero, List.getElem_cons_succ]
  refine wpAnyH_off (i := 22) rfl (by kernel_rfl) (by kernel_rfl) (by kernel_rfl) (fun _ _ _ h => h) (by rfl) (by rfl) (by assumption) ?_
  try simp only [Act.put, List.setIfInBounds_toArray, List.set_cons_zero, List.set_cons_succ, List.getElem_toArray, List.getElem_cons_zero, List.getElem_cons_succ]
  refine wpAnyH_off (i := 23) rfl (by kernel_rfl) (by kernel_rfl) (by kernel_rfl) (fun _ _ _ h => h) (by rfl) (by rfl) (by assumption) ?_
  try simp only [Act.put, List.setIfInBounds_toArray, List.set_cons_zero, List.set_cons_succ, List.getElem_toArray, List.getElem_cons_zero, List.getElem_cons_succ]
  refine wpAnyH_off (i := 24) rfl (by kernel_rfl) (by kernel_rfl) (by kernel_rfl) (fun _ _ _ h => h) (by rfl) (by rfl) (by assumption) ?_
  try simp only [Act.put, List.setIfInBounds_toArray, List.set_cons_zero, List.set_cons_succ, List.getElem_toArray, List.getElem_cons_zero, List.getElem_cons_succ]
  refine wpAnyH_off (i := 25) rfl (by kernel_rfl) (by kernel_rfl) (by kernel_rfl) (fun _ _ _ h => h) (by rfl) (by rfl) (by assumption) ?_
  try simp only [Act.put, List.setIfInBounds_toArray, List.set_cons_zero, List.set_cons_succ, List.getElem_toArray, List.getElem_cons_zero, List.getElem_cons_succ]
  refine wpAnyH_off (i := 26) rfl (by kernel_rfl) (by kernel_rfl) (by kernel_rfl) (fun _ _ _ h => h) (by rfl) (by rfl) (by assumption) ?_
  try simp only [Act.put, List.setIfInBounds_toArray, List.set_cons_zero, List.set_cons_succ, List.getElem_toArray, List.getElem_cons_zero, List.getElem_cons_succ]
  refine wpAnyH_off (i := 27) rfl (by kernel_rfl) (by kernel_rfl) (by kernel_rfl) (fun _ _ _ h => h) (by rfl) (by rfl) (by assumption) ?_
  try simp only [Act.put, List.setIfInBounds_toArray, List.set_cons_zero, List.set_cons_succ, List.getElem_toArray, List.getElem_cons_zero, List.getElem_cons_succ]
  refine wpAnyH_take (i := 28) (v := ?_) rfl (by kernel_rfl) (by kernel_rfl) (by kernel_rfl) (fun _ _ _ h => h) (Or.inl ⟨by rfl, ?_⟩) (by assumption) ?_
  rotate_left
  · intro w hSw; (try dsimp only at hSw); go_simp; try with_reducible rfl
  try simp only [Act.put, List.setIfInBounds_toArray, List.set_cons_zero, List.set_cons_succ, List.getElem_toArray, List.getElem_cons_zero, List.getElem_cons_succ]
  refine wpAnyH_take (i := 29) (v := ?_) rfl (by kernel_rfl) (by kernel_rfl) (by kernel_rfl) (fun _ _ _ h => h) (Or.inl ⟨by rfl, ?_⟩) (by assumption) ?_
  rotate_left
  · intro w hSw; (try dsimp only at hSw); go_simp; try with_reducible rfl
  try simp only [Act.put, List.setIfInBounds_toArray, List.set_cons_zero, List.set_cons_succ, List.getElem_toArray, List.getElem_cons_zero, List.getElem_cons_succ]
  refine wpAnyH_done (by kernel_rfl) ?_ _
  have hb8 : Below w3q.heap.size w3q w4 := hb4
  generalize hw9 : w4 = w9 at *
  clear hw9 hat3 hat3' z4q z5q n4 n5 hyin
  have hb9 : Below w.heap.size w w9 := hb3q.trans (hb8.mono hs3q)
  clear hb8
  have hat9 := hat.below hb9 hB
  have c10 := hat9.c10
  clear hat9
  go_wp2_with fail
  go_loopw [124] (fun i wr => ∃ j : Nat, j ≤ t.ks.length ∧ i = .int .i64 j ∧ Below w.heap.size w wr) (fun i _ => t.ks.length - (intOf i).toNat)
  case atStart => exact ⟨0, by omega, rfl, hb9⟩
  case round =>
    obtain ⟨j, hj, rfl, hb0⟩ := hrel
    by_cases hlt : j < t.ks.length
    · have hk := List.getElem?_eq_getElem hlt
      generalize hkid : t.ks[j] = kid at hk
      have hr1 := hat.below hb0 hB
      have hr1' := hat'.below hb0 hB
      obtain ⟨kid', hk', hkt⟩ := RTm.TwinL.get htw.eq.2.2.2.2.2.2.2.2 hk
      have HKT := Lib.hid hkt
      obtain ⟨kb, ko, ks, hke, hkat⟩ := hr1.inn.kid hk
      obtain ⟨kb', ko', ks', hke', hkat'⟩ := hr1'.inn.kid hk'
      have hnk := RTm.kid_nodes hk
      have hkr := Lib.hid (RTm.right_kid Hr.out hk)
      have q1 := hr1.c10
      have q2 := hr1'.c10
      rw [hke] at q1
      rw [hke', HL.out] at q2
      have hbs := hb0.size
      have hcall := Lib.hid fun (W : World) (hW : Below wr.heap.size wr W) => ih kid kid' B kb (ko + j * 11) kb' (ko' + j * 11) ks ks' W (by omega) (hkat.below hW (by omega)) (hkat'.below hW (by omega)) hkr.out HKT.out (by have := hW.size; omega)
      clear hk hkid hke hke' hr1 hr1' hkat hkat' hkt hk'
      go_wp2_with fail
      go_region_held3 (fun w' => w'.cell? ⟨b, o + 10, none⟩ = some (.slice (some ⟨kb, ko, none⟩) t.ks.length s.kc) ∧ w'.cell? ⟨b', o' + 10, none⟩ = some (.slice (some ⟨kb', ko', none⟩) t.ks.length s'.kc))
        (first | exact ⟨q1, q2⟩ | exact ⟨cell_kept hb1 q1, cell_kept hb1 q2⟩)
        (first | (go_at_call 60; refine (hcall.out _ ?_).mono ?_; (repeat (first | assumption | exact Below.refl _ _ | apply below_drewN | apply Below.drew | (refine Below.alloc ?_ (by first | omega | (simp; done) | (simp; omega)) _) | (refine Below.setCell ?_ (by first | omega | (simp; done) | (simp; omega)) _))); rintro e w1 ⟨rfl, hb1⟩))
      have hb2 : Below w.heap.size w w1 := hb0.trans (Below.trans (Below.refl w.heap.size wr).drew (hb1.mono (by simp; omega)))
      go_wp2_with fail
      go_round
      case rel => exact ⟨j + 1, by omega, by go_num, hb2⟩
      case measure => simp [intOf]; omega
    · go_wp2_with fail
      go_ret
      exact ⟨rfl, hb0⟩

set_option maxRecDepth 100000 in
set_option maxHeartbeats 4000000 in
theorem same_P4 (N : Nat) (ih : ∀ (t t' : RTm) (B b o b' o' : Nat) (s s' : TmSh) (w : World), t.nodes ≤ N → RTm.At w B b o s t → RTm.At w B b' o' s' t' → t.right = true → t.Twin t' → B ≤ w.heap.size → Calls Try.prog 60 #[.pointer (some ⟨b, o, none⟩), .pointer (some ⟨b', o', none⟩)] w fun e w' => e = .returned (.bool true) ∧ Below w.heap.size w w')
    (t t' : RTm) (B b o b' o' : Nat) (s s' : TmSh) (w : World) (hN : t.nodes ≤ N + 1) (hat : RTm.At w B b o s t) (hat' : RTm.At w B b' o' s' t') (hr : t.right = true) (htw : t.Twin t') (hB : B ≤ w.heap.size) (hnm : hasName t.k = true) (hag : hasArg t.k = true) (hnu : hasNum t.k = false) (hfr : hasFrom t.k = true) (hto : hasTo t.k = true) (hlb : hasLabel t.k = false) (hop : hasOp t.k = false) :
    Calls Try.prog 60 #[.pointer (some ⟨b, o, none⟩), .pointer (some ⟨b', o', none⟩)] w fun e w' => e = .returned (.bool true) ∧ Below w.heap.size w w' := by
  have hlen := RTm.right_small hr
  have Hr := Lib.hid hr
  have HL := Lib.hid (RTm.TwinL.length htw.eq.2.2.2.2.2.2.2.2)
  have E0 := Lib.hid htw.eq.1
  have E1 := Lib.hid (htw.eq.2.1 hnm)
  have E2 := Lib.hid (htw.eq.2.2.2.1 hag)
  have ET := Lib.hid (htw.eq.2.2.2.2.2.2.1 hfr)
  have EO := Lib.hid (htw.eq.2.2.2.2.2.2.2.1 hto)
  have k0 := hat.c0
  go_enter Try.func60, Try.ntmps60
  go_wp2_with fail
  refine (of_any t.k _).mono ?_
  unfold shapeV
  simp only [hnm, hag, hnu, hfr, hto, hlb, hop]
  rintro e w2 ⟨rfl, hb2⟩
  have hs2 := hb2.size
  have hat2 := hat.below hb2 hB
  have hat2' := hat'.below hb2 hB
  have hlt2 : b < w2.heap.size := by have := hat.lt; omega
  have hlt2' : b' < w2.heap.size := by have := hat'.lt; omega
  clear hat2 hat2'
  go_upto_region 2 with fail
  generalize hW : World.alloc w2 _ = w3
  have hb3 : Below w.heap.size w w3 := by rw [← hW]; exact hb2.trans ((below_new' w2 _).mono hs2)
  have z1 : w3.cell? ⟨w2.heap.size, 1, none⟩ = some (.bool true) := by rw [← hW]; simp [go_sem]
  have z2 : w3.cell? ⟨w2.heap.size, 2, none⟩ = some (.bool true) := by rw [← hW]; simp [go_sem]
  have z3 : w3.cell? ⟨w2.heap.size, 3, none⟩ = some (.bool false) := by rw [← hW]; simp [go_sem]
  have z4 : w3.cell? ⟨w2.heap.size, 4, none⟩ = some (.bool true) := by rw [← hW]; simp [go_sem]
  have z5 : w3.cell? ⟨w2.heap.size, 5, none⟩ = some (.bool true) := by rw [← hW]; simp [go_sem]
  have z6 : w3.cell? ⟨w2.heap.size, 6, none⟩ = some (.bool false) := by rw [← hW]; simp [go_sem]
  have z7 : w3.cell? ⟨w2.heap.size, 7, none⟩ = some (.bool false) := by rw [← hW]; simp [go_sem]
  clear hW hlt2 hlt2' k0
  have hs3 := hb3.size
  have hat3 := hat.below hb3 hB
  have hat3' := hat'.below hb3 hB
  have k0 := hat3.c0
  have m0 := hat3'.c0
  rw [E0.out] at m0
  have k1 := hat3.c1
  have m1 := hat3'.c1
  rw [E1.out] at m1
  have k2 := hat3.c2
  have m2 := hat3'.c2
  rw [E2.out] at m2
  clear hat3 hat3'
  go_wp2_with fail
  simp only [List.append_eq, List.cons_append, List.nil_append]
  go_big_quiet (fail)
  have hbq : Below w3.heap.size w3 (w3.drewN nq) := by (repeat (first | assumption | exact Below.refl _ _ | apply below_drewN | apply Below.drew | (refine Below.alloc ?_ (by first | omega | (simp; done) | (simp; omega)) _) | (refine Below.setCell ?_ (by first | omega | (simp; done) | (simp; omega)) _)))
  generalize hwq : World.drewN w3 nq = w3q at *
  have hb3q : Below w.heap.size w w3q := hb3.trans (hbq.mono hs3)
  have z4q := cell_kept hbq z4
  have z5q := cell_kept hbq z5
  have hs3q := hb3q.size
  have hat3 := hat.below hb3q hB
  have hat3' := hat'.below hb3q hB
  clear hwq hbq hb3 hs3 z1 z2 z3 z4 z5 z6 z7 k0 m0 k1 m1 k2 m2
  clear hnm hag hnu hlb hop
  have n4 := hat3'.c4
  rw [ET.out] at n4
  have n5 := hat3'.c5
  rw [ET.out] at n5
  have hyin : t.ty.In w3q B s'.ta := by have h := hat3'.inn.ty; rwa [ET.out] at h
  have hc1 := Lib.hid fun (W : World) (hW : Below w3q.heap.size w3q W) => (show Calls Try.prog 18 #[.agg #[.int .i8 t.ty.k, .slice s.ta t.ty.ks.length s.tc], .agg #[.int .i8 t.ty.k, .slice s'.ta t.ty.ks.length s'.tc]] W (fun e w' => e = .returned (.bool true) ∧ Below w3q.heap.size w3q w') from (tsame_any t.ty t.ty B s.ta s'.ta s.tc s'.tc W (hat3.below hW (by omega)).inn.ty (hyin.below hW (by omega)) (by have := hW.size; omega)).mono fun e w' h => And.intro (by rw [h.1, RTy.same_refl (RTm.right_tyok Hr.out hfr)]) (hW.trans (h.2.mono hW.size)))
  have n6 := hat3'.c6
  rw [EO.out] at n6
  have n7 := hat3'.c7
  rw [EO.out] at n7
  have hoin : t.to.In w3q B s'.oa := by have h := hat3'.inn.to; rwa [EO.out] at h
  have hc2 := Lib.hid fun (W : World) (hW : Below w3q.heap.size w3q W) => (show Calls Try.prog 18 #[.agg #[.int .i8 t.to.k, .slice s.oa t.to.ks.length s.oc], .agg #[.int .i8 t.to.k, .slice s'.oa t.to.ks.length s'.oc]] W (fun e w' => e = .returned (.bool true) ∧ Below w3q.heap.size w3q w') from (tsame_any t.to t.to B s.oa s'.oa s.oc s'.oc W (hat3.below hW (by omega)).inn.to (hoin.below hW (by omega)) (by have := hW.size; omega)).mono fun e w' h => And.intro (by rw [h.1, RTy.same_refl (RTm.right_took Hr.out hto)]) (hW.trans (h.2.mono hW.size)))
  have hkeep := Lib.hid fun (W : World) (hW : Below w3q.heap.size w3q W) => And.intro (cell_kept hW z4q) (And.intro (cell_kept hW z5q) (And.intro (cell_kept hW hat3.c4) (And.intro (cell_kept hW hat3.c5) (And.intro (cell_kept hW n4) (And.intro (cell_kept hW n5) (And.intro (cell_kept hW hat3.c6) (And.intro (cell_kept hW hat3.c7) (And.intro (cell_kept hW n6) (cell_kept hW n7)))))))))
  go_wp2_with fail
  go_region_held3 (fun v => v.cell? ⟨w2.heap.size, 4, none⟩ = some (.bool true) ∧ v.cell? ⟨w2.heap.size, 5, none⟩ = some (.bool true) ∧ v.cell? ⟨b, o + 4, none⟩ = some (.int .i8 t.ty.k) ∧ v.cell? ⟨b, o + 5, none⟩ = some (.slice s.ta t.ty.ks.length s.tc) ∧ v.cell? ⟨b', o' + 4, none⟩ = some (.int .i8 t.ty.k) ∧ v.cell? ⟨b', o' + 5, none⟩ = some (.slice s'.ta t.ty.ks.length s'.tc) ∧ v.cell? ⟨b, o + 6, none⟩ = some (.int .i8 t.to.k) ∧ v.cell? ⟨b, o + 7, none⟩ = some (.slice s.oa t.to.ks.length s.oc) ∧ v.cell? ⟨b', o' + 6, none⟩ = some (.int .i8 t.to.k) ∧ v.cell? ⟨b', o' + 7, none⟩ = some (.slice s'.oa t.to.ks.length s'.oc)) (first | (refine hkeep.out _ ?_; (repeat (first | assumption | exact Below.refl _ _ | apply below_drewN | apply Below.drew | (refine Below.alloc ?_ (by first | omega | (simp; done) | (simp; omega)) _) | (refine Below.setCell ?_ (by first | omega | (simp; done) | (simp; omega)) _))))) (first | (go_at_call_of 18 (Value.agg #[.int .i8 t.ty.k, .slice s.ta t.ty.ks.length s.tc] : Value); refine (hc1.out _ ?_).mono ?_; (repeat (first | assumption | exact Below.refl _ _ | apply below_drewN | apply Below.drew | (refine Below.alloc ?_ (by first | omega | (simp; done) | (simp; omega)) _) | (refine Below.setCell ?_ (by first | omega | (simp; done) | (simp; omega)) _))); rintro e w4 ⟨rfl, hb4⟩) | (go_at_call_of 18 (Value.agg #[.int .i8 t.to.k, .slice s.oa t.to.ks.length s.oc] : Value); refine (hc2.out _ ?_).mono ?_; (repeat (first | assumption | exact Below.refl _ _ | apply below_drewN | apply Below.drew | (refine Below.alloc ?_ (by first | omega | (simp; done) | (simp; omega)) _) | (refine Below.setCell ?_ (by first | omega | (simp; done) | (simp; omega)) _))); rintro e w5 ⟨rfl, hb5⟩))
  have hb8 : Below w3q.heap.size w3q w5 := hb5
  generalize hw9 : w5 = w9 at *
  clear hw9 hat3 hat3' z4q z5q n4 n5 hyin n6 n7 hoin
  have hb9 : Below w.heap.size w w9 := hb3q.trans (hb8.mono hs3q)
  clear hb8
  have hat9 := hat.below hb9 hB
  have c10 := hat9.c10
  clear hat9
  go_wp2_with fail
  go_loopw [124] (fun i wr => ∃ j : Nat, j ≤ t.ks.length ∧ i = .int .i64 j ∧ Below w.heap.size w wr) (fun i _ => t.ks.length - (intOf i).toNat)
  case atStart => exact ⟨0, by omega, rfl, hb9⟩
  case round =>
    obtain ⟨j, hj, rfl, hb0⟩ := hrel
    by_cases hlt : j < t.ks.length
    · have hk := List.getElem?_eq_getElem hlt
      generalize hkid : t.ks[j] = kid at hk
      have hr1 := hat.below hb0 hB
      have hr1' := hat'.below hb0 hB
      obtain ⟨kid', hk', hkt⟩ := RTm.TwinL.get htw.eq.2.2.2.2.2.2.2.2 hk
      have HKT := Lib.hid hkt
      obtain ⟨kb, ko, ks, hke, hkat⟩ := hr1.inn.kid hk
      obtain ⟨kb', ko', ks', hke', hkat'⟩ := hr1'.inn.kid hk'
      have hnk := RTm.kid_nodes hk
      have hkr := Lib.hid (RTm.right_kid Hr.out hk)
      have q1 := hr1.c10
      have q2 := hr1'.c10
      rw [hke] at q1
      rw [hke', HL.out] at q2
      have hbs := hb0.size
      have hcall := Lib.hid fun (W : World) (hW : Below wr.heap.size wr W) => ih kid kid' B kb (ko + j * 11) kb' (ko' + j * 11) ks ks' W (by omega) (hkat.below hW (by omega)) (hkat'.below hW (by omega)) hkr.out HKT.out (by have := hW.size; omega)
      clear hk hkid hke hke' hr1 hr1' hkat hkat' hkt hk'
      go_wp2_with fail
      go_region_held3 (fun w' => w'.cell? ⟨b, o + 10, none⟩ = some (.slice (some ⟨kb, ko, none⟩) t.ks.length s.kc) ∧ w'.cell? ⟨b', o' + 10, none⟩ = some (.slice (some ⟨kb', ko', none⟩) t.ks.length s'.kc))
        (first | exact ⟨q1, q2⟩ | exact ⟨cell_kept hb1 q1, cell_kept hb1 q2⟩)
        (first | (go_at_call 60; refine (hcall.out _ ?_).mono ?_; (repeat (first | assumption | exact Below.refl _ _ | apply below_drewN | apply Below.drew | (refine Below.alloc ?_ (by first | omega | (simp; done) | (simp; omega)) _) | (refine Below.setCell ?_ (by first | omega | (simp; done) | (simp; omega)) _))); rintro e w1 ⟨rfl, hb1⟩))
      have hb2 : Below w.heap.size w w1 := hb0.trans (Below.trans (Below.refl w.heap.size wr).drew (hb1.mono (by simp; omega)))
      go_wp2_with fail
      go_round
      case rel => exact ⟨j + 1, by omega, by go_num, hb2⟩
      case measure => simp [intOf]; omega
    · go_wp2_with fail
      go_ret
      exact ⟨rfl, hb0⟩

set_option maxRecDepth 100000 in
set_option maxHeartbeats 4000000 in
theorem same_P5 (N : Nat) (ih : ∀ (t t' : RTm) (B b o b' o' : Nat) (s s' : TmSh) (w : World), t.nodes ≤ N → RTm.At w B b o s t → RTm.At w B b' o' s' t' → t.right = true → t.Twin t' → B ≤ w.heap.size → Calls Try.prog 60 #[.pointer (some ⟨b, o, none⟩), .pointer (some ⟨b', o', none⟩)] w fun e w' => e = .returned (.bool true) ∧ Below w.heap.size w w')
    (t t' : RTm) (B b o b' o' : Nat) (s s' : TmSh) (w : World) (hN : t.nodes ≤ N + 1) (hat : RTm.At w B b o s t) (hat' : RTm.At w B b' o' s' t') (hr : t.right = true) (htw : t.Twin t') (hB : B ≤ w.heap.size) (hnm : hasName t.k = false) (hag : hasArg t.k = false) (hnu : hasNum t.k = false) (hfr : hasFrom t.k = true) (hto : hasTo t.k = false) (hlb : hasLabel t.k = false) (hop : hasOp t.k = false) :
    Calls Try.prog 60 #[.pointer (some ⟨b, o, none⟩), .pointer (some ⟨b', o', none⟩)] w fun e w' => e = .returned (.bool true) ∧ Below w.heap.size w w' := by
  have hlen := RTm.right_small hr
  have Hr := Lib.hid hr
  have HL := Lib.hid (RTm.TwinL.length htw.eq.2.2.2.2.2.2.2.2)
  have E0 := Lib.hid htw.eq.1
  have ET := Lib.hid (htw.eq.2.2.2.2.2.2.1 hfr)
  have k0 := hat.c0
  go_enter Try.func60, Try.ntmps60
  go_wp2_with fail
  refine (of_any t.k _).mono ?_
  unfold shapeV
  simp only [hnm, hag, hnu, hfr, hto, hlb, hop]
  rintro e w2 ⟨rfl, hb2⟩
  have hs2 := hb2.size
  have hat2 := hat.below hb2 hB
  have hat2' := hat'.below hb2 hB
  have hlt2 : b < w2.heap.size := by have := hat.lt; omega
  have hlt2' : b' < w2.heap.size := by have := hat'.lt; omega
  clear hat2 hat2'
  go_upto_region 2 with fail
  generalize hW : World.alloc w2 _ = w3
  have hb3 : Below w.heap.size w w3 := by rw [← hW]; exact hb2.trans ((below_new' w2 _).mono hs2)
  have z1 : w3.cell? ⟨w2.heap.size, 1, none⟩ = some (.bool false) := by rw [← hW]; simp [go_sem]
  have z2 : w3.cell? ⟨w2.heap.size, 2, none⟩ = some (.bool false) := by rw [← hW]; simp [go_sem]
  have z3 : w3.cell? ⟨w2.heap.size, 3, none⟩ = some (.bool false) := by rw [← hW]; simp [go_sem]
  have z4 : w3.cell? ⟨w2.heap.size, 4, none⟩ = some (.bool true) := by rw [← hW]; simp [go_sem]
  have z5 : w3.cell? ⟨w2.heap.size, 5, none⟩ = some (.bool false) := by rw [← hW]; simp [go_sem]
  have z6 : w3.cell? ⟨w2.heap.size, 6, none⟩ = some (.bool false) := by rw [← hW]; simp [go_sem]
  have z7 : w3.cell? ⟨w2.heap.size, 7, none⟩ = some (.bool false) := by rw [← hW]; simp [go_sem]
  clear hW hlt2 hlt2' k0
  have hs3 := hb3.size
  have hat3 := hat.below hb3 hB
  have hat3' := hat'.below hb3 hB
  have k0 := hat3.c0
  have m0 := hat3'.c0
  rw [E0.out] at m0
  clear hat3 hat3'
  go_wp2_with fail
  simp only [List.append_eq, List.cons_append, List.nil_append]
  go_big_quiet (fail)
  have hbq : Below w3.heap.size w3 (w3.drewN nq) := by (repeat (first | assumption | exact Below.refl _ _ | apply below_drewN | apply Below.drew | (refine Below.alloc ?_ (by first | omega | (simp; done) | (simp; omega)) _) | (refine Below.setCell ?_ (by first | omega | (simp; done) | (simp; omega)) _)))
  generalize hwq : World.drewN w3 nq = w3q at *
  have hb3q : Below w.heap.size w w3q := hb3.trans (hbq.mono hs3)
  have z4q := cell_kept hbq z4
  have z5q := cell_kept hbq z5
  have hs3q := hb3q.size
  have hat3 := hat.below hb3q hB
  have hat3' := hat'.below hb3q hB
  clear hwq hbq hb3 hs3 z1 z2 z3 z4 z5 z6 z7 k0 m0
  clear hnm hag hnu hto hlb hop
  have n4 := hat3'.c4
  rw [ET.out] at n4
  have n5 := hat3'.c5
  rw [ET.out] at n5
  have hyin : t.ty.In w3q B s'.ta := by have h := hat3'.inn.ty; rwa [ET.out] at h
  have hc1 := Lib.hid fun (W : World) (hW : Below w3q.heap.size w3q W) => (show Calls Try.prog 18 #[.agg #[.int .i8 t.ty.k, .slice s.ta t.ty.ks.length s.tc], .agg #[.int .i8 t.ty.k, .slice s'.ta t.ty.ks.length s'.tc]] W (fun e w' => e = .returned (.bool true) ∧ Below w3q.heap.size w3q w') from (tsame_any t.ty t.ty B s.ta s'.ta s.tc s'.tc W (hat3.below hW (by omega)).inn.ty (hyin.below hW (by omega)) (by have := hW.size; omega)).mono fun e w' h => And.intro (by rw [h.1, RTy.same_refl (RTm.right_tyok Hr.out hfr)]) (hW.trans (h.2.mono hW.size)))
  have hkeep := Lib.hid fun (W : World) (hW : Below w3q.heap.size w3q W) => And.intro (cell_kept hW z4q) (And.intro (cell_kept hW z5q) (And.intro (cell_kept hW hat3.c4) (And.intro (cell_kept hW hat3.c5) (And.intro (cell_kept hW n4) (cell_kept hW n5)))))
  go_wp2_with fail
  have hcc1 := hc1
  refine wp_region_held_drew (S := (fun v => v.cell? ⟨w2.heap.size, 4, none⟩ = some (.bool true) ∧ v.cell? ⟨w2.heap.size, 5, none⟩ = some (.bool false) ∧ v.cell? ⟨b, o + 4, none⟩ = some (.int .i8 t.ty.k) ∧ v.cell? ⟨b, o + 5, none⟩ = some (.slice s.ta t.ty.ks.length s.tc) ∧ v.cell? ⟨b', o' + 4, none⟩ = some (.int .i8 t.ty.k) ∧ v.cell? ⟨b', o' + 5, none⟩ = some (.slice s'.ta t.ty.ks.length s'.tc))) (by kernel_rfl) ?_ (fun hHeld => ?_)
  · refine hkeep.out _ ?_; (repeat (first | assumption | exact Below.refl _ _ | apply below_drewN | apply Below.drew | (refine Below.alloc ?_ (by first | omega | (simp; done) | (simp; omega)) _) | (refine Below.setCell ?_ (by first | omega | (simp; done) | (simp; omega)) _)))
  refine wpAnyH_take (i := 0) (v := ?_) rfl (by kernel_rfl) (by kernel_rfl) (by kernel_rfl) (fun _ _ _ h => h) (Or.inl ⟨by rfl, ?_⟩) (by assumption) ?_
  rotate_left
  · intro w hSw; (try dsimp only at hSw); go_simp; try with_reducible rfl
  try simp only [Act.put, List.setIfInBounds_toArray, List.set_cons_zero, List.set_cons_succ, List.getElem_toArray, List.getElem_cons_zero, List.getElem_cons_succ]
  refine wpAnyH_take (i := 1) (v := ?_) rfl (by kernel_rfl) (by kernel_rfl) (by kernel_rfl) (fun _ _ _ h => h) (Or.inl ⟨by rfl, ?_⟩) (by assumption) ?_
  rotate_left
  · intro w hSw; (try dsimp only at hSw); go_simp; try with_reducible rfl
  try simp only [Act.put, List.setIfInBounds_toArray, List.set_cons_zero, List.set_cons_succ, List.getElem_toArray, List.getElem_cons_zero, List.getElem_cons_succ]
  refine wpAnyH_take (i := 2) (v := ?_) rfl (by kernel_rfl) (by kernel_rfl) (by kernel_rfl) (fun _ _ _ h => h) (Or.inl ⟨by rfl, ?_⟩) (by assumption) ?_
  rotate_left
  · intro w hSw; (try dsimp only at hSw); go_simp; try with_reducible rfl
  try simp only [Act.put, List.setIfInBounds_toArray, List.set_cons_zero, List.set_cons_succ, List.getElem_toArray, List.getElem_cons_zero, List.getElem_cons_succ]
  refine wpAnyH_take (i := 3) (v := ?_) rfl (by kernel_rfl) (by kernel_rfl) (by kernel_rfl) (fun _ _ _ h => h) (Or.inl ⟨by rfl, ?_⟩) (by assumption) ?_
  rotate_left
  · intro w hSw; (try dsimp only at hSw); go_simp; try with_reducible rfl
  try simp only [Act.put, List.setIfInBounds_toArray, List.set_cons_zero, List.set_cons_succ, List.getElem_toArray, List.getElem_cons_zero, List.getElem_cons_succ]
  refine wpAnyH_take (i := 4) (v := ?_) rfl (by kernel_rfl) (by kernel_rfl) (by kernel_rfl) (fun _ _ _ h => h) (Or.inl ⟨by rfl, ?_⟩) (by assumption) ?_
  rotate_left
  · intro w hSw; (try dsimp only at hSw); go_simp; try with_reducible rfl
  try simp only [Act.put, List.setIfInBounds_toArray, List.set_cons_zero, List.set_cons_succ, List.getElem_toArray, List.getElem_cons_zero, List.getElem_cons_succ]
  refine wpAnyH_take (i := 5) (v := ?_) rfl (by kernel_rfl) (by kernel_rfl) (by kernel_rfl) (fun _ _ _ h => h) (Or.inl ⟨by rfl, ?_⟩) (by assumption) ?_
  rotate_left
  · intro w hSw; (try dsimp only at hSw); go_simp; try with_reducible rfl
  try simp only [Act.put, List.setIfInBounds_toArray, List.set_cons_zero, List.set_cons_succ, List.getElem_toArray, List.getElem_cons_zero, List.getElem_cons_succ]
  refine wpAnyH_take (i := 6) (v := ?_) rfl (by kernel_rfl) (by kernel_rfl) (by kernel_rfl) (fun _ _ _ h => h) (Or.inl ⟨by rfl, ?_⟩) (by assumption) ?_
  rotate_left
  · intro w hSw; (try dsimp only at hSw); go_simp; try with_reducible rfl
  try simp only [Act.put, List.setIfInBounds_toArray, List.set_cons_zero, List.set_cons_succ, List.getElem_toArray, List.getElem_cons_zero, List.getElem_cons_succ]
  refine wpAnyH_take (i := 7) (v := ?_) rfl (by kernel_rfl) (by kernel_rfl) (by kernel_rfl) (fun _ _ _ h => h) (Or.inl ⟨by rfl, ?_⟩) (by assumption) ?_
  rotate_left
  · intro w hSw; (try dsimp only at hSw); go_simp; try with_reducible rfl
  try simp only [Act.put, List.setIfInBounds_toArray, List.set_cons_zero, List.set_cons_succ, List.getElem_toArray, List.getElem_cons_zero, List.getElem_cons_succ]
  refine wpAnyH_take (i := 8) (v := ?_) rfl (by kernel_rfl) (by kernel_rfl) (by kernel_rfl) (fun _ _ _ h => h) (Or.inl ⟨by rfl, ?_⟩) (by assumption) ?_
  rotate_left
  · intro w hSw; (try dsimp only at hSw); go_simp; try with_reducible rfl
  try simp only [Act.put, List.setIfInBounds_toArray, List.set_cons_zero, List.set_cons_succ, List.getElem_toArray, List.getElem_cons_zero, List.getElem_cons_succ]
  refine wpAnyH_take (i := 9) (v := ?_) rfl (by kernel_rfl) (by kernel_rfl) (by kernel_rfl) (fun _ _ _ h => h) (Or.inl ⟨by rfl, ?_⟩) (by assumption) ?_
  rotate_left
  · intro w hSw; (try dsimp only at hSw); go_simp; try with_reducible rfl
  try simp only [Act.put, List.setIfInBounds_toArray, List.set_cons_zero, List.set_cons_succ, List.getElem_toArray, List.getElem_cons_zero, List.getElem_cons_succ]
  refine wpAnyH_take (i := 10) (v := ?_) rfl (by kernel_rfl) (by kernel_rfl) (by kernel_rfl) (fun _ _ _ h => h) (Or.inl ⟨by rfl, ?_⟩) (by assumption) ?_
  rotate_left
  · intro w hSw; (try dsimp only at hSw); go_simp; try with_reducible rfl
  try simp only [Act.put, List.setIfInBounds_toArray, List.set_cons_zero, List.set_cons_succ, List.getElem_toArray, List.getElem_cons_zero, List.getElem_cons_succ]
  refine wpAnyH_ready (rs := [11]) (by kernel_rfl) (by simp) ?_
  refine AllReadyH.cons rfl (fun K hK => ?_) AllReadyH.nil
  go_simp
  go_at_call 18
  refine (hcc1.out _ ?_).mono ?_
  · (repeat (first | assumption | exact Below.refl _ _ | apply below_drewN | apply Below.drew | (refine Below.alloc ?_ (by first | omega | (simp; done) | (simp; omega)) _) | (refine Below.setCell ?_ (by first | omega | (simp; done) | (simp; omega)) _)))
  rintro e w4 ⟨rfl, hb4⟩
  refine hK.out _ _ ?_ (fun hHeld => ?_)
  · refine hkeep.out _ ?_; (repeat (first | assumption | exact Below.refl _ _ | apply below_drewN | apply Below.drew | (refine Below.alloc ?_ (by first | omega | (simp; done) | (simp; omega)) _) | (refine Below.setCell ?_ (by first | omega | (simp; done) | (simp; omega)) _)))
  clear hK K
  try simp only [Act.put, List.setIfInBounds_toArray, List.set_cons_zero, List.set_cons_succ, List.getElem_toArray, List.getElem_cons_zero, List.getElem_cons_succ]
  refine wpAnyH_take (i := 12) (v := ?_) rfl (by kernel_rfl) (by kernel_rfl) (by kernel_rfl) (fun _ _ _ h => h) (Or.inl ⟨by rfl, ?_⟩) (by assumption) ?_
  rotate_left
  · intro w hSw; (try dsimp only at hSw); go_simp; try with_reducible rfl
  try simp only [Act.put, List.setIfInBounds_toArray, List.set_cons_zero, List.set_cons_succ, List.getElem_toArray, List.getElem_cons_zero, List.getElem_cons_succ]
  refine wpAnyH_take (i := 13) (v := ?_) rfl (by kernel_rfl) (by kernel_rfl) (by kernel_rfl) (fun _ _ _ h => h) (Or.inl ⟨by rfl, ?_⟩) (by assumption) ?_
  rotate_left
  · intro w hSw; (try dsimp only at hSw); go_simp; try with_reducible rfl
  try simp only [Act.put, List.setIfInBounds_toArray, List.set_cons_zero, List.set_cons_succ, List.getElem_toArray, List.getElem_cons_zero, List.getElem_cons_succ]
  refine wpAnyH_take (i := 14) (v := ?_) rfl (by kernel_rfl) (by kernel_rfl) (by kernel_rfl) (fun _ _ _ h => h) (Or.inl ⟨by rfl, ?_⟩) (by assumption) ?_
  rotate_left
  · intro w hSw; (try dsimp only at hSw); go_simp; try with_reducible rfl
  try simp only [Act.put, List.setIfInBounds_toArray, List.set_cons_zero, List.set_cons_succ, List.getElem_toArray, List.getElem_cons_zero, List.getElem_cons_succ]
  refine wpAnyH_take (i := 15) (v := ?_) rfl (by kernel_rfl) (by kernel_rfl) (by kernel_rfl) (fun _ _ _ h => h) (Or.inl ⟨by rfl, ?_⟩) (by assumption) ?_
  rotate_left
  · intro w hSw; (try dsimp only at hSw); go_simp; try with_reducible rfl
  try simp only [Act.put, List.setIfInBounds_toArray, List.set_cons_zero, List.set_cons_succ, List.getElem_toArray, List.getElem_cons_zero, List.getElem_cons_succ]
  refine wpAnyH_take (i := 16) (v := ?_) rfl (by kernel_rfl) (by kernel_rfl) (by kernel_rfl) (fun _ _ _ h => h) (Or.inl ⟨by rfl, ?_⟩) (by assumption) ?_
  rotate_left
  · intro w hSw; (try dsimp only at hSw); go_simp; try with_reducible rfl
  try simp only [Act.put, List.setIfInBounds_toArray, List.set_cons_zero, List.set_cons_succ, List.getElem_toArray, List.getElem_cons_zero, List.getElem_cons_succ]
  refine wpAnyH_take (i := 17) (v := ?_) rfl (by kernel_rfl) (by kernel_rfl) (by kernel_rfl) (fun _ _ _ h => h) (Or.inl ⟨by rfl, ?_⟩) (by assumption) ?_
  rotate_left
  · intro w hSw; (try dsimp only at hSw); go_simp; try with_reducible rfl
  try simp only [Act.put, List.setIfInBounds_toArray, List.set_cons_zero, List.set_cons_succ, List.getElem_toArray, List.getElem_cons_zero, List.getElem_cons_succ]
  refine wpAnyH_off (i := 18) rfl (by kernel_rfl) (by kernel_rfl) (by kernel_rfl) (fun _ _ _ h => h) (by rfl) (by rfl) (by assumption) ?_
  try simp only [Act.put, List.setIfInBounds_toArray, List.set_cons_zero, List.set_cons_succ, List.getElem_toArray, List.getElem_cons_zero, List.getElem_cons_succ]
  refine wpAnyH_off (i := 19) rfl (by kernel_rfl) (by kernel_rfl) (by kernel_rfl) (fun _ _ _ h => h) (by rfl) (by rfl) (by assumption) ?_
  try simp only [Act.put, List.setIfInBounds_toArray, List.set_cons_zero, List.set_cons_succ, List.getElem_toArray, List.getElem_cons_zero, List.getElem_cons_succ]
  refine wpAnyH_off (i := 20) rfl (by kernel_rfl) (by kernel_rfl) (by kernel_rfl) (fun _ _ _ h => h) (by rfl) (by rfl) (by assumption) ?_
  try simp only [Act.put, List.setIfInBounds_toArray, List.set_cons_zero, List.set_cons_succ, List.getElem_toArray, List.getElem_cons_zero, List.getElem_cons_succ]
  refine wpAnyH_off (i := 21) rfl (by kernel_rfl) (by kernel_rfl) (by kernel_rfl) (fun _ _ _ h => h) (by rfl) (by rfl) (by assumption) ?_
  try simp only [Act.put, List.setIfInBounds_toArray, List.set_cons_zero, List.set_cons_succ, List.getElem_toArray, List.getElem_cons_zero, List.getElem_cons_succ]
  refine wpAnyH_off (i := 22) rfl (by kernel_rfl) (by kernel_rfl) (by kernel_rfl) (fun _ _ _ h => h) (by rfl) (by rfl) (by assumption) ?_
  try simp only [Act.put, List.setIfInBounds_toArray, List.set_cons_zero, List.set_cons_succ, List.getElem_toArray, List.getElem_cons_zero, List.getElem_cons_succ]
  refine wpAnyH_off (i := 23) rfl (by kernel_rfl) (by kernel_rfl) (by kernel_rfl) (fun _ _ _ h => h) (by rfl) (by rfl) (by assumption) ?_
  try simp only [Act.put, List.setIfInBounds_toArray, List.set_cons_zero, List.set_cons_succ, List.getElem_toArray, List.getElem_cons_zero, List.getElem_cons_succ]
  refine wpAnyH_off (i := 24) rfl (by kernel_rfl) (by kernel_rfl) (by kernel_rfl) (fun _ _ _ h => h) (by rfl) (by rfl) (by assumption) ?_
  try simp only [Act.put, List.setIfInBounds_toArray, List.set_cons_zero, List.set_cons_succ, List.getElem_toArray, List.getElem_cons_zero, List.getElem_cons_succ]
  refine wpAnyH_off (i := 25) rfl (by kernel_rfl) (by kernel_rfl) (by kernel_rfl) (fun _ _ _ h => h) (by rfl) (by rfl) (by assumption) ?_
  try simp only [Act.put, List.setIfInBounds_toArray, List.set_cons_zero, List.set_cons_succ, List.getElem_toArray, List.getElem_cons_zero, List.getElem_cons_succ]
  refine wpAnyH_off (i := 26) rfl (by kernel_rfl) (by kernel_rfl) (by kernel_rfl) (fun _ _ _ h => h) (by rfl) (by rfl) (by assumption) ?_
  try simp only [Act.put, List.setIfInBounds_toArray, List.set_cons_zero, List.set_cons_succ, List.getElem_toArray, List.getElem_cons_zero, List.getElem_cons_succ]
  refine wpAnyH_off (i := 27) rfl (by kernel_rfl) (by kernel_rfl) (by kernel_rfl) (fun _ _ _ h => h) (by rfl) (by rfl) (by assumption) ?_
  try simp only [Act.put, List.setIfInBounds_toArray, List.set_cons_zero, List.set_cons_succ, List.getElem_toArray, List.getElem_cons_zero, List.getElem_cons_succ]
  refine wpAnyH_take (i := 28) (v := ?_) rfl (by kernel_rfl) (by kernel_rfl) (by kernel_rfl) (fun _ _ _ h => h) (Or.inl ⟨by rfl, ?_⟩) (by assumption) ?_
  rotate_left
  · intro w hSw; (try dsimp only at hSw); go_simp; try with_reducible rfl
  try simp only [Act.put, List.setIfInBounds_toArray, List.set_cons_zero, List.set_cons_succ, List.getElem_toArray, List.getElem_cons_zero, List.getElem_cons_succ]
  refine wpAnyH_take (i := 29) (v := ?_) rfl (by kernel_rfl) (by kernel_rfl) (by kernel_rfl) (fun _ _ _ h => h) (Or.inl ⟨by rfl, ?_⟩) (by assumption) ?_
  rotate_left
  · intro w hSw; (try dsimp only at hSw); go_simp; try with_reducible rfl
  try simp only [Act.put, List.setIfInBounds_toArray, List.set_cons_zero, List.set_cons_succ, List.getElem_toArray, List.getElem_cons_zero, List.getElem_cons_succ]
  refine wpAnyH_done (by kernel_rfl) ?_ _
  have hb8 : Below w3q.heap.size w3q w4 := hb4
  generalize hw9 : w4 = w9 at *
  clear hw9 hat3 hat3' z4q z5q n4 n5 hyin
  have hb9 : Below w.heap.size w w9 := hb3q.trans (hb8.mono hs3q)
  clear hb8
  have hat9 := hat.below hb9 hB
  have c10 := hat9.c10
  clear hat9
  go_wp2_with fail
  go_loopw [124] (fun i wr => ∃ j : Nat, j ≤ t.ks.length ∧ i = .int .i64 j ∧ Below w.heap.size w wr) (fun i _ => t.ks.length - (intOf i).toNat)
  case atStart => exact ⟨0, by omega, rfl, hb9⟩
  case round =>
    obtain ⟨j, hj, rfl, hb0⟩ := hrel
    by_cases hlt : j < t.ks.length
    · have hk := List.getElem?_eq_getElem hlt
      generalize hkid : t.ks[j] = kid at hk
      have hr1 := hat.below hb0 hB
      have hr1' := hat'.below hb0 hB
      obtain ⟨kid', hk', hkt⟩ := RTm.TwinL.get htw.eq.2.2.2.2.2.2.2.2 hk
      have HKT := Lib.hid hkt
      obtain ⟨kb, ko, ks, hke, hkat⟩ := hr1.inn.kid hk
      obtain ⟨kb', ko', ks', hke', hkat'⟩ := hr1'.inn.kid hk'
      have hnk := RTm.kid_nodes hk
      have hkr := Lib.hid (RTm.right_kid Hr.out hk)
      have q1 := hr1.c10
      have q2 := hr1'.c10
      rw [hke] at q1
      rw [hke', HL.out] at q2
      have hbs := hb0.size
      have hcall := Lib.hid fun (W : World) (hW : Below wr.heap.size wr W) => ih kid kid' B kb (ko + j * 11) kb' (ko' + j * 11) ks ks' W (by omega) (hkat.below hW (by omega)) (hkat'.below hW (by omega)) hkr.out HKT.out (by have := hW.size; omega)
      clear hk hkid hke hke' hr1 hr1' hkat hkat' hkt hk'
      go_wp2_with fail
      go_region_held3 (fun w' => w'.cell? ⟨b, o + 10, none⟩ = some (.slice (some ⟨kb, ko, none⟩) t.ks.length s.kc) ∧ w'.cell? ⟨b', o' + 10, none⟩ = some (.slice (some ⟨kb', ko', none⟩) t.ks.length s'.kc))
        (first | exact ⟨q1, q2⟩ | exact ⟨cell_kept hb1 q1, cell_kept hb1 q2⟩)
        (first | (go_at_call 60; refine (hcall.out _ ?_).mono ?_; (repeat (first | assumption | exact Below.refl _ _ | apply below_drewN | apply Below.drew | (refine Below.alloc ?_ (by first | omega | (simp; done) | (simp; omega)) _) | (refine Below.setCell ?_ (by first | omega | (simp; done) | (simp; omega)) _))); rintro e w1 ⟨rfl, hb1⟩))
      have hb2 : Below w.heap.size w w1 := hb0.trans (Below.trans (Below.refl w.heap.size wr).drew (hb1.mono (by simp; omega)))
      go_wp2_with fail
      go_round
      case rel => exact ⟨j + 1, by omega, by go_num, hb2⟩
      case measure => simp [intOf]; omega
    · go_wp2_with fail
      go_ret
      exact ⟨rfl, hb0⟩
end Go.Proofs.Ytaoodchjggimcaa
