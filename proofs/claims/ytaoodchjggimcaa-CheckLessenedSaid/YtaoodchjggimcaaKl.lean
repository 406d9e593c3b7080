/- Of a term and a row of bools, whatever they are, CheckLessened returns true, and both read afterwards as before: no condition. -/
import Derived.Test.YtaoodchjggimcaaBl1
import Derived.Test.YtaoodchjggimcaaBl2
import Derived.Test.YtaoodchjggimcaaBc2
import Derived.Test.YtaoodchjggimcaaBa2
import Derived.Test.YtaoodchjggimcaaRows
import Derived.Test.YtaoodchjggimcaaBa3
import Derived.WalkKit
import Derived.ProofKit
import Derived.OpenShut
import Derived.ShutString
import Derived.ChangeOld
import Derived.Below
import Derived.SizedLaws
import Derived.Carry

/- The walk of the law CheckLessened. -/
set_option linter.unusedVariables false
set_option linter.unusedSimpArgs false
namespace Go.Proofs.Ytaoodchjggimcaa
open Go.RowKit

theorem RTm.Le.twin {t u : RTm} (h : t.opened = u.opened) : t.opened.Twin u.opened := by rw [h]; exact RTm.twin_refl _
set_option maxRecDepth 100000 in
set_option maxHeartbeats 4000000 in
theorem checkLessened_any (t : RTm) (l : List Bool) (la : Option Addr) (lc : Nat) (B : Nat) (s : TmSh) (w : World) (hin : t.In w B s) (hl : BoolsAt w B la l) (hB : B ≤ w.heap.size) :
    Calls Try.prog 6 #[t.v s, .slice la l.length lc] w fun e w' => e = .returned (.bool true) ∧ Below w.heap.size w w' := by
  have hll := hl.1
  go_enter Try.func6, Try.ntmps6
  go_upto_region 1 with fail
  generalize hW : World.alloc w _ = w0
  have hb0 : Below w.heap.size w w0 := by rw [← hW]; (repeat (first | assumption | exact Below.refl _ _ | apply below_drewN | apply Below.drew | (refine Below.alloc ?_ (by first | omega | (simp; done) | (simp; omega)) _) | (refine Below.setCell ?_ (by first | omega | (simp; done) | (simp; omega)) _)))
  have hz0 : w0.heap.size = w.heap.size + 1 := by rw [← hW]; simp
  have A0 : AtRow w0 (w.heap.size) (.int .i8 t.k) (.string t.name) (.string t.arg) (.int .i64 t.num) (.int .i8 t.ty.k) (.slice s.ta t.ty.ks.length s.tc) (.int .i8 t.to.k) (.slice s.oa t.to.ks.length s.oc) (.int .i64 t.label) (.int .i64 t.spot) (.slice s.ka t.ks.length s.kc) := by rw [← hW]; exact { c0 := by simp [go_sem], f0 := by simp [go_sem], c1 := by simp [go_sem], f1 := by simp [go_sem], c2 := by simp [go_sem], f2 := by simp [go_sem], c3 := by simp [go_sem], f3 := by simp [go_sem], c4 := by simp [go_sem], f4 := by simp [go_sem], c5 := by simp [go_sem], f5 := by simp [go_sem], c6 := by simp [go_sem], f6 := by simp [go_sem], c7 := by simp [go_sem], f7 := by simp [go_sem], c8 := by simp [go_sem], f8 := by simp [go_sem], c9 := by simp [go_sem], f9 := by simp [go_sem], c10 := by simp [go_sem], f10 := by simp [go_sem] }
  clear hW
  have c0 := A0.c0
  have c1 := A0.c1
  have c2 := A0.c2
  have c3 := A0.c3
  have c4 := A0.c4
  have c5 := A0.c5
  have c6 := A0.c6
  have c7 := A0.c7
  have c8 := A0.c8
  have c9 := A0.c9
  have c10 := A0.c10
  go_wp2_with fail
  refine (checkType_any t B s w0 (hin.below hb0 hB) (by omega)).mono ?_
  intro e w1 hg1
  clear c0 c1 c2 c3 c4 c5 c6 c7 c8 c9 c10
  cases hr1 : gradual.type t 17 with
  | error f1 =>
    rw [hr1] at hg1
    have HR1 := Lib.hid hr1
    clear hr1
    obtain ⟨fb1, rfl, g1, g2, g3, hb1⟩ := hg1
    clear g1 g2 g3
    have hs1 := hb1.size
    have hbw1 := hb0.trans (hb1.mono (by omega))
    go_wp2_with fail
    generalize hV : World.alloc w1 _ = w2
    have hb2 : Below w1.heap.size w1 w2 := by rw [← hV]; (repeat (first | assumption | exact Below.refl _ _ | apply below_drewN | apply Below.drew | (refine Below.alloc ?_ (by first | omega | (simp; done) | (simp; omega)) _) | (refine Below.setCell ?_ (by first | omega | (simp; done) | (simp; omega)) _)))
    clear hV
    have hs2 := hb2.size
    have hcall := kind_any RTy.unk.nodes RTy.unk RTy.unk w2.heap.size none none 0 0 w2 (Nat.le_refl _) (RTy.unk_in _ _ _) (RTy.unk_in _ _ _) (Nat.le_refl _)
    simp only [RTy.unk_k, RTy.unk_len] at hcall
    refine hcall.mono ?_
    clear hcall
    rintro e w3 ⟨rfl, hb3⟩
    rw [RTy.kin_refl]
    go_wp2_with fail
    go_ret
    exact ⟨rfl, hbw1.trans ((hb2.trans (hb3.mono hs2)).mono hbw1.size)⟩
  | ok a =>
    rw [hr1] at hg1
    have hlaw := lessenedLaw l hr1
    have HR1 := Lib.hid hr1
    clear hr1
    obtain ⟨aa, ac, rfl, ha, hb1⟩ := hg1
    have hs1 := hb1.size
    have hbw1 := hb0.trans (hb1.mono (by omega))
    have hok := RTm.ok_iff.1 (RTm.ok_of_check hlaw.tc)
    have hrt := Lib.hid hok.2.2
    have hnn := hok.1
    clear hok
    have A0 := A0.on hb1 (by omega)
    have hm0 : w.heap.size < w1.heap.size := by omega
    have ha : a.In w1 w1.heap.size aa := RTy.InS.up ha fun b hb => hb.2
    have c0 := A0.c0
    have c1 := A0.c1
    have c2 := A0.c2
    have c3 := A0.c3
    have c4 := A0.c4
    have c5 := A0.c5
    have c6 := A0.c6
    have c7 := A0.c7
    have c8 := A0.c8
    have c9 := A0.c9
    have c10 := A0.c10
    go_wp2_with fail
    generalize hV : World.alloc w1 _ = w2
    have hb2 : Below w1.heap.size w1 w2 := by rw [← hV]; (repeat (first | assumption | exact Below.refl _ _ | apply below_drewN | apply Below.drew | (refine Below.alloc ?_ (by first | omega | (simp; done) | (simp; omega)) _) | (refine Below.setCell ?_ (by first | omega | (simp; done) | (simp; omega)) _)))
    have a0 : w2.cell? ⟨w1.heap.size, 0, none⟩ = some (.int .i8 a.k) := by rw [← hV]; simp [go_sem]
    have a1 : w2.cell? ⟨w1.heap.size, 1, none⟩ = some (.slice aa a.ks.length ac) := by rw [← hV]; simp [go_sem]
    have hz2 : w2.heap.size = w1.heap.size + 1 := by rw [← hV]; simp
    clear hV
    have hbw2 := hbw1.trans (hb2.mono hbw1.size)
    have A0 := A0.on hb2 (by omega)
    have ha := ha.below hb2 (Nat.le_refl _)
    clear c0 c1 c2 c3 c4 c5 c6 c7 c8 c9 c10
    have hcall := lessened_any l la lc t.nodes t 0 B s w2 (Nat.le_refl _) (hin.below hbw2 hB) (hl.below hbw2 hB) hrt.out (by omega) (by omega)
    rw [show ((0 : Nat) : Int) = 0 from rfl] at hcall
    refine hcall.mono ?_
    clear hcall
    rintro e w3 ⟨s1, rfl, hin1, hb3⟩
    have hs3 := hb3.size
    have hbw3 := hbw2.trans (hb3.mono hbw2.size)
    have A0 := A0.on hb3 (by omega)
    have a0 := cell_kept hb3 a0
    have a1 := cell_kept hb3 a1
    have ha := ha.below hb3 (by omega)
    generalize hU : (t.lessen l 0).1 = u at *
    clear hU
    go_upto_region 5 with fail
    generalize hW : World.alloc w3 _ = w4
    have hb4 : Below w3.heap.size w3 w4 := by rw [← hW]; (repeat (first | assumption | exact Below.refl _ _ | apply below_drewN | apply Below.drew | (refine Below.alloc ?_ (by first | omega | (simp; done) | (simp; omega)) _) | (refine Below.setCell ?_ (by first | omega | (simp; done) | (simp; omega)) _)))
    have hz4 : w4.heap.size = w3.heap.size + 1 := by rw [← hW]; simp
    have A2 : AtRow w4 (w3.heap.size) (.int .i8 u.k) (.string u.name) (.string u.arg) (.int .i64 u.num) (.int .i8 u.ty.k) (.slice s1.ta u.ty.ks.length s1.tc) (.int .i8 u.to.k) (.slice s1.oa u.to.ks.length s1.oc) (.int .i64 u.label) (.int .i64 u.spot) (.slice s1.ka u.ks.length s1.kc) := by
      rw [← hW]
      exact { c0 := by simp [go_sem], f0 := by simp [go_sem], c1 := by simp [go_sem], f1 := by simp [go_sem], c2 := by simp [go_sem], f2 := by simp [go_sem], c3 := by simp [go_sem], f3 := by simp [go_sem], c4 := by simp [go_sem], f4 := by simp [go_sem], c5 := by simp [go_sem], f5 := by simp [go_sem], c6 := by simp [go_sem], f6 := by simp [go_sem], c7 := by simp [go_sem], f7 := by simp [go_sem], c8 := by simp [go_sem], f8 := by simp [go_sem], c9 := by simp [go_sem], f9 := by simp [go_sem], c10 := by simp [go_sem], f10 := by simp [go_sem] }
    clear hW
    have hbw4 := hbw3.trans (hb4.mono hbw3.size)
    have A0 := A0.on hb4 (by omega)
    have a0 := cell_kept hb4 a0
    have a1 := cell_kept hb4 a1
    have ha := ha.below hb4 (by omega)
    have hin1 : u.In w4 w4.heap.size s1 := RTm.InS.mono (fun b hb => by rcases hb with hb | hb <;> (show b < w4.heap.size; omega)) (fun b o hb => hb4.cell (p := ⟨b, o, none⟩) (by rcases hb with hb | hb <;> (show b < w3.heap.size; omega))) hin1
    have d0 := A2.c0
    have d1 := A2.c1
    have d2 := A2.c2
    have d3 := A2.c3
    have d4 := A2.c4
    have d5 := A2.c5
    have d6 := A2.c6
    have d7 := A2.c7
    have d8 := A2.c8
    have d9 := A2.c9
    have d10 := A2.c10
    go_wp2_with fail
    refine (checkType_any u w4.heap.size s1 w4 hin1 (Nat.le_refl _)).mono ?_
    intro e w5 hg5
    clear d0 d1 d2 d3 d4 d5 d6 d7 d8 d9 d10
    obtain ⟨b, hbt, hless⟩ := hlaw.typed
    rw [hbt] at hg5
    clear hbt
    obtain ⟨ba, bc, rfl, hbin, hb5⟩ := hg5
    have HLS := Lib.hid hless
    clear hless
    have hs5 := hb5.size
    have hbw5 := hbw4.trans (hb5.mono hbw4.size)
    have A0 := A0.on hb5 (by omega)
    have A2 := A2.on hb5 (by omega)
    have a0 := cell_kept hb5 a0
    have a1 := cell_kept hb5 a1
    have ha := ha.below hb5 (by omega)
    have hin1 := hin1.below hb5 (Nat.le_refl _)
    have hbin : b.In w5 w5.heap.size ba := RTy.InS.up hbin fun b hb => hb.2
    have hm1 : w3.heap.size < w5.heap.size := by omega
    have hm2 : w.heap.size < w5.heap.size := by omega
    have c0 := A0.c0
    have c1 := A0.c1
    have c2 := A0.c2
    have c3 := A0.c3
    have c4 := A0.c4
    have c5 := A0.c5
    have c6 := A0.c6
    have c7 := A0.c7
    have c8 := A0.c8
    have c9 := A0.c9
    have c10 := A0.c10
    have d0 := A2.c0
    have d1 := A2.c1
    have d2 := A2.c2
    have d3 := A2.c3
    have d4 := A2.c4
    have d5 := A2.c5
    have d6 := A2.c6
    have d7 := A2.c7
    have d8 := A2.c8
    have d9 := A2.c9
    have d10 := A2.c10
    go_wp2_with fail
    generalize hV : World.alloc w5 _ = w6
    have hb6 : Below w5.heap.size w5 w6 := by rw [← hV]; (repeat (first | assumption | exact Below.refl _ _ | apply below_drewN | apply Below.drew | (refine Below.alloc ?_ (by first | omega | (simp; done) | (simp; omega)) _) | (refine Below.setCell ?_ (by first | omega | (simp; done) | (simp; omega)) _)))
    have e0 : w6.cell? ⟨w5.heap.size, 0, none⟩ = some (.int .i8 b.k) := by rw [← hV]; simp [go_sem]
    have e1 : w6.cell? ⟨w5.heap.size, 1, none⟩ = some (.slice ba b.ks.length bc) := by rw [← hV]; simp [go_sem]
    have hz6 : w6.heap.size = w5.heap.size + 1 := by rw [← hV]; simp
    clear hV
    have hbw6 := hbw5.trans (hb6.mono hbw5.size)
    have a0 := cell_kept hb6 a0
    have a1 := cell_kept hb6 a1
    have ha := ha.below hb6 (by omega)
    have hbin := hbin.below hb6 (Nat.le_refl _)
    have hin1 := hin1.below hb6 (by omega)
    clear c0 c1 c2 c3 c4 c5 c6 c7 c8 c9 c10
    clear d0 d1 d2 d3 d4 d5 d6 d7 d8 d9 d10
    refine (Terms_any u t w6.heap.size s1 s w6 (hin1.up (by omega)) ((hin.below hbw6 hB).up (by have := hbw6.size; omega)) hlaw.uc hlaw.tc hlaw.u17 hlaw.t17 hlaw.leA (by rw [hlaw.opened]; exact hlaw.oc) hlaw.oc (RTm.Le.twin hlaw.opened) (Nat.le_refl _)).mono ?_
    rintro e w7 ⟨rfl, hb7⟩
    have hs7 := hb7.size
    have hbw7 := hbw6.trans (hb7.mono hbw6.size)
    have a0 := cell_kept hb7 a0
    have a1 := cell_kept hb7 a1
    have e0 := cell_kept hb7 e0
    have e1 := cell_kept hb7 e1
    have ha := ha.below hb7 (by omega)
    have hbin := hbin.below hb7 (by omega)
    go_wp2_with fail
    refine (Less_any b a w7.heap.size ba aa bc ac w7 (hbin.up (by omega)) (ha.up (by omega)) (Nat.le_refl _)).mono ?_
    rintro e w8 ⟨rfl, hb8⟩
    rw [HLS.out]
    go_wp2_with fail
    go_ret
    exact ⟨rfl, hbw7.trans (hb8.mono hbw7.size)⟩
end Go.Proofs.Ytaoodchjggimcaa

namespace Go.Proofs.Ytaoodchjggimcaa.checkLessened
open Go.ChangeShapes Go.WideShapes Go.ChangeAt Go.RowKit
set_option linter.unusedVariables false
theorem own : ownKnob Try.prog.godebug = none := by kernel_rfl
theorem laidOut : laidOutB Try.prog = true := by kernel_rfl
set_option maxRecDepth 100000 in
theorem lifted (os : Os) (started : os.Started) (H : Type) (enc : TypeId × Value → H) :
    ReturnsInHanded {} Try.checked os 6 .any (Rows.checkLessenedSpec.pre6 enc Try.prog Try.f6 Rows.checkLessenedRow.domain false) (Rows.checkLessenedSpec.post enc Try.prog Try.f6 false true false false) := by
  refine returnsInHanded_of_change_sized (C := Try.checked) own started (by kernel_rfl) Try.func6
    (ChangeSpec.witness6 (enc := enc) (C := Try.checked) false ⟨#[], #[.agg #[.int .i8 0, .string ByteArray.empty, .string ByteArray.empty, .int .i64 0, .int .i8 0, .slice none 0 0, .int .i8 0, .slice none 0 0, .int .i64 0, .int .i64 0, .slice none 0 0], .slice none 0 0], []⟩ 8 (by kernel_rfl) (by kernel_rfl) (by kernel_rfl) (by kernel_rfl)) ?_
  intro W base args ds gs before hval0 hW hcnd hsz0 _
  have hsz : (DataW.weightsEach Try.prog (Try.f6.params.toList ++ Rows.checkLessenedSpec.plain.varTypes Try.prog) (ds ++ gs)).all (· ≤ reachBytes) = true := hsz0
  have hval : ∀ (j : Nat) t v, Try.f6.params[j]? = some t → args[j]? = some v → Value.okWide Try.prog W .any base t v := hval0
  have hW' := hW
  obtain ⟨p, q, hA0, hV, rfl, hfz, hnd⟩ := hW
  have hA : DataW.TrodAll enc Try.prog W 0 (fun _ => true) true Try.f6.params.toList args.toList ds p := hA0
  rw [Try.params6] at hA hval hsz
  obtain ⟨v0, vs0, d0, ds0, p0, q0, hargs, rfl, rfl, h0, r0⟩ := trodAll_cons hA
  obtain ⟨v1, vs1, d1, ds1, p1, q1, rfl, rfl, rfl, h1, r1⟩ := trodAll_cons r0
  obtain ⟨rfl, rfl, rfl⟩ := trodAll_nil r1
  obtain rfl : args = #[v0, v1] := by cases args; simp_all
  obtain ⟨rfl, rfl⟩ := trodVars_none hV
  have k0 := h0
  have lt0 : ∀ x ∈ p0, x.block < W.heap.size := by obtain ⟨m, hm⟩ := k0; exact DataW.trod_lt m _ _ _ hm
  have li0 : Light 28 d0 := fun n hn => by
    have h := List.all_eq_true.1 hsz n (DataW.weights_mem_each (j := 0) (t := 28) (d := d0) rfl rfl n hn)
    exact of_decide_eq_true h
  obtain ⟨cs0, rfl, hs0⟩ := okWide_struct Try.underlying28 (hval 0 28 v0 rfl rfl)
  obtain ⟨t0, s0, hcs0, hin0⟩ : ∃ (t : RTm) (s : TmSh), cs0.toList = t.cells s ∧ t.In W W.heap.size s := by
    obtain ⟨m, hm⟩ := h0
    exact open_tm m _ _ hm li0
  obtain rfl : cs0 = #[.int .i8 t0.k, .string t0.name, .string t0.arg, .int .i64 t0.num, .int .i8 t0.ty.k, .slice s0.ta t0.ty.ks.length s0.tc, .int .i8 t0.to.k, .slice s0.oa t0.to.ks.length s0.oc, .int .i64 t0.label, .int .i64 t0.spot, .slice s0.ka t0.ks.length s0.kc] := by cases cs0; simpa using hcs0
  have k1 := h1
  have lt1 : ∀ x ∈ p1, x.block < W.heap.size := by obtain ⟨m, hm⟩ := k1; exact DataW.trod_lt m _ _ _ hm
  have li1 : Light 43 d1 := fun n hn => by
    have h := List.all_eq_true.1 hsz n (DataW.weights_mem_each (j := 1) (t := 43) (d := d1) rfl rfl n hn)
    exact of_decide_eq_true h
  obtain ⟨xa1, xn1, xc1, rfl⟩ := okWide_slice Try.underlying43 (hval 1 43 v1 rfl rfl)
  obtain ⟨l1, la1, lc1, he1, hb1⟩ : ∃ (l : List Bool) (a : Option Addr) (c : Nat), Value.slice xa1 xn1 xc1 = .slice a l.length c ∧ BoolsAt W W.heap.size a l := by
    obtain ⟨m, hm⟩ := h1
    obtain ⟨l, a, c, h1, h2⟩ := open_bools_at m _ _ hm li1
    have h1' : [Value.slice xa1 xn1 xc1] = [.slice a l.length c] := h1
    exact ⟨l, a, c, by simpa using h1', h2⟩
  simp only [Value.slice.injEq] at he1
  obtain ⟨rfl, rfl, rfl⟩ := he1
  clear hA0 hval0 hsz0 hsz
  refine (checkLessened_any t0 l1 xa1 xc1 W.heap.size s0 W hin0 hb1 (Nat.le_refl _)).mono fun e W' ⟨he, bel⟩ => ?_
  subst he
  exact ⟨_, rfl, _, _, _, [], _, [], hW', trodAll_mk1 (shut_bool Try.underlying4 _), (trodAll_cons_mk (Below.trod laidOut (by kernel_rfl) (of_decide_eq_true (by kernel_rfl)) k0 bel lt0) (trodAll_cons_mk (Below.trod laidOut (by kernel_rfl) (of_decide_eq_true (by kernel_rfl)) k1 bel lt1) trodAll_mk0)), rfl, bel.frame _, fun h => by cases h⟩
theorem over : Rows.checkLessenedRow.holds Try.pinned (OpenSpec.ofChange Rows.checkLessenedSpec) :=
  OpenClaim.holds_of_wide 6 Try.f6 rfl rfl rfl rfl rfl rfl rfl ⟨rfl, rfl, rfl, rfl, rfl⟩ rfl rfl rfl rfl rfl (by kernel_rfl) Try.func6 (by kernel_rfl)
    (of_decide_eq_true (by kernel_rfl)) (by unfold Func.isWrapper; first | (rw [if_pos (by decide +kernel)]; kernel_rfl) | (rw [if_neg (by decide +kernel)]; exact ⟨rfl, rfl⟩))
    (fun os started H enc _ => lifted os started H enc)
theorem proved : Rows.CheckLessenedSaid := over
#print axioms proved
end Go.Proofs.Ytaoodchjggimcaa.checkLessened
namespace Go.Proofs.Ytaoodchjggimcaa
/-- The row, under a short name, for the claim. -/
theorem checkLessened_holds : Rows.CheckLessenedSaid := checkLessened.proved
end Go.Proofs.Ytaoodchjggimcaa
