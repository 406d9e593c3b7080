/- Parts of proofs about package rules and what it stands on: contracts of functions, and plain laws. -/
import Derived.Test.YtaoodchjggimcaaBa0
import Derived.Test.YtaoodchjggimcaaBa1
import Derived.Deep.AppendLies
import Derived.Deep.RegionWith
import Derived.Deep.RegionLaw
import Derived.Deep.DeepMust
import Derived.RegionTactic
import Derived.ChangeAlike
import Derived.Deep.RegionHeld3
import Derived.Deep.DeepCutAuto

/- The walk of the law's tooGreat; a pair of two terms in new memory. -/
set_option linter.unusedVariables false
set_option linter.unusedSimpArgs false
namespace Go.Proofs.Ytaoodchjggimcaa
open Go.RowKit

def pairSh (b : Nat) : TmSh := ⟨none, 0, none, 0, some ⟨b, 0, none⟩, 2⟩
theorem pairT_fine (t u : RTm) : (pairT t u).Fine :=
  ⟨by show -128 ≤ (9 : Int) ∧ (9 : Int) ≤ 127; omega, by show (0 : Nat) ≤ _; omega, by show (0 : Nat) ≤ _; omega, by show -9223372036854775808 ≤ (0 : Int) ∧ (0 : Int) ≤ _; omega, by show -9223372036854775808 ≤ (0 : Int) ∧ (0 : Int) ≤ _; omega, by show -9223372036854775808 ≤ (0 : Int) ∧ (0 : Int) ≤ _; omega, by show 2 ≤ _; omega⟩
theorem pairT_in {W : World} {b C : Nat} {t u : RTm} {s s' : TmSh} (hb : b < C) (hin : t.In W C s) (hin' : u.In W C s') (h : CellsAt W b 0 (t.cells s)) (h' : CellsAt W b 11 (u.cells s')) : (pairT t u).In W C (pairSh b) := by
  refine RTm.InS.of (pairT_fine t u) (RTy.unk_in _ _ _) (RTy.unk_in _ _ _) ?_
  show RTm.InsS W _ (some ⟨b, 0, none⟩) 0 [t, u]
  refine RTm.InsS.mk (S := fun b => b < C) (o := 0) hb fun j x hj => ?_
  match j, hj with
  | 0, hj => cases hj; exact ⟨s, h, hin⟩
  | 1, hj => cases hj; exact ⟨s', h', hin'⟩
  | n + 2, hj => simp at hj
/-- Two terms' cells, in one new block. -/
theorem two_cells {w : World} {t u : RTm} {s s' : TmSh} {E : TypeId} {cs : Array Value} (hcs : cs = (t.cells s ++ u.cells s').toArray) :
    CellsAt (w.alloc (.cells cs E)) w.heap.size 0 (t.cells s) ∧ CellsAt (w.alloc (.cells cs E)) w.heap.size 11 (u.cells s') := by
  subst hcs
  refine ⟨fun j v hj => ?_, fun j v hj => ?_⟩
  · rw [World.cell?_alloc_new, Nat.zero_add]
    match j, hj with
    | 0, hj => exact hj
    | 1, hj => exact hj
    | 2, hj => exact hj
    | 3, hj => exact hj
    | 4, hj => exact hj
    | 5, hj => exact hj
    | 6, hj => exact hj
    | 7, hj => exact hj
    | 8, hj => exact hj
    | 9, hj => exact hj
    | 10, hj => exact hj
    | n + 11, hj => simp at hj
  · rw [World.cell?_alloc_new]
    match j, hj with
    | 0, hj => exact hj
    | 1, hj => exact hj
    | 2, hj => exact hj
    | 3, hj => exact hj
    | 4, hj => exact hj
    | 5, hj => exact hj
    | 6, hj => exact hj
    | 7, hj => exact hj
    | 8, hj => exact hj
    | 9, hj => exact hj
    | 10, hj => exact hj
    | n + 11, hj => simp at hj
theorem pairT_new {w : World} {B : Nat} {t u : RTm} {s s' : TmSh} {E : TypeId} {cs : Array Value} (hcs : cs = (t.cells s ++ u.cells s').toArray) (hin : t.In w B s) (hin' : u.In w B s') (hB : B ≤ w.heap.size) : (pairT t u).In (w.alloc (.cells cs E)) (w.heap.size + 1) (pairSh w.heap.size) := by
  have h := two_cells (w := w) (E := E) hcs
  exact pairT_in (Nat.lt_succ_self _) ((hin.below (below_new _ _) hB).up (by omega)) ((hin'.below (below_new _ _) hB).up (by omega)) h.1 h.2

set_option maxRecDepth 100000 in
set_option maxHeartbeats 4000000 in
theorem tooGreat_any (t u : RTm) (x y : RTy) (B : Nat) (s s' : TmSh) (xa ya : Option Addr) (xc yc : Nat) (w : World) (hin : t.In w B s) (hin' : u.In w B s') (hx : x.In w B xa) (hy : y.In w B ya) (hB : B ≤ w.heap.size) :
    Calls Try.prog 12 #[t.v s, u.v s', .agg #[.int .i8 x.k, .slice xa x.ks.length xc], .agg #[.int .i8 y.k, .slice ya y.ks.length yc]] w fun e w' =>
      e = .returned (.bool (!((pairT t u).check == 0) || !((RTy.mk 4 [x, y]).check == 0))) ∧ Below w.heap.size w w' := by
  go_enter Try.func12, Try.ntmps12
  go_wp2_with fail
  generalize hV : World.alloc (World.alloc (World.alloc (World.alloc w _) _) _) _ = w4
  have hb4 : Below w.heap.size w w4 := by rw [← hV]; (repeat (first | assumption | exact Below.refl _ _ | apply below_drewN | apply Below.drew | (refine Below.alloc ?_ (by first | omega | (simp; done) | (simp; omega)) _) | (refine Below.setCell ?_ (by first | omega | (simp; done) | (simp; omega)) _)))
  have hz4 : w4.heap.size = w.heap.size + 1 + 1 + 1 + 1 := by rw [← hV]; simp
  have p0 : w4.cell? ⟨w.heap.size + 1 + 1, 0, none⟩ = some (.int .i8 x.k) := by rw [← hV]; simp [go_sem]
  have p1 : w4.cell? ⟨w.heap.size + 1 + 1, 1, none⟩ = some (.slice xa x.ks.length xc) := by rw [← hV]; simp [go_sem]
  have p2 : w4.cell? ⟨w.heap.size + 1 + 1 + 1, 0, none⟩ = some (.int .i8 y.k) := by rw [← hV]; simp [go_sem]
  have p3 : w4.cell? ⟨w.heap.size + 1 + 1 + 1, 1, none⟩ = some (.slice ya y.ks.length yc) := by rw [← hV]; simp [go_sem]
  clear hV
  have hp := pairT_new (w := w4) (E := 28) (cs := #[.int .i8 t.k, .string t.name, .string t.arg, .int .i64 t.num, .int .i8 t.ty.k, .slice s.ta t.ty.ks.length s.tc, .int .i8 t.to.k, .slice s.oa t.to.ks.length s.oc, .int .i64 t.label, .int .i64 t.spot, .slice s.ka t.ks.length s.kc, .int .i8 u.k, .string u.name, .string u.arg, .int .i64 u.num, .int .i8 u.ty.k, .slice s'.ta u.ty.ks.length s'.tc, .int .i8 u.to.k, .slice s'.oa u.to.ks.length s'.oc, .int .i64 u.label, .int .i64 u.spot, .slice s'.ka u.ks.length s'.kc]) rfl (hin.below hb4 hB) (hin'.below hb4 hB) (by omega)
  rw [hz4] at hp
  generalize hW : World.alloc w4 _ = w0 at *
  have hb0 : Below w4.heap.size w4 w0 := by rw [← hW]; (repeat (first | assumption | exact Below.refl _ _ | apply below_drewN | apply Below.drew | (refine Below.alloc ?_ (by first | omega | (simp; done) | (simp; omega)) _) | (refine Below.setCell ?_ (by first | omega | (simp; done) | (simp; omega)) _)))
  have hz0 : w0.heap.size = w.heap.size + 1 + 1 + 1 + 1 + 1 := by rw [← hW]; simp [hz4]
  clear hW
  have hb : Below w.heap.size w w0 := hb4.trans (hb0.mono (by omega))
  have p0 := cell_kept hb0 p0
  have p1 := cell_kept hb0 p1
  have p2 := cell_kept hb0 p2
  have p3 := cell_kept hb0 p3
  have hcall := mcheck_any (pairT t u) (w.heap.size + 1 + 1 + 1 + 1 + 1) (pairSh (w.heap.size + 1 + 1 + 1 + 1)) w0 hp (by omega)
  have hz0' : w.heap.size + 1 + 1 + 1 + 1 + 1 ≤ w0.heap.size := by omega
  clear hz0 hz4 hp hb0 hb4
  refine hcall.mono ?_
  clear hcall
  rintro e w1 ⟨rfl, hb1⟩
  have hs1 := hb1.size
  by_cases hc : (pairT t u).check = 0
  · have hcn : ((pairT t u).check != 0) = false := by simp [hc]
    have hce : ((pairT t u).check == 0) = true := by simp [hc]
    clear hc
    have p0 := cell_kept hb1 p0
    have p1 := cell_kept hb1 p1
    have p2 := cell_kept hb1 p2
    have p3 := cell_kept hb1 p3
    go_wp2_with fail
    generalize hW : World.alloc w1 _ = w2
    have hb2 : Below w1.heap.size w1 w2 := by rw [← hW]; (repeat (first | assumption | exact Below.refl _ _ | apply below_drewN | apply Below.drew | (refine Below.alloc ?_ (by first | omega | (simp; done) | (simp; omega)) _) | (refine Below.setCell ?_ (by first | omega | (simp; done) | (simp; omega)) _)))
    have q0 : w2.cell? ⟨w1.heap.size, 0, none⟩ = some (.int .i8 x.k) := by rw [← hW]; simp [go_sem]
    have q1 : w2.cell? ⟨w1.heap.size, 1, none⟩ = some (.slice xa x.ks.length xc) := by rw [← hW]; simp [go_sem]
    have q2 : w2.cell? ⟨w1.heap.size, 2, none⟩ = some (.int .i8 y.k) := by rw [← hW]; simp [go_sem]
    have q3 : w2.cell? ⟨w1.heap.size, 3, none⟩ = some (.slice ya y.ks.length yc) := by rw [← hW]; simp [go_sem]
    have hz2 : w1.heap.size < w2.heap.size := by rw [← hW]; simp
    clear hW
    have hb01 : Below w.heap.size w w1 := hb.trans (hb1.mono (by omega))
    have hbw2 : Below w.heap.size w w2 := hb01.trans (hb2.mono (by omega))
    have hcall := tcheck_any (.mk 4 [x, y]) w2.heap.size (some ⟨w1.heap.size, 0, none⟩) 2 w2 (RTy.in_two ⟨by omega, by omega⟩ hz2 ((hx.below hbw2 hB).up (by omega)) ((hy.below hbw2 hB).up (by omega)) q0 q1 q2 q3) (Nat.le_refl _)
    refine hcall.mono ?_
    clear hcall
    rintro e w3 ⟨rfl, hb3⟩
    have hbe : Below w.heap.size w w3 := hbw2.trans (hb3.mono (by omega))
    by_cases hd : (RTy.mk 4 [x, y]).check = 0
    · have hdn : ((RTy.mk 4 [x, y]).check != 0) = false := by simp [hd]
      have hde : ((RTy.mk 4 [x, y]).check == 0) = true := by simp [hd]
      clear hd
      go_wp2_with fail
      go_ret
      exact ⟨ret_bool (by rw [hce, hde]; rfl), hbe⟩
    · have hdn : ((RTy.mk 4 [x, y]).check != 0) = true := by simp [hd]
      have hde : ((RTy.mk 4 [x, y]).check == 0) = false := by simp [hd]
      clear hd
      go_wp2_with fail
      go_ret
      exact ⟨ret_bool (by rw [hce, hde]; rfl), hbe⟩
  · have hcn : ((pairT t u).check != 0) = true := by simp [hc]
    have hce : ((pairT t u).check == 0) = false := by simp [hc]
    clear hc
    go_wp2_with fail
    go_ret
    exact ⟨ret_bool (by rw [hce]; rfl), hb.trans (hb1.mono (by omega))⟩
end Go.Proofs.Ytaoodchjggimcaa

/- The walks of types.Same and package agree. -/
set_option linter.unusedVariables false
set_option linter.unusedSimpArgs false
namespace Go.Proofs.Ytaoodchjggimcaa
open Go.RowKit

theorem tsame_any (t u : RTy) (B : Nat) (a a' : Option Addr) (c c' : Nat) (w : World) (hin : t.In w B a) (hin' : u.In w B a') (hB : B ≤ w.heap.size) :
    Calls Try.prog 18 #[.agg #[.int .i8 t.k, .slice a t.ks.length c], .agg #[.int .i8 u.k, .slice a' u.ks.length c']] w fun e w' => e = .returned (.bool (t.same u)) ∧ Below w.heap.size w w' := by
  have q0 : ∀ (A B : Obj), Below w.heap.size w ((w.alloc A).alloc B) := fun A B => by (repeat (first | assumption | exact Below.refl _ _ | apply below_drewN | apply Below.drew | (refine Below.alloc ?_ (by first | omega | (simp; done) | (simp; omega)) _) | (refine Below.setCell ?_ (by first | omega | (simp; done) | (simp; omega)) _)))
  have qs : ∀ (A B : Obj), ((w.alloc A).alloc B).heap.size = w.heap.size + 1 + 1 := fun A B => by simp
  have Q0 := Lib.hid q0
  have QS := Lib.hid qs
  clear q0 qs
  by_cases h1 : t.check = 0
  · have h1' : (t.check == 0) = true := by simp [h1]
    have H1 : Hid (t.ok = true) := h1'
    clear h1
    go_enter Try.func18, Try.ntmps18
    go_wp2_with fail
    refine (tcheck_any t B a c _ (hin.below (Q0.out _ _) hB) (by rw [QS.out]; omega)).mono ?_
    rintro e w1 ⟨rfl, hb1⟩
    have hb0 : Below w.heap.size w w1 := Below.trans (Q0.out _ _) (hb1.mono (by rw [QS.out]; omega))
    have hs := hb0.size
    have q1 : w1.cell? ⟨w.heap.size, 0, none⟩ = some (.int .i8 t.k) := cell_kept hb1 (by simp [go_sem])
    have q2 : w1.cell? ⟨w.heap.size, 1, none⟩ = some (.slice a t.ks.length c) := cell_kept hb1 (by simp [go_sem])
    have q3 : w1.cell? ⟨w.heap.size + 1, 0, none⟩ = some (.int .i8 u.k) := cell_kept hb1 (by simp [go_sem])
    have q4 : w1.cell? ⟨w.heap.size + 1, 1, none⟩ = some (.slice a' u.ks.length c') := cell_kept hb1 (by simp [go_sem])
    go_wp2_with fail
    refine (tcheck_any u B a' c' _ (hin'.below hb0 hB) (by omega)).mono ?_
    rintro e w2 ⟨rfl, hb2⟩
    have hb02 := hb0.trans (hb2.mono hs)
    have hs2 := hb02.size
    by_cases h2 : u.check = 0
    · have h2' : (u.check == 0) = true := by simp [h2]
      have H2 : Hid (u.ok = true) := h2'
      clear h2
      have q1 := cell_kept hb2 q1
      have q2 := cell_kept hb2 q2
      have q3 := cell_kept hb2 q3
      have q4 := cell_kept hb2 q4
      go_wp2_with fail
      refine (equal_any t.nodes t u B a a' c c' _ (Nat.le_refl _) (hin.below hb02 hB) (hin'.below hb02 hB) (RTy.ok_right H1.out) (RTy.ok_right H2.out) (by omega)).mono ?_
      rintro e w3 ⟨rfl, hb3⟩
      go_wp2_with fail
      go_ret
      exact ⟨ret_bool (by unfold RTy.same; rw [H1.out, H2.out]; simp), hb02.trans (hb3.mono hs2)⟩
    · have h2' : (u.check == 0) = false := by simp [h2]
      have H2 : Hid (u.ok = false) := h2'
      clear h2
      go_wp2_with fail
      go_ret
      exact ⟨ret_bool (by unfold RTy.same; rw [H2.out]; simp), hb02⟩
  · have h1' : (t.check == 0) = false := by simp [h1]
    have H1 : Hid (t.ok = false) := h1'
    clear h1
    go_enter Try.func18, Try.ntmps18
    go_wp2_with fail
    refine (tcheck_any t B a c _ (hin.below (Q0.out _ _) hB) (by rw [QS.out]; omega)).mono ?_
    rintro e w1 ⟨rfl, hb1⟩
    go_wp2_with fail
    go_ret
    exact ⟨ret_bool (by unfold RTy.same; rw [H1.out]; simp), Below.trans (Q0.out _ _) (hb1.mono (by rw [QS.out]; omega))⟩

theorem level_any (N : Nat) : ∀ (t u : RTy) (B : Nat) (a a' : Option Addr) (c c' : Nat) (w : World), t.nodes ≤ N → t.In w B a → u.In w B a' → t.right = true → u.right = true → B ≤ w.heap.size →
    Calls Try.prog 50 #[.agg #[.int .i8 t.k, .slice a t.ks.length c], .agg #[.int .i8 u.k, .slice a' u.ks.length c']] w fun e w' => e = .returned (.bool (t.lev u)) ∧ Below w.heap.size w w' := by
  induction N with
  | zero => intro t u B a a' c c' w h; have := t.nodes_pos; omega
  | succ N ih =>
  intro t u B a a' c c' w hN hin hin' hr hr' hB
  have hlen := hin.len
  have hlen' := hin'.len
  have hre := Lib.hid (t.lev_eq u)
  by_cases h1 : t.k = 0
  · have e : t.lev u = true := by rw [hre.out]; simp [h1]
    have h1' : (t.k == 0) = true := by simp [h1]
    clear h1 hr hr'
    go_enter Try.func50, Try.ntmps50
    go_wp2_with fail
    go_ret
    exact ⟨ret_bool e.symm, by (repeat (first | assumption | exact Below.refl _ _ | apply below_drewN | apply Below.drew | (refine Below.alloc ?_ (by first | omega | (simp; done) | (simp; omega)) _) | (refine Below.setCell ?_ (by first | omega | (simp; done) | (simp; omega)) _)))⟩
  have h1' : (t.k == 0) = false := by simp [h1]
  by_cases h2 : u.k = 0
  · have e : t.lev u = true := by rw [hre.out]; simp [h2]
    have h2' : (u.k == 0) = true := by simp [h2]
    clear h1 h2 hr hr'
    go_enter Try.func50, Try.ntmps50
    go_wp2_with fail
    go_ret
    exact ⟨ret_bool e.symm, by (repeat (first | assumption | exact Below.refl _ _ | apply below_drewN | apply Below.drew | (refine Below.alloc ?_ (by first | omega | (simp; done) | (simp; omega)) _) | (refine Below.setCell ?_ (by first | omega | (simp; done) | (simp; omega)) _)))⟩
  have h2' : (u.k == 0) = false := by simp [h2]
  by_cases hp : t.k = u.k
  · have hp' : (t.k != u.k) = false := by simp [hp]
    have hll : t.ks.length = u.ks.length := by
      have h1 := RTy.right_len hr
      have h2 := RTy.right_len hr'
      rw [hp] at h1; omega
    have hre2 : t.lev u = RTy.levL t.ks u.ks := by rw [hre.out]; simp [h1, h2, hp]
    have HR := Lib.hid hre2
    have hle : t.ks.length ≤ u.ks.length := by omega
    have Hr := Lib.hid hr
    have Hr' := Lib.hid hr'
    clear hp hll hre2 h1 h2 hr hr'
    go_enter Try.func50, Try.ntmps50
    go_wp2_with fail
    go_loopw [28] (fun i wr => ∃ j : Nat, j ≤ t.ks.length ∧ i = .int .i64 j ∧ RTy.levL (t.ks.drop j) (u.ks.drop j) = RTy.levL t.ks u.ks ∧ wr.cell? ⟨w.heap.size, 1, none⟩ = some (.slice a t.ks.length c) ∧ wr.cell? ⟨w.heap.size + 1, 1, none⟩ = some (.slice a' u.ks.length c') ∧ Below w.heap.size w wr) (fun i _ => t.ks.length - (intOf i).toNat)
    case atStart => exact ⟨0, by omega, rfl, by simp, by simp [go_sem], by simp [go_sem], by (repeat (first | assumption | exact Below.refl _ _ | apply below_drewN | apply Below.drew | (refine Below.alloc ?_ (by first | omega | (simp; done) | (simp; omega)) _) | (refine Below.setCell ?_ (by first | omega | (simp; done) | (simp; omega)) _)))⟩
    case round =>
      obtain ⟨j, hj, rfl, hinv, q1, q2, hb0⟩ := hrel
      by_cases hlt : j < t.ks.length
      · have hlt' : j < u.ks.length := by omega
        have hk := List.getElem?_eq_getElem hlt
        generalize hkid : t.ks[j] = kid at hk
        have hk' := List.getElem?_eq_getElem hlt'
        generalize hkid' : u.ks[j] = kid' at hk'
        have hd := Lib.hid (RTy.levL_drop hk hk')
        obtain ⟨b, o, ka, kc, rfl, hbB, hc1, hc2, hkin⟩ := (hin.below hb0 hB).kid hk
        obtain ⟨b', o', ka', kc', rfl, hbB', hc1', hc2', hkin'⟩ := (hin'.below hb0 hB).kid hk'
        have hnk := RTy.kid_nodes hk
        have hkr := Lib.hid (RTy.right_kid Hr.out hk)
        have hkr' := Lib.hid (RTy.right_kid Hr'.out hk')
        clear hk hkid hk' hkid'
        have HI := Lib.hid hinv
        clear hinv
        have hbs := hb0.size
        go_wp2_with fail
        have hcall := Lib.hid fun (W : World) (hW : Below wr.heap.size wr W) => ih kid kid' B ka ka' kc kc' W (by omega) (hkin.below hW (by omega)) (hkin'.below hW (by omega)) hkr.out hkr'.out (by have := hW.size; omega)
        go_region_held3 (fun w' => w'.cell? ⟨w.heap.size, 1, none⟩ = some (.slice (some ⟨b, o, none⟩) t.ks.length c) ∧ w'.cell? ⟨w.heap.size + 1, 1, none⟩ = some (.slice (some ⟨b', o', none⟩) u.ks.length c')
            ∧ w'.cell? ⟨b, o + j * 2, none⟩ = some (.int .i8 kid.k) ∧ w'.cell? ⟨b, o + j * 2 + 1, none⟩ = some (.slice ka kid.ks.length kc)
            ∧ w'.cell? ⟨b', o' + j * 2, none⟩ = some (.int .i8 kid'.k) ∧ w'.cell? ⟨b', o' + j * 2 + 1, none⟩ = some (.slice ka' kid'.ks.length kc'))
          (first | exact ⟨q1, q2, hc1, hc2, hc1', hc2'⟩ | exact ⟨cell_kept hb1 q1, cell_kept hb1 q2, cell_kept hb1 hc1, cell_kept hb1 hc2, cell_kept hb1 hc1', cell_kept hb1 hc2'⟩)
          (first | (go_at_call 50; refine (hcall.out _ ?_).mono ?_; (repeat (first | assumption | exact Below.refl _ _ | apply below_drewN | apply Below.drew | (refine Below.alloc ?_ (by first | omega | (simp; done) | (simp; omega)) _) | (refine Below.setCell ?_ (by first | omega | (simp; done) | (simp; omega)) _))); rintro e w1 ⟨rfl, hb1⟩))
        have hb2 : Below w.heap.size w w1 := hb0.trans (Below.trans (Below.refl w.heap.size wr).drew (hb1.mono (by simp; omega)))
        have q1 := cell_kept hb1 q1
        have q2 := cell_kept hb1 q2
        by_cases hke : kid.lev kid' = true
        · simp only [hke, Bool.not_true]
          have HKE := Lib.hid hke
          clear hke
          go_wp2_with fail
          go_round
          case rel =>
            refine ⟨j + 1, by omega, by go_num, ?_, q1, q2, hb2⟩
            have := hd.out
            rw [HKE.out, HI.out] at this; simpa using this.symm
          case measure => simp [intOf]; omega
        · have hke' : kid.lev kid' = false := by simpa using hke
          simp only [hke', Bool.not_false]
          have HKE := Lib.hid hke'
          clear hke hke'
          go_wp2_with fail
          go_ret
          refine ⟨ret_bool ?_, hb2⟩
          have := hd.out
          rw [HKE.out, HI.out] at this
          rw [HR.out, this]; simp
      · have : j = t.ks.length := by omega
        subst this
        go_wp2_with fail
        go_ret
        refine ⟨ret_bool ?_, hb0⟩
        simp [RTy.levL] at hinv
        rw [HR.out, ← hinv]
  · have hp' : (t.k != u.k) = true := by simp [hp]
    have e : t.lev u = false := by rw [hre.out]; simp [h1, h2, hp]
    clear hp hr hr' h1 h2
    go_enter Try.func50, Try.ntmps50
    go_wp2_with fail
    go_ret
    exact ⟨ret_bool e.symm, by (repeat (first | assumption | exact Below.refl _ _ | apply below_drewN | apply Below.drew | (refine Below.alloc ?_ (by first | omega | (simp; done) | (simp; omega)) _) | (refine Below.setCell ?_ (by first | omega | (simp; done) | (simp; omega)) _)))⟩

theorem agree_any (t u : RTy) (B : Nat) (a a' : Option Addr) (c c' : Nat) (w : World) (hin : t.In w B a) (hin' : u.In w B a') (hB : B ≤ w.heap.size) :
    Calls Try.prog 17 #[.agg #[.int .i8 t.k, .slice a t.ks.length c], .agg #[.int .i8 u.k, .slice a' u.ks.length c']] w fun e w' => e = .returned (.bool (t.agree u)) ∧ Below w.heap.size w w' := by
  have q0 : ∀ (A B : Obj), Below w.heap.size w ((w.alloc A).alloc B) := fun A B => by (repeat (first | assumption | exact Below.refl _ _ | apply below_drewN | apply Below.drew | (refine Below.alloc ?_ (by first | omega | (simp; done) | (simp; omega)) _) | (refine Below.setCell ?_ (by first | omega | (simp; done) | (simp; omega)) _)))
  have qs : ∀ (A B : Obj), ((w.alloc A).alloc B).heap.size = w.heap.size + 1 + 1 := fun A B => by simp
  have Q0 := Lib.hid q0
  have QS := Lib.hid qs
  clear q0 qs
  by_cases h1 : t.check = 0
  · have h1' : (t.check == 0) = true := by simp [h1]
    have H1 : Hid (t.ok = true) := h1'
    clear h1
    go_enter Try.func17, Try.ntmps17
    go_wp2_with fail
    refine (tcheck_any t B a c _ (hin.below (Q0.out _ _) hB) (by rw [QS.out]; omega)).mono ?_
    rintro e w1 ⟨rfl, hb1⟩
    have hb0 : Below w.heap.size w w1 := Below.trans (Q0.out _ _) (hb1.mono (by rw [QS.out]; omega))
    have hs := hb0.size
    have q1 : w1.cell? ⟨w.heap.size, 0, none⟩ = some (.int .i8 t.k) := cell_kept hb1 (by simp [go_sem])
    have q2 : w1.cell? ⟨w.heap.size, 1, none⟩ = some (.slice a t.ks.length c) := cell_kept hb1 (by simp [go_sem])
    have q3 : w1.cell? ⟨w.heap.size + 1, 0, none⟩ = some (.int .i8 u.k) := cell_kept hb1 (by simp [go_sem])
    have q4 : w1.cell? ⟨w.heap.size + 1, 1, none⟩ = some (.slice a' u.ks.length c') := cell_kept hb1 (by simp [go_sem])
    go_wp2_with fail
    refine (tcheck_any u B a' c' _ (hin'.below hb0 hB) (by omega)).mono ?_
    rintro e w2 ⟨rfl, hb2⟩
    have hb02 := hb0.trans (hb2.mono hs)
    have hs2 := hb02.size
    by_cases h2 : u.check = 0
    · have h2' : (u.check == 0) = true := by simp [h2]
      have H2 : Hid (u.ok = true) := h2'
      clear h2
      have q1 := cell_kept hb2 q1
      have q2 := cell_kept hb2 q2
      have q3 := cell_kept hb2 q3
      have q4 := cell_kept hb2 q4
      go_wp2_with fail
      refine (level_any t.nodes t u B a a' c c' _ (Nat.le_refl _) (hin.below hb02 hB) (hin'.below hb02 hB) (RTy.ok_right H1.out) (RTy.ok_right H2.out) (by omega)).mono ?_
      rintro e w3 ⟨rfl, hb3⟩
      go_wp2_with fail
      go_ret
      exact ⟨ret_bool (by unfold RTy.agree; rw [H1.out, H2.out]; simp), hb02.trans (hb3.mono hs2)⟩
    · have h2' : (u.check == 0) = false := by simp [h2]
      have H2 : Hid (u.ok = false) := h2'
      clear h2
      go_wp2_with fail
      go_ret
      exact ⟨ret_bool (by unfold RTy.agree; rw [H2.out]; simp), hb02⟩
  · have h1' : (t.check == 0) = false := by simp [h1]
    have H1 : Hid (t.ok = false) := h1'
    clear h1
    go_enter Try.func17, Try.ntmps17
    go_wp2_with fail
    refine (tcheck_any t B a c _ (hin.below (Q0.out _ _) hB) (by rw [QS.out]; omega)).mono ?_
    rintro e w1 ⟨rfl, hb1⟩
    go_wp2_with fail
    go_ret
    exact ⟨ret_bool (by unfold RTy.agree; rw [H1.out]; simp), Below.trans (Q0.out _ _) (hb1.mono (by rw [QS.out]; omega))⟩
end Go.Proofs.Ytaoodchjggimcaa

/- Rows of types that a call has made itself. -/
namespace Go.Proofs.Ytaoodchjggimcaa
open Go.RowKit

theorem below_new' (w : World) (o : Obj) : Below w.heap.size w (w.alloc o) := (Below.refl _ _).alloc (Nat.le_refl _) _
def TyCells (w : World) (S : Nat → Prop) : List RTy → List Value → Prop
  | [], cs => cs = []
  | t :: ts, cs => ∃ a c r, cs = .int .i8 t.k :: .slice a t.ks.length c :: r ∧ t.InS w S a ∧ TyCells w S ts r
theorem TyCells.push {w : World} {S : Nat → Prop} {t : RTy} {a : Option Addr} {c : Nat} (ht : t.InS w S a) : ∀ {ts : List RTy} {cs : List Value}, TyCells w S ts cs → TyCells w S (ts ++ [t]) (cs ++ [.int .i8 t.k, .slice a t.ks.length c])
  | [], cs, h => by
    unfold TyCells at h; subst h
    exact ⟨a, c, [], rfl, ht, rfl⟩
  | x :: ts, cs, h => by
    obtain ⟨a', c', r, rfl, h1, h2⟩ := h
    exact ⟨a', c', r ++ [.int .i8 t.k, .slice a t.ks.length c], rfl, h1, TyCells.push ht h2⟩
theorem TyCells.mono {w w' : World} {S S' : Nat → Prop} (hS : ∀ b, S b → S' b) (hw : ∀ b o, S b → w'.cell? ⟨b, o, none⟩ = w.cell? ⟨b, o, none⟩) : ∀ {ts : List RTy} {cs : List Value}, TyCells w S ts cs → TyCells w' S' ts cs
  | [], cs, h => h
  | x :: ts, cs, h => by
    obtain ⟨a', c', r, rfl, h1, h2⟩ := h
    exact ⟨a', c', r, rfl, h1.mono hS hw, TyCells.mono hS hw h2⟩
theorem TyCells.get {w : World} {S : Nat → Prop} {t : RTy} : ∀ {ts : List RTy} {cs : List Value}, TyCells w S ts cs → ∀ {j : Nat}, ts[j]? = some t → ∃ a c, cs[j * 2]? = some (.int .i8 t.k) ∧ cs[j * 2 + 1]? = some (.slice a t.ks.length c) ∧ t.InS w S a
  | [], cs, h, j, hj => by simp at hj
  | x :: ts, cs, h, j, hj => by
    obtain ⟨a', c', r, rfl, h1, h2⟩ := h
    cases j with
    | zero => simp at hj; subst hj; exact ⟨a', c', rfl, rfl, h1⟩
    | succ j =>
      obtain ⟨a, c, e1, e2, e3⟩ := TyCells.get h2 (j := j) (by simpa using hj)
      refine ⟨a, c, ?_, ?_, e3⟩
      · rw [show (j + 1) * 2 = j * 2 + 1 + 1 by omega]; simpa using e1
      · rw [show (j + 1) * 2 + 1 = j * 2 + 1 + 1 + 1 by omega]; simpa using e2
theorem TyCells.one {w : World} {S : Nat → Prop} : ∀ {ts : List RTy} {cs : List Value}, TyCells w S ts cs → ∀ u ∈ cs, u.oneCell' = true
  | [], cs, h, u, hu => by unfold TyCells at h; subst h; simp at hu
  | x :: ts, cs, h, u, hu => by
    obtain ⟨a', c', r, rfl, h1, h2⟩ := h
    simp only [List.mem_cons] at hu
    rcases hu with rfl | rfl | hu
    · rfl
    · rfl
    · exact TyCells.one h2 u hu

/-- v is a slice of the call's own, from block base on: it holds the types ts, whose kids lie in S, apart from v's own row. -/
structure OwnTys (w : World) (base : Nat) (E : TypeId) (S : Nat → Prop) (v : Value) (ts : List RTy) (cs : List Value) : Prop where
  own : w.ownsRow base E 2 v ts.length cs
  cells : TyCells w (fun b => S b ∧ some b ≠ v.ownBlock) ts cs

theorem OwnTys.nil (w : World) (base : Nat) (E : TypeId) (S : Nat → Prop) : OwnTys w base E S (.slice none 0 0) [] [] :=
  ⟨World.ownsRow_nil _ _ _ _, rfl⟩
/-- What turns neither v's row nor S leaves all as it is. -/
theorem OwnTys.kept {w w' : World} {base : Nat} {E : TypeId} {S S' : Nat → Prop} {v : Value} {ts : List RTy} {cs : List Value} (h : OwnTys w base E S v ts cs)
    (hrow : ∀ g, v.ownBlock = some g → w'.heap[g]? = w.heap[g]?) (hS : ∀ b, S b → S' b) (hw : ∀ b o, S b → w'.cell? ⟨b, o, none⟩ = w.cell? ⟨b, o, none⟩) : OwnTys w' base E S' v ts cs := by
  refine ⟨⟨h.own.1, ?_⟩, h.cells.mono (fun b hb => ⟨hS b hb.1, hb.2⟩) fun b o hb => hw b o hb.1⟩
  rcases h.own.2 with h2 | ⟨g, cap, cur, hv, hg, hh, r⟩
  · exact .inl h2
  · exact .inr ⟨g, cap, cur, hv, hg, by rw [hrow g (by rw [hv]; rfl)]; exact hh, r⟩
theorem OwnTys.shape {w : World} {base : Nat} {E : TypeId} {S : Nat → Prop} {v : Value} {ts : List RTy} {cs : List Value} (h : OwnTys w base E S v ts cs) : ∃ a c, v = .slice a ts.length c ∧ (∀ b, (∃ o, a = some ⟨b, o, none⟩) → base ≤ b ∧ b < w.heap.size) := by
  rcases h.own.2 with ⟨h1, h2⟩ | ⟨g, cap, cur, hv, hg, hh, r⟩
  · exact ⟨none, 0, by rw [h1, h2], by rintro b ⟨o, ho⟩; cases ho⟩
  · refine ⟨_, cap, hv, ?_⟩
    rintro b ⟨o, ho⟩
    simp only [Option.some.injEq, Addr.mk.injEq] at ho
    obtain ⟨rfl, -, -⟩ := ho
    exact ⟨hg, (Array.getElem?_eq_some_iff.1 hh).1⟩
/-- At last: a type over that row. -/
theorem OwnTys.inS {w : World} {base : Nat} {E : TypeId} {S : Nat → Prop} {v : Value} {ts : List RTy} {cs : List Value} (h : OwnTys w base E S v ts cs) {k : Int} (hk : RTy.Kind8 k) (hn : ts.length ≤ lenMax) (S' : Nat → Prop)
    (hS : ∀ b, S b → S' b) (hg : ∀ b, v.ownBlock = some b → S' b) : ∃ a c, v = .slice a ts.length c ∧ (RTy.mk k ts).InS w S' a := by
  rcases h.own.2 with ⟨h1, h2⟩ | ⟨g, cap, cur, hv, hgb, hh, r⟩
  · refine ⟨none, 0, by rw [h1, h2], ?_⟩
    have : ts = [] := List.eq_nil_of_length_eq_zero h2
    subst this
    unfold RTy.InS RTy.InsS
    exact ⟨hk, hn, trivial⟩
  · refine ⟨_, cap, hv, ?_⟩
    unfold RTy.InS
    refine ⟨hk, hn, RTy.InsS.mk (hg g (by rw [hv]; rfl)) fun j t ht => ?_⟩
    obtain ⟨a, c, e1, e2, e3⟩ := h.cells.get ht
    have hcell := h.own.cells (g := g) (by rw [hv]; rfl)
    have add0 : ∀ n, (⟨g, 0, none⟩ : Addr).add n = ⟨g, n, none⟩ := fun n => by unfold Addr.add; split <;> simp_all
    refine ⟨a, c, ?_, ?_, e3.up fun b hb => hS b hb.1⟩
    · have := hcell _ _ e1; rw [add0] at this; simpa using this
    · have := hcell _ _ e2; rw [add0] at this; simpa using this
/-- One more, behind append's law. -/
theorem OwnTys.push {w w' : World} {base : Nat} {E : TypeId} {S S' : Nat → Prop} {v v' : Value} {ts : List RTy} {cs : List Value} {t : RTy} {a : Option Addr} {c : Nat} (h : OwnTys w base E S v ts cs)
    (hown : w'.ownsRow base E 2 v' (ts.length + 1) (cs ++ [.int .i8 t.k, .slice a t.ks.length c])) (hg : w.grownBy w' v.ownBlock)
    (hS : ∀ b, S b → b < w.heap.size ∧ S' b) {St : Nat → Prop} (ht : t.InS w St a) (hSt : ∀ b, St b → b < w.heap.size ∧ S' b ∧ some b ≠ v.ownBlock) (hv : v'.ownBlock = v.ownBlock ∨ ∀ b, v'.ownBlock = some b → w.heap.size ≤ b) :
    OwnTys w' base E S' v' (ts ++ [t]) (cs ++ [.int .i8 t.k, .slice a t.ks.length c]) := by
  have hne : ∀ b, b < w.heap.size → some b ≠ v.ownBlock → some b ≠ v'.ownBlock := by
    intro b hb hn e
    rcases hv with hv | hv
    · exact hn (e.trans hv)
    · have := hv b e.symm; omega
  refine ⟨by simpa using hown, ?_⟩
  refine TyCells.push (ht.mono (fun b hb => ⟨(hSt b hb).2.1, hne b (hSt b hb).1 (hSt b hb).2.2⟩) fun b o hb => ?_) (h.cells.mono (fun b hb => ⟨(hS b hb.1).2, hne b (hS b hb.1).1 hb.2⟩) fun b o hb => ?_)
  · exact hg.cell_far ⟨b, o, none⟩ (hSt b hb).1 (hSt b hb).2.2
  · exact hg.cell_far ⟨b, o, none⟩ (hS b hb.1).1 hb.2

/-- A round: a callee has made t in new memory (wr to w1), a block was laid, and append's law led on to w2. -/
theorem OwnTys.step {wr w1 w2 : World} {base : Nat} {E : TypeId} {v : Value} {ts : List RTy} {cs : List Value} {t : RTy} {a : Option Addr} {c g n cap : Nat} {o : Obj}
    (h : OwnTys wr base E (fun b => base ≤ b ∧ b < wr.heap.size) v ts cs) (hb1 : Below wr.heap.size wr w1) (hbase : base ≤ wr.heap.size)
    (ht : t.InS w1 (fun b => wr.heap.size ≤ b ∧ b < w1.heap.size) a) (hn : ts.length + 1 = n)
    (hown : w2.ownsRow base E 2 (.slice (some ⟨g, 0, none⟩) n cap) n (cs ++ [.int .i8 t.k, .slice a t.ks.length c])) (hg : (w1.alloc o).grownBy w2 v.ownBlock)
    (hat : v.ownBlock = some g ∨ g = w1.heap.size + 1) : OwnTys w2 base E (fun b => base ≤ b ∧ b < w2.heap.size) (.slice (some ⟨g, 0, none⟩) n cap) (ts ++ [t]) (cs ++ [.int .i8 t.k, .slice a t.ks.length c]) := by
  subst hn
  have hsz := hb1.size
  have hs2 := hg.size
  rw [World.size_alloc] at hs2
  have hvlt : ∀ b, v.ownBlock = some b → b < wr.heap.size := fun b hb => (h.own.lt b hb).2
  have h1 : OwnTys (w1.alloc o) base E (fun b => base ≤ b ∧ b < wr.heap.size) v ts cs := by
    refine h.kept (fun x hx => ?_) (fun b hb => hb) fun b oo hb => ?_
    · have := hvlt x hx
      exact (Below.heap_alloc _ _ _ (by omega)).trans (hb1.block x this)
    · exact ((below_new' w1 o).cell (p := ⟨b, oo, none⟩) (by show b < w1.heap.size; omega)).trans (hb1.cell (p := ⟨b, oo, none⟩) hb.2)
  have ht1 : t.InS (w1.alloc o) (fun b => wr.heap.size ≤ b ∧ b < w1.heap.size) a := ht.below (below_new' w1 o) fun b hb => hb.2
  refine h1.push hown hg (fun b hb => ⟨by rw [World.size_alloc]; omega, hb.1, by omega⟩) ht1 (fun b hb => ⟨by rw [World.size_alloc]; omega, ⟨by omega, by omega⟩, fun e => ?_⟩) ?_
  · have := hvlt b e.symm
    omega
  · rcases hat with hat | hat
    · exact .inl hat.symm
    · refine .inr fun b hb => ?_
      rw [World.size_alloc]
      have : g = b := by simpa [Value.ownBlock] using hb
      omega
/-- What lies below base is as it was, behind such a round. -/
theorem OwnTys.far {wr w1 w2 : World} {base : Nat} {E : TypeId} {S : Nat → Prop} {v : Value} {ts : List RTy} {cs : List Value} {o : Obj}
    (h : OwnTys wr base E S v ts cs) (hb1 : Below wr.heap.size wr w1) (hbase : base ≤ wr.heap.size) (hg : (w1.alloc o).grownBy w2 v.ownBlock) : Below base wr w2 := by
  have hsz := hb1.size
  have hs2 := hg.size
  rw [World.size_alloc] at hs2
  refine ⟨hg.os.trans hb1.os, hg.tape.trans hb1.tape, hg.output.trans hb1.output, by omega, fun k hk => ?_⟩
  refine (hg.block k (by rw [World.size_alloc]; omega) fun e => ?_).trans ((Below.heap_alloc _ _ _ (by omega)).trans (hb1.block k (by omega)))
  have := (h.own.lt k e.symm).1
  omega
end Go.Proofs.Ytaoodchjggimcaa

/- The walks of package order: the meet. -/
set_option linter.unusedVariables false
set_option linter.unusedSimpArgs false
namespace Go.Proofs.Ytaoodchjggimcaa
open Go.RowKit

/-- A type that was made anew. -/
def FreshTy (t : RTy) (w : World) (e : Ending) (w' : World) : Prop :=
  ∃ a c, e = .returned (.agg #[.int .i8 t.k, .slice a t.ks.length c]) ∧ t.InS w' (fun b => w.heap.size ≤ b ∧ b < w'.heap.size) a ∧ Below w.heap.size w w'
theorem infoTy : (Try.prog.info? 25).map (fun i => (i.zero, i.size, i.bytes)) = some (some (.agg #[.int .i8 0, .slice none 0 0]), 2, 32) := by kernel_rfl


set_option maxRecDepth 100000 in
set_option maxHeartbeats 4000000 in
theorem meet_core (N : Nat) (ih : ∀ (t u : RTy) (B b o b' o' : Nat) (a a' : Option Addr) (c c' : Nat) (w : World), t.nodes ≤ N → u.nodes ≤ N → RTy.At w B b o a c t → RTy.At w B b' o' a' c' u → t.right = true → u.right = true → t.lev u = true → B ≤ w.heap.size →
      Calls Try.prog 73 #[.pointer (some ⟨b, o, none⟩), .pointer (some ⟨b', o', none⟩)] w (FreshTy (t.meet u) w))
    (t u : RTy) (B b o b' o' : Nat) (a a' : Option Addr) (c c' : Nat) (w : World) (hat : RTy.At w B b o a c t) (hat' : RTy.At w B b' o' a' c' u) (HP : Hid (RTy.Pair (N + 1) t u)) (h0 : (t.k == 0) = false) (h1 : (u.k == 0) = false) (hB : B ≤ w.heap.size) :
    Calls Try.prog 73 #[.pointer (some ⟨b, o, none⟩), .pointer (some ⟨b', o', none⟩)] w (FreshTy (.mk t.k (RTy.meetL t.ks u.ks)) w) := by
  have hlen := HP.out.small
  have hlen' : t.ks.length ≤ u.ks.length := by have := HP.out.len; omega
  obtain ⟨i0, hi, hz0, hz1, hz2⟩ := info_parts infoTy
  have HI := Lib.hid (And.intro hi (And.intro hz0 (And.intro hz1 hz2)))
  clear hi hz0 hz1 hz2
  have hq0 := hat.c0
  have hq1 := hat.c1
  have hq2 := hat'.c0
  have hbl : b < w.heap.size := Nat.lt_of_lt_of_le hat.lt hB
  have hbl' : b' < w.heap.size := Nat.lt_of_lt_of_le hat'.lt hB
  have hkd := hat.inn.kind
  go_enter Try.func73, Try.ntmps73
  go_wp2_with fail
  go_loopw [29] (fun i wr => ∃ j : Nat, j ≤ t.ks.length ∧ i = .int .i64 j ∧ ∃ v cs, OwnTys wr (w.heap.size + 2) 25 (fun b => w.heap.size + 2 ≤ b ∧ b < wr.heap.size) v (RTy.meetL (t.ks.take j) (u.ks.take j)) cs ∧
      wr.cell? ⟨w.heap.size, 0, none⟩ = some (.int .i8 0) ∧ wr.cell? ⟨w.heap.size, 1, none⟩ = some (.slice none 0 0) ∧ wr.cell? ⟨w.heap.size + 1, 0, none⟩ = some (.int .i8 t.k) ∧ wr.cell? ⟨w.heap.size + 1, 1, none⟩ = some v ∧
      wr.frozen? ⟨w.heap.size, 0, none⟩ = false ∧ wr.frozen? ⟨w.heap.size, 1, none⟩ = false ∧ wr.frozen? ⟨w.heap.size + 1, 1, none⟩ = false ∧ w.heap.size + 2 ≤ wr.heap.size ∧ Below w.heap.size w wr) (fun i _ => t.ks.length - (intOf i).toNat)
  case atStart => exact ⟨0, by omega, rfl, .slice none 0 0, [], by simpa [RTy.meetL] using OwnTys.nil _ _ _ _, by simp [go_sem], by simp [go_sem], by simp [go_sem], by simp [go_sem], by simp [go_sem], by simp [go_sem], by simp [go_sem], by simp, by (repeat (first | assumption | exact Below.refl _ _ | apply below_drewN | apply Below.drew | (refine Below.alloc ?_ (by first | omega | (simp; done) | (simp; omega)) _) | (refine Below.setCell ?_ (by first | omega | (simp; done) | (simp; omega)) _)))⟩
  case round =>
    obtain ⟨j, hj, rfl, v, cs, hown, m0, m1, m2, m3, f0, f1, f2, hs2, hb0⟩ := hrel
    by_cases hlt : j < t.ks.length
    · have hlt' : j < u.ks.length := by omega
      have hk := List.getElem?_eq_getElem hlt
      generalize hkid : t.ks[j] = kid at hk
      have hk' := List.getElem?_eq_getElem hlt'
      generalize hkid' : u.ks[j] = kid' at hk'
      have HT := Lib.hid (RTy.meetL_take _ _ _ _ _ hk hk')
      have hr1 := hat.below hb0 hB
      have hr1' := hat'.below hb0 hB
      obtain ⟨kb, ko, ka, kc, hAe, hkat⟩ := hr1.kid hk
      obtain ⟨kb', ko', ka', kc', hAe', hkat'⟩ := hr1'.kid hk'
      have hnk := RTy.kid_nodes hk
      have hnk' := RTy.kid_nodes hk'
      have hkr := Lib.hid (RTy.right_kid HP.out.rx hk)
      have hkr' := Lib.hid (RTy.right_kid HP.out.ry hk')
      have hkl := Lib.hid (RTy.levL_get HP.out.lev hk hk')
      have q1 := hr1.c1
      have q2 := hr1'.c1
      rw [hAe] at q1
      rw [hAe'] at q2
      have hkl2 : (RTy.meetL (t.ks.take j) (u.ks.take j)).length = j := by rw [RTy.meetL_length _ _ (by first | rfl | (simp only [List.length_take]; omega))]; rw [List.length_take]; omega
      have HL := Lib.hid hkl2
      have hnx := HP.out.nx
      have hny := HP.out.ny
      clear hAe hAe'
      clear hk hkid hk' hkid' hkl2
      obtain ⟨va, vc, rfl, hva⟩ := hown.shape
      rw [HL.out] at m3 hown
      have hbs := hb0.size
      have hcall := Lib.hid fun (W : World) (hW : Below wr.heap.size wr W) => ih kid kid' B kb (ko + j * 2) kb' (ko' + j * 2) ka ka' kc kc' W (by omega) (by omega) (hkat.below hW (by omega)) (hkat'.below hW (by omega)) hkr.out hkr'.out hkl.out (by have := hW.size; omega)
      go_wp2_with fail
      have hne1 : w.heap.size + 1 ≠ b := by omega
      have hne2 : w.heap.size + 1 ≠ b' := by omega
      have far1 : Hid (∀ x : Nat, x < w.heap.size + 2 → some x ≠ (Value.slice va j vc).ownBlock) := fun x hx he => absurd (hown.own.lt x he.symm).1 (by omega)
      have hown1 : Hid (∀ {w1 : World} {o : Obj}, Below wr.drew.heap.size wr.drew w1 → (w1.alloc o).ownsRow (w.heap.size + 2) 25 2 (.slice va j vc) j cs) := fun {w1} {o} hb1 => by
        have h := hown.own
        rw [HL.out] at h
        exact (World.ownsRow.alloc (h.kept (w' := w1) (row := none) ⟨hb1.os, hb1.tape, hb1.output, hb1.size, fun k hk _ => hb1.block k hk⟩ (by cases Value.ownBlock (Value.slice va j vc) <;> simp)) o)
      go_region_law (first
            | (refine step_append_lies _ (by rfl) _ _ _ (by rfl) (w.heap.size + 2) 25 i0 _ 2 32 Try.underlying23 HI.out.1 HI.out.2.1 HI.out.2.2.1 HI.out.2.2.2 rfl (by omega) (.slice va j vc) j cs (by rfl) ?c0 ⟨w1.heap.size, 0, none⟩ 1 1 [.int .i8 (kid.meet kid').k, .slice a1 (kid.meet kid').ks.length c1] (by rfl) (by rfl) (World.news_of_block (cs := #[.int .i8 (kid.meet kid').k, .slice a1 (kid.meet kid').ks.length c1]) (t := 25) (fr := (0, 0)) (heap_alloc_new w1 _)) (by simp [Value.oneCell']) (by omega) (by unfold maxLen; omega) (by omega) (by rw [World.size_alloc]; omega) (w1.heap.size + 1) (by rw [World.size_alloc]) ?_; (case c0 => exact hown1.out hb1); intro g cap w2 hown2 hgrow hat hlt
               have m3 := (hgrow.cell_far _ (by rw [World.size_alloc]; show w.heap.size + 1 < _; omega) (far1.out _ (Nat.lt_succ_self _))).trans (cell_kept (below_new _ _) m3)
               have f2 := (hgrow.frozen_far _ (by rw [World.size_alloc]; show w.heap.size + 1 < _; omega) (far1.out _ (Nat.lt_succ_self _))).trans (frozen_kept (below_new _ _) (by omega) f2))
            | (go_simp; go_at_call 73; refine (hcall.out _ ?_).mono ?_; (repeat (first | assumption | exact Below.refl _ _ | apply below_drewN | apply Below.drew | (refine Below.alloc ?_ (by first | omega | (simp; done) | (simp; omega)) _) | (refine Below.setCell ?_ (by first | omega | (simp; done) | (simp; omega)) _))); rintro e w1 ⟨a1, c1, rfl, hin1, hb1⟩; have hs1 := hb1.size; rw [World.size_drew] at hs1; have m3 := cell_kept hb1 m3; have q1 := cell_kept hb1 q1; have q2 := cell_kept hb1 q2; have f2 := frozen_kept hb1 (by rw [World.size_drew]; omega) f2; have hlt1 : w.heap.size + 1 < w1.heap.size := by omega))
      all_goals
        have hb1' : Below wr.heap.size wr w1 := Below.trans (Below.refl wr.heap.size wr).drew hb1
        have hpush := hown.step hb1' hs2 hin1 (by rw [HL.out]) hown2 hgrow hat
        have hfar := hown.far hb1' hs2 hgrow
        have hne : g ≠ w.heap.size + 1 := by
          have := hpush.own.lt g rfl
          omega
        have hsz2 := hfar.size
        have HP2 := Lib.hid hpush
        have HF := Lib.hid hfar
        have HE := Lib.hid hne
        clear hown2 hgrow hat hpush hfar hne hb1 hb1' hin1 q1 q2
        go_wp2_with fail
        go_round
        case rel =>
          refine ⟨j + 1, by omega, by go_num, .slice (some ⟨g, 0, none⟩) (j + 1) cap, cs ++ [.int .i8 (kid.meet kid').k, .slice a1 (kid.meet kid').ks.length c1], ?_, ?_, ?_, ?_, ?_, ?_, ?_, ?_, ?_, ?_⟩
          rotate_left
          · rw [World.cell?_setCell_far _ _ _ _ (by simp), (bcell HF.out).1 _ _ (by omega)]; exact m0
          · rw [World.cell?_setCell_far _ _ _ _ (by simp), (bcell HF.out).1 _ _ (by omega)]; exact m1
          · rw [World.cell?_setCell_other _ _ _ _ (by simp), (bcell HF.out).1 _ _ (by omega)]; exact m2
          · exact World.cell?_setCell_same _ _ _ m3
          · simp [go_sem]; rw [(bcell HF.out).2 _ _ (by omega)]; exact f0
          · simp [go_sem]; rw [(bcell HF.out).2 _ _ (by omega)]; exact f1
          · simp [go_sem]; exact f2
          · simp; omega
          · exact (hb0.trans (HF.out.mono (by omega))).setCell (by simp) _
          · rw [HT.out]
            refine HP2.out.kept (fun x hx => ?_) (fun b hb => ⟨hb.1, by simpa using hb.2⟩) fun b o hb => ?_
            · have hx' : g = x := by simpa [Value.ownBlock] using hx
              subst hx'
              exact Below.heap_setCell _ _ _ _ HE.out
            · exact World.cell?_setCell_far _ _ _ _ (by have := hb.1; show w.heap.size + 1 ≠ b; omega)
        case measure => simp [intOf]; omega
    · have : j = t.ks.length := by omega
      subst this
      have hkl2 : (RTy.meetL (t.ks.take t.ks.length) (u.ks.take t.ks.length)) = RTy.meetL t.ks u.ks := by first | (rw [List.take_length, HP.out.len, List.take_length]; done) | (rw [List.take_length]; done)
      have hkl3 : (RTy.meetL t.ks u.ks).length = t.ks.length := RTy.meetL_length _ _ HP.out.len
      rw [hkl2] at hown
      have HK3 := Lib.hid hkl3
      clear hkl2 hkl3
      obtain ⟨va, vc, rfl, hva⟩ := hown.shape
      obtain ⟨va', vc', hve, hin⟩ := hown.inS (k := t.k) hkd (by rw [HK3.out]; unfold lenMax; omega) (fun b => w.heap.size + 2 ≤ b ∧ b < wr.heap.size) (fun b hb => hb) (fun b hb => by have := hown.own.lt b hb; omega)
      simp only [Value.slice.injEq, true_and] at hve
      obtain ⟨rfl, rfl⟩ := hve
      go_wp2_with fail
      refine bodyPost_ret (v := .agg #[.int .i8 t.k, .slice va (RTy.meetL t.ks u.ks).length vc]) (by simp [results, Try.results73, go_sem, m0, m1]) rfl ⟨va, vc, rfl, ?_, ?_⟩
      · exact hin.mono (fun b hb => ⟨by omega, by simp; omega⟩) fun b o hb => (World.cell?_setCell_far _ _ _ _ (by have := hb.1; show w.heap.size ≠ b; omega)).trans (World.cell?_setCell_far _ _ _ _ (by have := hb.1; show w.heap.size ≠ b; omega))
      · (repeat (first | assumption | exact Below.refl _ _ | apply below_drewN | apply Below.drew | (refine Below.alloc ?_ (by first | omega | (simp; done) | (simp; omega)) _) | (refine Below.setCell ?_ (by first | omega | (simp; done) | (simp; omega)) _)))
end Go.Proofs.Ytaoodchjggimcaa

/- The walk of package rules' whole: a type in new memory. -/
set_option linter.unusedVariables false
set_option linter.unusedSimpArgs false
namespace Go.Proofs.Ytaoodchjggimcaa
open Go.RowKit

set_option maxRecDepth 100000 in
set_option maxHeartbeats 4000000 in
theorem whole_any (N : Nat) : ∀ (t : RTy) (B : Nat) (a : Option Addr) (c : Nat) (w : World), t.nodes ≤ N → t.In w B a → t.right = true → B ≤ w.heap.size →
      Calls Try.prog 76 #[.agg #[.int .i8 t.k, .slice a t.ks.length c]] w (FreshTy t w) := by
  induction N with
  | zero => intro t B a c w h; have := t.nodes_pos; omega
  | succ N ih =>
  intro t B a c w hN hin hrt hB
  have hlen := RTy.right_small hrt
  obtain ⟨i0, hi, hz0, hz1, hz2⟩ := info_parts infoTy
  have HI := Lib.hid (And.intro hi (And.intro hz0 (And.intro hz1 hz2)))
  clear hi hz0 hz1 hz2
  have hkd := hin.kind
  have HR := Lib.hid hrt
  clear hrt
  go_enter Try.func76, Try.ntmps76
  go_wp2_with fail
  go_loopw [12] (fun i wr => ∃ j : Nat, j ≤ t.ks.length ∧ i = .int .i64 j ∧ ∃ v cs, OwnTys wr (w.heap.size + 3) 25 (fun b => w.heap.size + 3 ≤ b ∧ b < wr.heap.size) v (t.ks.take j) cs ∧
      wr.cell? ⟨w.heap.size + 1, 0, none⟩ = some (.int .i8 0) ∧ wr.cell? ⟨w.heap.size + 1, 1, none⟩ = some (.slice none 0 0) ∧ wr.cell? ⟨w.heap.size + 2, 0, none⟩ = some (.int .i8 t.k) ∧ wr.cell? ⟨w.heap.size + 2, 1, none⟩ = some v ∧
      wr.frozen? ⟨w.heap.size + 1, 0, none⟩ = false ∧ wr.frozen? ⟨w.heap.size + 1, 1, none⟩ = false ∧ wr.frozen? ⟨w.heap.size + 2, 1, none⟩ = false ∧ w.heap.size + 3 ≤ wr.heap.size ∧ Below w.heap.size w wr) (fun i _ => t.ks.length - (intOf i).toNat)
  case atStart => exact ⟨0, by omega, rfl, .slice none 0 0, [], by simpa using OwnTys.nil _ _ _ _, by simp [go_sem], by simp [go_sem], by simp [go_sem], by simp [go_sem], by simp [go_sem], by simp [go_sem], by simp [go_sem], by simp, by (repeat (first | assumption | exact Below.refl _ _ | apply below_drewN | apply Below.drew | (refine Below.alloc ?_ (by first | omega | (simp; done) | (simp; omega)) _) | (refine Below.setCell ?_ (by first | omega | (simp; done) | (simp; omega)) _)))⟩
  case round =>
    obtain ⟨j, hj, rfl, v, cs, hown, m0, m1, m2, m3, f0, f1, f2, hs2, hb0⟩ := hrel
    by_cases hlt : j < t.ks.length
    · have hk := List.getElem?_eq_getElem hlt
      generalize hkid : t.ks[j] = kid at hk
      have HT := Lib.hid (show t.ks.take (j + 1) = t.ks.take j ++ [kid] by rw [List.take_add_one, hk]; rfl)
      obtain ⟨kb, ko, ka, kc, rfl, hbB, hc1, hc2, hkin⟩ := (hin.below hb0 hB).kid hk
      have hnk := RTy.kid_nodes hk
      have hkr := Lib.hid (RTy.right_kid HR.out hk)
      have hkl2 : (t.ks.take j).length = j := by rw [List.length_take]; omega
      have HL := Lib.hid hkl2
      clear hk hkid hkl2
      obtain ⟨va, vc, rfl, hva⟩ := hown.shape
      rw [HL.out] at m3 hown
      have hbs := hb0.size
      go_wp2_with fail
      obtain ⟨wq, hW⟩ : ∃ wq, wq = wr.alloc (.cells #[.int .i8 kid.k, .slice ka kid.ks.length kc] 25) := ⟨_, rfl⟩
      rw [← hW]
      have hbq : Below wr.heap.size wr wq := by rw [hW]; (repeat (first | assumption | exact Below.refl _ _ | apply below_drewN | apply Below.drew | (refine Below.alloc ?_ (by first | omega | (simp; done) | (simp; omega)) _) | (refine Below.setCell ?_ (by first | omega | (simp; done) | (simp; omega)) _)))
      have hzq : wq.heap.size = wr.heap.size + 1 := by rw [hW]; simp
      have q1 : wq.cell? ⟨wr.heap.size, 0, none⟩ = some (.int .i8 kid.k) := by rw [hW]; simp [go_sem]
      have q2 : wq.cell? ⟨wr.heap.size, 1, none⟩ = some (.slice ka kid.ks.length kc) := by rw [hW]; simp [go_sem]
      clear hW
      have m0 := cell_kept hbq m0
      have m1 := cell_kept hbq m1
      have m2 := cell_kept hbq m2
      have m3 := cell_kept hbq m3
      have f0 := frozen_kept hbq (by omega) f0
      have f1 := frozen_kept hbq (by omega) f1
      have f2 := frozen_kept hbq (by omega) f2
      have hb0' := hb0.trans (hbq.mono hbs)
      have hownq : OwnTys wq (w.heap.size + 3) 25 (fun b => w.heap.size + 3 ≤ b ∧ b < wq.heap.size) (.slice va j vc) (t.ks.take j) cs := hown.kept (fun g hg => hbq.block g (hown.own.lt g hg).2) (fun b hb => ⟨hb.1, by omega⟩) fun b o hb => hbq.cell (p := ⟨b, o, none⟩) hb.2
      have hs2q : w.heap.size + 3 ≤ wq.heap.size := by omega
      have hsr : wr.heap.size < wq.heap.size := by omega
      have hne1 : w.heap.size + 2 ≠ wr.heap.size := by omega
      have HZ := Lib.hid hzq
      have hkinq := hkin.below hbq (by omega)
      clear hown hc1 hc2 hkin hzq hbq
      have hbsq := hb0'.size
      have hcall := Lib.hid fun (W : World) (hW : Below wq.heap.size wq W) => ih kid B ka kc W (by omega) (hkinq.below hW (by omega)) hkr.out (by have := hW.size; omega)
      have far1 : Hid (∀ x : Nat, x < w.heap.size + 3 → some x ≠ (Value.slice va j vc).ownBlock) := fun x hx he => absurd (hownq.own.lt x he.symm).1 (by omega)
      have hown1 : Hid (∀ {w1 : World} {o : Obj}, Below wq.drew.heap.size wq.drew w1 → (w1.alloc o).ownsRow (w.heap.size + 3) 25 2 (.slice va j vc) j cs) := fun {w1} {o} hb1 => by
        have h := hownq.own
        rw [HL.out] at h
        exact (World.ownsRow.alloc (h.kept (w' := w1) (row := none) ⟨hb1.os, hb1.tape, hb1.output, hb1.size, fun k hk _ => hb1.block k hk⟩ (by cases Value.ownBlock (Value.slice va j vc) <;> simp)) o)
      go_region_law (first
            | (refine step_append_lies _ (by rfl) _ _ _ (by rfl) (w.heap.size + 3) 25 i0 _ 2 32 Try.underlying23 HI.out.1 HI.out.2.1 HI.out.2.2.1 HI.out.2.2.2 rfl (by omega) (.slice va j vc) j cs (by rfl) ?c0 ⟨w1.heap.size, 0, none⟩ 1 1 [.int .i8 kid.k, .slice a1 kid.ks.length c1] (by rfl) (by rfl) (World.news_of_block (cs := #[.int .i8 kid.k, .slice a1 kid.ks.length c1]) (t := 25) (fr := (0, 0)) (heap_alloc_new w1 _)) (by simp [Value.oneCell']) (by omega) (by unfold maxLen; omega) (by omega) (by rw [World.size_alloc]; omega) (w1.heap.size + 1) (by rw [World.size_alloc]) ?_; (case c0 => exact hown1.out hb1); intro g cap w2 hown2 hgrow hat hlt
               have m3 := (hgrow.cell_far _ (by rw [World.size_alloc]; show w.heap.size + 2 < _; omega) (far1.out _ (Nat.lt_succ_self _))).trans (cell_kept (below_new _ _) m3)
               have f2 := (hgrow.frozen_far _ (by rw [World.size_alloc]; show w.heap.size + 2 < _; omega) (far1.out _ (Nat.lt_succ_self _))).trans (frozen_kept (below_new _ _) (by omega) f2))
            | (go_simp; go_at_call 76; refine (hcall.out _ ?_).mono ?_; (repeat (first | assumption | exact Below.refl _ _ | apply below_drewN | apply Below.drew | (refine Below.alloc ?_ (by first | omega | (simp; done) | (simp; omega)) _) | (refine Below.setCell ?_ (by first | omega | (simp; done) | (simp; omega)) _))); rintro e w1 ⟨a1, c1, rfl, hin1, hb1⟩; have hs1 := hb1.size; rw [World.size_drew] at hs1; have m3 := cell_kept hb1 m3; have q1 := cell_kept hb1 q1; have q2 := cell_kept hb1 q2; have f2 := frozen_kept hb1 (by rw [World.size_drew]; omega) f2; have hlt1 : w.heap.size + 2 < w1.heap.size := by omega))
      all_goals
        have hb1' : Below wq.heap.size wq w1 := Below.trans (Below.refl wq.heap.size wq).drew hb1
        have hpush := hownq.step hb1' hs2q hin1 (by rw [HL.out]) hown2 hgrow hat
        have hfar := hownq.far hb1' hs2q hgrow
        have hne : g ≠ w.heap.size + 2 := by
          have := hpush.own.lt g rfl
          omega
        have hsz2 := hfar.size
        have HP2 := Lib.hid hpush
        have HF := Lib.hid hfar
        have HE := Lib.hid hne
        clear hown2 hgrow hat hpush hfar hne hb1 hb1' hin1 q1 q2
        go_wp2_with fail
        go_round
        case rel =>
          refine ⟨j + 1, by omega, by go_num, .slice (some ⟨g, 0, none⟩) (j + 1) cap, cs ++ [.int .i8 kid.k, .slice a1 kid.ks.length c1], ?_, ?_, ?_, ?_, ?_, ?_, ?_, ?_, ?_, ?_⟩
          rotate_left
          · rw [World.cell?_setCell_far _ _ _ _ (by simp), (bcell HF.out).1 _ _ (by omega)]; exact m0
          · rw [World.cell?_setCell_far _ _ _ _ (by simp), (bcell HF.out).1 _ _ (by omega)]; exact m1
          · rw [World.cell?_setCell_other _ _ _ _ (by simp), (bcell HF.out).1 _ _ (by omega)]; exact m2
          · exact World.cell?_setCell_same _ _ _ m3
          · simp [go_sem]; rw [(bcell HF.out).2 _ _ (by omega)]; exact f0
          · simp [go_sem]; rw [(bcell HF.out).2 _ _ (by omega)]; exact f1
          · simp [go_sem]; exact f2
          · simp; omega
          · exact (hb0'.trans (HF.out.mono (by omega))).setCell (by simp; omega) _
          · rw [HT.out]
            refine HP2.out.kept (fun x hx => ?_) (fun b hb => ⟨hb.1, by simpa using hb.2⟩) fun b o hb => ?_
            · have hx' : g = x := by simpa [Value.ownBlock] using hx
              subst hx'
              exact Below.heap_setCell _ _ _ _ HE.out
            · exact World.cell?_setCell_far _ _ _ _ (by have := hb.1; show w.heap.size + 2 ≠ b; omega)
        case measure => simp [intOf]; omega
    · have : j = t.ks.length := by omega
      subst this
      rw [List.take_length] at hown
      obtain ⟨va, vc, rfl, hva⟩ := hown.shape
      obtain ⟨va', vc', hve, hin⟩ := hown.inS (k := t.k) hkd (by unfold lenMax; omega) (fun b => w.heap.size + 3 ≤ b ∧ b < wr.heap.size) (fun b hb => hb) (fun b hb => by have := hown.own.lt b hb; omega)
      simp only [Value.slice.injEq, true_and] at hve
      obtain ⟨rfl, rfl⟩ := hve
      rw [RTy.eta] at hin
      go_wp2_with fail
      refine bodyPost_ret (v := .agg #[.int .i8 t.k, .slice va t.ks.length vc]) (by simp [results, Try.results76, go_sem, m0, m1]) rfl ⟨va, vc, rfl, ?_, ?_⟩
      · exact hin.mono (fun b hb => ⟨by omega, by simp; omega⟩) fun b o hb => (World.cell?_setCell_far _ _ _ _ (by have := hb.1; show w.heap.size + 1 ≠ b; omega)).trans (World.cell?_setCell_far _ _ _ _ (by have := hb.1; show w.heap.size + 1 ≠ b; omega))
      · (repeat (first | assumption | exact Below.refl _ _ | apply below_drewN | apply Below.drew | (refine Below.alloc ?_ (by first | omega | (simp; done) | (simp; omega)) _) | (refine Below.setCell ?_ (by first | omega | (simp; done) | (simp; omega)) _)))
end Go.Proofs.Ytaoodchjggimcaa

/- The deferred closure of package rules' Type. -/
set_option linter.unusedVariables false
set_option linter.unusedSimpArgs false
namespace Go.Proofs.Ytaoodchjggimcaa
open Go.RowKit

theorem typeD_idle (p q : Addr) (w : World) :
    CallsD Try.prog 75 #[.pointer (some p), .pointer (some q)] .returning w fun e u' w' => e = .returned (.tuple #[]) ∧ u' = .returning ∧ w' = w := by
  refine callsD_of_wpS Try.func75 rfl fun c₀ cs hu => ?_
  apply wpS_seq
  apply wpS_region
  simp [wpOpsS, go_sem, recoverD, hu, Try.ntmps75, Exit.thenS]
  refine wpS_of_wp ?_
  rw [show (#[Value.pointer (some p), Value.pointer (some q)] ++ ((Array.replicate 17 undef).setIfInBounds 3 Value.nilIface).setIfInBounds 0 Value.nilIface : Array Value) = #[Value.pointer (some p), Value.pointer (some q), Value.nilIface, undef, undef, Value.nilIface, undef, undef, undef, undef, undef, undef, undef, undef, undef, undef, undef, undef, undef] by kernel_rfl]
  go_wp2_with fail
  cases c₀
  simp_all [bodyPostS, results, Try.results75]

theorem assert_fault (p : Option Addr) (w : World) : (Instr.typeAssert (.iface 91 (.pointer p)) 20 91 true).run Try.prog w = .ok (.tuple #[.pointer p, .bool true]) w := by kernel_rfl

theorem typeD_panic (b c f : Nat) (u0 u1 u2 : Value) (older : List PanicEntry) (w : World) (h0 : w.cell? ⟨b, 0, none⟩ = some u0) (h1 : w.cell? ⟨b, 1, none⟩ = some u1) (h2 : w.cell? ⟨c, 0, none⟩ = some u2) (z0 : w.frozen? ⟨b, 0, none⟩ = false) (z1 : w.frozen? ⟨b, 1, none⟩ = false) (z2 : w.frozen? ⟨c, 0, none⟩ = false) (hbc : b ≠ c) :
    CallsD Try.prog 75 #[.pointer (some ⟨b, 0, none⟩), .pointer (some ⟨c, 0, none⟩)] (.panicking ({ v := .iface 91 (.pointer (some ⟨f, 0, none⟩)), recovered := false } :: older)) w fun e u' w' =>
      e = .returned (.tuple #[]) ∧ u' = .panicking ({ v := .iface 91 (.pointer (some ⟨f, 0, none⟩)), recovered := true } :: older) ∧
        w' = ((w.setCell ⟨b, 0, none⟩ (.int .i8 0)).setCell ⟨b, 1, none⟩ (.slice none 0 0)).setCell ⟨c, 0, none⟩ (.iface 91 (.pointer (some ⟨f, 0, none⟩))) := by
  refine callsD_of_wpS Try.func75 rfl fun c₀ cs hu => ?_
  apply wpS_seq
  apply wpS_region
  simp [wpOpsS, go_sem, recoverD, hu, Try.ntmps75, Exit.thenS]
  refine wpS_of_wp ?_
  have HU := Lib.hid hu
  clear hu
  rw [show (#[Value.pointer (some ⟨b, 0, none⟩), Value.pointer (some ⟨c, 0, none⟩)] ++ ((Array.replicate 17 undef).setIfInBounds 3 (Value.iface 91 (.pointer (some ⟨f, 0, none⟩)))).setIfInBounds 0 (Value.iface 91 (.pointer (some ⟨f, 0, none⟩))) : Array Value) = #[Value.pointer (some ⟨b, 0, none⟩), Value.pointer (some ⟨c, 0, none⟩), Value.iface 91 (.pointer (some ⟨f, 0, none⟩)), undef, undef, Value.iface 91 (.pointer (some ⟨f, 0, none⟩)), undef, undef, undef, undef, undef, undef, undef, undef, undef, undef, undef, undef, undef] by kernel_rfl]
  have hta := assert_fault (some ⟨f, 0, none⟩)
  go_wp2_with fail
  simp_all [bodyPostS, results, Try.results75]
end Go.Proofs.Ytaoodchjggimcaa

/- The modes are good: what their words tell is right. -/
namespace Go.Proofs.Ytaoodchjggimcaa

theorem RTy.right_getD {t : RTy} (h : t.right = true) (i : Nat) : (t.ks.getD i RTy.unk).right = true := by
  rw [List.getD_eq_getElem?_getD]
  cases hx : t.ks[i]? with
  | none => exact RTy.right_unk
  | some x => exact RTy.right_kid h hx
mutual
theorem RTy.meet_right : ∀ {t u : RTy}, t.right = true → u.right = true → t.lev u = true → (t.meet u).right = true
  | .mk k ks, .mk k' ks', h, h', hl => by
    rw [RTy.meet]
    by_cases h0 : k = 0
    · rw [if_pos h0]; exact h'
    · rw [if_neg h0]
      by_cases h0' : k' = 0
      · rw [if_pos h0']; exact h
      · rw [if_neg h0']
        rw [RTy.lev_eq] at hl
        simp only [Bool.and_eq_true, Bool.or_eq_true, decide_eq_true_eq] at hl
        simp only [RTy.k, RTy.ks, h0, h0', false_or] at hl
        rw [RTy.right_eq] at h h' ⊢
        simp only [Bool.and_eq_true, decide_eq_true_eq] at h h' ⊢
        simp only [RTy.k, RTy.ks] at h h' ⊢
        have hlen : ks.length = ks'.length := by have h1 := h.1; have h2 := h'.1; rw [hl.1] at h1; omega
        rw [RTy.meetL_length ks ks' hlen]
        exact ⟨h.1, RTy.meetL_right h.2 h'.2 hl.2⟩
theorem RTy.meetL_right : ∀ {ts us : List RTy}, RTy.rightL ts = true → RTy.rightL us = true → RTy.levL ts us = true → RTy.rightL (RTy.meetL ts us) = true
  | [], _, _, _, _ => by simp [RTy.meetL, RTy.rightL]
  | _ :: _, [], _, _, _ => by simp [RTy.meetL, RTy.rightL]
  | t :: ts, u :: us, h, h', hl => by
    simp only [RTy.rightL, RTy.levL, RTy.meetL, Bool.and_eq_true] at h h' hl ⊢
    exact ⟨RTy.meet_right h.1 h'.1 hl.1, RTy.meetL_right h.2 h'.2 hl.2⟩
end
theorem gradual_good : gradual.Good := by
  refine ⟨fun k y h3 h5 hr => ?_, fun x y hx hy => ?_⟩
  · show (RTy.as k y).1.right = true ∧ (RTy.as k y).2.1.right = true
    unfold RTy.as
    split
    · exact ⟨RTy.right_unk, RTy.right_unk⟩
    · split
      · exact ⟨RTy.right_unk, RTy.right_unk⟩
      · split
        · exact ⟨RTy.right_getD hr 0, RTy.right_getD hr 1⟩
        · exact ⟨RTy.right_unk, RTy.right_unk⟩
  · show (if x.agree y then (x.meet y, true) else (RTy.unk, false)).1.right = true
    split
    · rename_i h
      unfold RTy.agree at h
      simp at h
      exact RTy.meet_right hx hy h.2.2
    · exact RTy.right_unk
theorem kernel_good : kernelM.Good := by
  refine ⟨fun k y h3 h5 hr => ?_, fun x y hx hy => hx⟩
  show (RTy.just k y).1.right = true ∧ (RTy.just k y).2.1.right = true
  unfold RTy.just
  split
  · exact ⟨RTy.right_getD hr 0, RTy.right_getD hr 1⟩
  · exact ⟨RTy.right_unk, RTy.right_unk⟩
theorem static_good : staticM.Good := ⟨kernel_good.parts, kernel_good.meet⟩
end Go.Proofs.Ytaoodchjggimcaa

/- The walks of package rules: what is around, small types. -/
set_option linter.unusedVariables false
set_option linter.unusedSimpArgs false
namespace Go.Proofs.Ytaoodchjggimcaa
open Go.RowKit

set_option maxHeartbeats 1000000 in
theorem number_any (w : World) : Calls Try.prog 123 #[] w fun e w' => e = .returned (.agg #[.int .i8 1, .slice none 0 0]) ∧ Below w.heap.size w w' := by
  go_enter Try.func123, Try.ntmps123
  go_wp2_with fail
  refine bodyPost_ret (v := .agg #[.int .i8 1, .slice none 0 0]) (by simp [results, Try.results123, go_sem]) rfl ⟨rfl, ?_⟩
  (repeat (first | assumption | exact Below.refl _ _ | apply below_drewN | apply Below.drew | (refine Below.alloc ?_ (by first | omega | (simp; done) | (simp; omega)) _) | (refine Below.setCell ?_ (by first | omega | (simp; done) | (simp; omega)) _)))
set_option maxHeartbeats 1000000 in
theorem truth_any (w : World) : Calls Try.prog 124 #[] w fun e w' => e = .returned (.agg #[.int .i8 2, .slice none 0 0]) ∧ Below w.heap.size w w' := by
  go_enter Try.func124, Try.ntmps124
  go_wp2_with fail
  refine bodyPost_ret (v := .agg #[.int .i8 2, .slice none 0 0]) (by simp [results, Try.results124, go_sem]) rfl ⟨rfl, ?_⟩
  (repeat (first | assumption | exact Below.refl _ _ | apply below_drewN | apply Below.drew | (refine Below.alloc ?_ (by first | omega | (simp; done) | (simp; omega)) _) | (refine Below.setCell ?_ (by first | omega | (simp; done) | (simp; omega)) _)))

set_option maxHeartbeats 2000000 in
theorem two_any (t : RTm) (B b o : Nat) (s : TmSh) (k : Int) (x y : RTy) (xa ya : Option Addr) (xc yc : Nat) (w : World) (hat : RTm.At w B b o s t) (hB : B ≤ w.heap.size) (hk : RTy.Kind8 k) (S : Nat → Prop) (hS : ∀ b, S b → b < w.heap.size) (hx : x.InS w S xa) (hy : y.InS w S ya) :
    Calls Try.prog 125 #[.pointer (some ⟨b, o, none⟩), .int .i8 k, .agg #[.int .i8 x.k, .slice xa x.ks.length xc], .agg #[.int .i8 y.k, .slice ya y.ks.length yc]] w (GetsTy S (two t k x y) w) := by
  have HT : Hid (two t k x y = small t (.mk k [x, y])) := rfl
  go_enter Try.func125, Try.ntmps125
  go_wp2_with fail
  generalize hW : World.alloc _ _ = w1
  have hb1 : Below w.heap.size w w1 := by rw [← hW]; (repeat (first | assumption | exact Below.refl _ _ | apply below_drewN | apply Below.drew | (refine Below.alloc ?_ (by first | omega | (simp; done) | (simp; omega)) _) | (refine Below.setCell ?_ (by first | omega | (simp; done) | (simp; omega)) _)))
  have hz : w1.heap.size = w.heap.size + 1 + 1 + 1 + 1 := by rw [← hW]; simp
  have q0 : w1.cell? ⟨w.heap.size + 1 + 1 + 1, 0, none⟩ = some (.int .i8 x.k) := by rw [← hW]; simp [go_sem]
  have q1 : w1.cell? ⟨w.heap.size + 1 + 1 + 1, 1, none⟩ = some (.slice xa x.ks.length xc) := by rw [← hW]; simp [go_sem]
  have q2 : w1.cell? ⟨w.heap.size + 1 + 1 + 1, 2, none⟩ = some (.int .i8 y.k) := by rw [← hW]; simp [go_sem]
  have q3 : w1.cell? ⟨w.heap.size + 1 + 1 + 1, 3, none⟩ = some (.slice ya y.ks.length yc) := by rw [← hW]; simp [go_sem]
  have m0 : w1.cell? ⟨w.heap.size + 1 + 1, 0, none⟩ = some (.int .i8 0) := by rw [← hW]; simp [go_sem]
  have m1 : w1.cell? ⟨w.heap.size + 1 + 1, 1, none⟩ = some (.slice none 0 0) := by rw [← hW]; simp [go_sem]
  have f0 : w1.frozen? ⟨w.heap.size + 1 + 1, 0, none⟩ = false := by rw [← hW]; simp [go_sem]
  have f1 : w1.frozen? ⟨w.heap.size + 1 + 1, 1, none⟩ = false := by rw [← hW]; simp [go_sem]
  clear hW
  have hin : (RTy.mk k [x, y]).InS w1 (fun b => S b ∨ b = w.heap.size + 1 + 1 + 1) (some ⟨w.heap.size + 1 + 1 + 1, 0, none⟩) :=
    RTy.in_two hk (.inr rfl) ((hx.below hb1 hS).up fun b hb => .inl hb) ((hy.below hb1 hS).up fun b hb => .inl hb) q0 q1 q2 q3
  have hcall := small_any t B b o s (.mk k [x, y]) _ 2 w1 (hat.below hb1 hB) (by omega) _ (by rintro b (hb | rfl); have := hS b hb; omega; omega) hin
  simp only [RTy.k, RTy.ks, List.length_cons, List.length_nil, Nat.zero_add, Nat.reduceAdd, Int.cast_ofNat_Int] at hcall
  refine hcall.mono ?_
  clear hcall
  intro e w2 hg
  cases hr : small t (.mk k [x, y]) with
  | error f =>
    rw [hr] at hg
    obtain ⟨fb, rfl, g1, g2, g3, g4⟩ := hg
    have HR := Lib.hid hr
    clear hr
    go_wp2_with fail
    refine ⟨rfl, ?_⟩
    rw [HT.out, HR.out]
    exact Fails.mono (w1 := w1) ⟨fb, rfl, g1, g2, g3, g4⟩ hb1
  | ok z =>
    rw [hr] at hg
    obtain ⟨za, zc, rfl, hza, hb2⟩ := hg
    have HR := Lib.hid hr
    clear hr
    have m0 := cell_kept hb2 m0
    have m1 := cell_kept hb2 m1
    have f0 := frozen_kept hb2 (by omega) f0
    have f1 := frozen_kept hb2 (by omega) f1
    go_wp2_with fail
    have hs2 := hb2.size
    refine bodyPost_ret (v := .agg #[.int .i8 z.k, .slice za z.ks.length zc]) (by simp [results, Try.results125, go_sem, m0, m1]) rfl ?_
    rw [HT.out, HR.out]
    have hb3 : Below w.heap.size w w2 := hb1.trans (hb2.mono (by omega))
    refine ⟨za, zc, rfl, hza.mono ?_ ?_, ?_⟩
    · rintro b ((hb | rfl) | hb)
      · exact .inl hb
      · exact .inr (by simp; omega)
      · exact .inr (by simp; omega)
    · rintro b o ((hb | rfl) | hb)
      · have := hS b hb
        exact (World.cell?_setCell_far _ _ _ _ (by show w.heap.size + 1 + 1 ≠ b; omega)).trans (World.cell?_setCell_far _ _ _ _ (by show w.heap.size + 1 + 1 ≠ b; omega))
      · exact (World.cell?_setCell_far _ _ _ _ (by show w.heap.size + 1 + 1 ≠ w.heap.size + 1 + 1 + 1; omega)).trans (World.cell?_setCell_far _ _ _ _ (by show w.heap.size + 1 + 1 ≠ w.heap.size + 1 + 1 + 1; omega))
      · exact (World.cell?_setCell_far _ _ _ _ (by show w.heap.size + 1 + 1 ≠ b; omega)).trans (World.cell?_setCell_far _ _ _ _ (by show w.heap.size + 1 + 1 ≠ b; omega))
    · (repeat (first | assumption | exact Below.refl _ _ | apply below_drewN | apply Below.drew | (refine Below.alloc ?_ (by first | omega | (simp; done) | (simp; omega)) _) | (refine Below.setCell ?_ (by first | omega | (simp; done) | (simp; omega)) _)))

def FindPost (r : Option RTy) (S : Nat → Prop) (w : World) (e : Ending) (w' : World) : Prop :=
  Below w.heap.size w w' ∧
    match r with
    | some y => ∃ ya yc, e = .returned (.tuple #[.agg #[.int .i8 y.k, .slice ya y.ks.length yc], .bool true]) ∧ y.InS w' S ya
    | none => e = .returned (.tuple #[.agg #[.int .i8 0, .slice none 0 0], .bool false])
set_option maxHeartbeats 2000000 in
theorem find_any (l : Env) (x : ByteArray) (C : Nat) (S : Nat → Prop) (a : Option Addr) (c : Nat) (w : World) (hl : l.length ≤ 20000) (hS : ∀ b, S b → b < w.heap.size) (hC : C ≤ w.heap.size) (henv : EnvAt w C S a c l) :
    Calls Try.prog 121 #[.slice a l.length c, .string x] w (FindPost (l.find x) S w) := by
  go_enter Try.func121, Try.ntmps121
  go_wp2_with fail
  generalize hW : World.alloc _ _ = w1
  have hb1 : Below w.heap.size w w1 := by rw [← hW]; (repeat (first | assumption | exact Below.refl _ _ | apply below_drewN | apply Below.drew | (refine Below.alloc ?_ (by first | omega | (simp; done) | (simp; omega)) _) | (refine Below.setCell ?_ (by first | omega | (simp; done) | (simp; omega)) _)))
  have hz : w1.heap.size = w.heap.size + 1 := by rw [← hW]; simp
  have m0 : w1.cell? ⟨w.heap.size, 0, none⟩ = some (.int .i8 0) := by rw [← hW]; simp [go_sem]
  have m1 : w1.cell? ⟨w.heap.size, 1, none⟩ = some (.slice none 0 0) := by rw [← hW]; simp [go_sem]
  have f0 : w1.frozen? ⟨w.heap.size, 0, none⟩ = false := by rw [← hW]; simp [go_sem]
  have f1 : w1.frozen? ⟨w.heap.size, 1, none⟩ = false := by rw [← hW]; simp [go_sem]
  clear hW
  have henv1 := henv.below hb1 hC hS
  go_loopw [6] (fun i wr => ∃ j : Nat, j ≤ l.length ∧ i = .int .i64 ((j : Int) - 1) ∧ Env.find x (l.take j) = Env.find x l ∧ wr = w1) (fun i _ => (intOf i + 1).toNat)
  case atStart => exact ⟨l.length, Nat.le_refl _, by go_num, by simp, rfl⟩
  case round =>
    obtain ⟨j, hj, rfl, hinv, rfl⟩ := hrel
    by_cases h0 : j = 0
    · subst h0
      have HV := Lib.hid hinv
      clear hinv
      go_wp2_with fail
      refine bodyPost_ret (v := .tuple #[.agg #[.int .i8 0, .slice none 0 0], .bool false]) (by simp [results, Try.results121, go_sem, m0, m1]) rfl ?_
      refine ⟨?_, ?_⟩
      · (repeat (first | assumption | exact Below.refl _ _ | apply below_drewN | apply Below.drew | (refine Below.alloc ?_ (by first | omega | (simp; done) | (simp; omega)) _) | (refine Below.setCell ?_ (by first | omega | (simp; done) | (simp; omega)) _)))
      · rw [← HV.out]; rfl
    · have hlt : j - 1 < l.length := by omega
      have hk := List.getElem?_eq_getElem hlt
      generalize hkid : l[j - 1] = kid at hk
      obtain ⟨n, y⟩ := kid
      have HF := Lib.hid (Env.find_take x hk)
      obtain ⟨b, ya, yc, rfl, hbC, e1, e2, e3, hy⟩ := henv1.get hk
      have hj1 : (((j : Int) - 1).toNat) = j - 1 := by omega
      have hi0 : (0 : Int) ≤ (j : Int) - 1 := by omega
      have hi1 : (j : Int) - 1 < (l.length : Int) := by omega
      have HV := Lib.hid hinv
      have hjj : j - 1 + 1 = j := by omega
      rw [hjj] at HF
      clear hinv hk hkid hjj
      by_cases hn : (n.toList == x.toList) = true
      · have e := HF.out
        rw [if_pos hn, HV.out] at e
        have E := Lib.hid e
        clear e
        go_wp2_with fail
        refine bodyPost_ret (v := .tuple #[.agg #[.int .i8 y.k, .slice ya y.ks.length yc], .bool true]) (by simp [results, Try.results121, go_sem, m0, m1]) rfl ?_
        have hf : ∀ (u v : Value), Below w.heap.size w ((wr.setCell ⟨w.heap.size, 0, none⟩ u).setCell ⟨w.heap.size, 1, none⟩ v) := fun u v => by (repeat (first | assumption | exact Below.refl _ _ | apply below_drewN | apply Below.drew | (refine Below.alloc ?_ (by first | omega | (simp; done) | (simp; omega)) _) | (refine Below.setCell ?_ (by first | omega | (simp; done) | (simp; omega)) _)))
        unfold FindPost
        rw [E.out]
        refine ⟨hf _ _, ya, yc, rfl, hy.mono (fun b hb => hb) fun b' o hb => ?_⟩
        have := hS b' hb
        exact (World.cell?_setCell_far _ _ _ _ (by show w.heap.size ≠ b'; omega)).trans (World.cell?_setCell_far _ _ _ _ (by show w.heap.size ≠ b'; omega))
      · have hn' : (n.toList == x.toList) = false := by simpa using hn
        have e := HF.out
        rw [if_neg (by simp [hn']), HV.out] at e
        have E := Lib.hid e
        clear e hn
        go_wp2_with fail
        go_round
        case rel => exact ⟨j - 1, by omega, by go_num, E.out.symm, trivial⟩
        case measure => simp [intOf]; omega

theorem infoBd : (Try.prog.info? 197).map (fun i => (i.zero, i.size, i.bytes)) = some (some (.agg #[.string ⟨#[]⟩, .int .i8 0, .slice none 0 0]), 3, 48) := by kernel_rfl
set_option maxHeartbeats 4000000 in
theorem more_any (l : Env) (x : ByteArray) (y : RTy) (C : Nat) (S : Nat → Prop) (a ya : Option Addr) (c yc : Nat) (w : World) (hl : l.length ≤ 20000) (hS : ∀ b, S b → b < w.heap.size) (hC : C ≤ w.heap.size) (henv : EnvAt w C S a c l) (hy : y.InS w S ya) :
    Calls Try.prog 126 #[.slice a l.length c, .string x, .agg #[.int .i8 y.k, .slice ya y.ks.length yc]] w fun e w' => ∃ a' c', e = .returned (.slice a' (l.length + 1 : Nat) c') ∧ EnvAt w' w'.heap.size S a' c' (l ++ [(x, y)]) ∧ Below w.heap.size w w' := by
  obtain ⟨i0, hi, hz0, hz1, hz2⟩ := info_parts infoBd
  have HI := Lib.hid (And.intro hi (And.intro hz0 (And.intro hz1 hz2)))
  clear hi hz0 hz1 hz2
  have hsl := henv.slots
  rcases henv with ⟨rfl, rfl, rfl⟩ | ⟨b, cs, rfl, hbC, hl0, hlc, hcs, hold⟩
  · have HOLD : Hid (∀ W, Below w.heap.size w W → ∀ b', (none : Option Addr) = some b' → ∀ j u, ([] : List Value)[j]? = some u → W.cell? (b'.add j) = some u) := by
      intro W hW b' hb' j u hj
      cases hb'
    go_enter Try.func126, Try.ntmps126
    go_wp2_with fail
    generalize hW : World.alloc _ _ = w1
    have hb1 : Below w.heap.size w w1 := by rw [← hW]; (repeat (first | assumption | exact Below.refl _ _ | apply below_drewN | apply Below.drew | (refine Below.alloc ?_ (by first | omega | (simp; done) | (simp; omega)) _) | (refine Below.setCell ?_ (by first | omega | (simp; done) | (simp; omega)) _)))
    have hz : w1.heap.size = w.heap.size + 1 := by rw [← hW]; simp
    have q0 : w1.cell? ⟨w.heap.size, 0, none⟩ = some (.int .i8 y.k) := by rw [← hW]; simp [go_sem]
    have q1 : w1.cell? ⟨w.heap.size, 1, none⟩ = some (.slice ya y.ks.length yc) := by rw [← hW]; simp [go_sem]
    clear hW
    have hbelow : Hid (Below w.heap.size w (w1.alloc (.cells #[.string x, .int .i8 y.k, .slice ya y.ks.length yc] 197)).drew) := by
      show Below _ _ _
      (repeat (first | assumption | exact Below.refl _ _ | apply below_drewN | apply Below.drew | (refine Below.alloc ?_ (by first | omega | (simp; done) | (simp; omega)) _) | (refine Below.setCell ?_ (by first | omega | (simp; done) | (simp; omega)) _)))
    have hnews : Hid ((w1.alloc (.cells #[.string x, .int .i8 y.k, .slice ya y.ks.length yc] 197)).drew.heap[w.heap.size + 1]? = some (.cells #[.string x, .int .i8 y.k, .slice ya y.ks.length yc] 197 (0, 0))) := by show _ = _; rw [← hz]; exact heap_alloc_new w1 _
    go_region_law (refine step_append_grows (by rfl) _ _ _ (by rfl) 197 i0 _ 3 48 Try.underlying157 HI.out.1 HI.out.2.1 HI.out.2.2.1 HI.out.2.2.2 rfl (by omega) none 0 0 [] (by rfl) (by intro h; exact ⟨rfl, rfl⟩) rfl (HOLD.out _ hbelow.out) ⟨w.heap.size + 1, 0, none⟩ 1 1 [.string x, .int .i8 y.k, .slice ya y.ks.length yc] (by rfl) (by rfl) (World.news_of_block (cs := #[.string x, .int .i8 y.k, .slice ya y.ks.length yc]) (t := 197) (fr := (0, 0)) hnews.out) (by simp [Value.oneCell']) (by omega) (by unfold maxLen; omega) (by omega) ?_; intro v' w2 hown2 hgrow)
    go_wp2_with fail
    have hb2 : Below w.heap.size w w2 := hbelow.out.trans ⟨hgrow.os, hgrow.tape, hgrow.output, hgrow.size, fun k hk => hgrow.block k (by simp; omega) (by simp)⟩
    obtain ⟨g, cap, cur, rfl, hg, hh, hcap, -, -, -⟩ : ∃ g cap cur, v' = .slice (some ⟨g, 0, none⟩) (0 + 1) cap ∧ True ∧ w2.heap[g]? = some (.cells cur 197 (0, 0)) ∧ 0 + 1 ≤ cap ∧ cap ≤ maxLen ∧ cur.size = cap * 3 ∧ cur.toList.take ((0 + 1) * 3) = [] ++ [.string x, .int .i8 y.k, .slice ya y.ks.length yc] := by
      rcases hown2.2 with ⟨-, h2⟩ | h2
      · omega
      · obtain ⟨g, cap, cur, h3, -, h4⟩ := h2
        exact ⟨g, cap, cur, h3, trivial, h4⟩
    have hcells : ∀ j u, ([] ++ [.string x, .int .i8 y.k, .slice ya y.ks.length yc])[j]? = some u → w2.cell? ⟨g, j, none⟩ = some u := by
      intro j u hj
      have h := hown2.cells (g := g) rfl j u hj
      rwa [show (⟨g, 0, none⟩ : Addr).add j = ⟨g, j, none⟩ by unfold Addr.add; split <;> simp_all] at h
    refine bodyPost_ret (results_tmp rfl _ _ _) rfl ⟨_, cap, rfl, .inr ⟨g, _, rfl, (Array.getElem?_eq_some_iff.1 hh).1, by simp, by simpa using hcap, EnvCells.push (hy.below hb2 hS) (S := S) (w := w2) (l := []) (cs := []) rfl, hcells⟩, hb2⟩
  · have hcl := Lib.hid hcs.length
    have HOLD : Hid (∀ W, Below w.heap.size w W → ∀ b', some (⟨b, 0, none⟩ : Addr) = some b' → ∀ j u, cs[j]? = some u → W.cell? (b'.add j) = some u) := by
      intro W hW b' hb' j u hj
      cases hb'
      rw [show (⟨b, 0, none⟩ : Addr).add j = ⟨b, j, none⟩ by unfold Addr.add; split <;> simp_all]
      exact (hW.cell (p := ⟨b, j, none⟩) (by show b < w.heap.size; omega)).trans (hold j u hj)
    have HC := Lib.hid hcs
    clear hcs hold
    go_enter Try.func126, Try.ntmps126
    go_wp2_with fail
    generalize hW : World.alloc _ _ = w1
    have hb1 : Below w.heap.size w w1 := by rw [← hW]; (repeat (first | assumption | exact Below.refl _ _ | apply below_drewN | apply Below.drew | (refine Below.alloc ?_ (by first | omega | (simp; done) | (simp; omega)) _) | (refine Below.setCell ?_ (by first | omega | (simp; done) | (simp; omega)) _)))
    have hz : w1.heap.size = w.heap.size + 1 := by rw [← hW]; simp
    have q0 : w1.cell? ⟨w.heap.size, 0, none⟩ = some (.int .i8 y.k) := by rw [← hW]; simp [go_sem]
    have q1 : w1.cell? ⟨w.heap.size, 1, none⟩ = some (.slice ya y.ks.length yc) := by rw [← hW]; simp [go_sem]
    clear hW
    have hbelow : Hid (Below w.heap.size w (w1.alloc (.cells #[.string x, .int .i8 y.k, .slice ya y.ks.length yc] 197)).drew) := by
      show Below _ _ _
      (repeat (first | assumption | exact Below.refl _ _ | apply below_drewN | apply Below.drew | (refine Below.alloc ?_ (by first | omega | (simp; done) | (simp; omega)) _) | (refine Below.setCell ?_ (by first | omega | (simp; done) | (simp; omega)) _)))
    have hnews : Hid ((w1.alloc (.cells #[.string x, .int .i8 y.k, .slice ya y.ks.length yc] 197)).drew.heap[w.heap.size + 1]? = some (.cells #[.string x, .int .i8 y.k, .slice ya y.ks.length yc] 197 (0, 0))) := by show _ = _; rw [← hz]; exact heap_alloc_new w1 _
    go_region_law (refine step_append_grows (by rfl) _ _ _ (by rfl) 197 i0 _ 3 48 Try.underlying157 HI.out.1 HI.out.2.1 HI.out.2.2.1 HI.out.2.2.2 rfl (by omega) (some ⟨b, 0, none⟩) l.length l.length cs (by rfl) (by intro h; cases h) hcl.out (HOLD.out _ hbelow.out) ⟨w.heap.size + 1, 0, none⟩ 1 1 [.string x, .int .i8 y.k, .slice ya y.ks.length yc] (by rfl) (by rfl) (World.news_of_block (cs := #[.string x, .int .i8 y.k, .slice ya y.ks.length yc]) (t := 197) (fr := (0, 0)) hnews.out) (by simp [Value.oneCell']) (by omega) (by unfold maxLen; omega) (by omega) ?_; intro v' w2 hown2 hgrow)
    go_wp2_with fail
    have hb2 : Below w.heap.size w w2 := hbelow.out.trans ⟨hgrow.os, hgrow.tape, hgrow.output, hgrow.size, fun k hk => hgrow.block k (by simp; omega) (by simp)⟩
    obtain ⟨g, cap, cur, rfl, hg, hh, hcap, -, -, -⟩ : ∃ g cap cur, v' = .slice (some ⟨g, 0, none⟩) (l.length + 1) cap ∧ True ∧ w2.heap[g]? = some (.cells cur 197 (0, 0)) ∧ l.length + 1 ≤ cap ∧ cap ≤ maxLen ∧ cur.size = cap * 3 ∧ cur.toList.take ((l.length + 1) * 3) = cs ++ [.string x, .int .i8 y.k, .slice ya y.ks.length yc] := by
      rcases hown2.2 with ⟨-, h2⟩ | h2
      · omega
      · obtain ⟨g, cap, cur, h3, -, h4⟩ := h2
        exact ⟨g, cap, cur, h3, trivial, h4⟩
    have hcells : ∀ j u, (cs ++ [.string x, .int .i8 y.k, .slice ya y.ks.length yc])[j]? = some u → w2.cell? ⟨g, j, none⟩ = some u := by
      intro j u hj
      have h := hown2.cells (g := g) rfl j u hj
      rwa [show (⟨g, 0, none⟩ : Addr).add j = ⟨g, j, none⟩ by unfold Addr.add; split <;> simp_all] at h
    refine bodyPost_ret (results_tmp rfl _ _ _) rfl ⟨_, cap, rfl, .inr ⟨g, _, rfl, (Array.getElem?_eq_some_iff.1 hh).1, by simp, by simpa using hcap, EnvCells.push (hy.below hb2 hS) (HC.out.below hb2 hS), hcells⟩, hb2⟩
end Go.Proofs.Ytaoodchjggimcaa

/- The walks of agree.As and package order. -/
set_option linter.unusedVariables false
set_option linter.unusedSimpArgs false
namespace Go.Proofs.Ytaoodchjggimcaa
open Go.RowKit

theorem RTy.unk_inS (w : World) (S : Nat → Prop) (a : Option Addr) : RTy.unk.InS w S a := by
  unfold RTy.unk RTy.InS RTy.InsS
  exact ⟨⟨by omega, by omega⟩, by simp [lenMax], trivial⟩
def AsPost (k : Int) (t : RTy) (S : Nat → Prop) (w : World) (e : Ending) (w' : World) : Prop :=
  ∃ (l r : RTy) (al ar : Option Addr) (cl cr : Nat) (b : Bool), e = .returned (.tuple #[.agg #[.int .i8 l.k, .slice al l.ks.length cl], .agg #[.int .i8 r.k, .slice ar r.ks.length cr], .bool b]) ∧
    l.InS w' S al ∧ r.InS w' S ar ∧ RTy.as k t = (l, r, b) ∧ Below w.heap.size w w'

set_option maxHeartbeats 2000000 in
theorem as_any (k : Int) (t : RTy) (S : Nat → Prop) (a : Option Addr) (c : Nat) (w : World) (hk3 : 3 ≤ k) (hk5 : k ≤ 5) (hS : ∀ b, S b → b < w.heap.size) (hinS : t.InS w S a) :
    Calls Try.prog 40 #[.int .i8 k, .agg #[.int .i8 t.k, .slice a t.ks.length c]] w (AsPost k t S w) := by
  have hin : t.In w w.heap.size a := hinS.up hS
  have hB : w.heap.size ≤ w.heap.size := Nat.le_refl _
  have q0 : ∀ (A B C : Obj), Below w.heap.size w (((w.alloc A).alloc B).alloc C) := fun A B C => by (repeat (first | assumption | exact Below.refl _ _ | apply below_drewN | apply Below.drew | (refine Below.alloc ?_ (by first | omega | (simp; done) | (simp; omega)) _) | (refine Below.setCell ?_ (by first | omega | (simp; done) | (simp; omega)) _)))
  have qs : ∀ (A B C : Obj), (((w.alloc A).alloc B).alloc C).heap.size = w.heap.size + 1 + 1 + 1 := fun A B C => by simp
  have Q0 := Lib.hid q0
  have QS := Lib.hid qs
  clear q0 qs
  have HAS : Hid (RTy.as k t = RTy.as k t) := rfl
  go_enter Try.func40, Try.ntmps40
  go_wp2_with fail
  refine (tcheck_any t w.heap.size a c _ (hin.below (Q0.out _ _ _) hB) (by rw [QS.out]; omega)).mono ?_
  rintro e w1 ⟨rfl, hb1⟩
  have hb0 : Below w.heap.size w w1 := Below.trans (Q0.out _ _ _) (hb1.mono (by rw [QS.out]; omega))
  have hs := hb1.size
  rw [QS.out] at hs
  have q1 : w1.cell? ⟨w.heap.size, 0, none⟩ = some (.int .i8 t.k) := cell_kept hb1 (by simp [go_sem])
  have q2 : w1.cell? ⟨w.heap.size, 1, none⟩ = some (.slice a t.ks.length c) := cell_kept hb1 (by simp [go_sem])
  have q3 : w1.cell? ⟨w.heap.size + 1, 0, none⟩ = some (.int .i8 0) := cell_kept hb1 (by simp [go_sem])
  have q4 : w1.cell? ⟨w.heap.size + 1, 1, none⟩ = some (.slice none 0 0) := cell_kept hb1 (by simp [go_sem])
  have q5 : w1.cell? ⟨w.heap.size + 1 + 1, 0, none⟩ = some (.int .i8 0) := cell_kept hb1 (by simp [go_sem])
  have q6 : w1.cell? ⟨w.heap.size + 1 + 1, 1, none⟩ = some (.slice none 0 0) := cell_kept hb1 (by simp [go_sem])
  have f3 : w1.frozen? ⟨w.heap.size + 1, 0, none⟩ = false := frozen_kept hb1 (by rw [QS.out]; omega) (by simp [go_sem])
  have f4 : w1.frozen? ⟨w.heap.size + 1, 1, none⟩ = false := frozen_kept hb1 (by rw [QS.out]; omega) (by simp [go_sem])
  have f5 : w1.frozen? ⟨w.heap.size + 1 + 1, 0, none⟩ = false := frozen_kept hb1 (by rw [QS.out]; omega) (by simp [go_sem])
  have f6 : w1.frozen? ⟨w.heap.size + 1 + 1, 1, none⟩ = false := frozen_kept hb1 (by rw [QS.out]; omega) (by simp [go_sem])
  by_cases h1 : t.check = 0
  · have h1' : (t.check != 0) = false := by simp [h1]
    have hok : Hid (t.ok = true) := by show t.ok = true; simp [RTy.ok, h1]
    clear h1
    by_cases h2 : t.k = 0
    · have h2' : (t.k == 0) = true := by simp [h2]
      have e : Hid (RTy.as k t = (RTy.unk, RTy.unk, true)) := by show RTy.as k t = _; unfold RTy.as; simp [hok.out, h2]
      clear h2
      go_wp2_with fail
      go_region
      go_wp2_with fail
      refine bodyPost_ret (v := .tuple #[.agg #[.int .i8 0, .slice none 0 0], .agg #[.int .i8 0, .slice none 0 0], .bool true]) (by simp [results, Try.results40, go_sem, q3, q4, q5, q6]) rfl ⟨RTy.unk, RTy.unk, none, none, 0, 0, true, rfl, RTy.unk_inS _ _ _, RTy.unk_inS _ _ _, e.out, ?_⟩
      (repeat (first | assumption | exact Below.refl _ _ | apply below_drewN | apply Below.drew | (refine Below.alloc ?_ (by first | omega | (simp; done) | (simp; omega)) _) | (refine Below.setCell ?_ (by first | omega | (simp; done) | (simp; omega)) _)))
    · have h2' : (t.k == 0) = false := by simp [h2]
      by_cases h3 : t.k = k
      · have h3' : (t.k != k) = false := by simp [h3]
        have e : Hid (RTy.as k t = (t.ks.getD 0 RTy.unk, t.ks.getD 1 RTy.unk, true)) := by show RTy.as k t = _; unfold RTy.as; simp [hok.out, h2, h3]; omega
        obtain ⟨x, y, hxy⟩ := RTy.kids_two (RTy.ok_right hok.out) (by omega) (by omega)
        obtain ⟨b, o, xa, xc, rfl, hbB, hc1, hc2, hx⟩ := (RTy.InS.below hinS hb0 hS).kid (j := 0) (x := x) (by rw [hxy]; rfl)
        obtain ⟨b', o', ya, yc, hbo, hbB', hc3, hc4, hy⟩ := (RTy.InS.below hinS hb0 hS).kid (j := 1) (x := y) (by rw [hxy]; rfl)
        simp only [Option.some.injEq, Addr.mk.injEq] at hbo
        obtain ⟨rfl, rfl, -⟩ := hbo
        have e : Hid (RTy.as k t = (x, y, true)) := by show RTy.as k t = _; rw [e.out, hxy]; rfl
        have hl : Hid (t.ks.length = 2) := by show t.ks.length = 2; rw [hxy]; rfl
        simp only [Nat.zero_mul, Nat.one_mul, Nat.add_zero] at hc1 hc2 hc3 hc4
        have hl0 : (0 : Int) < (t.ks.length : Int) := by have := hl.out; omega
        have hl1 : (1 : Int) < (t.ks.length : Int) := by have := hl.out; omega
        clear h2 h3 hxy
        go_wp2_with fail
        go_region
        go_wp2_with fail
        refine bodyPost_ret (v := .tuple #[.agg #[.int .i8 x.k, .slice xa x.ks.length xc], .agg #[.int .i8 y.k, .slice ya y.ks.length yc], .bool true]) (by simp [results, Try.results40, go_sem, q3, q4, q5, q6]) rfl ⟨x, y, xa, ya, xc, yc, true, rfl, ?_, ?_, e.out, ?_⟩
        · refine RTy.InS.below (C := w.heap.size) (w := w1) hx ?_ hS
          (repeat (first | assumption | exact Below.refl _ _ | apply below_drewN | apply Below.drew | (refine Below.alloc ?_ (by first | omega | (simp; done) | (simp; omega)) _) | (refine Below.setCell ?_ (by first | omega | (simp; done) | (simp; omega)) _)))
        · refine RTy.InS.below (C := w.heap.size) (w := w1) hy ?_ hS
          (repeat (first | assumption | exact Below.refl _ _ | apply below_drewN | apply Below.drew | (refine Below.alloc ?_ (by first | omega | (simp; done) | (simp; omega)) _) | (refine Below.setCell ?_ (by first | omega | (simp; done) | (simp; omega)) _)))
        · (repeat (first | assumption | exact Below.refl _ _ | apply below_drewN | apply Below.drew | (refine Below.alloc ?_ (by first | omega | (simp; done) | (simp; omega)) _) | (refine Below.setCell ?_ (by first | omega | (simp; done) | (simp; omega)) _)))
      · have h3' : (t.k != k) = true := by simp [h3]
        have e : Hid (RTy.as k t = (RTy.unk, RTy.unk, false)) := by show RTy.as k t = _; unfold RTy.as; simp [hok.out, h2, h3]
        clear h2 h3
        go_wp2_with fail
        go_region
        go_wp2_with fail
        refine bodyPost_ret (v := .tuple #[.agg #[.int .i8 0, .slice none 0 0], .agg #[.int .i8 0, .slice none 0 0], .bool false]) (by simp [results, Try.results40, go_sem, q3, q4, q5, q6]) rfl ⟨RTy.unk, RTy.unk, none, none, 0, 0, false, rfl, RTy.unk_inS _ _ _, RTy.unk_inS _ _ _, e.out, ?_⟩
        (repeat (first | assumption | exact Below.refl _ _ | apply below_drewN | apply Below.drew | (refine Below.alloc ?_ (by first | omega | (simp; done) | (simp; omega)) _) | (refine Below.setCell ?_ (by first | omega | (simp; done) | (simp; omega)) _)))
  · have h1' : (t.check != 0) = true := by simp [h1]
    have hok : Hid (t.ok = false) := by show t.ok = false; simp [RTy.ok, h1]
    have e : Hid (RTy.as k t = (RTy.unk, RTy.unk, false)) := by show RTy.as k t = _; unfold RTy.as; simp [hok.out]
    clear h1
    go_wp2_with fail
    go_region
    go_wp2_with fail
    refine bodyPost_ret (v := .tuple #[.agg #[.int .i8 0, .slice none 0 0], .agg #[.int .i8 0, .slice none 0 0], .bool false]) (by simp [results, Try.results40, go_sem, q3, q4, q5, q6]) rfl ⟨RTy.unk, RTy.unk, none, none, 0, 0, false, rfl, RTy.unk_inS _ _ _, RTy.unk_inS _ _ _, e.out, ?_⟩
    (repeat (first | assumption | exact Below.refl _ _ | apply below_drewN | apply Below.drew | (refine Below.alloc ?_ (by first | omega | (simp; done) | (simp; omega)) _) | (refine Below.setCell ?_ (by first | omega | (simp; done) | (simp; omega)) _)))
end Go.Proofs.Ytaoodchjggimcaa

/- The walks of package order: the meet. -/
set_option linter.unusedVariables false
set_option linter.unusedSimpArgs false
namespace Go.Proofs.Ytaoodchjggimcaa
open Go.RowKit


set_option maxRecDepth 100000 in
set_option maxHeartbeats 4000000 in
theorem meet_core1 (N : Nat) (ih : ∀ (t u : RTy) (B b o b' o' : Nat) (a a' : Option Addr) (c c' : Nat) (w : World), t.nodes ≤ N → u.nodes ≤ N → RTy.At w B b o a c t → RTy.At w B b' o' a' c' u → t.right = true → u.right = true → t.lev u = true → B ≤ w.heap.size →
      Calls Try.prog 73 #[.pointer (some ⟨b, o, none⟩), .pointer (some ⟨b', o', none⟩)] w (FreshTy (t.meet u) w))
    (t u : RTy) (B b o b' o' : Nat) (a a' : Option Addr) (c c' : Nat) (w : World) (hat : RTy.At w B b o a c t) (hat' : RTy.At w B b' o' a' c' u) (HP : Hid (RTy.Pair (N + 1) u u)) (h0 : (t.k == 0) = true) (h1 : (u.k == 0) = true) (hB : B ≤ w.heap.size) :
    Calls Try.prog 73 #[.pointer (some ⟨b, o, none⟩), .pointer (some ⟨b', o', none⟩)] w (FreshTy (.mk u.k (RTy.meetL u.ks u.ks)) w) := by
  have hlen := HP.out.small
  have hlen' : u.ks.length ≤ u.ks.length := by have := HP.out.len; omega
  obtain ⟨i0, hi, hz0, hz1, hz2⟩ := info_parts infoTy
  have HI := Lib.hid (And.intro hi (And.intro hz0 (And.intro hz1 hz2)))
  clear hi hz0 hz1 hz2
  have hq0 := hat.c0
  have hq1 := hat'.c1
  have hq2 := hat'.c0
  have hbl : b < w.heap.size := Nat.lt_of_lt_of_le hat.lt hB
  have hbl' : b' < w.heap.size := Nat.lt_of_lt_of_le hat'.lt hB
  have hkd := hat'.inn.kind
  go_enter Try.func73, Try.ntmps73
  go_wp2_with fail
  go_loopw [29] (fun i wr => ∃ j : Nat, j ≤ u.ks.length ∧ i = .int .i64 j ∧ ∃ v cs, OwnTys wr (w.heap.size + 2) 25 (fun b => w.heap.size + 2 ≤ b ∧ b < wr.heap.size) v (RTy.meetL (u.ks.take j) (u.ks.take j)) cs ∧
      wr.cell? ⟨w.heap.size, 0, none⟩ = some (.int .i8 0) ∧ wr.cell? ⟨w.heap.size, 1, none⟩ = some (.slice none 0 0) ∧ wr.cell? ⟨w.heap.size + 1, 0, none⟩ = some (.int .i8 u.k) ∧ wr.cell? ⟨w.heap.size + 1, 1, none⟩ = some v ∧
      wr.frozen? ⟨w.heap.size, 0, none⟩ = false ∧ wr.frozen? ⟨w.heap.size, 1, none⟩ = false ∧ wr.frozen? ⟨w.heap.size + 1, 1, none⟩ = false ∧ w.heap.size + 2 ≤ wr.heap.size ∧ Below w.heap.size w wr) (fun i _ => u.ks.length - (intOf i).toNat)
  case atStart => exact ⟨0, by omega, rfl, .slice none 0 0, [], by simpa [RTy.meetL] using OwnTys.nil _ _ _ _, by simp [go_sem], by simp [go_sem], by simp [go_sem], by simp [go_sem], by simp [go_sem], by simp [go_sem], by simp [go_sem], by simp, by (repeat (first | assumption | exact Below.refl _ _ | apply below_drewN | apply Below.drew | (refine Below.alloc ?_ (by first | omega | (simp; done) | (simp; omega)) _) | (refine Below.setCell ?_ (by first | omega | (simp; done) | (simp; omega)) _)))⟩
  case round =>
    obtain ⟨j, hj, rfl, v, cs, hown, m0, m1, m2, m3, f0, f1, f2, hs2, hb0⟩ := hrel
    by_cases hlt : j < u.ks.length
    · have hlt' : j < u.ks.length := by omega
      have hk := List.getElem?_eq_getElem hlt
      generalize hkid : u.ks[j] = kid at hk
      have hk' := List.getElem?_eq_getElem hlt'
      generalize hkid' : u.ks[j] = kid' at hk'
      have HT := Lib.hid (RTy.meetL_take _ _ _ _ _ hk hk')
      have hr1 := hat'.below hb0 hB
      have hr1' := hat'.below hb0 hB
      obtain ⟨kb, ko, ka, kc, hAe, hkat⟩ := hr1.kid hk
      obtain ⟨kb', ko', ka', kc', hAe', hkat'⟩ := hr1'.kid hk'
      have hnk := RTy.kid_nodes hk
      have hnk' := RTy.kid_nodes hk'
      have hkr := Lib.hid (RTy.right_kid HP.out.rx hk)
      have hkr' := Lib.hid (RTy.right_kid HP.out.ry hk')
      have hkl := Lib.hid (RTy.levL_get HP.out.lev hk hk')
      have q1 := hr1.c1
      have q2 := hr1'.c1
      have hee := hAe.symm.trans hAe'
      simp only [Option.some.injEq, Addr.mk.injEq, and_true] at hee
      obtain ⟨rfl, rfl⟩ := hee
      rw [hAe] at q1
      rw [hAe'] at q2
      have hkl2 : (RTy.meetL (u.ks.take j) (u.ks.take j)).length = j := by rw [RTy.meetL_length _ _ (by first | rfl | (simp only [List.length_take]; omega))]; rw [List.length_take]; omega
      have HL := Lib.hid hkl2
      have hnx := HP.out.nx
      have hny := HP.out.ny
      clear hAe hAe'
      clear hk hkid hk' hkid' hkl2
      obtain ⟨va, vc, rfl, hva⟩ := hown.shape
      rw [HL.out] at m3 hown
      have hbs := hb0.size
      have hcall := Lib.hid fun (W : World) (hW : Below wr.heap.size wr W) => ih kid kid' B kb (ko + j * 2) kb (ko + j * 2) ka ka' kc kc' W (by omega) (by omega) (hkat.below hW (by omega)) (hkat'.below hW (by omega)) hkr.out hkr'.out hkl.out (by have := hW.size; omega)
      go_wp2_with fail
      have hne1 : w.heap.size + 1 ≠ b' := by omega
      have hne2 : w.heap.size + 1 ≠ b' := by omega
      have far1 : Hid (∀ x : Nat, x < w.heap.size + 2 → some x ≠ (Value.slice va j vc).ownBlock) := fun x hx he => absurd (hown.own.lt x he.symm).1 (by omega)
      have hown1 : Hid (∀ {w1 : World} {o : Obj}, Below wr.drew.heap.size wr.drew w1 → (w1.alloc o).ownsRow (w.heap.size + 2) 25 2 (.slice va j vc) j cs) := fun {w1} {o} hb1 => by
        have h := hown.own
        rw [HL.out] at h
        exact (World.ownsRow.alloc (h.kept (w' := w1) (row := none) ⟨hb1.os, hb1.tape, hb1.output, hb1.size, fun k hk _ => hb1.block k hk⟩ (by cases Value.ownBlock (Value.slice va j vc) <;> simp)) o)
      go_region_law (first
            | (refine step_append_lies _ (by rfl) _ _ _ (by rfl) (w.heap.size + 2) 25 i0 _ 2 32 Try.underlying23 HI.out.1 HI.out.2.1 HI.out.2.2.1 HI.out.2.2.2 rfl (by omega) (.slice va j vc) j cs (by rfl) ?c0 ⟨w1.heap.size, 0, none⟩ 1 1 [.int .i8 (kid.meet kid').k, .slice a1 (kid.meet kid').ks.length c1] (by rfl) (by rfl) (World.news_of_block (cs := #[.int .i8 (kid.meet kid').k, .slice a1 (kid.meet kid').ks.length c1]) (t := 25) (fr := (0, 0)) (heap_alloc_new w1 _)) (by simp [Value.oneCell']) (by omega) (by unfold maxLen; omega) (by omega) (by rw [World.size_alloc]; omega) (w1.heap.size + 1) (by rw [World.size_alloc]) ?_; (case c0 => exact hown1.out hb1); intro g cap w2 hown2 hgrow hat hlt
               have m3 := (hgrow.cell_far _ (by rw [World.size_alloc]; show w.heap.size + 1 < _; omega) (far1.out _ (Nat.lt_succ_self _))).trans (cell_kept (below_new _ _) m3)
               have f2 := (hgrow.frozen_far _ (by rw [World.size_alloc]; show w.heap.size + 1 < _; omega) (far1.out _ (Nat.lt_succ_self _))).trans (frozen_kept (below_new _ _) (by omega) f2))
            | (go_simp; go_at_call 73; refine (hcall.out _ ?_).mono ?_; (repeat (first | assumption | exact Below.refl _ _ | apply below_drewN | apply Below.drew | (refine Below.alloc ?_ (by first | omega | (simp; done) | (simp; omega)) _) | (refine Below.setCell ?_ (by first | omega | (simp; done) | (simp; omega)) _))); rintro e w1 ⟨a1, c1, rfl, hin1, hb1⟩; have hs1 := hb1.size; rw [World.size_drew] at hs1; have m3 := cell_kept hb1 m3; have q1 := cell_kept hb1 q1; have q2 := cell_kept hb1 q2; have f2 := frozen_kept hb1 (by rw [World.size_drew]; omega) f2; have hlt1 : w.heap.size + 1 < w1.heap.size := by omega))
      all_goals
        have hb1' : Below wr.heap.size wr w1 := Below.trans (Below.refl wr.heap.size wr).drew hb1
        have hpush := hown.step hb1' hs2 hin1 (by rw [HL.out]) hown2 hgrow hat
        have hfar := hown.far hb1' hs2 hgrow
        have hne : g ≠ w.heap.size + 1 := by
          have := hpush.own.lt g rfl
          omega
        have hsz2 := hfar.size
        have HP2 := Lib.hid hpush
        have HF := Lib.hid hfar
        have HE := Lib.hid hne
        clear hown2 hgrow hat hpush hfar hne hb1 hb1' hin1 q1 q2
        go_wp2_with fail
        go_round
        case rel =>
          refine ⟨j + 1, by omega, by go_num, .slice (some ⟨g, 0, none⟩) (j + 1) cap, cs ++ [.int .i8 (kid.meet kid').k, .slice a1 (kid.meet kid').ks.length c1], ?_, ?_, ?_, ?_, ?_, ?_, ?_, ?_, ?_, ?_⟩
          rotate_left
          · rw [World.cell?_setCell_far _ _ _ _ (by simp), (bcell HF.out).1 _ _ (by omega)]; exact m0
          · rw [World.cell?_setCell_far _ _ _ _ (by simp), (bcell HF.out).1 _ _ (by omega)]; exact m1
          · rw [World.cell?_setCell_other _ _ _ _ (by simp), (bcell HF.out).1 _ _ (by omega)]; exact m2
          · exact World.cell?_setCell_same _ _ _ m3
          · simp [go_sem]; rw [(bcell HF.out).2 _ _ (by omega)]; exact f0
          · simp [go_sem]; rw [(bcell HF.out).2 _ _ (by omega)]; exact f1
          · simp [go_sem]; exact f2
          · simp; omega
          · exact (hb0.trans (HF.out.mono (by omega))).setCell (by simp) _
          · rw [HT.out]
            refine HP2.out.kept (fun x hx => ?_) (fun b hb => ⟨hb.1, by simpa using hb.2⟩) fun b o hb => ?_
            · have hx' : g = x := by simpa [Value.ownBlock] using hx
              subst hx'
              exact Below.heap_setCell _ _ _ _ HE.out
            · exact World.cell?_setCell_far _ _ _ _ (by have := hb.1; show w.heap.size + 1 ≠ b; omega)
        case measure => simp [intOf]; omega
    · have : j = u.ks.length := by omega
      subst this
      have hkl2 : (RTy.meetL (u.ks.take u.ks.length) (u.ks.take u.ks.length)) = RTy.meetL u.ks u.ks := by first | (rw [List.take_length, HP.out.len, List.take_length]; done) | (rw [List.take_length]; done)
      have hkl3 : (RTy.meetL u.ks u.ks).length = u.ks.length := RTy.meetL_length _ _ HP.out.len
      rw [hkl2] at hown
      have HK3 := Lib.hid hkl3
      clear hkl2 hkl3
      obtain ⟨va, vc, rfl, hva⟩ := hown.shape
      obtain ⟨va', vc', hve, hin⟩ := hown.inS (k := u.k) hkd (by rw [HK3.out]; unfold lenMax; omega) (fun b => w.heap.size + 2 ≤ b ∧ b < wr.heap.size) (fun b hb => hb) (fun b hb => by have := hown.own.lt b hb; omega)
      simp only [Value.slice.injEq, true_and] at hve
      obtain ⟨rfl, rfl⟩ := hve
      go_wp2_with fail
      refine bodyPost_ret (v := .agg #[.int .i8 u.k, .slice va (RTy.meetL u.ks u.ks).length vc]) (by simp [results, Try.results73, go_sem, m0, m1]) rfl ⟨va, vc, rfl, ?_, ?_⟩
      · exact hin.mono (fun b hb => ⟨by omega, by simp; omega⟩) fun b o hb => (World.cell?_setCell_far _ _ _ _ (by have := hb.1; show w.heap.size ≠ b; omega)).trans (World.cell?_setCell_far _ _ _ _ (by have := hb.1; show w.heap.size ≠ b; omega))
      · (repeat (first | assumption | exact Below.refl _ _ | apply below_drewN | apply Below.drew | (refine Below.alloc ?_ (by first | omega | (simp; done) | (simp; omega)) _) | (refine Below.setCell ?_ (by first | omega | (simp; done) | (simp; omega)) _)))
end Go.Proofs.Ytaoodchjggimcaa

/- The walks of package order: the meet. -/
set_option linter.unusedVariables false
set_option linter.unusedSimpArgs false
namespace Go.Proofs.Ytaoodchjggimcaa
open Go.RowKit


set_option maxRecDepth 100000 in
set_option maxHeartbeats 4000000 in
theorem meet_core2 (N : Nat) (ih : ∀ (t u : RTy) (B b o b' o' : Nat) (a a' : Option Addr) (c c' : Nat) (w : World), t.nodes ≤ N → u.nodes ≤ N → RTy.At w B b o a c t → RTy.At w B b' o' a' c' u → t.right = true → u.right = true → t.lev u = true → B ≤ w.heap.size →
      Calls Try.prog 73 #[.pointer (some ⟨b, o, none⟩), .pointer (some ⟨b', o', none⟩)] w (FreshTy (t.meet u) w))
    (t u : RTy) (B b o b' o' : Nat) (a a' : Option Addr) (c c' : Nat) (w : World) (hat : RTy.At w B b o a c t) (hat' : RTy.At w B b' o' a' c' u) (HP : Hid (RTy.Pair (N + 1) u u)) (h0 : (t.k == 0) = true) (h1 : (u.k == 0) = false) (hB : B ≤ w.heap.size) :
    Calls Try.prog 73 #[.pointer (some ⟨b, o, none⟩), .pointer (some ⟨b', o', none⟩)] w (FreshTy (.mk u.k (RTy.meetL u.ks u.ks)) w) := by
  have hlen := HP.out.small
  have hlen' : u.ks.length ≤ u.ks.length := by have := HP.out.len; omega
  obtain ⟨i0, hi, hz0, hz1, hz2⟩ := info_parts infoTy
  have HI := Lib.hid (And.intro hi (And.intro hz0 (And.intro hz1 hz2)))
  clear hi hz0 hz1 hz2
  have hq0 := hat.c0
  have hq1 := hat'.c1
  have hq2 := hat'.c0
  have hbl : b < w.heap.size := Nat.lt_of_lt_of_le hat.lt hB
  have hbl' : b' < w.heap.size := Nat.lt_of_lt_of_le hat'.lt hB
  have hkd := hat'.inn.kind
  go_enter Try.func73, Try.ntmps73
  go_wp2_with fail
  go_loopw [29] (fun i wr => ∃ j : Nat, j ≤ u.ks.length ∧ i = .int .i64 j ∧ ∃ v cs, OwnTys wr (w.heap.size + 2) 25 (fun b => w.heap.size + 2 ≤ b ∧ b < wr.heap.size) v (RTy.meetL (u.ks.take j) (u.ks.take j)) cs ∧
      wr.cell? ⟨w.heap.size, 0, none⟩ = some (.int .i8 0) ∧ wr.cell? ⟨w.heap.size, 1, none⟩ = some (.slice none 0 0) ∧ wr.cell? ⟨w.heap.size + 1, 0, none⟩ = some (.int .i8 u.k) ∧ wr.cell? ⟨w.heap.size + 1, 1, none⟩ = some v ∧
      wr.frozen? ⟨w.heap.size, 0, none⟩ = false ∧ wr.frozen? ⟨w.heap.size, 1, none⟩ = false ∧ wr.frozen? ⟨w.heap.size + 1, 1, none⟩ = false ∧ w.heap.size + 2 ≤ wr.heap.size ∧ Below w.heap.size w wr) (fun i _ => u.ks.length - (intOf i).toNat)
  case atStart => exact ⟨0, by omega, rfl, .slice none 0 0, [], by simpa [RTy.meetL] using OwnTys.nil _ _ _ _, by simp [go_sem], by simp [go_sem], by simp [go_sem], by simp [go_sem], by simp [go_sem], by simp [go_sem], by simp [go_sem], by simp, by (repeat (first | assumption | exact Below.refl _ _ | apply below_drewN | apply Below.drew | (refine Below.alloc ?_ (by first | omega | (simp; done) | (simp; omega)) _) | (refine Below.setCell ?_ (by first | omega | (simp; done) | (simp; omega)) _)))⟩
  case round =>
    obtain ⟨j, hj, rfl, v, cs, hown, m0, m1, m2, m3, f0, f1, f2, hs2, hb0⟩ := hrel
    by_cases hlt : j < u.ks.length
    · have hlt' : j < u.ks.length := by omega
      have hk := List.getElem?_eq_getElem hlt
      generalize hkid : u.ks[j] = kid at hk
      have hk' := List.getElem?_eq_getElem hlt'
      generalize hkid' : u.ks[j] = kid' at hk'
      have HT := Lib.hid (RTy.meetL_take _ _ _ _ _ hk hk')
      have hr1 := hat'.below hb0 hB
      have hr1' := hat'.below hb0 hB
      obtain ⟨kb, ko, ka, kc, hAe, hkat⟩ := hr1.kid hk
      obtain ⟨kb', ko', ka', kc', hAe', hkat'⟩ := hr1'.kid hk'
      have hnk := RTy.kid_nodes hk
      have hnk' := RTy.kid_nodes hk'
      have hkr := Lib.hid (RTy.right_kid HP.out.rx hk)
      have hkr' := Lib.hid (RTy.right_kid HP.out.ry hk')
      have hkl := Lib.hid (RTy.levL_get HP.out.lev hk hk')
      have q1 := hr1.c1
      have q2 := hr1'.c1
      have hee := hAe.symm.trans hAe'
      simp only [Option.some.injEq, Addr.mk.injEq, and_true] at hee
      obtain ⟨rfl, rfl⟩ := hee
      rw [hAe] at q1
      rw [hAe'] at q2
      have hkl2 : (RTy.meetL (u.ks.take j) (u.ks.take j)).length = j := by rw [RTy.meetL_length _ _ (by first | rfl | (simp only [List.length_take]; omega))]; rw [List.length_take]; omega
      have HL := Lib.hid hkl2
      have hnx := HP.out.nx
      have hny := HP.out.ny
      clear hAe hAe'
      clear hk hkid hk' hkid' hkl2
      obtain ⟨va, vc, rfl, hva⟩ := hown.shape
      rw [HL.out] at m3 hown
      have hbs := hb0.size
      have hcall := Lib.hid fun (W : World) (hW : Below wr.heap.size wr W) => ih kid kid' B kb (ko + j * 2) kb (ko + j * 2) ka ka' kc kc' W (by omega) (by omega) (hkat.below hW (by omega)) (hkat'.below hW (by omega)) hkr.out hkr'.out hkl.out (by have := hW.size; omega)
      go_wp2_with fail
      have hne1 : w.heap.size + 1 ≠ b' := by omega
      have hne2 : w.heap.size + 1 ≠ b' := by omega
      have far1 : Hid (∀ x : Nat, x < w.heap.size + 2 → some x ≠ (Value.slice va j vc).ownBlock) := fun x hx he => absurd (hown.own.lt x he.symm).1 (by omega)
      have hown1 : Hid (∀ {w1 : World} {o : Obj}, Below wr.drew.heap.size wr.drew w1 → (w1.alloc o).ownsRow (w.heap.size + 2) 25 2 (.slice va j vc) j cs) := fun {w1} {o} hb1 => by
        have h := hown.own
        rw [HL.out] at h
        exact (World.ownsRow.alloc (h.kept (w' := w1) (row := none) ⟨hb1.os, hb1.tape, hb1.output, hb1.size, fun k hk _ => hb1.block k hk⟩ (by cases Value.ownBlock (Value.slice va j vc) <;> simp)) o)
      go_region_law (first
            | (refine step_append_lies _ (by rfl) _ _ _ (by rfl) (w.heap.size + 2) 25 i0 _ 2 32 Try.underlying23 HI.out.1 HI.out.2.1 HI.out.2.2.1 HI.out.2.2.2 rfl (by omega) (.slice va j vc) j cs (by rfl) ?c0 ⟨w1.heap.size, 0, none⟩ 1 1 [.int .i8 (kid.meet kid').k, .slice a1 (kid.meet kid').ks.length c1] (by rfl) (by rfl) (World.news_of_block (cs := #[.int .i8 (kid.meet kid').k, .slice a1 (kid.meet kid').ks.length c1]) (t := 25) (fr := (0, 0)) (heap_alloc_new w1 _)) (by simp [Value.oneCell']) (by omega) (by unfold maxLen; omega) (by omega) (by rw [World.size_alloc]; omega) (w1.heap.size + 1) (by rw [World.size_alloc]) ?_; (case c0 => exact hown1.out hb1); intro g cap w2 hown2 hgrow hat hlt
               have m3 := (hgrow.cell_far _ (by rw [World.size_alloc]; show w.heap.size + 1 < _; omega) (far1.out _ (Nat.lt_succ_self _))).trans (cell_kept (below_new _ _) m3)
               have f2 := (hgrow.frozen_far _ (by rw [World.size_alloc]; show w.heap.size + 1 < _; omega) (far1.out _ (Nat.lt_succ_self _))).trans (frozen_kept (below_new _ _) (by omega) f2))
            | (go_simp; go_at_call 73; refine (hcall.out _ ?_).mono ?_; (repeat (first | assumption | exact Below.refl _ _ | apply below_drewN | apply Below.drew | (refine Below.alloc ?_ (by first | omega | (simp; done) | (simp; omega)) _) | (refine Below.setCell ?_ (by first | omega | (simp; done) | (simp; omega)) _))); rintro e w1 ⟨a1, c1, rfl, hin1, hb1⟩; have hs1 := hb1.size; rw [World.size_drew] at hs1; have m3 := cell_kept hb1 m3; have q1 := cell_kept hb1 q1; have q2 := cell_kept hb1 q2; have f2 := frozen_kept hb1 (by rw [World.size_drew]; omega) f2; have hlt1 : w.heap.size + 1 < w1.heap.size := by omega))
      all_goals
        have hb1' : Below wr.heap.size wr w1 := Below.trans (Below.refl wr.heap.size wr).drew hb1
        have hpush := hown.step hb1' hs2 hin1 (by rw [HL.out]) hown2 hgrow hat
        have hfar := hown.far hb1' hs2 hgrow
        have hne : g ≠ w.heap.size + 1 := by
          have := hpush.own.lt g rfl
          omega
        have hsz2 := hfar.size
        have HP2 := Lib.hid hpush
        have HF := Lib.hid hfar
        have HE := Lib.hid hne
        clear hown2 hgrow hat hpush hfar hne hb1 hb1' hin1 q1 q2
        go_wp2_with fail
        go_round
        case rel =>
          refine ⟨j + 1, by omega, by go_num, .slice (some ⟨g, 0, none⟩) (j + 1) cap, cs ++ [.int .i8 (kid.meet kid').k, .slice a1 (kid.meet kid').ks.length c1], ?_, ?_, ?_, ?_, ?_, ?_, ?_, ?_, ?_, ?_⟩
          rotate_left
          · rw [World.cell?_setCell_far _ _ _ _ (by simp), (bcell HF.out).1 _ _ (by omega)]; exact m0
          · rw [World.cell?_setCell_far _ _ _ _ (by simp), (bcell HF.out).1 _ _ (by omega)]; exact m1
          · rw [World.cell?_setCell_other _ _ _ _ (by simp), (bcell HF.out).1 _ _ (by omega)]; exact m2
          · exact World.cell?_setCell_same _ _ _ m3
          · simp [go_sem]; rw [(bcell HF.out).2 _ _ (by omega)]; exact f0
          · simp [go_sem]; rw [(bcell HF.out).2 _ _ (by omega)]; exact f1
          · simp [go_sem]; exact f2
          · simp; omega
          · exact (hb0.trans (HF.out.mono (by omega))).setCell (by simp) _
          · rw [HT.out]
            refine HP2.out.kept (fun x hx => ?_) (fun b hb => ⟨hb.1, by simpa using hb.2⟩) fun b o hb => ?_
            · have hx' : g = x := by simpa [Value.ownBlock] using hx
              subst hx'
              exact Below.heap_setCell _ _ _ _ HE.out
            · exact World.cell?_setCell_far _ _ _ _ (by have := hb.1; show w.heap.size + 1 ≠ b; omega)
        case measure => simp [intOf]; omega
    · have : j = u.ks.length := by omega
      subst this
      have hkl2 : (RTy.meetL (u.ks.take u.ks.length) (u.ks.take u.ks.length)) = RTy.meetL u.ks u.ks := by first | (rw [List.take_length, HP.out.len, List.take_length]; done) | (rw [List.take_length]; done)
      have hkl3 : (RTy.meetL u.ks u.ks).length = u.ks.length := RTy.meetL_length _ _ HP.out.len
      rw [hkl2] at hown
      have HK3 := Lib.hid hkl3
      clear hkl2 hkl3
      obtain ⟨va, vc, rfl, hva⟩ := hown.shape
      obtain ⟨va', vc', hve, hin⟩ := hown.inS (k := u.k) hkd (by rw [HK3.out]; unfold lenMax; omega) (fun b => w.heap.size + 2 ≤ b ∧ b < wr.heap.size) (fun b hb => hb) (fun b hb => by have := hown.own.lt b hb; omega)
      simp only [Value.slice.injEq, true_and] at hve
      obtain ⟨rfl, rfl⟩ := hve
      go_wp2_with fail
      refine bodyPost_ret (v := .agg #[.int .i8 u.k, .slice va (RTy.meetL u.ks u.ks).length vc]) (by simp [results, Try.results73, go_sem, m0, m1]) rfl ⟨va, vc, rfl, ?_, ?_⟩
      · exact hin.mono (fun b hb => ⟨by omega, by simp; omega⟩) fun b o hb => (World.cell?_setCell_far _ _ _ _ (by have := hb.1; show w.heap.size ≠ b; omega)).trans (World.cell?_setCell_far _ _ _ _ (by have := hb.1; show w.heap.size ≠ b; omega))
      · (repeat (first | assumption | exact Below.refl _ _ | apply below_drewN | apply Below.drew | (refine Below.alloc ?_ (by first | omega | (simp; done) | (simp; omega)) _) | (refine Below.setCell ?_ (by first | omega | (simp; done) | (simp; omega)) _)))
end Go.Proofs.Ytaoodchjggimcaa

/- The walks of package order: the meet. -/
set_option linter.unusedVariables false
set_option linter.unusedSimpArgs false
namespace Go.Proofs.Ytaoodchjggimcaa
open Go.RowKit


set_option maxRecDepth 100000 in
set_option maxHeartbeats 4000000 in
theorem meet_core3 (N : Nat) (ih : ∀ (t u : RTy) (B b o b' o' : Nat) (a a' : Option Addr) (c c' : Nat) (w : World), t.nodes ≤ N → u.nodes ≤ N → RTy.At w B b o a c t → RTy.At w B b' o' a' c' u → t.right = true → u.right = true → t.lev u = true → B ≤ w.heap.size →
      Calls Try.prog 73 #[.pointer (some ⟨b, o, none⟩), .pointer (some ⟨b', o', none⟩)] w (FreshTy (t.meet u) w))
    (t u : RTy) (B b o b' o' : Nat) (a a' : Option Addr) (c c' : Nat) (w : World) (hat : RTy.At w B b o a c t) (hat' : RTy.At w B b' o' a' c' u) (HP : Hid (RTy.Pair (N + 1) t t)) (h0 : (t.k == 0) = false) (h1 : (u.k == 0) = true) (hB : B ≤ w.heap.size) :
    Calls Try.prog 73 #[.pointer (some ⟨b, o, none⟩), .pointer (some ⟨b', o', none⟩)] w (FreshTy (.mk t.k (RTy.meetL t.ks t.ks)) w) := by
  have hlen := HP.out.small
  have hlen' : t.ks.length ≤ t.ks.length := by have := HP.out.len; omega
  obtain ⟨i0, hi, hz0, hz1, hz2⟩ := info_parts infoTy
  have HI := Lib.hid (And.intro hi (And.intro hz0 (And.intro hz1 hz2)))
  clear hi hz0 hz1 hz2
  have hq0 := hat.c0
  have hq1 := hat.c1
  have hq2 := hat'.c0
  have hbl : b < w.heap.size := Nat.lt_of_lt_of_le hat.lt hB
  have hbl' : b' < w.heap.size := Nat.lt_of_lt_of_le hat'.lt hB
  have hkd := hat.inn.kind
  go_enter Try.func73, Try.ntmps73
  go_wp2_with fail
  go_loopw [29] (fun i wr => ∃ j : Nat, j ≤ t.ks.length ∧ i = .int .i64 j ∧ ∃ v cs, OwnTys wr (w.heap.size + 2) 25 (fun b => w.heap.size + 2 ≤ b ∧ b < wr.heap.size) v (RTy.meetL (t.ks.take j) (t.ks.take j)) cs ∧
      wr.cell? ⟨w.heap.size, 0, none⟩ = some (.int .i8 0) ∧ wr.cell? ⟨w.heap.size, 1, none⟩ = some (.slice none 0 0) ∧ wr.cell? ⟨w.heap.size + 1, 0, none⟩ = some (.int .i8 t.k) ∧ wr.cell? ⟨w.heap.size + 1, 1, none⟩ = some v ∧
      wr.frozen? ⟨w.heap.size, 0, none⟩ = false ∧ wr.frozen? ⟨w.heap.size, 1, none⟩ = false ∧ wr.frozen? ⟨w.heap.size + 1, 1, none⟩ = false ∧ w.heap.size + 2 ≤ wr.heap.size ∧ Below w.heap.size w wr) (fun i _ => t.ks.length - (intOf i).toNat)
  case atStart => exact ⟨0, by omega, rfl, .slice none 0 0, [], by simpa [RTy.meetL] using OwnTys.nil _ _ _ _, by simp [go_sem], by simp [go_sem], by simp [go_sem], by simp [go_sem], by simp [go_sem], by simp [go_sem], by simp [go_sem], by simp, by (repeat (first | assumption | exact Below.refl _ _ | apply below_drewN | apply Below.drew | (refine Below.alloc ?_ (by first | omega | (simp; done) | (simp; omega)) _) | (refine Below.setCell ?_ (by first | omega | (simp; done) | (simp; omega)) _)))⟩
  case round =>
    obtain ⟨j, hj, rfl, v, cs, hown, m0, m1, m2, m3, f0, f1, f2, hs2, hb0⟩ := hrel
    by_cases hlt : j < t.ks.length
    · have hlt' : j < t.ks.length := by omega
      have hk := List.getElem?_eq_getElem hlt
      generalize hkid : t.ks[j] = kid at hk
      have hk' := List.getElem?_eq_getElem hlt'
      generalize hkid' : t.ks[j] = kid' at hk'
      have HT := Lib.hid (RTy.meetL_take _ _ _ _ _ hk hk')
      have hr1 := hat.below hb0 hB
      have hr1' := hat.below hb0 hB
      obtain ⟨kb, ko, ka, kc, hAe, hkat⟩ := hr1.kid hk
      obtain ⟨kb', ko', ka', kc', hAe', hkat'⟩ := hr1'.kid hk'
      have hnk := RTy.kid_nodes hk
      have hnk' := RTy.kid_nodes hk'
      have hkr := Lib.hid (RTy.right_kid HP.out.rx hk)
      have hkr' := Lib.hid (RTy.right_kid HP.out.ry hk')
      have hkl := Lib.hid (RTy.levL_get HP.out.lev hk hk')
      have q1 := hr1.c1
      have q2 := hr1'.c1
      have hee := hAe.symm.trans hAe'
      simp only [Option.some.injEq, Addr.mk.injEq, and_true] at hee
      obtain ⟨rfl, rfl⟩ := hee
      rw [hAe] at q1
      rw [hAe'] at q2
      have hkl2 : (RTy.meetL (t.ks.take j) (t.ks.take j)).length = j := by rw [RTy.meetL_length _ _ (by first | rfl | (simp only [List.length_take]; omega))]; rw [List.length_take]; omega
      have HL := Lib.hid hkl2
      have hnx := HP.out.nx
      have hny := HP.out.ny
      clear hAe hAe'
      clear hk hkid hk' hkid' hkl2
      obtain ⟨va, vc, rfl, hva⟩ := hown.shape
      rw [HL.out] at m3 hown
      have hbs := hb0.size
      have hcall := Lib.hid fun (W : World) (hW : Below wr.heap.size wr W) => ih kid kid' B kb (ko + j * 2) kb (ko + j * 2) ka ka' kc kc' W (by omega) (by omega) (hkat.below hW (by omega)) (hkat'.below hW (by omega)) hkr.out hkr'.out hkl.out (by have := hW.size; omega)
      go_wp2_with fail
      have hne1 : w.heap.size + 1 ≠ b := by omega
      have hne2 : w.heap.size + 1 ≠ b := by omega
      have far1 : Hid (∀ x : Nat, x < w.heap.size + 2 → some x ≠ (Value.slice va j vc).ownBlock) := fun x hx he => absurd (hown.own.lt x he.symm).1 (by omega)
      have hown1 : Hid (∀ {w1 : World} {o : Obj}, Below wr.drew.heap.size wr.drew w1 → (w1.alloc o).ownsRow (w.heap.size + 2) 25 2 (.slice va j vc) j cs) := fun {w1} {o} hb1 => by
        have h := hown.own
        rw [HL.out] at h
        exact (World.ownsRow.alloc (h.kept (w' := w1) (row := none) ⟨hb1.os, hb1.tape, hb1.output, hb1.size, fun k hk _ => hb1.block k hk⟩ (by cases Value.ownBlock (Value.slice va j vc) <;> simp)) o)
      go_region_law (first
            | (refine step_append_lies _ (by rfl) _ _ _ (by rfl) (w.heap.size + 2) 25 i0 _ 2 32 Try.underlying23 HI.out.1 HI.out.2.1 HI.out.2.2.1 HI.out.2.2.2 rfl (by omega) (.slice va j vc) j cs (by rfl) ?c0 ⟨w1.heap.size, 0, none⟩ 1 1 [.int .i8 (kid.meet kid').k, .slice a1 (kid.meet kid').ks.length c1] (by rfl) (by rfl) (World.news_of_block (cs := #[.int .i8 (kid.meet kid').k, .slice a1 (kid.meet kid').ks.length c1]) (t := 25) (fr := (0, 0)) (heap_alloc_new w1 _)) (by simp [Value.oneCell']) (by omega) (by unfold maxLen; omega) (by omega) (by rw [World.size_alloc]; omega) (w1.heap.size + 1) (by rw [World.size_alloc]) ?_; (case c0 => exact hown1.out hb1); intro g cap w2 hown2 hgrow hat hlt
               have m3 := (hgrow.cell_far _ (by rw [World.size_alloc]; show w.heap.size + 1 < _; omega) (far1.out _ (Nat.lt_succ_self _))).trans (cell_kept (below_new _ _) m3)
               have f2 := (hgrow.frozen_far _ (by rw [World.size_alloc]; show w.heap.size + 1 < _; omega) (far1.out _ (Nat.lt_succ_self _))).trans (frozen_kept (below_new _ _) (by omega) f2))
            | (go_simp; go_at_call 73; refine (hcall.out _ ?_).mono ?_; (repeat (first | assumption | exact Below.refl _ _ | apply below_drewN | apply Below.drew | (refine Below.alloc ?_ (by first | omega | (simp; done) | (simp; omega)) _) | (refine Below.setCell ?_ (by first | omega | (simp; done) | (simp; omega)) _))); rintro e w1 ⟨a1, c1, rfl, hin1, hb1⟩; have hs1 := hb1.size; rw [World.size_drew] at hs1; have m3 := cell_kept hb1 m3; have q1 := cell_kept hb1 q1; have q2 := cell_kept hb1 q2; have f2 := frozen_kept hb1 (by rw [World.size_drew]; omega) f2; have hlt1 : w.heap.size + 1 < w1.heap.size := by omega))
      all_goals
        have hb1' : Below wr.heap.size wr w1 := Below.trans (Below.refl wr.heap.size wr).drew hb1
        have hpush := hown.step hb1' hs2 hin1 (by rw [HL.out]) hown2 hgrow hat
        have hfar := hown.far hb1' hs2 hgrow
        have hne : g ≠ w.heap.size + 1 := by
          have := hpush.own.lt g rfl
          omega
        have hsz2 := hfar.size
        have HP2 := Lib.hid hpush
        have HF := Lib.hid hfar
        have HE := Lib.hid hne
        clear hown2 hgrow hat hpush hfar hne hb1 hb1' hin1 q1 q2
        go_wp2_with fail
        go_round
        case rel =>
          refine ⟨j + 1, by omega, by go_num, .slice (some ⟨g, 0, none⟩) (j + 1) cap, cs ++ [.int .i8 (kid.meet kid').k, .slice a1 (kid.meet kid').ks.length c1], ?_, ?_, ?_, ?_, ?_, ?_, ?_, ?_, ?_, ?_⟩
          rotate_left
          · rw [World.cell?_setCell_far _ _ _ _ (by simp), (bcell HF.out).1 _ _ (by omega)]; exact m0
          · rw [World.cell?_setCell_far _ _ _ _ (by simp), (bcell HF.out).1 _ _ (by omega)]; exact m1
          · rw [World.cell?_setCell_other _ _ _ _ (by simp), (bcell HF.out).1 _ _ (by omega)]; exact m2
          · exact World.cell?_setCell_same _ _ _ m3
          · simp [go_sem]; rw [(bcell HF.out).2 _ _ (by omega)]; exact f0
          · simp [go_sem]; rw [(bcell HF.out).2 _ _ (by omega)]; exact f1
          · simp [go_sem]; exact f2
          · simp; omega
          · exact (hb0.trans (HF.out.mono (by omega))).setCell (by simp) _
          · rw [HT.out]
            refine HP2.out.kept (fun x hx => ?_) (fun b hb => ⟨hb.1, by simpa using hb.2⟩) fun b o hb => ?_
            · have hx' : g = x := by simpa [Value.ownBlock] using hx
              subst hx'
              exact Below.heap_setCell _ _ _ _ HE.out
            · exact World.cell?_setCell_far _ _ _ _ (by have := hb.1; show w.heap.size + 1 ≠ b; omega)
        case measure => simp [intOf]; omega
    · have : j = t.ks.length := by omega
      subst this
      have hkl2 : (RTy.meetL (t.ks.take t.ks.length) (t.ks.take t.ks.length)) = RTy.meetL t.ks t.ks := by first | (rw [List.take_length, HP.out.len, List.take_length]; done) | (rw [List.take_length]; done)
      have hkl3 : (RTy.meetL t.ks t.ks).length = t.ks.length := RTy.meetL_length _ _ HP.out.len
      rw [hkl2] at hown
      have HK3 := Lib.hid hkl3
      clear hkl2 hkl3
      obtain ⟨va, vc, rfl, hva⟩ := hown.shape
      obtain ⟨va', vc', hve, hin⟩ := hown.inS (k := t.k) hkd (by rw [HK3.out]; unfold lenMax; omega) (fun b => w.heap.size + 2 ≤ b ∧ b < wr.heap.size) (fun b hb => hb) (fun b hb => by have := hown.own.lt b hb; omega)
      simp only [Value.slice.injEq, true_and] at hve
      obtain ⟨rfl, rfl⟩ := hve
      go_wp2_with fail
      refine bodyPost_ret (v := .agg #[.int .i8 t.k, .slice va (RTy.meetL t.ks t.ks).length vc]) (by simp [results, Try.results73, go_sem, m0, m1]) rfl ⟨va, vc, rfl, ?_, ?_⟩
      · exact hin.mono (fun b hb => ⟨by omega, by simp; omega⟩) fun b o hb => (World.cell?_setCell_far _ _ _ _ (by have := hb.1; show w.heap.size ≠ b; omega)).trans (World.cell?_setCell_far _ _ _ _ (by have := hb.1; show w.heap.size ≠ b; omega))
      · (repeat (first | assumption | exact Below.refl _ _ | apply below_drewN | apply Below.drew | (refine Below.alloc ?_ (by first | omega | (simp; done) | (simp; omega)) _) | (refine Below.setCell ?_ (by first | omega | (simp; done) | (simp; omega)) _)))
end Go.Proofs.Ytaoodchjggimcaa

/- The walks of package order: the meet. -/
set_option linter.unusedVariables false
set_option linter.unusedSimpArgs false
namespace Go.Proofs.Ytaoodchjggimcaa
open Go.RowKit


theorem meet_any (N : Nat) : ∀ (t u : RTy) (B b o b' o' : Nat) (a a' : Option Addr) (c c' : Nat) (w : World), t.nodes ≤ N → u.nodes ≤ N → RTy.At w B b o a c t → RTy.At w B b' o' a' c' u → t.right = true → u.right = true → t.lev u = true → B ≤ w.heap.size →
      Calls Try.prog 73 #[.pointer (some ⟨b, o, none⟩), .pointer (some ⟨b', o', none⟩)] w (FreshTy (t.meet u) w) := by
  induction N with
  | zero => intro t u B b o b' o' a a' c c' w h; have := t.nodes_pos; omega
  | succ N ih =>
  intro t u B b o b' o' a a' c c' w hN hN' hat hat' hr hr' hl hB
  by_cases h0 : t.k = 0
  · have e : t.meet u = .mk u.k (RTy.meetL u.ks u.ks) := by rw [RTy.meet_unk1 h0, RTy.meetL_self, RTy.eta]
    rw [e]
    by_cases h1 : u.k = 0
    · exact meet_core1 N ih t u B b o b' o' a a' c c' w hat hat' (RTy.pair_self hN' hr') (by simp [h0]) (by simp [h1]) hB
    · exact meet_core2 N ih t u B b o b' o' a a' c c' w hat hat' (RTy.pair_self hN' hr') (by simp [h0]) (by simp [h1]) hB
  · by_cases h1 : u.k = 0
    · have e : t.meet u = .mk t.k (RTy.meetL t.ks t.ks) := by rw [RTy.meet_unk2 h0 h1, RTy.meetL_self, RTy.eta]
      rw [e]
      exact meet_core3 N ih t u B b o b' o' a a' c c' w hat hat' (RTy.pair_self hN hr) (by simp [h0]) (by simp [h1]) hB
    · rw [RTy.meet_both h0 h1]
      exact meet_core N ih t u B b o b' o' a a' c c' w hat hat' (RTy.pair_of hN hN' hr hr' hl h0 h1) (by simp [h0]) (by simp [h1]) hB

/-- What order.Meet answers. -/
def RTy.Meet (t u : RTy) : RTy × Bool := if t.agree u then (t.meet u, true) else (RTy.unk, false)
def MeetPost (t u : RTy) (w : World) (e : Ending) (w' : World) : Prop :=
  ∃ (m : RTy) (a : Option Addr) (c : Nat) (b : Bool), e = .returned (.tuple #[.agg #[.int .i8 m.k, .slice a m.ks.length c], .bool b]) ∧ m.InS w' (fun x => w.heap.size ≤ x ∧ x < w'.heap.size) a ∧ RTy.Meet t u = (m, b) ∧ Below w.heap.size w w'

theorem Meet_any (t u : RTy) (B : Nat) (a a' : Option Addr) (c c' : Nat) (w : World) (hin : t.In w B a) (hin' : u.In w B a') (hB : B ≤ w.heap.size) :
    Calls Try.prog 41 #[.agg #[.int .i8 t.k, .slice a t.ks.length c], .agg #[.int .i8 u.k, .slice a' u.ks.length c']] w (MeetPost t u w) := by
  have q0 : ∀ (A B C : Obj), Below w.heap.size w (((w.alloc A).alloc B).alloc C) := fun A B C => by (repeat (first | assumption | exact Below.refl _ _ | apply below_drewN | apply Below.drew | (refine Below.alloc ?_ (by first | omega | (simp; done) | (simp; omega)) _) | (refine Below.setCell ?_ (by first | omega | (simp; done) | (simp; omega)) _)))
  have qs : ∀ (A B C : Obj), (((w.alloc A).alloc B).alloc C).heap.size = w.heap.size + 1 + 1 + 1 := fun A B C => by simp
  have Q0 := Lib.hid q0
  have QS := Lib.hid qs
  clear q0 qs
  go_enter Try.func41, Try.ntmps41
  go_wp2_with fail
  refine (agree_any t u B a a' c c' _ (hin.below (Q0.out _ _ _) hB) (hin'.below (Q0.out _ _ _) hB) (by rw [QS.out]; omega)).mono ?_
  rintro e w1 ⟨rfl, hb1⟩
  have hb0 : Below w.heap.size w w1 := Below.trans (Q0.out _ _ _) (hb1.mono (by rw [QS.out]; omega))
  have hs := hb1.size
  rw [QS.out] at hs
  have q1 : w1.cell? ⟨w.heap.size, 0, none⟩ = some (.int .i8 t.k) := cell_kept hb1 (by simp [go_sem])
  have q2 : w1.cell? ⟨w.heap.size, 1, none⟩ = some (.slice a t.ks.length c) := cell_kept hb1 (by simp [go_sem])
  have q3 : w1.cell? ⟨w.heap.size + 1, 0, none⟩ = some (.int .i8 u.k) := cell_kept hb1 (by simp [go_sem])
  have q4 : w1.cell? ⟨w.heap.size + 1, 1, none⟩ = some (.slice a' u.ks.length c') := cell_kept hb1 (by simp [go_sem])
  have q5 : w1.cell? ⟨w.heap.size + 1 + 1, 0, none⟩ = some (.int .i8 0) := cell_kept hb1 (by simp [go_sem])
  have q6 : w1.cell? ⟨w.heap.size + 1 + 1, 1, none⟩ = some (.slice none 0 0) := cell_kept hb1 (by simp [go_sem])
  have f5 : w1.frozen? ⟨w.heap.size + 1 + 1, 0, none⟩ = false := frozen_kept hb1 (by rw [QS.out]; omega) (by simp [go_sem])
  have f6 : w1.frozen? ⟨w.heap.size + 1 + 1, 1, none⟩ = false := frozen_kept hb1 (by rw [QS.out]; omega) (by simp [go_sem])
  by_cases h : t.agree u = true
  · have HM : Hid (RTy.Meet t u = (t.meet u, true)) := by show RTy.Meet t u = _; unfold RTy.Meet; rw [if_pos h]
    have h' := h
    unfold RTy.agree at h'
    simp only [Bool.and_eq_true] at h'
    have HO := Lib.hid h'
    clear h'
    go_wp2_with fail
    refine (meet_any (t.nodes + u.nodes) t u (w.heap.size + 2) w.heap.size 0 (w.heap.size + 1) 0 a a' c c' _ (by omega) (by omega) ⟨by omega, q1, q2, (hin.below hb0 hB).up (by omega)⟩ ⟨by omega, q3, q4, (hin'.below hb0 hB).up (by omega)⟩ (RTy.ok_right HO.out.1) (RTy.ok_right HO.out.2.1) HO.out.2.2 (by omega)).mono ?_
    rintro e w2 ⟨am, cm, rfl, hm, hb2⟩
    have hs2 := hb2.size
    have q5 := cell_kept hb2 q5
    have q6 := cell_kept hb2 q6
    have f5 := frozen_kept hb2 (by omega) f5
    have f6 := frozen_kept hb2 (by omega) f6
    go_wp2_with fail
    refine bodyPost_ret (v := .tuple #[.agg #[.int .i8 (t.meet u).k, .slice am (t.meet u).ks.length cm], .bool true]) (by simp [results, Try.results41, go_sem, q5, q6]) rfl ⟨t.meet u, am, cm, true, rfl, ?_, HM.out, ?_⟩
    · exact hm.mono (fun x hx => ⟨by omega, by simp; omega⟩) fun x o hx => (World.cell?_setCell_far _ _ _ _ (by have := hx.1; show w.heap.size + 1 + 1 ≠ x; omega)).trans (World.cell?_setCell_far _ _ _ _ (by have := hx.1; show w.heap.size + 1 + 1 ≠ x; omega))
    · have := hb0.trans (hb2.mono (by omega))
      (repeat (first | assumption | exact Below.refl _ _ | apply below_drewN | apply Below.drew | (refine Below.alloc ?_ (by first | omega | (simp; done) | (simp; omega)) _) | (refine Below.setCell ?_ (by first | omega | (simp; done) | (simp; omega)) _)))
  · have h' : t.agree u = false := by simpa using h
    have HM : Hid (RTy.Meet t u = (RTy.unk, false)) := by show RTy.Meet t u = _; unfold RTy.Meet; rw [if_neg h]
    clear h
    go_wp2_with fail
    refine bodyPost_ret (v := .tuple #[.agg #[.int .i8 0, .slice none 0 0], .bool false]) (by simp [results, Try.results41, go_sem, q5, q6]) rfl ⟨RTy.unk, none, 0, false, rfl, ?_, HM.out, ?_⟩
    · unfold RTy.unk RTy.InS RTy.InsS
      exact ⟨⟨by omega, by omega⟩, by simp [lenMax], trivial⟩
    · (repeat (first | assumption | exact Below.refl _ _ | apply below_drewN | apply Below.drew | (refine Below.alloc ?_ (by first | omega | (simp; done) | (simp; omega)) _) | (refine Below.setCell ?_ (by first | omega | (simp; done) | (simp; omega)) _)))
end Go.Proofs.Ytaoodchjggimcaa

/- What the rules' words mean: the forms of their contracts. -/
set_option linter.unusedVariables false
set_option linter.unusedSimpArgs false
namespace Go.Proofs.Ytaoodchjggimcaa
open Go.RowKit

def PartsPost (r : RTy × RTy × Bool) (S : Nat → Prop) (w : World) (e : Ending) (w' : World) : Prop :=
  ∃ (al ar : Option Addr) (cl cr : Nat), e = .returned (.tuple #[.agg #[.int .i8 r.1.k, .slice al r.1.ks.length cl], .agg #[.int .i8 r.2.1.k, .slice ar r.2.1.ks.length cr], .bool r.2.2]) ∧
    r.1.InS w' S al ∧ r.2.1.InS w' S ar ∧ Below w.heap.size w w'
def MeetsPost (r : RTy × Bool) (S : Nat → Prop) (w : World) (e : Ending) (w' : World) : Prop :=
  ∃ (a : Option Addr) (c : Nat), e = .returned (.tuple #[.agg #[.int .i8 r.1.k, .slice a r.1.ks.length c], .bool r.2]) ∧ r.1.InS w' (More S w w') a ∧ Below w.heap.size w w'
def GetsTwo (S : Nat → Prop) (r : Except Flt (RTy × RTy)) (w : World) (e : Ending) (w' : World) : Prop :=
  match r with
  | .ok p => ∃ (al ar : Option Addr) (cl cr : Nat), e = .returned (.tuple #[.agg #[.int .i8 p.1.k, .slice al p.1.ks.length cl], .agg #[.int .i8 p.2.k, .slice ar p.2.ks.length cr]]) ∧ p.1.InS w' S al ∧ p.2.InS w' S ar ∧ Below w.heap.size w w'
  | .error f => Fails f w e w'
/-- The words, at hand. -/
structure WordsAt (w : World) (B b : Nat) (f1 f2 f3 f4 : Nat) : Prop where
  lt : b < B
  c0 : w.cell? ⟨b, 0, none⟩ = some (.func (.func f1) #[] #[])
  c1 : w.cell? ⟨b, 1, none⟩ = some (.func (.func f2) #[] #[])
  c2 : w.cell? ⟨b, 2, none⟩ = some (.func (.func f3) #[] #[])
  c3 : w.cell? ⟨b, 3, none⟩ = some (.func (.func f4) #[] #[])
theorem WordsAt.below {w w' : World} {B C b f1 f2 f3 f4 : Nat} (h : WordsAt w B b f1 f2 f3 f4) (hb : Below C w w') (hBC : B ≤ C) : WordsAt w' B b f1 f2 f3 f4 := by
  have hlt := h.lt
  exact ⟨h.lt, (hb.cell (p := ⟨b, 0, none⟩) (by show b < C; omega)).trans h.c0, (hb.cell (p := ⟨b, 1, none⟩) (by show b < C; omega)).trans h.c1, (hb.cell (p := ⟨b, 2, none⟩) (by show b < C; omega)).trans h.c2, (hb.cell (p := ⟨b, 3, none⟩) (by show b < C; omega)).trans h.c3⟩
/-- A new variable of a type: its cells. -/
theorem new_c0 (W : World) (n : TypeId) : (W.alloc (.cells #[.int .i8 0, .slice none 0 0] n)).cell? ⟨W.heap.size, 0, none⟩ = some (.int .i8 0) := by simp [go_sem]
theorem new_c1 (W : World) (n : TypeId) : (W.alloc (.cells #[.int .i8 0, .slice none 0 0] n)).cell? ⟨W.heap.size, 1, none⟩ = some (.slice none 0 0) := by simp [go_sem]
theorem new_f0 (W : World) (n : TypeId) : (W.alloc (.cells #[.int .i8 0, .slice none 0 0] n)).frozen? ⟨W.heap.size, 0, none⟩ = false := by simp [go_sem]
theorem new_f1 (W : World) (n : TypeId) : (W.alloc (.cells #[.int .i8 0, .slice none 0 0] n)).frozen? ⟨W.heap.size, 1, none⟩ = false := by simp [go_sem]
theorem new_lt (W : World) (o : Obj) : W.heap.size < (W.alloc o).heap.size := by simp
theorem new_d0 (W : World) (n : TypeId) : (W.drew.alloc (.cells #[.int .i8 0, .slice none 0 0] n)).cell? ⟨W.heap.size, 0, none⟩ = some (.int .i8 0) := new_c0 W.drew n
theorem new_d1 (W : World) (n : TypeId) : (W.drew.alloc (.cells #[.int .i8 0, .slice none 0 0] n)).cell? ⟨W.heap.size, 1, none⟩ = some (.slice none 0 0) := new_c1 W.drew n
theorem new_e0 (W : World) (n : TypeId) : (W.drew.alloc (.cells #[.int .i8 0, .slice none 0 0] n)).frozen? ⟨W.heap.size, 0, none⟩ = false := new_f0 W.drew n
theorem new_e1 (W : World) (n : TypeId) : (W.drew.alloc (.cells #[.int .i8 0, .slice none 0 0] n)).frozen? ⟨W.heap.size, 1, none⟩ = false := new_f1 W.drew n
theorem new_dlt (W : World) (o : Obj) : W.heap.size < (W.drew.alloc o).heap.size := new_lt W.drew o
theorem MeetsPost.on {r : RTy × Bool} {S : Nat → Prop} {C : Nat} {w0 w : World} {e : Ending} {w' : World} (hC : C ≤ w.heap.size) (h0 : Below C w0 w) (h : MeetsPost r S w e w') :
    ∃ (a : Option Addr) (c : Nat), e = .returned (.tuple #[.agg #[.int .i8 r.1.k, .slice a r.1.ks.length c], .bool r.2]) ∧ r.1.InS w' (More S w w') a ∧ Below w.heap.size w w' ∧ Below C w0 w' := by
  obtain ⟨a, c, h1, h2, h3⟩ := h
  exact ⟨a, c, h1, h2, h3, h0.trans (h3.mono hC)⟩
/-- A variable at block r, made behind w1: it holds the type z, whose kids lie in S or behind w1, but not in r. -/
structure VarAt (w' w1 : World) (r : Nat) (S : Nat → Prop) (z : RTy) (a : Option Addr) (c : Nat) : Prop where
  le : w1.heap.size ≤ r
  lt : r < w'.heap.size
  c0 : w'.cell? ⟨r, 0, none⟩ = some (.int .i8 z.k)
  c1 : w'.cell? ⟨r, 1, none⟩ = some (.slice a z.ks.length c)
  inn : z.InS w' (fun b => More S w1 w' b ∧ b ≠ r) a
theorem VarAt.first {S : Nat → Prop} {w1 w2 : World} {z : RTy} {a : Option Addr} {c : Nat} {o : Obj} (hS : ∀ b, S b → b < w1.heap.size) (hz : z.InS w2 (More S (w1.drew.alloc o) w2) a) (hs : w1.heap.size < w2.heap.size)
    (h0 : w2.cell? ⟨w1.heap.size, 0, none⟩ = some (.int .i8 0)) (h1 : w2.cell? ⟨w1.heap.size, 1, none⟩ = some (.slice none 0 0)) :
    VarAt ((w2.setCell ⟨w1.heap.size, 0, none⟩ (.int .i8 z.k)).setCell ⟨w1.heap.size, 1, none⟩ (.slice a z.ks.length c)) w1 w1.heap.size S z a c := by
  refine ⟨Nat.le_refl _, by simpa using hs, by simp [go_sem, h0, h1], by simp [go_sem, h0, h1], hz.mono ?_ ?_⟩
  · rintro b (hb | hb)
    · have := hS b hb
      exact ⟨.inl hb, by omega⟩
    · simp at hb
      exact ⟨.inr (by simp; omega), by omega⟩
  · rintro b o (hb | hb)
    · have := hS b hb
      exact (World.cell?_setCell_far _ _ _ _ (by show w1.heap.size ≠ b; omega)).trans (World.cell?_setCell_far _ _ _ _ (by show w1.heap.size ≠ b; omega))
    · simp at hb
      exact (World.cell?_setCell_far _ _ _ _ (by show w1.heap.size ≠ b; omega)).trans (World.cell?_setCell_far _ _ _ _ (by show w1.heap.size ≠ b; omega))
theorem VarAt.last {S : Nat → Prop} {w1 w2 W : World} {z : RTy} {a : Option Addr} {c n : Nat} (hS : ∀ b, S b → b < w1.heap.size) (hW : w1.heap.size ≤ W.heap.size) (hz : z.InS w2 (More S W w2) a) (hs : W.heap.size ≤ w2.heap.size) :
    VarAt (w2.alloc (.cells #[.int .i8 z.k, .slice a z.ks.length c] n)) w1 w2.heap.size S z a c := by
  refine ⟨by omega, by simp, by simp [go_sem], by simp [go_sem], RTy.InS.mono ?_ ?_ hz⟩
  · rintro b (hb | hb)
    · have := hS b hb
      exact ⟨.inl hb, by omega⟩
    · exact ⟨.inr (by simp; omega), by omega⟩
  · rintro b o (hb | hb)
    · have := hS b hb
      exact (below_new w2 _).cell (p := ⟨b, o, none⟩) (by show b < w2.heap.size; omega)
    · exact (below_new w2 _).cell (p := ⟨b, o, none⟩) (by show b < w2.heap.size; omega)
theorem VarAt.below {S : Nat → Prop} {w' w1 w'' : World} {r : Nat} {z : RTy} {a : Option Addr} {c : Nat} (h : VarAt w' w1 r S z a c) (hS : ∀ b, S b → b < w1.heap.size) (hw : w1.heap.size ≤ w'.heap.size) (hb : Below w'.heap.size w' w'') : VarAt w'' w1 r S z a c := by
  have hlt := h.lt
  have hsz := hb.size
  refine ⟨h.le, by omega, (hb.cell (p := ⟨r, 0, none⟩) hlt).trans h.c0, (hb.cell (p := ⟨r, 1, none⟩) hlt).trans h.c1, h.inn.mono ?_ ?_⟩
  · rintro b ⟨hb1 | hb1, hb2⟩
    · exact ⟨.inl hb1, hb2⟩
    · exact ⟨.inr (by omega), hb2⟩
  · rintro b o ⟨hb1 | hb1, hb2⟩
    · have := hS b hb1
      exact hb.cell (p := ⟨b, o, none⟩) (by show b < w'.heap.size; omega)
    · exact hb.cell (p := ⟨b, o, none⟩) (by show b < w'.heap.size; omega)
end Go.Proofs.Ytaoodchjggimcaa

/- What Type tells: the form of its contract. -/
set_option linter.unusedVariables false
namespace Go.Proofs.Ytaoodchjggimcaa
open Go.RowKit
/-- A type, in new memory, or a fault, in new memory. -/
def TypePost (r : Except Flt RTy) (w : World) (e : Ending) (w' : World) : Prop :=
  match r with
  | .ok a => ∃ aa ac, e = .returned (.tuple #[.agg #[.int .i8 a.k, .slice aa a.ks.length ac], .nilIface]) ∧ a.InS w' (fun b => w.heap.size ≤ b ∧ b < w'.heap.size) aa ∧ Below w.heap.size w w'
  | .error f => ∃ b, e = .returned (.tuple #[.agg #[.int .i8 0, .slice none 0 0], .iface 91 (.pointer (some ⟨b, 0, none⟩))]) ∧ w.heap.size ≤ b ∧ b < w'.heap.size ∧ FaultAt w' b f ∧ Below w.heap.size w w'
theorem Mode.type_bad {M : Mode} {t : RTm} {no : Int} (h : ¬ t.check = 0) : M.type t no = .error ⟨t.check, 0, ⟨#[]⟩⟩ := by unfold Mode.type; rw [if_neg h]
theorem Mode.type_has {M : Mode} {t : RTm} {no : Int} (h : t.check = 0) (hh : t.has no = true) : M.type t no = .error ⟨30, 0, ⟨#[]⟩⟩ := by unfold Mode.type; rw [if_pos h, if_pos hh]
theorem Mode.type_rules {M : Mode} {t : RTm} {no : Int} (h : t.check = 0) (hh : t.has no = false) : M.type t no = M.rules t.nodes [] t := by unfold Mode.type; rw [if_pos h, hh]; rfl
theorem RTm.check_right {t : RTm} (h : t.check = 0) : t.nodes ≤ 8192 ∧ t.right = true := by
  have h1 : t.ok = true := by unfold RTm.ok; simp [h]
  have h2 := RTm.ok_iff.1 h1
  exact ⟨h2.1, h2.2.2⟩
theorem WordsAt.up {w : World} {B B' b f1 f2 f3 f4 : Nat} (h : WordsAt w B b f1 f2 f3 f4) (hB : B ≤ B') : WordsAt w B' b f1 f2 f3 f4 := ⟨Nat.lt_of_lt_of_le h.lt hB, h.c0, h.c1, h.c2, h.c3⟩
theorem FaultAt.below {w w' : World} {C b : Nat} {f : Flt} (h : FaultAt w b f) (hb : Below C w w') (hlt : b < C) : FaultAt w' b f :=
  ⟨(hb.cell (p := ⟨b, 0, none⟩) hlt).trans h.1, (hb.cell (p := ⟨b, 1, none⟩) hlt).trans h.2.1, (hb.cell (p := ⟨b, 2, none⟩) hlt).trans h.2.2⟩
end Go.Proofs.Ytaoodchjggimcaa

/- A type that is stored as a result. -/
set_option linter.unusedVariables false
set_option linter.unusedSimpArgs false
namespace Go.Proofs.Ytaoodchjggimcaa
open Go.RowKit

theorem GetsTy.stored {S S' : Nat → Prop} {w wk w3 : World} {z : RTy} {a : Option Addr} {c r0 : Nat} (hS : ∀ b, S b → b < w.heap.size)
    (hS' : ∀ b, S' b → (S b ∨ (w.heap.size ≤ b ∧ b < wk.heap.size)) ∧ b ≠ r0) (hy : z.InS w3 (More S' wk w3) a) (hbw : Below w.heap.size w wk) (hb2 : Below wk.heap.size wk w3) (hr0 : w.heap.size ≤ r0) (hr1 : r0 < wk.heap.size) :
    GetsTy S (.ok z) w (.returned (.agg #[.int .i8 z.k, .slice a z.ks.length c])) ((w3.setCell ⟨r0, 0, none⟩ (.int .i8 z.k)).setCell ⟨r0, 1, none⟩ (.slice a z.ks.length c)) := by
  have hsz := hbw.size
  have hsz2 := hb2.size
  have hfar : ∀ (b : Nat), More S' wk w3 b → More S w w3 b ∧ b ≠ r0 := by
    rintro b (hb | hb)
    · refine ⟨?_, (hS' b hb).2⟩
      rcases (hS' b hb).1 with h | h
      · exact .inl h
      · exact .inr (by omega)
    · exact ⟨.inr (by omega), by omega⟩
  refine ⟨a, c, rfl, hy.mono (fun b hb => ?_) ?_, ?_⟩
  · rcases (hfar b hb).1 with h | h
    · exact .inl h
    · exact .inr (by simpa using h)
  · intro b o hb
    have := (hfar b hb).2
    exact (World.cell?_setCell_far _ _ _ _ (by show r0 ≠ b; omega)).trans (World.cell?_setCell_far _ _ _ _ (by show r0 ≠ b; omega))
  · have hb3 : Below w.heap.size w w3 := hbw.trans (hb2.mono hsz)
    (repeat (first | assumption | exact Below.refl _ _ | apply below_drewN | apply Below.drew | (refine Below.alloc ?_ (by first | omega | (simp; done) | (simp; omega)) _) | (refine Below.setCell ?_ (by first | omega | (simp; done) | (simp; omega)) _)))
theorem GetsTy.stored0 {S : Nat → Prop} {w w3 : World} {z : RTy} {a : Option Addr} {c r0 : Nat} (hS : ∀ b, S b → b < w.heap.size)
    (hy : z.InS w3 S a) (hbw : Below w.heap.size w w3) (hr0 : w.heap.size ≤ r0) (hr1 : r0 < w3.heap.size) :
    GetsTy S (.ok z) w (.returned (.agg #[.int .i8 z.k, .slice a z.ks.length c])) ((w3.setCell ⟨r0, 0, none⟩ (.int .i8 z.k)).setCell ⟨r0, 1, none⟩ (.slice a z.ks.length c)) :=
  GetsTy.stored (S' := S) hS (fun b hb => ⟨.inl hb, by have := hS b hb; omega⟩) (hy.up fun b hb => .inl hb) hbw (Below.refl _ _) hr0 hr1
/-- An operation that is not wanted (its guard is false) leaves the frame as it is, where its slot is empty yet. -/
theorem wpAnyH_off {P : Program} {md : Region.Mode} {ops : Array Oper} {Q : Exit → Act → World → Prop} {S : World → Prop} {i : Nat} {oi : Oper} {fuel : Nat} {listed : Array Bool} {a : Act} {w : World} (hi : ops[i]? = some oi)
    (hs : Region.noSelect ops = true) (hf : Region.free md ops listed i = true) (hr : (Region.ready md ops listed).contains i = true)
    (hQ : ∀ c a w, Q (.panic c) (a.put oi.dst undef) w → Q (.panic c) a w) (hw : Region.wanted oi (yielded ops a.tmps) = false) (hput : a.put oi.dst undef = a) (hS : S w)
    (h : wpAnyH P md ops Q S fuel (listed.setIfInBounds i true) a w) : wpAnyH P md ops Q S (fuel + 1) listed a w :=
  wpAnyH_take hi hs hf hr hQ (Or.inr ⟨hw, rfl⟩) hS (by rw [hput]; exact h)
/-- Seen from an earlier world. -/
theorem GetsTy.on {S : Nat → Prop} {r : Except Flt RTy} {w1 W : World} {e : Ending} {w' : World} (h : GetsTy S r W e w') (hb : Below w1.heap.size w1 W) : GetsTy S r w1 e w' := by
  cases r with
  | error f => exact Fails.mono h hb
  | ok t =>
    obtain ⟨a, c, he, h1, h2⟩ := h
    refine ⟨a, c, he, h1.up ?_, hb.trans (h2.mono hb.size)⟩
    rintro b (h | h)
    · exact .inl h
    · exact .inr ⟨Nat.le_trans hb.size h.1, h.2⟩
theorem GetsTy.on2 {S : Nat → Prop} {r : Except Flt RTy} {w1 W : World} {e : Ending} {w' : World} (h : GetsTy (More S w1 W) r W e w') (hb : Below w1.heap.size w1 W) : GetsTy S r w1 e w' := by
  cases r with
  | error f => exact Fails.mono h hb
  | ok t =>
    obtain ⟨a, c, he, h1, h2⟩ := h
    have hsz := h2.size
    refine ⟨a, c, he, h1.up ?_, hb.trans (h2.mono hb.size)⟩
    rintro b ((h | h) | h)
    · exact .inl h
    · exact .inr (by omega)
    · exact .inr ⟨Nat.le_trans hb.size h.1, h.2⟩
theorem More.lt {S : Nat → Prop} {w1 W : World} (hS : ∀ b, S b → b < w1.heap.size) (h : w1.heap.size ≤ W.heap.size) : ∀ b, More S w1 W b → b < W.heap.size := by
  rintro b (hb | hb)
  · have := hS b hb; omega
  · exact hb.2
theorem VarAt.mid {S : Nat → Prop} {W0 W w2 : World} {z : RTy} {a : Option Addr} {c r : Nat} (hS : ∀ b, S b → b < W0.heap.size) (h0 : W0.heap.size ≤ r) (hr : r < W.heap.size) (hz : z.InS w2 (More S W w2) a) (hs : W.heap.size ≤ w2.heap.size)
    (c0 : w2.cell? ⟨r, 0, none⟩ = some (.int .i8 0)) (c1 : w2.cell? ⟨r, 1, none⟩ = some (.slice none 0 0)) :
    VarAt ((w2.setCell ⟨r, 0, none⟩ (.int .i8 z.k)).setCell ⟨r, 1, none⟩ (.slice a z.ks.length c)) W0 r S z a c := by
  refine ⟨h0, by simp; omega, by simp [go_sem, c0, c1], by simp [go_sem, c0, c1], hz.mono ?_ ?_⟩
  · rintro b (hb | hb)
    · have := hS b hb
      exact ⟨.inl hb, by omega⟩
    · exact ⟨.inr (by simp; omega), by omega⟩
  · rintro b o (hb | hb)
    · have := hS b hb
      exact (World.cell?_setCell_far _ _ _ _ (by show r ≠ b; omega)).trans (World.cell?_setCell_far _ _ _ _ (by show r ≠ b; omega))
    · exact (World.cell?_setCell_far _ _ _ _ (by show r ≠ b; omega)).trans (World.cell?_setCell_far _ _ _ _ (by show r ≠ b; omega))
theorem VarAt.inS {S : Nat → Prop} {w' w1 W0 : World} {r : Nat} {z : RTy} {a : Option Addr} {c : Nat} (h : VarAt w' W0 r (More S w1 W0) z a c) (h0 : w1.heap.size ≤ W0.heap.size) (h1 : W0.heap.size ≤ w'.heap.size) : z.InS w' (More S w1 w') a := by
  refine h.inn.up ?_
  rintro b ⟨(hb | hb) | hb, -⟩
  · exact .inl hb
  · exact .inr (by omega)
  · exact .inr (by omega)
end Go.Proofs.Ytaoodchjggimcaa

/- Variables that hold a type made of two; what a bound name adds. -/
set_option linter.unusedVariables false
set_option linter.unusedSimpArgs false
namespace Go.Proofs.Ytaoodchjggimcaa
open Go.RowKit

theorem VarAt.two {S : Nat → Prop} {w1 w' : World} {r g : Nat} {k : Int} {x y : RTy} {xa ya : Option Addr} {xc yc c : Nat} (hS : ∀ b, S b → b < w1.heap.size) (hk : RTy.Kind8 k) (hx : x.InS w1 S xa) (hy : y.InS w1 S ya)
    (hb : Below w1.heap.size w1 w') (hr : w1.heap.size ≤ r) (hr' : r < w'.heap.size) (hg : w1.heap.size ≤ g) (hg' : g < w'.heap.size) (hne : g ≠ r)
    (c0 : w'.cell? ⟨r, 0, none⟩ = some (.int .i8 k)) (c1 : w'.cell? ⟨r, 1, none⟩ = some (.slice (some ⟨g, 0, none⟩) 2 c))
    (e0 : w'.cell? ⟨g, 0, none⟩ = some (.int .i8 x.k)) (e1 : w'.cell? ⟨g, 1, none⟩ = some (.slice xa x.ks.length xc)) (e2 : w'.cell? ⟨g, 2, none⟩ = some (.int .i8 y.k)) (e3 : w'.cell? ⟨g, 3, none⟩ = some (.slice ya y.ks.length yc)) :
    VarAt w' w1 r S (.mk k [x, y]) (some ⟨g, 0, none⟩) c := by
  refine ⟨hr, hr', c0, c1, ?_⟩
  refine RTy.in_two hk ⟨.inr ⟨hg, hg'⟩, hne⟩ ((hx.below hb hS).up fun b h => ⟨.inl h, ?_⟩) ((hy.below hb hS).up fun b h => ⟨.inl h, ?_⟩) e0 e1 e2 e3
  · have := hS b h; omega
  · have := hS b h; omega
theorem VarAt.more {S : Nat → Prop} {w' w1 : World} {r : Nat} {z : RTy} {a : Option Addr} {c : Nat} (h : VarAt w' w1 r S z a c) : z.InS w' (More S w1 w') a := h.inn.up fun b hb => hb.1
theorem More.more {S : Nat → Prop} {w1 w2 w3 : World} (h12 : w1.heap.size ≤ w2.heap.size) (h23 : w2.heap.size ≤ w3.heap.size) : ∀ b, More (More S w1 w2) w2 w3 b → More S w1 w3 b := by
  rintro b ((h | h) | h)
  · exact .inl h
  · exact .inr (by omega)
  · exact .inr (by omega)
theorem Mode.rules5 {M : Mode} {n : Nat} {l : Env} {t : RTm} (h : t.k = 5) : M.rules (n + 1) l t =
    match M.rules n (l ++ [(t.name, .mk 3 [t.ty, t.to])] ++ [(t.arg, t.ty)]) (t.kid 0) with
      | .error f => .error f
      | .ok b => if M.agrees b t.to then small t (.mk 3 [t.ty, t.to]) else fault t 91 := by
  rw [Mode.rules, if_neg (by omega), if_neg (by omega), if_neg (by omega), if_neg (by omega), if_pos h]; all_goals rfl
theorem Mode.rules14 {M : Mode} {n : Nat} {l : Env} {t : RTm} (h : t.k = 14) : M.rules (n + 1) l t =
    match M.rules n l (t.kid 0) with
      | .error f => .error f
      | .ok a => match M.asE t 5 a with
        | .error f => .error f
        | .ok (x, y) => match M.rules n (l ++ [(t.name, x)]) (t.kid 1) with
          | .error f => .error f
          | .ok b => match M.rules n (l ++ [(t.arg, y)]) (t.kid 2) with
            | .error f => .error f
            | .ok c => M.meetE t b c := by
  rw [Mode.rules, if_neg (by omega), if_neg (by omega), if_neg (by omega), if_neg (by omega), if_neg (by omega), if_neg (by omega), if_pos h]; all_goals rfl
def flatKind (k : Int) : Bool := k == 6 || (k == 8 || (k == 9 || (k == 10 || (k == 11 || (k == 12 || (k == 13 || (k == 15 || (k == 16 || k == 17))))))))
theorem flatKind_cases {k : Int} (h : flatKind k = true) : k = 6 ∨ k = 8 ∨ k = 9 ∨ k = 10 ∨ k = 11 ∨ k = 12 ∨ k = 13 ∨ k = 15 ∨ k = 16 ∨ k = 17 := by
  unfold flatKind at h
  simpa using h
theorem flatKind_ne {k : Int} (h : flatKind k = true) : ¬ k = 0 ∧ ¬ k = 1 ∧ ¬ k = 2 ∧ ¬ k = 3 ∧ ¬ k = 4 ∧ ¬ k = 5 ∧ ¬ k = 7 ∧ ¬ k = 14 := by
  have := flatKind_cases h
  omega
theorem Mode.rulesF {M : Mode} {n : Nat} {l : Env} {t : RTm} (h : flatKind t.k = true) : M.rules (n + 1) l t =
    if kidsOf t.k = 1 then match M.rules n l (t.kid 0) with | .error f => .error f | .ok x => M.flat t x RTy.unk RTy.unk
    else if kidsOf t.k = 2 then
      match M.rules n l (t.kid 0) with
      | .error f => .error f
      | .ok x => match M.rules n l (t.kid 1) with | .error f => .error f | .ok y => M.flat t x y RTy.unk
    else
      match M.rules n l (t.kid 0) with
      | .error f => .error f
      | .ok x => match M.rules n l (t.kid 1) with
        | .error f => .error f
        | .ok y => match M.rules n l (t.kid 2) with | .error f => .error f | .ok z => M.flat t x y z := by
  obtain ⟨h0, h1, h2, h3, h4, h5, h7, h14⟩ := flatKind_ne h
  rw [Mode.rules, if_neg h0, if_neg h1, if_neg (by omega), if_neg h4, if_neg h5, if_neg h7, if_neg h14]; all_goals rfl
theorem Mode.rulesF1 {M : Mode} {n : Nat} {l : Env} {t : RTm} (h : flatKind t.k = true) (hk : kidsOf t.k = 1) : M.rules (n + 1) l t =
    match M.rules n l (t.kid 0) with | .error f => .error f | .ok x => M.flat t x RTy.unk RTy.unk := by rw [Mode.rulesF h, if_pos hk]
theorem Mode.rulesF2 {M : Mode} {n : Nat} {l : Env} {t : RTm} (h : flatKind t.k = true) (hk : kidsOf t.k = 2) : M.rules (n + 1) l t =
      match M.rules n l (t.kid 0) with
      | .error f => .error f
      | .ok x => match M.rules n l (t.kid 1) with | .error f => .error f | .ok y => M.flat t x y RTy.unk := by rw [Mode.rulesF h, if_neg (by omega), if_pos hk]
theorem Mode.rulesF3 {M : Mode} {n : Nat} {l : Env} {t : RTm} (h : flatKind t.k = true) (hk : kidsOf t.k = 3) : M.rules (n + 1) l t =
      match M.rules n l (t.kid 0) with
      | .error f => .error f
      | .ok x => match M.rules n l (t.kid 1) with
        | .error f => .error f
        | .ok y => match M.rules n l (t.kid 2) with | .error f => .error f | .ok z => M.flat t x y z := by rw [Mode.rulesF h, if_neg (by omega), if_neg (by omega)]
theorem More.from_ {S : Nat → Prop} {w1 W W' : World} (h : w1.heap.size ≤ W.heap.size) : ∀ b, More S W W' b → More S w1 W' b := by
  rintro b (h' | h')
  · exact .inl h'
  · exact .inr (by omega)
theorem More.to_ {S : Nat → Prop} {w1 W W' : World} (h : W.heap.size ≤ W'.heap.size) : ∀ b, More S w1 W b → More S w1 W' b := by
  rintro b (h' | h')
  · exact .inl h'
  · exact .inr (by omega)
theorem RTy.unk_k : RTy.unk.k = 0 := rfl
theorem RTy.unk_len : RTy.unk.ks.length = 0 := rfl
/-- A type is as it was behind two stores into a variable's block. -/
theorem RTy.InS.slot {S : Nat → Prop} {w1 W : World} {z : RTy} {a : Option Addr} {r i j : Nat} {u v : Value} (hS : ∀ b, S b → b < r) (hr : r < w1.heap.size) (h : z.InS W (More S w1 W) a) :
    z.InS ((W.setCell ⟨r, i, none⟩ u).setCell ⟨r, j, none⟩ v) (More S w1 ((W.setCell ⟨r, i, none⟩ u).setCell ⟨r, j, none⟩ v)) a := by
  refine h.mono (fun b hb => ?_) fun b o hb => ?_
  · rcases hb with hb | hb
    · exact .inl hb
    · exact .inr (by simpa using hb)
  · have hne : r ≠ b := by
      rcases hb with hb | hb
      · have := hS b hb; omega
      · omega
    exact (World.cell?_setCell_far _ _ _ _ (by show r ≠ b; exact hne)).trans (World.cell?_setCell_far _ _ _ _ (by show r ≠ b; exact hne))
end Go.Proofs.Ytaoodchjggimcaa
