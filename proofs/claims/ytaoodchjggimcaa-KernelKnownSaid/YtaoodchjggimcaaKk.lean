/- KernelKnown returns true: no condition. -/
import Derived.Test.YtaoodchjggimcaaBk2
import Derived.Test.YtaoodchjggimcaaBa2
import Derived.KernelRfl
import Derived.Test.YtaoodchjggimcaaRows
import Derived.Test.YtaoodchjggimcaaBa3
import Derived.WalkKit
import Derived.ProofKit
import Derived.OpenShut
import Derived.ShutString
import Derived.ChangeOld
import Derived.Below
import Derived.SizedLaws
import Derived.Carry

/- The walk of the law KernelCast. -/
set_option linter.unusedVariables false
set_option linter.unusedSimpArgs false
namespace Go.Proofs.Ytaoodchjggimcaa
open Go.RowKit

def castSh (aa : Option Addr) (ac : Nat) (ya : Option Addr) (yc b : Nat) : TmSh := ⟨aa, ac, ya, yc, some ⟨b, 0, none⟩, 1⟩
theorem castT_in {W : World} {b C : Nat} {a y : RTy} {l : Int} {t : RTm} {s : TmSh} {aa ya : Option Addr} {ac yc : Nat} (hb : b < C) (ha : a.In W C aa) (hy : y.In W C ya) (hl : -9223372036854775808 ≤ l ∧ l ≤ 9223372036854775807) (hin : t.In W C s) (h : CellsAt W b 0 (t.cells s)) : (castT a y l t).In W C (castSh aa ac ya yc b) := by
  refine RTm.InS.of ?_ ha hy ?_
  · exact ⟨by show -128 ≤ (17 : Int) ∧ (17 : Int) ≤ 127; omega, by show (0 : Nat) ≤ _; omega, by show (0 : Nat) ≤ _; omega, by show -9223372036854775808 ≤ (0 : Int) ∧ (0 : Int) ≤ _; omega, hl, by show -9223372036854775808 ≤ (0 : Int) ∧ (0 : Int) ≤ _; omega, by show 1 ≤ _; omega⟩
  · show RTm.InsS W _ (some ⟨b, 0, none⟩) 0 [t]
    refine RTm.InsS.mk (S := fun b => b < C) (o := 0) hb fun j x hj => ?_
    match j, hj with
    | 0, hj => cases hj; exact ⟨s, h, hin⟩
    | n + 1, hj => simp at hj
theorem one_cells {w : World} {t : RTm} {s : TmSh} {E : TypeId} {cs : Array Value} (hcs : cs = (t.cells s).toArray) : CellsAt (w.alloc (.cells cs E)) w.heap.size 0 (t.cells s) := by
  subst hcs
  intro j v hj
  rw [World.cell?_alloc_new, Nat.zero_add]
  simpa using hj
theorem CellsAt.below {w w' : World} {b o C : Nat} {cs : List Value} (h : CellsAt w b o cs) (hb : Below C w w') (hlt : b < C) : CellsAt w' b o cs :=
  fun j v hj => (hb.cell (p := ⟨b, o + j, none⟩) hlt).trans (h j v hj)

set_option maxRecDepth 100000 in
set_option maxHeartbeats 4000000 in
theorem kernelCast_any (t : RTm) (y : RTy) (l : Int) (B : Nat) (s : TmSh) (ya : Option Addr) (yc : Nat) (w : World) (hin : t.In w B s) (hy : y.In w B ya) (hwl : -9223372036854775808 ≤ l ∧ l ≤ 9223372036854775807) (hB : B ≤ w.heap.size) :
    Calls Try.prog 5 #[t.v s, .agg #[.int .i8 y.k, .slice ya y.ks.length yc], .int .i64 l] w fun e w' => e = .returned (.bool true) ∧ Below w.heap.size w w' := by
  go_enter Try.func5, Try.ntmps5
  go_wp2_with fail
  generalize hW : World.alloc (World.alloc w _) _ = w0
  have hb0 : Below w.heap.size w w0 := by rw [← hW]; (repeat (first | assumption | exact Below.refl _ _ | apply below_drewN | apply Below.drew | (refine Below.alloc ?_ (by first | omega | (simp; done) | (simp; omega)) _) | (refine Below.setCell ?_ (by first | omega | (simp; done) | (simp; omega)) _)))
  have hz0 : w0.heap.size = w.heap.size + 1 + 1 := by rw [← hW]; simp
  have t0 : w0.cell? ⟨w.heap.size, 0, none⟩ = some (.int .i8 t.k) := by rw [← hW]; simp [go_sem]
  have t1 : w0.cell? ⟨w.heap.size, 1, none⟩ = some (.string t.name) := by rw [← hW]; simp [go_sem]
  have t2 : w0.cell? ⟨w.heap.size, 2, none⟩ = some (.string t.arg) := by rw [← hW]; simp [go_sem]
  have t3 : w0.cell? ⟨w.heap.size, 3, none⟩ = some (.int .i64 t.num) := by rw [← hW]; simp [go_sem]
  have t4 : w0.cell? ⟨w.heap.size, 4, none⟩ = some (.int .i8 t.ty.k) := by rw [← hW]; simp [go_sem]
  have t5 : w0.cell? ⟨w.heap.size, 5, none⟩ = some (.slice s.ta t.ty.ks.length s.tc) := by rw [← hW]; simp [go_sem]
  have t6 : w0.cell? ⟨w.heap.size, 6, none⟩ = some (.int .i8 t.to.k) := by rw [← hW]; simp [go_sem]
  have t7 : w0.cell? ⟨w.heap.size, 7, none⟩ = some (.slice s.oa t.to.ks.length s.oc) := by rw [← hW]; simp [go_sem]
  have t8 : w0.cell? ⟨w.heap.size, 8, none⟩ = some (.int .i64 t.label) := by rw [← hW]; simp [go_sem]
  have t9 : w0.cell? ⟨w.heap.size, 9, none⟩ = some (.int .i64 t.spot) := by rw [← hW]; simp [go_sem]
  have t10 : w0.cell? ⟨w.heap.size, 10, none⟩ = some (.slice s.ka t.ks.length s.kc) := by rw [← hW]; simp [go_sem]
  have y0 : w0.cell? ⟨w.heap.size + 1, 0, none⟩ = some (.int .i8 y.k) := by rw [← hW]; simp [go_sem]
  have y1 : w0.cell? ⟨w.heap.size + 1, 1, none⟩ = some (.slice ya y.ks.length yc) := by rw [← hW]; simp [go_sem]
  clear hW
  have HT := Lib.hid fun (W : World) (hW : Below w0.heap.size w0 W) => And.intro (cell_kept hW t0) (And.intro (cell_kept hW t1) (And.intro (cell_kept hW t2) (And.intro (cell_kept hW t3) (And.intro (cell_kept hW t4) (And.intro (cell_kept hW t5) (And.intro (cell_kept hW t6) (And.intro (cell_kept hW t7) (And.intro (cell_kept hW t8) (And.intro (cell_kept hW t9) (cell_kept hW t10))))))))))
  have HY := Lib.hid fun (W : World) (hW : Below w0.heap.size w0 W) => And.intro (cell_kept hW y0) (cell_kept hW y1)
  clear t0 t1 t2 t3 t4 t5 t6 t7 t8 t9 t10
  clear y0 y1
  have hl0 : w.heap.size < w0.heap.size := by omega
  have hl1 : w.heap.size + 1 < w0.heap.size := by omega
  clear hz0
  refine (kernelType_any t B s w0 (hin.below hb0 hB) (by omega)).mono ?_
  intro e w1 hg
  obtain ⟨aa, ac, rfl, ha, hb1⟩ := hg
  have hs1 := hb1.size
  have hlaw0 := castLaw t y l
  have hunk := kernelRes_unk (t := t)
  generalize hK : kernelRes t = K at *
  obtain ⟨a, n⟩ := K
  simp only at hlaw0 hunk ha
  have hbw1 := hb0.trans (hb1.mono (Nat.le_of_lt hl0))
  by_cases hn : n = 0
  · have hne : (n != 0) = false := by simp [hn]
    have hlaw := Lib.hid (hlaw0 hn)
    clear hlaw0 hunk hn
    obtain ⟨t0, t1, t2, t3, t4, t5, t6, t7, t8, t9, t10⟩ := HT.out _ hb1
    obtain ⟨y0, y1⟩ := HY.out _ hb1
    have hm0 : w.heap.size < w1.heap.size := by omega
    have hm1 : w.heap.size + 1 < w1.heap.size := by omega
    have hain : a.In w1 w1.heap.size aa := RTy.InS.up ha fun b hb => hb.2
    go_wp2_with fail
    generalize hV : World.alloc (World.alloc w1 _) _ = wv
    have hbv : Below w1.heap.size w1 wv := by rw [← hV]; (repeat (first | assumption | exact Below.refl _ _ | apply below_drewN | apply Below.drew | (refine Below.alloc ?_ (by first | omega | (simp; done) | (simp; omega)) _) | (refine Below.setCell ?_ (by first | omega | (simp; done) | (simp; omega)) _)))
    have hzv : wv.heap.size = w1.heap.size + 1 + 1 := by rw [← hV]; simp
    have hcv : CellsAt wv (w1.heap.size + 1) 0 (t.cells s) := by
      rw [← hV]
      have h := one_cells (w := w1.alloc (.cells #[.int .i8 a.k, .slice aa a.ks.length ac] 25)) (t := t) (s := s) (E := 28) rfl
      rwa [World.size_alloc] at h
    have a0 : wv.cell? ⟨w1.heap.size, 0, none⟩ = some (.int .i8 a.k) := by rw [← hV]; simp [go_sem]
    have a1 : wv.cell? ⟨w1.heap.size, 1, none⟩ = some (.slice aa a.ks.length ac) := by rw [← hV]; simp [go_sem]
    clear hV
    generalize hV : World.alloc wv _ = w2
    have hbc : Below wv.heap.size wv w2 := by rw [← hV]; (repeat (first | assumption | exact Below.refl _ _ | apply below_drewN | apply Below.drew | (refine Below.alloc ?_ (by first | omega | (simp; done) | (simp; omega)) _) | (refine Below.setCell ?_ (by first | omega | (simp; done) | (simp; omega)) _)))
    have hz2 : w2.heap.size = w1.heap.size + 1 + 1 + 1 := by rw [← hV]; simp [hzv]
    have c0 : w2.cell? ⟨w1.heap.size + 1 + 1, 0, none⟩ = some (.int .i8 17) := by rw [← hV]; simp [go_sem, ← hzv]
    have c1 : w2.cell? ⟨w1.heap.size + 1 + 1, 1, none⟩ = some (.string ⟨#[]⟩) := by rw [← hV]; simp [go_sem, ← hzv]
    have c2 : w2.cell? ⟨w1.heap.size + 1 + 1, 2, none⟩ = some (.string ⟨#[]⟩) := by rw [← hV]; simp [go_sem, ← hzv]
    have c3 : w2.cell? ⟨w1.heap.size + 1 + 1, 3, none⟩ = some (.int .i64 0) := by rw [← hV]; simp [go_sem, ← hzv]
    have c4 : w2.cell? ⟨w1.heap.size + 1 + 1, 4, none⟩ = some (.int .i8 a.k) := by rw [← hV]; simp [go_sem, ← hzv]
    have c5 : w2.cell? ⟨w1.heap.size + 1 + 1, 5, none⟩ = some (.slice aa a.ks.length ac) := by rw [← hV]; simp [go_sem, ← hzv]
    have c6 : w2.cell? ⟨w1.heap.size + 1 + 1, 6, none⟩ = some (.int .i8 y.k) := by rw [← hV]; simp [go_sem, ← hzv]
    have c7 : w2.cell? ⟨w1.heap.size + 1 + 1, 7, none⟩ = some (.slice ya y.ks.length yc) := by rw [← hV]; simp [go_sem, ← hzv]
    have c8 : w2.cell? ⟨w1.heap.size + 1 + 1, 8, none⟩ = some (.int .i64 l) := by rw [← hV]; simp [go_sem, ← hzv]
    have c9 : w2.cell? ⟨w1.heap.size + 1 + 1, 9, none⟩ = some (.int .i64 0) := by rw [← hV]; simp [go_sem, ← hzv]
    have c10 : w2.cell? ⟨w1.heap.size + 1 + 1, 10, none⟩ = some (.slice (some ⟨w1.heap.size + 1, 0, none⟩) 1 1) := by rw [← hV]; simp [go_sem, ← hzv]
    clear hV
    have a0 := cell_kept hbc a0
    have a1 := cell_kept hbc a1
    have HA := Lib.hid fun (W : World) (hW : Below w2.heap.size w2 W) => And.intro (cell_kept hW a0) (cell_kept hW a1)
    have HC := Lib.hid fun (W : World) (hW : Below w2.heap.size w2 W) => And.intro (cell_kept hW c0) (And.intro (cell_kept hW c1) (And.intro (cell_kept hW c2) (And.intro (cell_kept hW c3) (And.intro (cell_kept hW c4) (And.intro (cell_kept hW c5) (And.intro (cell_kept hW c6) (And.intro (cell_kept hW c7) (And.intro (cell_kept hW c8) (And.intro (cell_kept hW c9) (cell_kept hW c10))))))))))
    have hcv := hcv.below hbc (by omega)
    have hb12 : Below w1.heap.size w1 w2 := hbv.trans (hbc.mono hbv.size)
    clear a0 a1
    clear c0 c1 c2 c3 c4 c5 c6 c7 c8 c9 c10
    clear t0 t1 t2 t3 t4 t5 t6 t7 t8 t9 t10
    clear y0 y1
    have hbw2 := hbw1.trans (hb12.mono hbw1.size)
    have hszw2 := hbw2.size
    have hc2 : (castT a y l t).In w2 w2.heap.size (castSh aa ac ya yc (w1.heap.size + 1)) := castT_in (by omega) ((hain.below hb12 (Nat.le_refl _)).up (by omega)) ((hy.below hbw2 hB).up (by omega)) hwl ((hin.below hbw2 hB).up (by omega)) hcv
    have hq0 : w1.heap.size < w2.heap.size := by omega
    have hq1 : w1.heap.size + 1 + 1 < w2.heap.size := by omega
    clear hz2 hzv hbv hbc hcv
    have hcall := kernelType_any (castT a y l t) w2.heap.size (castSh aa ac ya yc (w1.heap.size + 1)) w2 hc2 (Nat.le_refl _)
    refine hcall.mono ?_
    clear hcall
    intro e w3 hg
    obtain ⟨za, zc, rfl, hz, hb3⟩ := hg
    have hs3 := hb3.size
    have hl := hlaw.out
    generalize hL : kernelRes (castT a y l t) = L at *
    obtain ⟨z, m⟩ := L
    simp only at hl hz
    have hlaw2 := Lib.hid hl
    clear hl hlaw hL
    have hr0 : w1.heap.size < w3.heap.size := by omega
    have hr1 : w1.heap.size + 1 + 1 < w3.heap.size := by omega
    obtain ⟨c0, c1, c2, c3, c4, c5, c6, c7, c8, c9, c10⟩ := HC.out _ hb3
    go_wp2_with fail
    generalize hV : World.alloc w3 _ = w4
    have hb4 : Below w3.heap.size w3 w4 := by rw [← hV]; (repeat (first | assumption | exact Below.refl _ _ | apply below_drewN | apply Below.drew | (refine Below.alloc ?_ (by first | omega | (simp; done) | (simp; omega)) _) | (refine Below.setCell ?_ (by first | omega | (simp; done) | (simp; omega)) _)))
    have hz4 : w3.heap.size < w4.heap.size := by rw [← hV]; simp
    have b0 : w4.cell? ⟨w3.heap.size, 0, none⟩ = some (.int .i8 z.k) := by rw [← hV]; simp [go_sem]
    have b1 : w4.cell? ⟨w3.heap.size, 1, none⟩ = some (.slice za z.ks.length zc) := by rw [← hV]; simp [go_sem]
    clear hV
    have HB := Lib.hid fun (W : World) (hW : Below w4.heap.size w4 W) => And.intro (cell_kept hW b0) (cell_kept hW b1)
    clear b0 b1
    clear c0 c1 c2 c3 c4 c5 c6 c7 c8 c9 c10
    have hb24 := hb3.trans (hb4.mono hs3)
    have hb14 := hb12.trans (hb24.mono hb12.size)
    have hb04 := hb1.trans (hb14.mono hs1)
    have hbw4 := hb0.trans (hb04.mono (Nat.le_of_lt hl0))
    have hcall := mcheck_any (castT a y l t) w2.heap.size (castSh aa ac ya yc (w1.heap.size + 1)) w4 (hc2.below hb24 (Nat.le_refl _)) (by omega)
    refine hcall.mono ?_
    clear hcall
    rintro e w5 ⟨rfl, hb5⟩
    have hs5 := hb5.size
    have hb25 := hb24.trans (hb5.mono hb24.size)
    have hb15 := hb14.trans (hb5.mono hb14.size)
    have hb05 := hb04.trans (hb5.mono hb04.size)
    have hbw5 := hbw4.trans (hb5.mono hbw4.size)
    by_cases hck : (castT a y l t).check = 0
    · have hckn : ((castT a y l t).check != 0) = false := by simp [hck]
      have h23 := hlaw2.out.2
      have HCK := Lib.hid hck
      clear hck
      obtain ⟨a0, a1⟩ := HA.out _ hb25
      obtain ⟨y0, y1⟩ := HY.out _ hb05
      have hx5 : a.In w5 w5.heap.size aa := (hain.below hb15 (Nat.le_refl _)).up hb15.size
      have hy5 : y.In w5 w5.heap.size ya := (hy.below hbw5 hB).up (by have := hbw5.size; omega)
      go_wp2_with fail
      refine (agree_any a y w5.heap.size aa ya ac yc w5 hx5 hy5 (Nat.le_refl _)).mono ?_
      rintro e w6 ⟨rfl, hb6⟩
      have hs6 := hb6.size
      have hbw6 := hbw5.trans (hb6.mono hbw5.size)
      by_cases hag : a.agree y = true
      · have h3 := h23.2 HCK.out hag
        simp only [Prod.mk.injEq] at h3
        obtain ⟨⟨rfl, rfl⟩, hsm⟩ := h3
        have HS := Lib.hid hsm
        have HAG := Lib.hid hag
        clear hag hsm h23
        have hb06 := hb05.trans (hb6.mono hb05.size)
        have hb46 := hb5.trans (hb6.mono hs5)
        obtain ⟨b0, b1⟩ := HB.out _ hb46
        clear y0 y1
        obtain ⟨y0, y1⟩ := HY.out _ hb06
        rw [HAG.out]
        have hz6 : z.In w6 w6.heap.size za := RTy.InS.mono (fun b (hb : _ ∧ b < w3.heap.size) => (by omega : b < w6.heap.size)) (fun b o (hb : _ ∧ b < w3.heap.size) => (hb4.trans (hb46.mono hb4.size)).cell (p := ⟨b, o, none⟩) hb.2) hz
        have hy6 : z.In w6 w6.heap.size ya := (hy5.below hb6 (Nat.le_refl _)).up hs6
        go_wp2_with fail
        refine (tsame_any z z w6.heap.size za ya zc yc w6 hz6 hy6 (Nat.le_refl _)).mono ?_
        rintro e w7 ⟨rfl, hb7⟩
        rw [HS.out]
        go_wp2_with fail
        go_ret
        exact ⟨rfl, hbw6.trans (hb7.mono hbw6.size)⟩
      · have hag' : a.agree y = false := by simpa using hag
        have h3 := h23.1 HCK.out hag'
        have h3' : (m == 130) = true := by simp [h3]
        rw [hag']
        clear hag hag' h3 h23
        go_wp2_with fail
        go_ret
        exact ⟨rfl, hbw6⟩
    · have hckn : ((castT a y l t).check != 0) = true := by simp [hck]
      have h1 := hlaw2.out.1 hck
      have h1' : (m == (castT a y l t).check) = true := by simp [h1]
      clear hck h1
      go_wp2_with fail
      go_ret
      exact ⟨rfl, hbw5⟩
  · have hne : (n != 0) = true := by simp [hn]
    have ha0 := hunk hn
    subst ha0
    clear hn hunk hlaw0
    have hain : RTy.unk.In w1 w1.heap.size aa := RTy.InS.up ha fun b hb => hb.2
    go_wp2_with fail
    generalize hV : World.alloc w1 _ = w2
    have hb2 : Below w1.heap.size w1 w2 := by rw [← hV]; (repeat (first | assumption | exact Below.refl _ _ | apply below_drewN | apply Below.drew | (refine Below.alloc ?_ (by first | omega | (simp; done) | (simp; omega)) _) | (refine Below.setCell ?_ (by first | omega | (simp; done) | (simp; omega)) _)))
    clear hV
    have hs2 := hb2.size
    have hcall := kind_any RTy.unk.nodes RTy.unk RTy.unk w2.heap.size aa none ac 0 w2 (Nat.le_refl _) ((hain.below hb2 (Nat.le_refl _)).up hs2) (RTy.unk_in _ _ _) (Nat.le_refl _)
    simp only [RTy.unk_k, RTy.unk_len] at hcall
    refine hcall.mono ?_
    clear hcall
    rintro e w3 ⟨rfl, hb3⟩
    rw [RTy.kin_refl]
    go_wp2_with fail
    go_ret
    exact ⟨rfl, hbw1.trans ((hb2.trans (hb3.mono hs2)).mono hbw1.size)⟩
end Go.Proofs.Ytaoodchjggimcaa

/- The walk of the law KernelKnown. -/
set_option linter.unusedVariables false
set_option linter.unusedSimpArgs false
namespace Go.Proofs.Ytaoodchjggimcaa
open Go.RowKit

def threeT : RTm := .mk 1 ⟨#[]⟩ ⟨#[]⟩ 3 RTy.unk RTy.unk 0 0 []
def threeSh : TmSh := ⟨none, 0, none, 0, none, 0⟩
def isT : RTm := .mk 16 ⟨#[]⟩ ⟨#[]⟩ 0 RTy.unk RTy.unk 0 0 [threeT]
theorem known1 : kernelRes (castT (.mk 1 []) (.mk 0 []) 1 threeT) = (.mk 0 [], 0) := by kernel_rfl
theorem known2 : kernelRes (castT (.mk 1 []) (.mk 2 []) 1 threeT) = (.mk 0 [], 130) := by kernel_rfl
theorem known3 : kernelRes (castT (.mk 2 []) (.mk 0 []) 1 threeT) = (.mk 0 [], 130) := by kernel_rfl
theorem known4 : kernelRes (castT (.mk 1 []) (.mk 0 []) 0 threeT) = (.mk 0 [], 30) := by kernel_rfl
theorem known5 : kernelRes isT = (.mk 0 [], 30) := by kernel_rfl
theorem three_in (W : World) (C : Nat) : threeT.In W C threeSh := by
  refine RTm.InS.of ?_ (RTy.unk_in _ _ _) (RTy.unk_in _ _ _) (by show RTm.InsS W _ none 0 []; unfold RTm.InsS; trivial)
  exact ⟨by show -128 ≤ (1 : Int) ∧ (1 : Int) ≤ 127; omega, by show (0 : Nat) ≤ _; omega, by show (0 : Nat) ≤ _; omega, by show -9223372036854775808 ≤ (3 : Int) ∧ (3 : Int) ≤ 9223372036854775807; omega, by show -9223372036854775808 ≤ (0 : Int) ∧ (0 : Int) ≤ 9223372036854775807; omega, by show -9223372036854775808 ≤ (0 : Int) ∧ (0 : Int) ≤ 9223372036854775807; omega, by show 0 ≤ _; omega⟩
theorem kind_in {k : Int} (hk : RTy.Kind8 k) (W : World) (S : Nat → Prop) (a : Option Addr) : (RTy.mk k []).InS W S a := by
  unfold RTy.InS RTy.InsS
  exact ⟨hk, by simp [lenMax], trivial⟩
theorem isT_in {W : World} {b C : Nat} (hb : b < C) (h : CellsAt W b 0 (threeT.cells threeSh)) : isT.In W C (castSh none 0 none 0 b) := by
  refine RTm.InS.of ?_ (RTy.unk_in _ _ _) (RTy.unk_in _ _ _) ?_
  · exact ⟨by show -128 ≤ (16 : Int) ∧ (16 : Int) ≤ 127; omega, by show (0 : Nat) ≤ _; omega, by show (0 : Nat) ≤ _; omega, by show -9223372036854775808 ≤ (0 : Int) ∧ (0 : Int) ≤ _; omega, by show -9223372036854775808 ≤ (0 : Int) ∧ (0 : Int) ≤ _; omega, by show -9223372036854775808 ≤ (0 : Int) ∧ (0 : Int) ≤ _; omega, by show 1 ≤ _; omega⟩
  · show RTm.InsS W _ (some ⟨b, 0, none⟩) 0 [threeT]
    refine RTm.InsS.mk (S := fun b => b < C) (o := 0) hb fun j x hj => ?_
    match j, hj with
    | 0, hj => cases hj; exact ⟨threeSh, h, three_in W C⟩
    | n + 1, hj => simp at hj

set_option maxRecDepth 100000 in
set_option maxHeartbeats 2000000 in
theorem castFn_any (f g l : Int) (w : World) (hf : RTy.Kind8 f) (hg : RTy.Kind8 g) (hl : -9223372036854775808 ≤ l ∧ l ≤ 9223372036854775807) :
    Calls Try.prog 14 #[.int .i8 f, .int .i8 g, .int .i64 l, .agg #[.int .i8 1, .string ⟨#[]⟩, .string ⟨#[]⟩, .int .i64 3, .int .i8 0, .slice none 0 0, .int .i8 0, .slice none 0 0, .int .i64 0, .int .i64 0, .slice none 0 0]] w fun e w' => ∃ b,
      e = .returned (.agg #[.int .i8 17, .string ⟨#[]⟩, .string ⟨#[]⟩, .int .i64 0, .int .i8 f, .slice none 0 0, .int .i8 g, .slice none 0 0, .int .i64 l, .int .i64 0, .slice (some ⟨b, 0, none⟩) 1 1]) ∧
      (castT (.mk f []) (.mk g []) l threeT).In w' w'.heap.size (castSh none 0 none 0 b) ∧ Below w.heap.size w w' := by
  go_enter Try.func14, Try.ntmps14
  go_wp2_with fail
  refine bodyPost_ret (v := .agg #[.int .i8 17, .string ⟨#[]⟩, .string ⟨#[]⟩, .int .i64 0, .int .i8 f, .slice none 0 0, .int .i8 g, .slice none 0 0, .int .i64 l, .int .i64 0, .slice (some ⟨w.heap.size + 1 + 1, 0, none⟩) 1 1]) (by simp [results, Try.results14, go_sem]) rfl ?_
  refine ⟨w.heap.size + 1 + 1, rfl, castT_in (by simp) (kind_in hf _ _ _) (kind_in hg _ _ _) hl (three_in _ _) ?_, ?_⟩
  · intro j v hj
    match j, hj with
    | 0, hj => cases hj; simp [go_sem]; first | rfl | exact ⟨rfl, rfl, rfl⟩
    | 1, hj => cases hj; simp [go_sem]; first | rfl | exact ⟨rfl, rfl, rfl⟩
    | 2, hj => cases hj; simp [go_sem]; first | rfl | exact ⟨rfl, rfl, rfl⟩
    | 3, hj => cases hj; simp [go_sem]; first | rfl | exact ⟨rfl, rfl, rfl⟩
    | 4, hj => cases hj; simp [go_sem]; first | rfl | exact ⟨rfl, rfl, rfl⟩
    | 5, hj => cases hj; simp [go_sem]; first | rfl | exact ⟨rfl, rfl, rfl⟩
    | 6, hj => cases hj; simp [go_sem]; first | rfl | exact ⟨rfl, rfl, rfl⟩
    | 7, hj => cases hj; simp [go_sem]; first | rfl | exact ⟨rfl, rfl, rfl⟩
    | 8, hj => cases hj; simp [go_sem]; first | rfl | exact ⟨rfl, rfl, rfl⟩
    | 9, hj => cases hj; simp [go_sem]; first | rfl | exact ⟨rfl, rfl, rfl⟩
    | 10, hj => cases hj; simp [go_sem]; first | rfl | exact ⟨rfl, rfl, rfl⟩
    | n + 11, hj => simp at hj
  · (repeat (first | assumption | exact Below.refl _ _ | apply below_drewN | apply Below.drew | (refine Below.alloc ?_ (by first | omega | (simp; done) | (simp; omega)) _) | (refine Below.setCell ?_ (by first | omega | (simp; done) | (simp; omega)) _)))
/-- kernel.Type of a term of which the answer is known. -/
theorem known_calls {t : RTm} {s : TmSh} {k n : Int} {w : World} (hk : kernelRes t = (.mk k [], n)) (hin : t.In w w.heap.size s) :
    Calls Try.prog 15 #[t.v s] w fun e w' => (∃ aa ac, e = .returned (.tuple #[.agg #[.int .i8 k, .slice aa 0 ac], .int .i64 n])) ∧ Below w.heap.size w w' := by
  refine (kernelType_any t w.heap.size s w hin (Nat.le_refl _)).mono ?_
  rintro e w' ⟨aa, ac, he, -, hb⟩
  rw [hk] at he
  exact ⟨⟨aa, ac, he⟩, hb⟩

set_option maxRecDepth 100000 in
set_option maxHeartbeats 4000000 in
theorem kernelKnown_any (w : World) : Calls Try.prog 4 #[] w fun e w' => e = .returned (.bool true) ∧ Below w.heap.size w w' := by
  go_enter Try.func4, Try.ntmps4
  go_wp2_with fail
  generalize hW : World.alloc w _ = w0
  have hb0 : Below w.heap.size w w0 := by rw [← hW]; (repeat (first | assumption | exact Below.refl _ _ | apply below_drewN | apply Below.drew | (refine Below.alloc ?_ (by first | omega | (simp; done) | (simp; omega)) _) | (refine Below.setCell ?_ (by first | omega | (simp; done) | (simp; omega)) _)))
  have hz0 : w.heap.size < w0.heap.size := by rw [← hW]; simp
  have t0 : w0.cell? ⟨w.heap.size, 0, none⟩ = some (.int .i8 1) := by rw [← hW]; simp [go_sem]
  have t1 : w0.cell? ⟨w.heap.size, 1, none⟩ = some (.string ⟨#[]⟩) := by rw [← hW]; simp [go_sem]
  have t2 : w0.cell? ⟨w.heap.size, 2, none⟩ = some (.string ⟨#[]⟩) := by rw [← hW]; simp [go_sem]
  have t3 : w0.cell? ⟨w.heap.size, 3, none⟩ = some (.int .i64 3) := by rw [← hW]; simp [go_sem]
  have t4 : w0.cell? ⟨w.heap.size, 4, none⟩ = some (.int .i8 0) := by rw [← hW]; simp [go_sem]
  have t5 : w0.cell? ⟨w.heap.size, 5, none⟩ = some (.slice none 0 0) := by rw [← hW]; simp [go_sem]
  have t6 : w0.cell? ⟨w.heap.size, 6, none⟩ = some (.int .i8 0) := by rw [← hW]; simp [go_sem]
  have t7 : w0.cell? ⟨w.heap.size, 7, none⟩ = some (.slice none 0 0) := by rw [← hW]; simp [go_sem]
  have t8 : w0.cell? ⟨w.heap.size, 8, none⟩ = some (.int .i64 0) := by rw [← hW]; simp [go_sem]
  have t9 : w0.cell? ⟨w.heap.size, 9, none⟩ = some (.int .i64 0) := by rw [← hW]; simp [go_sem]
  have t10 : w0.cell? ⟨w.heap.size, 10, none⟩ = some (.slice none 0 0) := by rw [← hW]; simp [go_sem]
  clear hW
  have HT := Lib.hid fun (W : World) (hW : Below w0.heap.size w0 W) => And.intro (cell_kept hW t0) (And.intro (cell_kept hW t1) (And.intro (cell_kept hW t2) (And.intro (cell_kept hW t3) (And.intro (cell_kept hW t4) (And.intro (cell_kept hW t5) (And.intro (cell_kept hW t6) (And.intro (cell_kept hW t7) (And.intro (cell_kept hW t8) (And.intro (cell_kept hW t9) (cell_kept hW t10))))))))))
  clear t0 t1 t2 t3 t4 t5 t6 t7 t8 t9 t10
  have hx0 : Below w0.heap.size w0 w0 := Below.refl _ _
  refine (castFn_any (1) (0) (1) w0 ⟨by omega, by omega⟩ ⟨by omega, by omega⟩ ⟨by omega, by omega⟩).mono ?_
  rintro e p0 ⟨cb0, rfl, hc0, hp0⟩
  go_wp2_with fail
  refine (known_calls (s := castSh none 0 none 0 cb0) known1 hc0).mono ?_
  rintro e q0 ⟨⟨aa0, ac0, rfl⟩, hq0⟩
  have hy0 := hx0.trans ((hp0.trans (hq0.mono hp0.size)).mono hx0.size)
  have hys0 := hy0.size
  have hyl0 : w.heap.size < q0.heap.size := by omega
  obtain ⟨t0, t1, t2, t3, t4, t5, t6, t7, t8, t9, t10⟩ := HT.out _ hy0
  go_wp2_with fail
  generalize hV : World.alloc q0 _ = u1
  have hv1 : Below q0.heap.size q0 u1 := by rw [← hV]; (repeat (first | assumption | exact Below.refl _ _ | apply below_drewN | apply Below.drew | (refine Below.alloc ?_ (by first | omega | (simp; done) | (simp; omega)) _) | (refine Below.setCell ?_ (by first | omega | (simp; done) | (simp; omega)) _)))
  have a0 : u1.cell? ⟨q0.heap.size, 0, none⟩ = some (.int .i8 0) := by rw [← hV]; simp [go_sem]
  have hzq : q0.heap.size < u1.heap.size := by rw [← hV]; simp
  clear hV
  have hx1 := hy0.trans (hv1.mono hys0)
  clear t0 t1 t2 t3 t4 t5 t6 t7 t8 t9 t10
  refine (castFn_any (1) (2) (1) u1 ⟨by omega, by omega⟩ ⟨by omega, by omega⟩ ⟨by omega, by omega⟩).mono ?_
  rintro e p1 ⟨cb1, rfl, hc1, hp1⟩
  go_wp2_with fail
  refine (known_calls (s := castSh none 0 none 0 cb1) known2 hc1).mono ?_
  rintro e q1 ⟨⟨aa1, ac1, rfl⟩, hq1⟩
  have hy1 := hx1.trans ((hp1.trans (hq1.mono hp1.size)).mono hx1.size)
  have hys1 := hy1.size
  have hyl1 : w.heap.size < q1.heap.size := by omega
  obtain ⟨t0, t1, t2, t3, t4, t5, t6, t7, t8, t9, t10⟩ := HT.out _ hy1
  go_wp2_with fail
  generalize hV : World.alloc q1 _ = u2
  have hv2 : Below q1.heap.size q1 u2 := by rw [← hV]; (repeat (first | assumption | exact Below.refl _ _ | apply below_drewN | apply Below.drew | (refine Below.alloc ?_ (by first | omega | (simp; done) | (simp; omega)) _) | (refine Below.setCell ?_ (by first | omega | (simp; done) | (simp; omega)) _)))
  clear hV
  have hx2 := hy1.trans (hv2.mono hys1)
  clear t0 t1 t2 t3 t4 t5 t6 t7 t8 t9 t10
  refine (castFn_any (2) (0) (1) u2 ⟨by omega, by omega⟩ ⟨by omega, by omega⟩ ⟨by omega, by omega⟩).mono ?_
  rintro e p2 ⟨cb2, rfl, hc2, hp2⟩
  go_wp2_with fail
  refine (known_calls (s := castSh none 0 none 0 cb2) known3 hc2).mono ?_
  rintro e q2 ⟨⟨aa2, ac2, rfl⟩, hq2⟩
  have hy2 := hx2.trans ((hp2.trans (hq2.mono hp2.size)).mono hx2.size)
  have hys2 := hy2.size
  have hyl2 : w.heap.size < q2.heap.size := by omega
  obtain ⟨t0, t1, t2, t3, t4, t5, t6, t7, t8, t9, t10⟩ := HT.out _ hy2
  go_wp2_with fail
  generalize hV : World.alloc q2 _ = u3
  have hv3 : Below q2.heap.size q2 u3 := by rw [← hV]; (repeat (first | assumption | exact Below.refl _ _ | apply below_drewN | apply Below.drew | (refine Below.alloc ?_ (by first | omega | (simp; done) | (simp; omega)) _) | (refine Below.setCell ?_ (by first | omega | (simp; done) | (simp; omega)) _)))
  clear hV
  have hx3 := hy2.trans (hv3.mono hys2)
  clear t0 t1 t2 t3 t4 t5 t6 t7 t8 t9 t10
  refine (castFn_any (1) (0) (0) u3 ⟨by omega, by omega⟩ ⟨by omega, by omega⟩ ⟨by omega, by omega⟩).mono ?_
  rintro e p3 ⟨cb3, rfl, hc3, hp3⟩
  go_wp2_with fail
  refine (known_calls (s := castSh none 0 none 0 cb3) known4 hc3).mono ?_
  rintro e q3 ⟨⟨aa3, ac3, rfl⟩, hq3⟩
  have hy3 := hx3.trans ((hp3.trans (hq3.mono hp3.size)).mono hx3.size)
  have hys3 := hy3.size
  have hyl3 : w.heap.size < q3.heap.size := by omega
  obtain ⟨t0, t1, t2, t3, t4, t5, t6, t7, t8, t9, t10⟩ := HT.out _ hy3
  go_wp2_with fail
  generalize hV : World.alloc q3 _ = u4
  have hv4 : Below q3.heap.size q3 u4 := by rw [← hV]; (repeat (first | assumption | exact Below.refl _ _ | apply below_drewN | apply Below.drew | (refine Below.alloc ?_ (by first | omega | (simp; done) | (simp; omega)) _) | (refine Below.setCell ?_ (by first | omega | (simp; done) | (simp; omega)) _)))
  have hz4 : u4.heap.size = q3.heap.size + 1 := by rw [← hV]; simp
  clear hV
  have hx4 := hy3.trans (hv4.mono hys3)
  generalize hV : World.alloc u4 _ = u5
  have hv5 : Below u4.heap.size u4 u5 := by rw [← hV]; (repeat (first | assumption | exact Below.refl _ _ | apply below_drewN | apply Below.drew | (refine Below.alloc ?_ (by first | omega | (simp; done) | (simp; omega)) _) | (refine Below.setCell ?_ (by first | omega | (simp; done) | (simp; omega)) _)))
  have hz5 : q3.heap.size + 1 < u5.heap.size := by rw [← hV]; simp [hz4]
  have hcl : CellsAt u5 (q3.heap.size + 1) 0 (threeT.cells threeSh) := by
    rw [← hV, ← hz4]
    exact one_cells rfl
  clear hV
  clear t0 t1 t2 t3 t4 t5 t6 t7 t8 t9 t10
  have hx5 := hx4.trans (hv5.mono hx4.size)
  have hi5 := isT_in hz5 hcl
  refine (known_calls (s := castSh none 0 none 0 (q3.heap.size + 1)) known5 hi5).mono ?_
  rintro e w6 ⟨⟨aa6, ac6, rfl⟩, hb6⟩
  have hx6 := hx5.trans (hb6.mono hx5.size)
  have hu16 : Below u1.heap.size u1 w6 := (((((hp1.trans (hq1.mono hp1.size)).trans (hv2.mono (Nat.le_trans hp1.size hq1.size))).trans (((hp2.trans (hq2.mono hp2.size)).trans (hv3.mono (Nat.le_trans hp2.size hq2.size))).mono (by have := hp1.size; have := hq1.size; have := hv2.size; omega))).trans (((hp3.trans (hq3.mono hp3.size)).trans (hv4.mono (Nat.le_trans hp3.size hq3.size))).mono (by have := hp1.size; have := hq1.size; have := hv2.size; have := hp2.size; have := hq2.size; have := hv3.size; omega))).trans ((hv5.trans (hb6.mono hv5.size)).mono (by have := hp1.size; have := hq1.size; have := hv2.size; have := hp2.size; have := hq2.size; have := hv3.size; have := hp3.size; have := hq3.size; have := hv4.size; omega)))
  have a0 := cell_kept hu16 a0
  have hs6 := hu16.size
  have hz6 : q0.heap.size < w6.heap.size := by omega
  go_wp2_with fail
  go_ret
  refine ⟨rfl, ?_⟩
  have hbw6 := hb0.trans (hx6.mono hb0.size)
  (repeat (first | assumption | exact Below.refl _ _ | apply below_drewN | apply Below.drew | (refine Below.alloc ?_ (by first | omega | (simp; done) | (simp; omega)) _) | (refine Below.setCell ?_ (by first | omega | (simp; done) | (simp; omega)) _)))
end Go.Proofs.Ytaoodchjggimcaa

namespace Go.Proofs.Ytaoodchjggimcaa.kernelKnown
open Go.ChangeShapes Go.WideShapes Go.ChangeAt Go.RowKit
set_option linter.unusedVariables false
theorem own : ownKnob Try.prog.godebug = none := by kernel_rfl
theorem laidOut : laidOutB Try.prog = true := by kernel_rfl
set_option maxRecDepth 100000 in
theorem lifted (os : Os) (started : os.Started) (H : Type) (enc : TypeId × Value → H) :
    ReturnsInHanded {} Try.checked os 4 .any (Rows.kernelKnownSpec.pre6 enc Try.prog Try.f4 Rows.kernelKnownRow.domain false) (Rows.kernelKnownSpec.post enc Try.prog Try.f4 false true false false) := by
  refine returnsInHanded_of_change_sized (C := Try.checked) own started (by kernel_rfl) Try.func4
    (ChangeSpec.witness6 (enc := enc) (C := Try.checked) false ⟨#[], #[], []⟩ 8 (by kernel_rfl) (by kernel_rfl) (by kernel_rfl) (by kernel_rfl)) ?_
  intro W base args ds gs before hval0 hW hcnd hsz0 _
  have hsz : (DataW.weightsEach Try.prog (Try.f4.params.toList ++ Rows.kernelKnownSpec.plain.varTypes Try.prog) (ds ++ gs)).all (· ≤ reachBytes) = true := hsz0
  have hval : ∀ (j : Nat) t v, Try.f4.params[j]? = some t → args[j]? = some v → Value.okWide Try.prog W .any base t v := hval0
  have hW' := hW
  obtain ⟨p, q, hA0, hV, rfl, hfz, hnd⟩ := hW
  have hA : DataW.TrodAll enc Try.prog W 0 (fun _ => true) true Try.f4.params.toList args.toList ds p := hA0
  obtain ⟨rfl, rfl, rfl⟩ := trodAll_none hA
  obtain ⟨rfl, rfl⟩ := trodVars_none hV
  clear hA0 hval0 hsz0 hsz
  refine (kernelKnown_any W).mono fun e W' ⟨he, bel⟩ => ?_
  subst he
  exact ⟨_, rfl, _, _, _, [], _, [], hW', trodAll_mk1 (shut_bool Try.underlying4 _), trodAll_mk0, rfl, bel.frame _, fun h => by cases h⟩
theorem over : Rows.kernelKnownRow.holds Try.pinned (OpenSpec.ofChange Rows.kernelKnownSpec) :=
  OpenClaim.holds_of_wide 4 Try.f4 rfl rfl rfl rfl rfl rfl rfl ⟨rfl, rfl, rfl, rfl, rfl⟩ rfl rfl rfl rfl rfl (by kernel_rfl) Try.func4 (by kernel_rfl)
    (of_decide_eq_true (by kernel_rfl)) (by unfold Func.isWrapper; first | (rw [if_pos (by decide +kernel)]; kernel_rfl) | (rw [if_neg (by decide +kernel)]; exact ⟨rfl, rfl⟩))
    (fun os started H enc _ => lifted os started H enc)
theorem proved : Rows.KernelKnownSaid := over
#print axioms proved
end Go.Proofs.Ytaoodchjggimcaa.kernelKnown
namespace Go.Proofs.Ytaoodchjggimcaa
/-- The row, under a short name, for the claim. -/
theorem kernelKnown_holds : Rows.KernelKnownSaid := kernelKnown.proved
end Go.Proofs.Ytaoodchjggimcaa
