/- Of a term, a type and a number, whatever they are, KernelCast returns true, and all read afterwards as before: no condition. -/
import Derived.Test.YtaoodchjggimcaaBk2
import Derived.Test.YtaoodchjggimcaaBa2
import Derived.Test.YtaoodchjggimcaaRows
import Derived.Test.YtaoodchjggimcaaBa3
import Derived.WalkKit
import Derived.ProofKit
import Derived.OpenShut
import Derived.ShutString
import Derived.ChangeOld
import Derived.Below
import Derived.SizedLaws
import Derived.Carry

/- The walk of the law KernelCast. -/
set_option linter.unusedVariables false
set_option linter.unusedSimpArgs false
namespace Go.Proofs.Ytaoodchjggimcaa
open Go.RowKit

def castSh (aa : Option Addr) (ac : Nat) (ya : Option Addr) (yc b : Nat) : TmSh := ⟨aa, ac, ya, yc, some ⟨b, 0, none⟩, 1⟩
theorem castT_in {W : World} {b C : Nat} {a y : RTy} {l : Int} {t : RTm} {s : TmSh} {aa ya : Option Addr} {ac yc : Nat} (hb : b < C) (ha : a.In W C aa) (hy : y.In W C ya) (hl : -9223372036854775808 ≤ l ∧ l ≤ 9223372036854775807) (hin : t.In W C s) (h : CellsAt W b 0 (t.cells s)) : (castT a y l t).In W C (castSh aa ac ya yc b) := by
  refine RTm.InS.of ?_ ha hy ?_
  · exact ⟨by show -128 ≤ (17 : Int) ∧ (17 : Int) ≤ 127; omega, by show (0 : Nat) ≤ _; omega, by show (0 : Nat) ≤ _; omega, by show -9223372036854775808 ≤ (0 : Int) ∧ (0 : Int) ≤ _; omega, hl, by show -9223372036854775808 ≤ (0 : Int) ∧ (0 : Int) ≤ _; omega, by show 1 ≤ _; omega⟩
  · show RTm.InsS W _ (some ⟨b, 0, none⟩) 0 [t]
    refine RTm.InsS.mk (S := fun b => b < C) (o := 0) hb fun j x hj => ?_
    match j, hj with
    | 0, hj => cases hj; exact ⟨s, h, hin⟩
    | n + 1, hj => simp at hj
theorem one_cells {w : World} {t : RTm} {s : TmSh} {E : TypeId} {cs : Array Value} (hcs : cs = (t.cells s).toArray) : CellsAt (w.alloc (.cells cs E)) w.heap.size 0 (t.cells s) := by
  subst hcs
  intro j v hj
  rw [World.cell?_alloc_new, Nat.zero_add]
  simpa using hj
theorem CellsAt.below {w w' : World} {b o C : Nat} {cs : List Value} (h : CellsAt w b o cs) (hb : Below C w w') (hlt : b < C) : CellsAt w' b o cs :=
  fun j v hj => (hb.cell (p := ⟨b, o + j, none⟩) hlt).trans (h j v hj)

set_option maxRecDepth 100000 in
set_option maxHeartbeats 4000000 in
theorem kernelCast_any (t : RTm) (y : RTy) (l : Int) (B : Nat) (s : TmSh) (ya : Option Addr) (yc : Nat) (w : World) (hin : t.In w B s) (hy : y.In w B ya) (hwl : -9223372036854775808 ≤ l ∧ l ≤ 9223372036854775807) (hB : B ≤ w.heap.size) :
    Calls Try.prog 5 #[t.v s, .agg #[.int .i8 y.k, .slice ya y.ks.length yc], .int .i64 l] w fun e w' => e = .returned (.bool true) ∧ Below w.heap.size w w' := by
  go_enter Try.func5, Try.ntmps5
  go_wp2_with fail
  generalize hW : World.alloc (World.alloc w _) _ = w0
  have hb0 : Below w.heap.size w w0 := by rw [← hW]; (repeat (first | assumption | exact Below.refl _ _ | apply below_drewN | apply Below.drew | (refine Below.alloc ?_ (by first | omega | (simp; done) | (simp; omega)) _) | (refine Below.setCell ?_ (by first | omega | (simp; done) | (simp; omega)) _)))
  have hz0 : w0.heap.size = w.heap.size + 1 + 1 := by rw [← hW]; simp
  have t0 : w0.cell? ⟨w.heap.size, 0, none⟩ = some (.int .i8 t.k) := by rw [← hW]; simp [go_sem]
  have t1 : w0.cell? ⟨w.heap.size, 1, none⟩ = some (.string t.name) := by rw [← hW]; simp [go_sem]
  have t2 : w0.cell? ⟨w.heap.size, 2, none⟩ = some (.string t.arg) := by rw [← hW]; simp [go_sem]
  have t3 : w0.cell? ⟨w.heap.size, 3, none⟩ = some (.int .i64 t.num) := by rw [← hW]; simp [go_sem]
  have t4 : w0.cell? ⟨w.heap.size, 4, none⟩ = some (.int .i8 t.ty.k) := by rw [← hW]; simp [go_sem]
  have t5 : w0.cell? ⟨w.heap.size, 5, none⟩ = some (.slice s.ta t.ty.ks.length s.tc) := by rw [← hW]; simp [go_sem]
  have t6 : w0.cell? ⟨w.heap.size, 6, none⟩ = some (.int .i8 t.to.k) := by rw [← hW]; simp [go_sem]
  have t7 : w0.cell? ⟨w.heap.size, 7, none⟩ = some (.slice s.oa t.to.ks.length s.oc) := by rw [← hW]; simp [go_sem]
  have t8 : w0.cell? ⟨w.heap.size, 8, none⟩ = some (.int .i64 t.label) := by rw [← hW]; simp [go_sem]
  have t9 : w0.cell? ⟨w.heap.size, 9, none⟩ = some (.int .i64 t.spot) := by rw [← hW]; simp [go_sem]
  have t10 : w0.cell? ⟨w.heap.size, 10, none⟩ = some (.slice s.ka t.ks.length s.kc) := by rw [← hW]; simp [go_sem]
  have y0 : w0.cell? ⟨w.heap.size + 1, 0, none⟩ = some (.int .i8 y.k) := by rw [← hW]; simp [go_sem]
  have y1 : w0.cell? ⟨w.heap.size + 1, 1, none⟩ = some (.slice ya y.ks.length yc) := by rw [← hW]; simp [go_sem]
  clear hW
  have HT := Lib.hid fun (W : World) (hW : Below w0.heap.size w0 W) => And.intro (cell_kept hW t0) (And.intro (cell_kept hW t1) (And.intro (cell_kept hW t2) (And.intro (cell_kept hW t3) (And.intro (cell_kept hW t4) (And.intro (cell_kept hW t5) (And.intro (cell_kept hW t6) (And.intro (cell_kept hW t7) (And.intro (cell_kept hW t8) (And.intro (cell_kept hW t9) (cell_kept hW t10))))))))))
  have HY := Lib.hid fun (W : World) (hW : Below w0.heap.size w0 W) => And.intro (cell_kept hW y0) (cell_kept hW y1)
  clear t0 t1 t2 t3 t4 t5 t6 t7 t8 t9 t10
  clear y0 y1
  have hl0 : w.heap.size < w0.heap.size := by omega
  have hl1 : w.heap.size + 1 < w0.heap.size := by omega
  clear hz0
  refine (kernelType_any t B s w0 (hin.below hb0 hB) (by omega)).mono ?_
  intro e w1 hg
  obtain ⟨aa, ac, rfl, ha, hb1⟩ := hg
  have hs1 := hb1.size
  have hlaw0 := castLaw t y l
  have hunk := kernelRes_unk (t := t)
  generalize hK : kernelRes t = K at *
  obtain ⟨a, n⟩ := K
  simp only at hlaw0 hunk ha
  have hbw1 := hb0.trans (hb1.mono (Nat.le_of_lt hl0))
  by_cases hn : n = 0
  · have hne : (n != 0) = false := by simp [hn]
    have hlaw := Lib.hid (hlaw0 hn)
    clear hlaw0 hunk hn
    obtain ⟨t0, t1, t2, t3, t4, t5, t6, t7, t8, t9, t10⟩ := HT.out _ hb1
    obtain ⟨y0, y1⟩ := HY.out _ hb1
    have hm0 : w.heap.size < w1.heap.size := by omega
    have hm1 : w.heap.size + 1 < w1.heap.size := by omega
    have hain : a.In w1 w1.heap.size aa := RTy.InS.up ha fun b hb => hb.2
    go_wp2_with fail
    generalize hV : World.alloc (World.alloc w1 _) _ = wv
    have hbv : Below w1.heap.size w1 wv := by rw [← hV]; (repeat (first | assumption | exact Below.refl _ _ | apply below_drewN | apply Below.drew | (refine Below.alloc ?_ (by first | omega | (simp; done) | (simp; omega)) _) | (refine Below.setCell ?_ (by first | omega | (simp; done) | (simp; omega)) _)))
    have hzv : wv.heap.size = w1.heap.size + 1 + 1 := by rw [← hV]; simp
    have hcv : CellsAt wv (w1.heap.size + 1) 0 (t.cells s) := by
      rw [← hV]
      have h := one_cells (w := w1.alloc (.cells #[.int .i8 a.k, .slice aa a.ks.length ac] 25)) (t := t) (s := s) (E := 28) rfl
      rwa [World.size_alloc] at h
    have a0 : wv.cell? ⟨w1.heap.size, 0, none⟩ = some (.int .i8 a.k) := by rw [← hV]; simp [go_sem]
    have a1 : wv.cell? ⟨w1.heap.size, 1, none⟩ = some (.slice aa a.ks.length ac) := by rw [← hV]; simp [go_sem]
    clear hV
    generalize hV : World.alloc wv _ = w2
    have hbc : Below wv.heap.size wv w2 := by rw [← hV]; (repeat (first | assumption | exact Below.refl _ _ | apply below_drewN | apply Below.drew | (refine Below.alloc ?_ (by first | omega | (simp; done) | (simp; omega)) _) | (refine Below.setCell ?_ (by first | omega | (simp; done) | (simp; omega)) _)))
    have hz2 : w2.heap.size = w1.heap.size + 1 + 1 + 1 := by rw [← hV]; simp [hzv]
    have c0 : w2.cell? ⟨w1.heap.size + 1 + 1, 0, none⟩ = some (.int .i8 17) := by rw [← hV]; simp [go_sem, ← hzv]
    have c1 : w2.cell? ⟨w1.heap.size + 1 + 1, 1, none⟩ = some (.string ⟨#[]⟩) := by rw [← hV]; simp [go_sem, ← hzv]
    have c2 : w2.cell? ⟨w1.heap.size + 1 + 1, 2, none⟩ = some (.string ⟨#[]⟩) := by rw [← hV]; simp [go_sem, ← hzv]
    have c3 : w2.cell? ⟨w1.heap.size + 1 + 1, 3, none⟩ = some (.int .i64 0) := by rw [← hV]; simp [go_sem, ← hzv]
    have c4 : w2.cell? ⟨w1.heap.size + 1 + 1, 4, none⟩ = some (.int .i8 a.k) := by rw [← hV]; simp [go_sem, ← hzv]
    have c5 : w2.cell? ⟨w1.heap.size + 1 + 1, 5, none⟩ = some (.slice aa a.ks.length ac) := by rw [← hV]; simp [go_sem, ← hzv]
    have c6 : w2.cell? ⟨w1.heap.size + 1 + 1, 6, none⟩ = some (.int .i8 y.k) := by rw [← hV]; simp [go_sem, ← hzv]
    have c7 : w2.cell? ⟨w1.heap.size + 1 + 1, 7, none⟩ = some (.slice ya y.ks.length yc) := by rw [← hV]; simp [go_sem, ← hzv]
    have c8 : w2.cell? ⟨w1.heap.size + 1 + 1, 8, none⟩ = some (.int .i64 l) := by rw [← hV]; simp [go_sem, ← hzv]
    have c9 : w2.cell? ⟨w1.heap.size + 1 + 1, 9, none⟩ = some (.int .i64 0) := by rw [← hV]; simp [go_sem, ← hzv]
    have c10 : w2.cell? ⟨w1.heap.size + 1 + 1, 10, none⟩ = some (.slice (some ⟨w1.heap.size + 1, 0, none⟩) 1 1) := by rw [← hV]; simp [go_sem, ← hzv]
    clear hV
    have a0 := cell_kept hbc a0
    have a1 := cell_kept hbc a1
    have HA := Lib.hid fun (W : World) (hW : Below w2.heap.size w2 W) => And.intro (cell_kept hW a0) (cell_kept hW a1)
    have HC := Lib.hid fun (W : World) (hW : Below w2.heap.size w2 W) => And.intro (cell_kept hW c0) (And.intro (cell_kept hW c1) (And.intro (cell_kept hW c2) (And.intro (cell_kept hW c3) (And.intro (cell_kept hW c4) (And.intro (cell_kept hW c5) (And.intro (cell_kept hW c6) (And.intro (cell_kept hW c7) (And.intro (cell_kept hW c8) (And.intro (cell_kept hW c9) (cell_kept hW c10))))))))))
    have hcv := hcv.below hbc (by omega)
    have hb12 : Below w1.heap.size w1 w2 := hbv.trans (hbc.mono hbv.size)
    clear a0 a1
    clear c0 c1 c2 c3 c4 c5 c6 c7 c8 c9 c10
    clear t0 t1 t2 t3 t4 t5 t6 t7 t8 t9 t10
    clear y0 y1
    have hbw2 := hbw1.trans (hb12.mono hbw1.size)
    have hszw2 := hbw2.size
    have hc2 : (castT a y l t).In w2 w2.heap.size (castSh aa ac ya yc (w1.heap.size + 1)) := castT_in (by omega) ((hain.below hb12 (Nat.le_refl _)).up (by omega)) ((hy.below hbw2 hB).up (by omega)) hwl ((hin.below hbw2 hB).up (by omega)) hcv
    have hq0 : w1.heap.size < w2.heap.size := by omega
    have hq1 : w1.heap.size + 1 + 1 < w2.heap.size := by omega
    clear hz2 hzv hbv hbc hcv
    have hcall := kernelType_any (castT a y l t) w2.heap.size (castSh aa ac ya yc (w1.heap.size + 1)) w2 hc2 (Nat.le_refl _)
    refine hcall.mono ?_
    clear hcall
    intro e w3 hg
    obtain ⟨za, zc, rfl, hz, hb3⟩ := hg
    have hs3 := hb3.size
    have hl := hlaw.out
    generalize hL : kernelRes (castT a y l t) = L at *
    obtain ⟨z, m⟩ := L
    simp only at hl hz
    have hlaw2 := Lib.hid hl
    clear hl hlaw hL
    have hr0 : w1.heap.size < w3.heap.size := by omega
    have hr1 : w1.heap.size + 1 + 1 < w3.heap.size := by omega
    obtain ⟨c0, c1, c2, c3, c4, c5, c6, c7, c8, c9, c10⟩ := HC.out _ hb3
    go_wp2_with fail
    generalize hV : World.alloc w3 _ = w4
    have hb4 : Below w3.heap.size w3 w4 := by rw [← hV]; (repeat (first | assumption | exact Below.refl _ _ | apply below_drewN | apply Below.drew | (refine Below.alloc ?_ (by first | omega | (simp; done) | (simp; omega)) _) | (refine Below.setCell ?_ (by first | omega | (simp; done) | (simp; omega)) _)))
    have hz4 : w3.heap.size < w4.heap.size := by rw [← hV]; simp
    have b0 : w4.cell? ⟨w3.heap.size, 0, none⟩ = some (.int .i8 z.k) := by rw [← hV]; simp [go_sem]
    have b1 : w4.cell? ⟨w3.heap.size, 1, none⟩ = some (.slice za z.ks.length zc) := by rw [← hV]; simp [go_sem]
    clear hV
    have HB := Lib.hid fun (W : World) (hW : Below w4.heap.size w4 W) => And.intro (cell_kept hW b0) (cell_kept hW b1)
    clear b0 b1
    clear c0 c1 c2 c3 c4 c5 c6 c7 c8 c9 c10
    have hb24 := hb3.trans (hb4.mono hs3)
    have hb14 := hb12.trans (hb24.mono hb12.size)
    have hb04 := hb1.trans (hb14.mono hs1)
    have hbw4 := hb0.trans (hb04.mono (Nat.le_of_lt hl0))
    have hcall := mcheck_any (castT a y l t) w2.heap.size (castSh aa ac ya yc (w1.heap.size + 1)) w4 (hc2.below hb24 (Nat.le_refl _)) (by omega)
    refine hcall.mono ?_
    clear hcall
    rintro e w5 ⟨rfl, hb5⟩
    have hs5 := hb5.size
    have hb25 := hb24.trans (hb5.mono hb24.size)
    have hb15 := hb14.trans (hb5.mono hb14.size)
    have hb05 := hb04.trans (hb5.mono hb04.size)
    have hbw5 := hbw4.trans (hb5.mono hbw4.size)
    by_cases hck : (castT a y l t).check = 0
    · have hckn : ((castT a y l t).check != 0) = false := by simp [hck]
      have h23 := hlaw2.out.2
      have HCK := Lib.hid hck
      clear hck
      obtain ⟨a0, a1⟩ := HA.out _ hb25
      obtain ⟨y0, y1⟩ := HY.out _ hb05
      have hx5 : a.In w5 w5.heap.size aa := (hain.below hb15 (Nat.le_refl _)).up hb15.size
      have hy5 : y.In w5 w5.heap.size ya := (hy.below hbw5 hB).up (by have := hbw5.size; omega)
      go_wp2_with fail
      refine (agree_any a y w5.heap.size aa ya ac yc w5 hx5 hy5 (Nat.le_refl _)).mono ?_
      rintro e w6 ⟨rfl, hb6⟩
      have hs6 := hb6.size
      have hbw6 := hbw5.trans (hb6.mono hbw5.size)
      by_cases hag : a.agree y = true
      · have h3 := h23.2 HCK.out hag
        simp only [Prod.mk.injEq] at h3
        obtain ⟨⟨rfl, rfl⟩, hsm⟩ := h3
        have HS := Lib.hid hsm
        have HAG := Lib.hid hag
        clear hag hsm h23
        have hb06 := hb05.trans (hb6.mono hb05.size)
        have hb46 := hb5.trans (hb6.mono hs5)
        obtain ⟨b0, b1⟩ := HB.out _ hb46
        clear y0 y1
        obtain ⟨y0, y1⟩ := HY.out _ hb06
        rw [HAG.out]
        have hz6 : z.In w6 w6.heap.size za := RTy.InS.mono (fun b (hb : _ ∧ b < w3.heap.size) => (by omega : b < w6.heap.size)) (fun b o (hb : _ ∧ b < w3.heap.size) => (hb4.trans (hb46.mono hb4.size)).cell (p := ⟨b, o, none⟩) hb.2) hz
        have hy6 : z.In w6 w6.heap.size ya := (hy5.below hb6 (Nat.le_refl _)).up hs6
        go_wp2_with fail
        refine (tsame_any z z w6.heap.size za ya zc yc w6 hz6 hy6 (Nat.le_refl _)).mono ?_
        rintro e w7 ⟨rfl, hb7⟩
        rw [HS.out]
        go_wp2_with fail
        go_ret
        exact ⟨rfl, hbw6.trans (hb7.mono hbw6.size)⟩
      · have hag' : a.agree y = false := by simpa using hag
        have h3 := h23.1 HCK.out hag'
        have h3' : (m == 130) = true := by simp [h3]
        rw [hag']
        clear hag hag' h3 h23
        go_wp2_with fail
        go_ret
        exact ⟨rfl, hbw6⟩
    · have hckn : ((castT a y l t).check != 0) = true := by simp [hck]
      have h1 := hlaw2.out.1 hck
      have h1' : (m == (castT a y l t).check) = true := by simp [h1]
      clear hck h1
      go_wp2_with fail
      go_ret
      exact ⟨rfl, hbw5⟩
  · have hne : (n != 0) = true := by simp [hn]
    have ha0 := hunk hn
    subst ha0
    clear hn hunk hlaw0
    have hain : RTy.unk.In w1 w1.heap.size aa := RTy.InS.up ha fun b hb => hb.2
    go_wp2_with fail
    generalize hV : World.alloc w1 _ = w2
    have hb2 : Below w1.heap.size w1 w2 := by rw [← hV]; (repeat (first | assumption | exact Below.refl _ _ | apply below_drewN | apply Below.drew | (refine Below.alloc ?_ (by first | omega | (simp; done) | (simp; omega)) _) | (refine Below.setCell ?_ (by first | omega | (simp; done) | (simp; omega)) _)))
    clear hV
    have hs2 := hb2.size
    have hcall := kind_any RTy.unk.nodes RTy.unk RTy.unk w2.heap.size aa none ac 0 w2 (Nat.le_refl _) ((hain.below hb2 (Nat.le_refl _)).up hs2) (RTy.unk_in _ _ _) (Nat.le_refl _)
    simp only [RTy.unk_k, RTy.unk_len] at hcall
    refine hcall.mono ?_
    clear hcall
    rintro e w3 ⟨rfl, hb3⟩
    rw [RTy.kin_refl]
    go_wp2_with fail
    go_ret
    exact ⟨rfl, hbw1.trans ((hb2.trans (hb3.mono hs2)).mono hbw1.size)⟩
end Go.Proofs.Ytaoodchjggimcaa

namespace Go.Proofs.Ytaoodchjggimcaa.kernelCast
open Go.ChangeShapes Go.WideShapes Go.ChangeAt Go.RowKit
set_option linter.unusedVariables false
theorem own : ownKnob Try.prog.godebug = none := by kernel_rfl
theorem laidOut : laidOutB Try.prog = true := by kernel_rfl
set_option maxRecDepth 100000 in
theorem lifted (os : Os) (started : os.Started) (H : Type) (enc : TypeId × Value → H) :
    ReturnsInHanded {} Try.checked os 5 .any (Rows.kernelCastSpec.pre6 enc Try.prog Try.f5 Rows.kernelCastRow.domain false) (Rows.kernelCastSpec.post enc Try.prog Try.f5 false true false false) := by
  refine returnsInHanded_of_change_sized (C := Try.checked) own started (by kernel_rfl) Try.func5
    (ChangeSpec.witness6 (enc := enc) (C := Try.checked) false ⟨#[], #[.agg #[.int .i8 0, .string ByteArray.empty, .string ByteArray.empty, .int .i64 0, .int .i8 0, .slice none 0 0, .int .i8 0, .slice none 0 0, .int .i64 0, .int .i64 0, .slice none 0 0], .agg #[.int .i8 0, .slice none 0 0], .int .i64 0], []⟩ 8 (by kernel_rfl) (by kernel_rfl) (by kernel_rfl) (by kernel_rfl)) ?_
  intro W base args ds gs before hval0 hW hcnd hsz0 _
  have hsz : (DataW.weightsEach Try.prog (Try.f5.params.toList ++ Rows.kernelCastSpec.plain.varTypes Try.prog) (ds ++ gs)).all (· ≤ reachBytes) = true := hsz0
  have hval : ∀ (j : Nat) t v, Try.f5.params[j]? = some t → args[j]? = some v → Value.okWide Try.prog W .any base t v := hval0
  have hW' := hW
  obtain ⟨p, q, hA0, hV, rfl, hfz, hnd⟩ := hW
  have hA : DataW.TrodAll enc Try.prog W 0 (fun _ => true) true Try.f5.params.toList args.toList ds p := hA0
  rw [Try.params5] at hA hval hsz
  obtain ⟨v0, vs0, d0, ds0, p0, q0, hargs, rfl, rfl, h0, r0⟩ := trodAll_cons hA
  obtain ⟨v1, vs1, d1, ds1, p1, q1, rfl, rfl, rfl, h1, r1⟩ := trodAll_cons r0
  obtain ⟨v2, vs2, d2, ds2, p2, q2, rfl, rfl, rfl, h2, r2⟩ := trodAll_cons r1
  obtain ⟨rfl, rfl, rfl⟩ := trodAll_nil r2
  obtain rfl : args = #[v0, v1, v2] := by cases args; simp_all
  obtain ⟨rfl, rfl⟩ := trodVars_none hV
  have k0 := h0
  have lt0 : ∀ x ∈ p0, x.block < W.heap.size := by obtain ⟨m, hm⟩ := k0; exact DataW.trod_lt m _ _ _ hm
  have li0 : Light 28 d0 := fun n hn => by
    have h := List.all_eq_true.1 hsz n (DataW.weights_mem_each (j := 0) (t := 28) (d := d0) rfl rfl n hn)
    exact of_decide_eq_true h
  obtain ⟨cs0, rfl, hs0⟩ := okWide_struct Try.underlying28 (hval 0 28 v0 rfl rfl)
  obtain ⟨t0, s0, hcs0, hin0⟩ : ∃ (t : RTm) (s : TmSh), cs0.toList = t.cells s ∧ t.In W W.heap.size s := by
    obtain ⟨m, hm⟩ := h0
    exact open_tm m _ _ hm li0
  obtain rfl : cs0 = #[.int .i8 t0.k, .string t0.name, .string t0.arg, .int .i64 t0.num, .int .i8 t0.ty.k, .slice s0.ta t0.ty.ks.length s0.tc, .int .i8 t0.to.k, .slice s0.oa t0.to.ks.length s0.oc, .int .i64 t0.label, .int .i64 t0.spot, .slice s0.ka t0.ks.length s0.kc] := by cases cs0; simpa using hcs0
  have k1 := h1
  have lt1 : ∀ x ∈ p1, x.block < W.heap.size := by obtain ⟨m, hm⟩ := k1; exact DataW.trod_lt m _ _ _ hm
  have li1 : Light 25 d1 := fun n hn => by
    have h := List.all_eq_true.1 hsz n (DataW.weights_mem_each (j := 1) (t := 25) (d := d1) rfl rfl n hn)
    exact of_decide_eq_true h
  obtain ⟨cs1, rfl, hs1⟩ := okWide_struct Try.underlying25 (hval 1 25 v1 rfl rfl)
  obtain ⟨t1, ya1, yc1, hcs1, hin1⟩ : ∃ (t : RTy) (a : Option Addr) (c : Nat), cs1.toList = [.int .i8 t.k, .slice a t.ks.length c] ∧ t.In W W.heap.size a := by
    obtain ⟨m, hm⟩ := h1
    exact open_ty m _ _ hm li1
  obtain rfl : cs1 = #[.int .i8 t1.k, .slice ya1 t1.ks.length yc1] := by cases cs1; simpa using hcs1
  obtain ⟨a2, rfl, rfl, rfl, w2⟩ := open_int Try.underlying3 (hval 2 3 v2 rfl rfl) h2
  clear hA0 hval0 hsz0 hsz
  refine (kernelCast_any t0 t1 a2 W.heap.size s0 ya1 yc1 W hin0 hin1 (wf64 w2) (Nat.le_refl _)).mono fun e W' ⟨he, bel⟩ => ?_
  subst he
  exact ⟨_, rfl, _, _, _, [], _, [], hW', trodAll_mk1 (shut_bool Try.underlying4 _), (trodAll_cons_mk (Below.trod laidOut (by kernel_rfl) (of_decide_eq_true (by kernel_rfl)) k0 bel lt0) (trodAll_cons_mk (Below.trod laidOut (by kernel_rfl) (of_decide_eq_true (by kernel_rfl)) k1 bel lt1) (trodAll_cons_mk (shut_int Try.underlying3 w2) trodAll_mk0))), rfl, bel.frame _, fun h => by cases h⟩
theorem over : Rows.kernelCastRow.holds Try.pinned (OpenSpec.ofChange Rows.kernelCastSpec) :=
  OpenClaim.holds_of_wide 5 Try.f5 rfl rfl rfl rfl rfl rfl rfl ⟨rfl, rfl, rfl, rfl, rfl⟩ rfl rfl rfl rfl rfl (by kernel_rfl) Try.func5 (by kernel_rfl)
    (of_decide_eq_true (by kernel_rfl)) (by unfold Func.isWrapper; first | (rw [if_pos (by decide +kernel)]; kernel_rfl) | (rw [if_neg (by decide +kernel)]; exact ⟨rfl, rfl⟩))
    (fun os started H enc _ => lifted os started H enc)
theorem proved : Rows.KernelCastSaid := over
#print axioms proved
end Go.Proofs.Ytaoodchjggimcaa.kernelCast
namespace Go.Proofs.Ytaoodchjggimcaa
/-- The row, under a short name, for the claim. -/
theorem kernelCast_holds : Rows.KernelCastSaid := kernelCast.proved
end Go.Proofs.Ytaoodchjggimcaa
