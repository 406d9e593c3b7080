/- Parts of proofs about package rules and what it stands on: contracts of functions, and plain laws. -/
import Derived.Test.YtaoodchjggimcaaBc0
import Derived.Test.YtaoodchjggimcaaBa2
import Derived.LoopN
import Derived.Test.YtaoodchjggimcaaBc1

/- The walk of package rules' rules, by the words of package check: terms of 3 kids that bind nothing. -/
set_option linter.unusedVariables false
set_option linter.unusedSimpArgs false
namespace Go.Proofs.Ytaoodchjggimcaa
open Go.RowKit

set_option maxRecDepth 100000 in
set_option maxHeartbeats 4000000 in
theorem rulesF3_c (N : Nat) (ih : ∀ (l : Env) (t : RTm) (B b o : Nat) (s : TmSh) (wb C : Nat) (S : Nat → Prop) (ea : Option Addr) (ec : Nat) (w : World), t.nodes ≤ N → WordsAt w B wb 17 40 41 17 → RTm.At w B b o s t → B ≤ w.heap.size → C ≤ w.heap.size → (∀ b, S b → b < w.heap.size) → (∀ b, b < B → S b) → EnvAt w C S ea ec l → l.length + 2 * t.nodes ≤ 20000 → t.right = true → l.right →
      Calls Try.prog 77 #[.pointer (some ⟨wb, 0, none⟩), .slice ea l.length ec, .pointer (some ⟨b, o, none⟩)] w (GetsTy S (gradual.rules N l t) w))(l : Env) (t : RTm) (B b o : Nat) (s : TmSh) (wb C : Nat) (S : Nat → Prop) (ea : Option Addr) (ec : Nat) (w : World) (hN : t.nodes ≤ N + 1) (hwd : WordsAt w B wb 17 40 41 17) (hat : RTm.At w B b o s t) (hB : B ≤ w.heap.size) (hC : C ≤ w.heap.size) (hS : ∀ b, S b → b < w.heap.size) (hBS : ∀ b, b < B → S b) (henv : EnvAt w C S ea ec l) (hnl : l.length + 2 * t.nodes ≤ 20000) (hrt : t.right = true) (hrl : l.right) (hkind : flatKind t.k = true) (hkk : kidsOf t.k = 3) :
    Calls Try.prog 77 #[.pointer (some ⟨wb, 0, none⟩), .slice ea l.length ec, .pointer (some ⟨b, o, none⟩)] w (GetsTy S (gradual.rules (N + 1) l t) w) := by
  have k0 := hat.c0
  have hwl := hwd.lt
  have hbl : b < w.heap.size := by have := hat.lt; omega
  have hlen := RTm.right_len hrt
  have hkn : t.ks.length = 3 := by omega
  have hF := Lib.hid (Mode.rulesF3 (M := gradual) (n := N) (l := l) hkind hkk)
  obtain ⟨kb0, ko0, ks0, hka0, hkat0⟩ := hat.kid (RTm.kid_get (t := t) (i := 0) (by omega))
  have hkn_0 := RTm.kid_nodes (RTm.kid_get (t := t) (i := 0) (by omega))
  have hkr0 := Lib.hid (RTm.kid_right hrt (i := 0) (by omega))
  obtain ⟨kb1, ko1, ks1, hka1, hkat1⟩ := hat.kid (RTm.kid_get (t := t) (i := 1) (by omega))
  have hkn_1 := RTm.kid_nodes (RTm.kid_get (t := t) (i := 1) (by omega))
  have hkr1 := Lib.hid (RTm.kid_right hrt (i := 1) (by omega))
  have hke := hka0.symm.trans hka1
  simp only [Option.some.injEq, Addr.mk.injEq, and_true] at hke
  obtain ⟨rfl, rfl⟩ := hke
  obtain ⟨kb2, ko2, ks2, hka2, hkat2⟩ := hat.kid (RTm.kid_get (t := t) (i := 2) (by omega))
  have hkn_2 := RTm.kid_nodes (RTm.kid_get (t := t) (i := 2) (by omega))
  have hkr2 := Lib.hid (RTm.kid_right hrt (i := 2) (by omega))
  have hke := hka0.symm.trans hka2
  simp only [Option.some.injEq, Addr.mk.injEq, and_true] at hke
  obtain ⟨rfl, rfl⟩ := hke
  have t10 := hat.c10
  rw [hka0, hkn] at t10
  have HKA := Lib.hid hka0
  have HKN := Lib.hid hkn
  clear hka0 hka1 hka2 hkn hlen hkk
  obtain ⟨h0, h1, h2, h3, h4, h5, h7, h14⟩ := flatKind_ne hkind
  have q0 : (t.k == (0 : Int)) = false := by simp [h0]
  have q1 : (t.k == (1 : Int)) = false := by simp [h1]
  have q2 : (t.k == (2 : Int)) = false := by simp [h2]
  have q3 : (t.k == (3 : Int)) = false := by simp [h3]
  have q4 : (t.k == (4 : Int)) = false := by simp [h4]
  have q5 : (t.k == (5 : Int)) = false := by simp [h5]
  have q7 : (t.k == (7 : Int)) = false := by simp [h7]
  have q14 : (t.k == (14 : Int)) = false := by simp [h14]
  clear h0 h1 h2 h3 h4 h5 h7 h14
  have HKD := Lib.hid hkind
  clear hkind
  go_enter Try.func77, Try.ntmps77
  go_wp2_with fail
  generalize hW : World.alloc _ _ = w1
  have hb1 : Below w.heap.size w w1 := by rw [← hW]; (repeat (first | assumption | exact Below.refl _ _ | apply below_drewN | apply Below.drew | (refine Below.alloc ?_ (by first | omega | (simp; done) | (simp; omega)) _) | (refine Below.setCell ?_ (by first | omega | (simp; done) | (simp; omega)) _)))
  have hz1 : w1.heap.size = w.heap.size + 1 + 1 := by rw [← hW]; simp
  have m0 : w1.cell? ⟨w.heap.size, 0, none⟩ = some (.int .i8 0) := by rw [← hW]; simp [go_sem]
  have m1 : w1.cell? ⟨w.heap.size, 1, none⟩ = some (.slice none 0 0) := by rw [← hW]; simp [go_sem]
  have f0 : w1.frozen? ⟨w.heap.size, 0, none⟩ = false := by rw [← hW]; simp [go_sem]
  have f1 : w1.frozen? ⟨w.heap.size, 1, none⟩ = false := by rw [← hW]; simp [go_sem]
  have a0 : w1.cell? ⟨w.heap.size + 1, 0, none⟩ = some (.int .i8 0) := by rw [← hW]; simp [go_sem]
  have g0 : w1.frozen? ⟨w.heap.size + 1, 0, none⟩ = false := by rw [← hW]; simp [go_sem]
  have a1 : w1.cell? ⟨w.heap.size + 1, 1, none⟩ = some (.slice none 0 0) := by rw [← hW]; simp [go_sem]
  have g1 : w1.frozen? ⟨w.heap.size + 1, 1, none⟩ = false := by rw [← hW]; simp [go_sem]
  have a2 : w1.cell? ⟨w.heap.size + 1, 2, none⟩ = some (.int .i8 0) := by rw [← hW]; simp [go_sem]
  have g2 : w1.frozen? ⟨w.heap.size + 1, 2, none⟩ = false := by rw [← hW]; simp [go_sem]
  have a3 : w1.cell? ⟨w.heap.size + 1, 3, none⟩ = some (.slice none 0 0) := by rw [← hW]; simp [go_sem]
  have g3 : w1.frozen? ⟨w.heap.size + 1, 3, none⟩ = false := by rw [← hW]; simp [go_sem]
  have a4 : w1.cell? ⟨w.heap.size + 1, 4, none⟩ = some (.int .i8 0) := by rw [← hW]; simp [go_sem]
  have g4 : w1.frozen? ⟨w.heap.size + 1, 4, none⟩ = false := by rw [← hW]; simp [go_sem]
  have a5 : w1.cell? ⟨w.heap.size + 1, 5, none⟩ = some (.slice none 0 0) := by rw [← hW]; simp [go_sem]
  have g5 : w1.frozen? ⟨w.heap.size + 1, 5, none⟩ = false := by rw [← hW]; simp [go_sem]
  clear hW
  have hz1 : w.heap.size + 1 < w1.heap.size := by omega
  have hSr : ∀ b, S b → b < w.heap.size + 1 := fun b hb => by have := hS b hb; omega
  have t10 := cell_kept hb1 t10
  refine wp_loop_rounds 4 ?_
  rw [rounds_succ]
  go_wp2_with fail
  have hx := ih l (t.kid 0) B kb0 (ko0 + 0 * 11) ks0 wb w1.heap.size S ea ec w1 (by omega) (hwd.below hb1 hB) (hkat0.below hb1 hB) (by have := hb1.size; omega) (Nat.le_refl _) (fun b hb => Nat.lt_of_lt_of_le (hS b hb) hb1.size) hBS (EnvAt.up (henv.below hb1 hC hS) (by have := hb1.size; omega) fun _ h => h) (by omega) hkr0.out hrl
  simp only [Nat.reduceMul, Nat.add_zero] at hx
  refine hx.mono ?_
  clear hx
  intro e v0 hg
  cases hr : gradual.rules N l (t.kid 0) with
  | error f =>
    rw [hr] at hg
    obtain ⟨fb, rfl, y1, y2, y3, y4⟩ := hg
    have E : Hid (gradual.rules (N + 1) l t = .error f) := by show _ = _; rw [hF.out, hr]
    clear hr
    go_wp2_with fail
    refine ⟨rfl, ?_⟩
    rw [E.out]
    exact Fails.mono (w1 := w1) ⟨fb, rfl, y1, y2, y3, y4⟩ hb1
  | ok x0 =>
    rw [hr] at hg
    obtain ⟨xa0, xc0, rfl, HX0, hv0⟩ := hg
    have HR0 := Lib.hid hr
    clear hr
    have a0 := cell_kept hv0 a0
    have a1 := cell_kept hv0 a1
    have a2 := cell_kept hv0 a2
    have a3 := cell_kept hv0 a3
    have a4 := cell_kept hv0 a4
    have a5 := cell_kept hv0 a5
    have m0 := cell_kept hv0 m0
    have m1 := cell_kept hv0 m1
    have t10 := cell_kept hv0 t10
    have g0 := frozen_kept hv0 (by have := hb1.size; omega) g0
    have g1 := frozen_kept hv0 (by have := hb1.size; omega) g1
    have g2 := frozen_kept hv0 (by have := hb1.size; omega) g2
    have g3 := frozen_kept hv0 (by have := hb1.size; omega) g3
    have g4 := frozen_kept hv0 (by have := hb1.size; omega) g4
    have g5 := frozen_kept hv0 (by have := hb1.size; omega) g5
    have f0 := frozen_kept hv0 (by have := hb1.size; omega) f0
    have f1 := frozen_kept hv0 (by have := hb1.size; omega) f1
    have hvs0 := hv0.size
    have hbx0 : Below w.heap.size w v0 := hb1.trans (hv0.mono hb1.size)
    have HX0 := RTy.InS.up HX0 (More.from_ (w1 := w1) (Nat.le_refl _))
    have hcx : ∀ u v, (v0.setCell ⟨w.heap.size + 1, 0, none⟩ u).setCell ⟨w.heap.size + 1, 1, none⟩ v = (v0.setCell ⟨w.heap.size + 1, 0, none⟩ u).setCell ⟨w.heap.size + 1, 1, none⟩ v := fun _ _ => rfl
    clear hcx
    have HX0 := HX0.slot (i := 0) (j := 1) (u := .int .i8 x0.k) (v := .slice xa0 x0.ks.length xc0) hSr hz1
    go_wp2_with fail
    obtain ⟨W0, hW⟩ : ∃ W, W = (v0.setCell ⟨w.heap.size + 1, 0, none⟩ (.int .i8 x0.k)).setCell ⟨w.heap.size + 1, 1, none⟩ (.slice xa0 x0.ks.length xc0) := ⟨_, rfl⟩
    rw [← hW]
    rw [← hW] at HX0
    have hbw0 : Below w.heap.size w W0 := by rw [hW]; (repeat (first | assumption | exact Below.refl _ _ | apply below_drewN | apply Below.drew | (refine Below.alloc ?_ (by first | omega | (simp; done) | (simp; omega)) _) | (refine Below.setCell ?_ (by first | omega | (simp; done) | (simp; omega)) _)))
    have hsz0 : v0.heap.size = W0.heap.size := by rw [hW]; simp
    have b0 : W0.cell? ⟨w.heap.size + 1, 0, none⟩ = some (.int .i8 x0.k) := by rw [hW]; simp [go_sem, a0, a1, a2, a3, a4, a5, g0, g1, g2, g3, g4, g5, m0, m1, f0, f1]
    have e0 : W0.frozen? ⟨w.heap.size + 1, 0, none⟩ = false := by rw [hW]; simp [go_sem, a0, a1, a2, a3, a4, a5, g0, g1, g2, g3, g4, g5, m0, m1, f0, f1]
    have b1 : W0.cell? ⟨w.heap.size + 1, 1, none⟩ = some (.slice xa0 x0.ks.length xc0) := by rw [hW]; simp [go_sem, a0, a1, a2, a3, a4, a5, g0, g1, g2, g3, g4, g5, m0, m1, f0, f1]
    have e1 : W0.frozen? ⟨w.heap.size + 1, 1, none⟩ = false := by rw [hW]; simp [go_sem, a0, a1, a2, a3, a4, a5, g0, g1, g2, g3, g4, g5, m0, m1, f0, f1]
    have b2 : W0.cell? ⟨w.heap.size + 1, 2, none⟩ = some (.int .i8 0) := by rw [hW]; simp [go_sem, a0, a1, a2, a3, a4, a5, g0, g1, g2, g3, g4, g5, m0, m1, f0, f1]
    have e2 : W0.frozen? ⟨w.heap.size + 1, 2, none⟩ = false := by rw [hW]; simp [go_sem, a0, a1, a2, a3, a4, a5, g0, g1, g2, g3, g4, g5, m0, m1, f0, f1]
    have b3 : W0.cell? ⟨w.heap.size + 1, 3, none⟩ = some (.slice none 0 0) := by rw [hW]; simp [go_sem, a0, a1, a2, a3, a4, a5, g0, g1, g2, g3, g4, g5, m0, m1, f0, f1]
    have e3 : W0.frozen? ⟨w.heap.size + 1, 3, none⟩ = false := by rw [hW]; simp [go_sem, a0, a1, a2, a3, a4, a5, g0, g1, g2, g3, g4, g5, m0, m1, f0, f1]
    have b4 : W0.cell? ⟨w.heap.size + 1, 4, none⟩ = some (.int .i8 0) := by rw [hW]; simp [go_sem, a0, a1, a2, a3, a4, a5, g0, g1, g2, g3, g4, g5, m0, m1, f0, f1]
    have e4 : W0.frozen? ⟨w.heap.size + 1, 4, none⟩ = false := by rw [hW]; simp [go_sem, a0, a1, a2, a3, a4, a5, g0, g1, g2, g3, g4, g5, m0, m1, f0, f1]
    have b5 : W0.cell? ⟨w.heap.size + 1, 5, none⟩ = some (.slice none 0 0) := by rw [hW]; simp [go_sem, a0, a1, a2, a3, a4, a5, g0, g1, g2, g3, g4, g5, m0, m1, f0, f1]
    have e5 : W0.frozen? ⟨w.heap.size + 1, 5, none⟩ = false := by rw [hW]; simp [go_sem, a0, a1, a2, a3, a4, a5, g0, g1, g2, g3, g4, g5, m0, m1, f0, f1]
    have n0 : W0.cell? ⟨w.heap.size, 0, none⟩ = some (.int .i8 0) := by rw [hW]; simp [go_sem, a0, a1, a2, a3, a4, a5, g0, g1, g2, g3, g4, g5, m0, m1, f0, f1]
    have n1 : W0.cell? ⟨w.heap.size, 1, none⟩ = some (.slice none 0 0) := by rw [hW]; simp [go_sem, a0, a1, a2, a3, a4, a5, g0, g1, g2, g3, g4, g5, m0, m1, f0, f1]
    have n2 : W0.frozen? ⟨w.heap.size, 0, none⟩ = false := by rw [hW]; simp [go_sem, a0, a1, a2, a3, a4, a5, g0, g1, g2, g3, g4, g5, m0, m1, f0, f1]
    have n3 : W0.frozen? ⟨w.heap.size, 1, none⟩ = false := by rw [hW]; simp [go_sem, a0, a1, a2, a3, a4, a5, g0, g1, g2, g3, g4, g5, m0, m1, f0, f1]
    have n4 := (hat.below hbw0 hB).c10
    rw [HKA.out, HKN.out] at n4
    have hW1_0 : w1.heap.size ≤ W0.heap.size := by omega
    clear hW a0 a1 a2 a3 a4 a5 g0 g1 g2 g3 g4 g5 m0 m1 f0 f1 t10 hsz0
    have a0 := b0
    have g0 := e0
    have a1 := b1
    have g1 := e1
    have a2 := b2
    have g2 := e2
    have a3 := b3
    have g3 := e3
    have a4 := b4
    have g4 := e4
    have a5 := b5
    have g5 := e5
    have m0 := n0
    have m1 := n1
    have f0 := n2
    have f1 := n3
    have t10 := n4
    clear b0 e0 b1 e1 b2 e2 b3 e3 b4 e4 b5 e5 n0 n1 n2 n3 n4
    rw [rounds_succ]
    go_wp2_with fail
    have hx := ih l (t.kid 1) B kb0 (ko0 + 1 * 11) ks1 wb W0.heap.size S ea ec W0 (by omega) (hwd.below hbw0 hB) (hkat1.below hbw0 hB) (by have := hbw0.size; omega) (Nat.le_refl _) (fun b hb => Nat.lt_of_lt_of_le (hS b hb) hbw0.size) hBS (EnvAt.up (henv.below hbw0 hC hS) (by have := hbw0.size; omega) fun _ h => h) (by omega) hkr1.out hrl
    simp only [Nat.reduceMul, Nat.add_zero] at hx
    refine hx.mono ?_
    clear hx
    intro e v1 hg
    cases hr : gradual.rules N l (t.kid 1) with
    | error f =>
      rw [hr] at hg
      obtain ⟨fb, rfl, y1, y2, y3, y4⟩ := hg
      have E : Hid (gradual.rules (N + 1) l t = .error f) := by show _ = _; rw [hF.out, HR0.out]; simp only [hr]
      clear hr
      go_wp2_with fail
      refine ⟨rfl, ?_⟩
      rw [E.out]
      exact Fails.mono (w1 := W0) ⟨fb, rfl, y1, y2, y3, y4⟩ hbw0
    | ok x1 =>
      rw [hr] at hg
      obtain ⟨xa1, xc1, rfl, HX1, hv1⟩ := hg
      have HR1 := Lib.hid hr
      clear hr
      have a0 := cell_kept hv1 a0
      have a1 := cell_kept hv1 a1
      have a2 := cell_kept hv1 a2
      have a3 := cell_kept hv1 a3
      have a4 := cell_kept hv1 a4
      have a5 := cell_kept hv1 a5
      have m0 := cell_kept hv1 m0
      have m1 := cell_kept hv1 m1
      have t10 := cell_kept hv1 t10
      have g0 := frozen_kept hv1 (by have := hbw0.size; omega) g0
      have g1 := frozen_kept hv1 (by have := hbw0.size; omega) g1
      have g2 := frozen_kept hv1 (by have := hbw0.size; omega) g2
      have g3 := frozen_kept hv1 (by have := hbw0.size; omega) g3
      have g4 := frozen_kept hv1 (by have := hbw0.size; omega) g4
      have g5 := frozen_kept hv1 (by have := hbw0.size; omega) g5
      have f0 := frozen_kept hv1 (by have := hbw0.size; omega) f0
      have f1 := frozen_kept hv1 (by have := hbw0.size; omega) f1
      have hvs1 := hv1.size
      have hbx1 : Below w.heap.size w v1 := hbw0.trans (hv1.mono hbw0.size)
      have HX1 := RTy.InS.up HX1 (More.from_ (w1 := w1) (hW1_0))
      have HX0 := RTy.InS.up (RTy.InS.below HX0 hv1 (More.lt (fun b hb => Nat.lt_of_lt_of_le (hS b hb) hb1.size) hW1_0)) (More.to_ hvs1)
      have hcx : ∀ u v, (v1.setCell ⟨w.heap.size + 1, 2, none⟩ u).setCell ⟨w.heap.size + 1, 3, none⟩ v = (v1.setCell ⟨w.heap.size + 1, 2, none⟩ u).setCell ⟨w.heap.size + 1, 3, none⟩ v := fun _ _ => rfl
      clear hcx
      have HX0 := HX0.slot (i := 2) (j := 3) (u := .int .i8 x1.k) (v := .slice xa1 x1.ks.length xc1) hSr hz1
      have HX1 := HX1.slot (i := 2) (j := 3) (u := .int .i8 x1.k) (v := .slice xa1 x1.ks.length xc1) hSr hz1
      go_wp2_with fail
      obtain ⟨W1, hW⟩ : ∃ W, W = (v1.setCell ⟨w.heap.size + 1, 2, none⟩ (.int .i8 x1.k)).setCell ⟨w.heap.size + 1, 3, none⟩ (.slice xa1 x1.ks.length xc1) := ⟨_, rfl⟩
      rw [← hW]
      rw [← hW] at HX0
      rw [← hW] at HX1
      have hbw1 : Below w.heap.size w W1 := by rw [hW]; (repeat (first | assumption | exact Below.refl _ _ | apply below_drewN | apply Below.drew | (refine Below.alloc ?_ (by first | omega | (simp; done) | (simp; omega)) _) | (refine Below.setCell ?_ (by first | omega | (simp; done) | (simp; omega)) _)))
      have hsz1 : v1.heap.size = W1.heap.size := by rw [hW]; simp
      have b0 : W1.cell? ⟨w.heap.size + 1, 0, none⟩ = some (.int .i8 x0.k) := by rw [hW]; simp [go_sem, a0, a1, a2, a3, a4, a5, g0, g1, g2, g3, g4, g5, m0, m1, f0, f1]
      have e0 : W1.frozen? ⟨w.heap.size + 1, 0, none⟩ = false := by rw [hW]; simp [go_sem, a0, a1, a2, a3, a4, a5, g0, g1, g2, g3, g4, g5, m0, m1, f0, f1]
      have b1 : W1.cell? ⟨w.heap.size + 1, 1, none⟩ = some (.slice xa0 x0.ks.length xc0) := by rw [hW]; simp [go_sem, a0, a1, a2, a3, a4, a5, g0, g1, g2, g3, g4, g5, m0, m1, f0, f1]
      have e1 : W1.frozen? ⟨w.heap.size + 1, 1, none⟩ = false := by rw [hW]; simp [go_sem, a0, a1, a2, a3, a4, a5, g0, g1, g2, g3, g4, g5, m0, m1, f0, f1]
      have b2 : W1.cell? ⟨w.heap.size + 1, 2, none⟩ = some (.int .i8 x1.k) := by rw [hW]; simp [go_sem, a0, a1, a2, a3, a4, a5, g0, g1, g2, g3, g4, g5, m0, m1, f0, f1]
      have e2 : W1.frozen? ⟨w.heap.size + 1, 2, none⟩ = false := by rw [hW]; simp [go_sem, a0, a1, a2, a3, a4, a5, g0, g1, g2, g3, g4, g5, m0, m1, f0, f1]
      have b3 : W1.cell? ⟨w.heap.size + 1, 3, none⟩ = some (.slice xa1 x1.ks.length xc1) := by rw [hW]; simp [go_sem, a0, a1, a2, a3, a4, a5, g0, g1, g2, g3, g4, g5, m0, m1, f0, f1]
      have e3 : W1.frozen? ⟨w.heap.size + 1, 3, none⟩ = false := by rw [hW]; simp [go_sem, a0, a1, a2, a3, a4, a5, g0, g1, g2, g3, g4, g5, m0, m1, f0, f1]
      have b4 : W1.cell? ⟨w.heap.size + 1, 4, none⟩ = some (.int .i8 0) := by rw [hW]; simp [go_sem, a0, a1, a2, a3, a4, a5, g0, g1, g2, g3, g4, g5, m0, m1, f0, f1]
      have e4 : W1.frozen? ⟨w.heap.size + 1, 4, none⟩ = false := by rw [hW]; simp [go_sem, a0, a1, a2, a3, a4, a5, g0, g1, g2, g3, g4, g5, m0, m1, f0, f1]
      have b5 : W1.cell? ⟨w.heap.size + 1, 5, none⟩ = some (.slice none 0 0) := by rw [hW]; simp [go_sem, a0, a1, a2, a3, a4, a5, g0, g1, g2, g3, g4, g5, m0, m1, f0, f1]
      have e5 : W1.frozen? ⟨w.heap.size + 1, 5, none⟩ = false := by rw [hW]; simp [go_sem, a0, a1, a2, a3, a4, a5, g0, g1, g2, g3, g4, g5, m0, m1, f0, f1]
      have n0 : W1.cell? ⟨w.heap.size, 0, none⟩ = some (.int .i8 0) := by rw [hW]; simp [go_sem, a0, a1, a2, a3, a4, a5, g0, g1, g2, g3, g4, g5, m0, m1, f0, f1]
      have n1 : W1.cell? ⟨w.heap.size, 1, none⟩ = some (.slice none 0 0) := by rw [hW]; simp [go_sem, a0, a1, a2, a3, a4, a5, g0, g1, g2, g3, g4, g5, m0, m1, f0, f1]
      have n2 : W1.frozen? ⟨w.heap.size, 0, none⟩ = false := by rw [hW]; simp [go_sem, a0, a1, a2, a3, a4, a5, g0, g1, g2, g3, g4, g5, m0, m1, f0, f1]
      have n3 : W1.frozen? ⟨w.heap.size, 1, none⟩ = false := by rw [hW]; simp [go_sem, a0, a1, a2, a3, a4, a5, g0, g1, g2, g3, g4, g5, m0, m1, f0, f1]
      have n4 := (hat.below hbw1 hB).c10
      rw [HKA.out, HKN.out] at n4
      have hW1_1 : w1.heap.size ≤ W1.heap.size := by omega
      clear hW a0 a1 a2 a3 a4 a5 g0 g1 g2 g3 g4 g5 m0 m1 f0 f1 t10 hsz1
      have a0 := b0
      have g0 := e0
      have a1 := b1
      have g1 := e1
      have a2 := b2
      have g2 := e2
      have a3 := b3
      have g3 := e3
      have a4 := b4
      have g4 := e4
      have a5 := b5
      have g5 := e5
      have m0 := n0
      have m1 := n1
      have f0 := n2
      have f1 := n3
      have t10 := n4
      clear b0 e0 b1 e1 b2 e2 b3 e3 b4 e4 b5 e5 n0 n1 n2 n3 n4
      rw [rounds_succ]
      go_wp2_with fail
      have hx := ih l (t.kid 2) B kb0 (ko0 + 2 * 11) ks2 wb W1.heap.size S ea ec W1 (by omega) (hwd.below hbw1 hB) (hkat2.below hbw1 hB) (by have := hbw1.size; omega) (Nat.le_refl _) (fun b hb => Nat.lt_of_lt_of_le (hS b hb) hbw1.size) hBS (EnvAt.up (henv.below hbw1 hC hS) (by have := hbw1.size; omega) fun _ h => h) (by omega) hkr2.out hrl
      simp only [Nat.reduceMul, Nat.add_zero] at hx
      refine hx.mono ?_
      clear hx
      intro e v2 hg
      cases hr : gradual.rules N l (t.kid 2) with
      | error f =>
        rw [hr] at hg
        obtain ⟨fb, rfl, y1, y2, y3, y4⟩ := hg
        have E : Hid (gradual.rules (N + 1) l t = .error f) := by show _ = _; rw [hF.out, HR0.out, HR1.out]; simp only [hr]
        clear hr
        go_wp2_with fail
        refine ⟨rfl, ?_⟩
        rw [E.out]
        exact Fails.mono (w1 := W1) ⟨fb, rfl, y1, y2, y3, y4⟩ hbw1
      | ok x2 =>
        rw [hr] at hg
        obtain ⟨xa2, xc2, rfl, HX2, hv2⟩ := hg
        have HR2 := Lib.hid hr
        clear hr
        have a0 := cell_kept hv2 a0
        have a1 := cell_kept hv2 a1
        have a2 := cell_kept hv2 a2
        have a3 := cell_kept hv2 a3
        have a4 := cell_kept hv2 a4
        have a5 := cell_kept hv2 a5
        have m0 := cell_kept hv2 m0
        have m1 := cell_kept hv2 m1
        have t10 := cell_kept hv2 t10
        have g0 := frozen_kept hv2 (by have := hbw1.size; omega) g0
        have g1 := frozen_kept hv2 (by have := hbw1.size; omega) g1
        have g2 := frozen_kept hv2 (by have := hbw1.size; omega) g2
        have g3 := frozen_kept hv2 (by have := hbw1.size; omega) g3
        have g4 := frozen_kept hv2 (by have := hbw1.size; omega) g4
        have g5 := frozen_kept hv2 (by have := hbw1.size; omega) g5
        have f0 := frozen_kept hv2 (by have := hbw1.size; omega) f0
        have f1 := frozen_kept hv2 (by have := hbw1.size; omega) f1
        have hvs2 := hv2.size
        have hbx2 : Below w.heap.size w v2 := hbw1.trans (hv2.mono hbw1.size)
        have HX2 := RTy.InS.up HX2 (More.from_ (w1 := w1) (hW1_1))
        have HX0 := RTy.InS.up (RTy.InS.below HX0 hv2 (More.lt (fun b hb => Nat.lt_of_lt_of_le (hS b hb) hb1.size) hW1_1)) (More.to_ hvs2)
        have HX1 := RTy.InS.up (RTy.InS.below HX1 hv2 (More.lt (fun b hb => Nat.lt_of_lt_of_le (hS b hb) hb1.size) hW1_1)) (More.to_ hvs2)
        have hcx : ∀ u v, (v2.setCell ⟨w.heap.size + 1, 4, none⟩ u).setCell ⟨w.heap.size + 1, 5, none⟩ v = (v2.setCell ⟨w.heap.size + 1, 4, none⟩ u).setCell ⟨w.heap.size + 1, 5, none⟩ v := fun _ _ => rfl
        clear hcx
        have HX0 := HX0.slot (i := 4) (j := 5) (u := .int .i8 x2.k) (v := .slice xa2 x2.ks.length xc2) hSr hz1
        have HX1 := HX1.slot (i := 4) (j := 5) (u := .int .i8 x2.k) (v := .slice xa2 x2.ks.length xc2) hSr hz1
        have HX2 := HX2.slot (i := 4) (j := 5) (u := .int .i8 x2.k) (v := .slice xa2 x2.ks.length xc2) hSr hz1
        go_wp2_with fail
        obtain ⟨W2, hW⟩ : ∃ W, W = (v2.setCell ⟨w.heap.size + 1, 4, none⟩ (.int .i8 x2.k)).setCell ⟨w.heap.size + 1, 5, none⟩ (.slice xa2 x2.ks.length xc2) := ⟨_, rfl⟩
        rw [← hW]
        rw [← hW] at HX0
        rw [← hW] at HX1
        rw [← hW] at HX2
        have hbw2 : Below w.heap.size w W2 := by rw [hW]; (repeat (first | assumption | exact Below.refl _ _ | apply below_drewN | apply Below.drew | (refine Below.alloc ?_ (by first | omega | (simp; done) | (simp; omega)) _) | (refine Below.setCell ?_ (by first | omega | (simp; done) | (simp; omega)) _)))
        have hsz2 : v2.heap.size = W2.heap.size := by rw [hW]; simp
        have b0 : W2.cell? ⟨w.heap.size + 1, 0, none⟩ = some (.int .i8 x0.k) := by rw [hW]; simp [go_sem, a0, a1, a2, a3, a4, a5, g0, g1, g2, g3, g4, g5, m0, m1, f0, f1]
        have e0 : W2.frozen? ⟨w.heap.size + 1, 0, none⟩ = false := by rw [hW]; simp [go_sem, a0, a1, a2, a3, a4, a5, g0, g1, g2, g3, g4, g5, m0, m1, f0, f1]
        have b1 : W2.cell? ⟨w.heap.size + 1, 1, none⟩ = some (.slice xa0 x0.ks.length xc0) := by rw [hW]; simp [go_sem, a0, a1, a2, a3, a4, a5, g0, g1, g2, g3, g4, g5, m0, m1, f0, f1]
        have e1 : W2.frozen? ⟨w.heap.size + 1, 1, none⟩ = false := by rw [hW]; simp [go_sem, a0, a1, a2, a3, a4, a5, g0, g1, g2, g3, g4, g5, m0, m1, f0, f1]
        have b2 : W2.cell? ⟨w.heap.size + 1, 2, none⟩ = some (.int .i8 x1.k) := by rw [hW]; simp [go_sem, a0, a1, a2, a3, a4, a5, g0, g1, g2, g3, g4, g5, m0, m1, f0, f1]
        have e2 : W2.frozen? ⟨w.heap.size + 1, 2, none⟩ = false := by rw [hW]; simp [go_sem, a0, a1, a2, a3, a4, a5, g0, g1, g2, g3, g4, g5, m0, m1, f0, f1]
        have b3 : W2.cell? ⟨w.heap.size + 1, 3, none⟩ = some (.slice xa1 x1.ks.length xc1) := by rw [hW]; simp [go_sem, a0, a1, a2, a3, a4, a5, g0, g1, g2, g3, g4, g5, m0, m1, f0, f1]
        have e3 : W2.frozen? ⟨w.heap.size + 1, 3, none⟩ = false := by rw [hW]; simp [go_sem, a0, a1, a2, a3, a4, a5, g0, g1, g2, g3, g4, g5, m0, m1, f0, f1]
        have b4 : W2.cell? ⟨w.heap.size + 1, 4, none⟩ = some (.int .i8 x2.k) := by rw [hW]; simp [go_sem, a0, a1, a2, a3, a4, a5, g0, g1, g2, g3, g4, g5, m0, m1, f0, f1]
        have e4 : W2.frozen? ⟨w.heap.size + 1, 4, none⟩ = false := by rw [hW]; simp [go_sem, a0, a1, a2, a3, a4, a5, g0, g1, g2, g3, g4, g5, m0, m1, f0, f1]
        have b5 : W2.cell? ⟨w.heap.size + 1, 5, none⟩ = some (.slice xa2 x2.ks.length xc2) := by rw [hW]; simp [go_sem, a0, a1, a2, a3, a4, a5, g0, g1, g2, g3, g4, g5, m0, m1, f0, f1]
        have e5 : W2.frozen? ⟨w.heap.size + 1, 5, none⟩ = false := by rw [hW]; simp [go_sem, a0, a1, a2, a3, a4, a5, g0, g1, g2, g3, g4, g5, m0, m1, f0, f1]
        have n0 : W2.cell? ⟨w.heap.size, 0, none⟩ = some (.int .i8 0) := by rw [hW]; simp [go_sem, a0, a1, a2, a3, a4, a5, g0, g1, g2, g3, g4, g5, m0, m1, f0, f1]
        have n1 : W2.cell? ⟨w.heap.size, 1, none⟩ = some (.slice none 0 0) := by rw [hW]; simp [go_sem, a0, a1, a2, a3, a4, a5, g0, g1, g2, g3, g4, g5, m0, m1, f0, f1]
        have n2 : W2.frozen? ⟨w.heap.size, 0, none⟩ = false := by rw [hW]; simp [go_sem, a0, a1, a2, a3, a4, a5, g0, g1, g2, g3, g4, g5, m0, m1, f0, f1]
        have n3 : W2.frozen? ⟨w.heap.size, 1, none⟩ = false := by rw [hW]; simp [go_sem, a0, a1, a2, a3, a4, a5, g0, g1, g2, g3, g4, g5, m0, m1, f0, f1]
        have n4 := (hat.below hbw2 hB).c10
        rw [HKA.out, HKN.out] at n4
        have hW1_2 : w1.heap.size ≤ W2.heap.size := by omega
        clear hW a0 a1 a2 a3 a4 a5 g0 g1 g2 g3 g4 g5 m0 m1 f0 f1 t10 hsz2
        have a0 := b0
        have g0 := e0
        have a1 := b1
        have g1 := e1
        have a2 := b2
        have g2 := e2
        have a3 := b3
        have g3 := e3
        have a4 := b4
        have g4 := e4
        have a5 := b5
        have g5 := e5
        have m0 := n0
        have m1 := n1
        have f0 := n2
        have f1 := n3
        have t10 := n4
        clear b0 e0 b1 e1 b2 e2 b3 e3 b4 e4 b5 e5 n0 n1 n2 n3 n4
        rw [rounds_succ]
        go_wp2_with fail
        have hS1 : ∀ b, More S w1 W2 b → b < W2.heap.size := More.lt (fun b hb => Nat.lt_of_lt_of_le (hS b hb) hb1.size) hW1_2
        have HU : RTy.unk.InS W2 (More S w1 W2) none := by unfold RTy.unk RTy.InS RTy.InsS; exact ⟨⟨by omega, by omega⟩, by simp [lenMax], trivial⟩
        have hrx := Mode.rules_right gradual_good N l (t.kid 0) x0 hrl hkr0.out HR0.out
        have hcall := flat_c t B b o s wb x0 x1 x2 (More S w1 W2) xa0 xa1 xa2 xc0 xc1 xc2 W2 (hwd.below hbw2 hB) (hat.below hbw2 hB) (by have := hbw2.size; omega) hS1 (fun b hb => .inl (hBS b hb)) HX0 HX1 HX2 hrx (RTm.right_ty hrt) HKD.out
        refine hcall.mono ?_
        clear hcall
        intro e w5 hg
        have hFF : Hid (gradual.rules (N + 1) l t = gradual.flat t x0 x1 x2) := by show _ = _; rw [hF.out, HR0.out]; simp only [HR1.out, HR2.out]
        have hsW := hbw2.size
        cases hr : gradual.flat t x0 x1 x2 with
        | error f =>
          rw [hr] at hg
          obtain ⟨fb, rfl, y1, y2, y3, y4⟩ := hg
          have HR2 := Lib.hid hr
          clear hr
          go_wp2_with fail
          refine ⟨rfl, ?_⟩
          rw [hFF.out, HR2.out]
          exact Fails.mono (w1 := W2) ⟨fb, rfl, y1, y2, y3, y4⟩ hbw2
        | ok z' =>
          rw [hr] at hg
          obtain ⟨qa, qc, rfl, hq, hb5⟩ := hg
          have HR2 := Lib.hid hr
          clear hr
          have m0 := cell_kept hb5 m0
          have m1 := cell_kept hb5 m1
          have f0 := frozen_kept hb5 (by omega) f0
          have f1 := frozen_kept hb5 (by omega) f1
          go_wp2_with fail
          refine bodyPost_ret (v := .agg #[.int .i8 z'.k, .slice qa z'.ks.length qc]) (by simp [results, Try.results77, go_sem, m0, m1]) rfl ?_
          rw [hFF.out, HR2.out]
          exact GetsTy.stored (S' := More S w1 W2) hS (fun b hb => by rcases hb with hb | hb; exact ⟨.inl hb, by have := hS b hb; omega⟩; exact ⟨.inr ⟨by omega, by omega⟩, by omega⟩) hq hbw2 hb5 (Nat.le_refl _) (by omega)
end Go.Proofs.Ytaoodchjggimcaa

/- The walk of package rules' rules, by the words of package check: every right term. -/
namespace Go.Proofs.Ytaoodchjggimcaa
open Go.RowKit

theorem rules_c (N : Nat) : ∀ (l : Env) (t : RTm) (B b o : Nat) (s : TmSh) (wb C : Nat) (S : Nat → Prop) (ea : Option Addr) (ec : Nat) (w : World), t.nodes ≤ N → WordsAt w B wb 17 40 41 17 → RTm.At w B b o s t → B ≤ w.heap.size → C ≤ w.heap.size → (∀ b, S b → b < w.heap.size) → (∀ b, b < B → S b) → EnvAt w C S ea ec l → l.length + 2 * t.nodes ≤ 20000 → t.right = true → l.right →
      Calls Try.prog 77 #[.pointer (some ⟨wb, 0, none⟩), .slice ea l.length ec, .pointer (some ⟨b, o, none⟩)] w (GetsTy S (gradual.rules N l t) w) := by
  induction N with
  | zero => intro l t B b o s wb C S ea ec w h; have := t.nodes_pos; omega
  | succ N ih =>
    intro l t B b o s wb C S ea ec w hN hwd hat hB hC hS hBS henv hnl hrt hrl
    have hk := RTm.right_kind hrt
    by_cases h0 : t.k = 0
    · exact rules0_c N l t B b o s wb C S ea ec w hN hwd hat hB hC hS hBS henv hnl hrt hrl h0
    by_cases h1 : t.k = 1
    · exact rules1_c N l t B b o s wb C S ea ec w hN hwd hat hB hC hS hBS henv hnl hrt hrl h1
    by_cases h2 : t.k = 2
    · exact rules2_c N l t B b o s wb C S ea ec w hN hwd hat hB hC hS hBS henv hnl hrt hrl h2
    by_cases h3 : t.k = 3
    · exact rules3_c N l t B b o s wb C S ea ec w hN hwd hat hB hC hS hBS henv hnl hrt hrl h3
    by_cases h4 : t.k = 4
    · exact rules4_c N ih l t B b o s wb C S ea ec w hN hwd hat hB hC hS hBS henv hnl hrt hrl h4
    by_cases h5 : t.k = 5
    · exact rules5_c N ih l t B b o s wb C S ea ec w hN hwd hat hB hC hS hBS henv hnl hrt hrl h5
    by_cases h7 : t.k = 7
    · exact rules7_c N ih l t B b o s wb C S ea ec w hN hwd hat hB hC hS hBS henv hnl hrt hrl h7
    by_cases h14 : t.k = 14
    · exact rules14_c N ih l t B b o s wb C S ea ec w hN hwd hat hB hC hS hBS henv hnl hrt hrl h14
    have hf : flatKind t.k = true := by
      unfold flatKind
      simp only [Bool.or_eq_true, beq_iff_eq]
      omega
    rcases kids_some hk.1 hk.2 h0 h1 (by omega) with h | h | h
    · exact rulesF1_c N ih l t B b o s wb C S ea ec w hN hwd hat hB hC hS hBS henv hnl hrt hrl hf h
    · exact rulesF2_c N ih l t B b o s wb C S ea ec w hN hwd hat hB hC hS hBS henv hnl hrt hrl hf h
    · exact rulesF3_c N ih l t B b o s wb C S ea ec w hN hwd hat hB hC hS hBS henv hnl hrt hrl hf h
end Go.Proofs.Ytaoodchjggimcaa

/- The walk of package rules' Type, by the words of package check. -/
set_option linter.unusedVariables false
set_option linter.unusedSimpArgs false
namespace Go.Proofs.Ytaoodchjggimcaa
open Go.RowKit

set_option maxRecDepth 100000 in
set_option maxHeartbeats 4000000 in
theorem type_c (t : RTm) (B : Nat) (s : TmSh) (wb : Nat) (no : Int) (w : World) (hwd : WordsAt w B wb 17 40 41 17) (hin : t.In w B s) (hB : B ≤ w.heap.size) :
    Calls Try.prog 42 #[.pointer (some ⟨wb, 0, none⟩), t.v s, .int .i8 no] w (TypePost (gradual.type t no) w) := by
  have hmf := @makeFunc_run Try.prog
  have hwl := hwd.lt
  go_enter_defers Try.func42, Try.ntmps42
  go_wp2_with fail
  generalize hW : World.alloc _ _ = w0
  have hb0 : Below w.heap.size w w0 := by rw [← hW]; (repeat (first | assumption | exact Below.refl _ _ | apply below_drewN | apply Below.drew | (refine Below.alloc ?_ (by first | omega | (simp; done) | (simp; omega)) _) | (refine Below.setCell ?_ (by first | omega | (simp; done) | (simp; omega)) _)))
  have hz0 : w0.heap.size = w.heap.size + 1 + 1 + 1 := by rw [← hW]; simp
  have hat0 : RTm.At w0 (w.heap.size + 1) w.heap.size 0 s t := by
    rw [← hW]
    exact RTm.At.boxed hin hB (E := 28) (by (repeat (first | assumption | exact Below.refl _ _ | apply below_drewN | apply Below.drew | (refine Below.alloc ?_ (by first | omega | (simp; done) | (simp; omega)) _) | (refine Below.setCell ?_ (by first | omega | (simp; done) | (simp; omega)) _))))
  have q0 : w0.cell? ⟨w.heap.size + 1, 0, none⟩ = some (.int .i8 0) := by rw [← hW]; simp [go_sem]
  have q1 : w0.cell? ⟨w.heap.size + 1, 1, none⟩ = some (.slice none 0 0) := by rw [← hW]; simp [go_sem]
  have q2 : w0.cell? ⟨w.heap.size + 1 + 1, 0, none⟩ = some .nilIface := by rw [← hW]; simp [go_sem]
  have f0 : w0.frozen? ⟨w.heap.size + 1, 0, none⟩ = false := by rw [← hW]; simp [go_sem]
  have f1 : w0.frozen? ⟨w.heap.size + 1, 1, none⟩ = false := by rw [← hW]; simp [go_sem]
  have f2 : w0.frozen? ⟨w.heap.size + 1 + 1, 0, none⟩ = false := by rw [← hW]; simp [go_sem]
  clear hW
  refine (mcheck_any t B s _ (hin.below hb0 hB) (by omega)).mono ?_
  rintro e w1 ⟨rfl, hb1⟩
  have hs1 := hb1.size
  have hb01 : Below w.heap.size w w1 := hb0.trans (hb1.mono (by omega))
  have q0 := cell_kept hb1 q0
  have q1 := cell_kept hb1 q1
  have q2 := cell_kept hb1 q2
  have f0 := frozen_kept hb1 (by omega) f0
  have f1 := frozen_kept hb1 (by omega) f1
  have f2 := frozen_kept hb1 (by omega) f2
  have hat1 := hat0.below hb1 (by omega)
  have hz1 : w.heap.size + 1 + 1 + 1 ≤ w1.heap.size := by omega
  clear hz0 hat0 hb0 hb1 hs1
  by_cases hc : t.check = 0
  · have hcr := RTm.check_right hc
    have hce : (t.check != 0) = false := by simp [hc]
    by_cases hh : t.has no = true
    · have E := Lib.hid (Mode.type_has (M := gradual) hc hh)
      have HH := Lib.hid hh
      clear hc hh
      go_wp2_with fail
      refine (has_any t.nodes t (w.heap.size + 1) w.heap.size 0 no s w1 (Nat.le_refl _) hat1 (by omega)).mono ?_
      rintro e _ ⟨rfl, rfl⟩
      have hh := HH.out
      have p0 : ∀ o, (w1.alloc o).cell? ⟨w.heap.size + 1, 0, none⟩ = some (.int .i8 0) := fun o => cell_kept (below_new w1 o) q0
      have p1 : ∀ o, (w1.alloc o).cell? ⟨w.heap.size + 1, 1, none⟩ = some (.slice none 0 0) := fun o => cell_kept (below_new w1 o) q1
      have p2 : ∀ o, (w1.alloc o).cell? ⟨w.heap.size + 1 + 1, 0, none⟩ = some .nilIface := fun o => cell_kept (below_new w1 o) q2
      have y0 : ∀ o, (w1.alloc o).frozen? ⟨w.heap.size + 1, 0, none⟩ = false := fun o => frozen_kept (below_new w1 o) (by omega) f0
      have y1 : ∀ o, (w1.alloc o).frozen? ⟨w.heap.size + 1, 1, none⟩ = false := fun o => frozen_kept (below_new w1 o) (by omega) f1
      have y2 : ∀ o, (w1.alloc o).frozen? ⟨w.heap.size + 1 + 1, 0, none⟩ = false := fun o => frozen_kept (below_new w1 o) (by omega) f2
      go_wp2_with fail
      rw [E.out]
      refine ⟨.tuple #[.agg #[.int .i8 0, .slice none 0 0], .iface 91 (.pointer (some ⟨w1.heap.size, 0, none⟩))], by simp [results, Try.results42, go_sem, p0, p1, p2], w1.heap.size, rfl, by omega, by simp, ⟨?_, ?_, ?_⟩, ?_⟩
      · simp [go_sem]
      · simp [go_sem]
      · simp [go_sem]
      · (repeat (first | assumption | exact Below.refl _ _ | apply below_drewN | apply Below.drew | (refine Below.alloc ?_ (by first | omega | (simp; done) | (simp; omega)) _) | (refine Below.setCell ?_ (by first | omega | (simp; done) | (simp; omega)) _)))
    · have hh' : t.has no = false := by simpa using hh
      have E := Lib.hid (Mode.type_rules (M := gradual) hc hh')
      have HH := Lib.hid hh'
      clear hc hh hh'
      go_wp2_with fail
      refine (has_any t.nodes t (w.heap.size + 1) w.heap.size 0 no s w1 (Nat.le_refl _) hat1 (by omega)).mono ?_
      rintro e _ ⟨rfl, rfl⟩
      have hh := HH.out
      go_wp2_with fail
      have hx := rules_c t.nodes [] t (w.heap.size + 1) w.heap.size 0 s wb 0 (fun b => b < w.heap.size + 1) none 0 w1 (Nat.le_refl _) ((hwd.below hb01 hB).up (by omega)) hat1 (by omega) (by omega) (fun b hb => by omega) (fun b hb => hb) (EnvAt.nil _ _ _) (by simp; omega) hcr.2 (by intro p hp; cases hp)
      refine hx.mono ?_
      clear hx
      intro e w2 hg
      cases hr : gradual.rules t.nodes [] t with
      | error f =>
        rw [hr] at hg
        obtain ⟨fb, rfl, g1, g2, g3, g4⟩ := hg
        have HR := Lib.hid hr
        clear hr
        have hs2 := g4.size
        have q0 := cell_kept g4 q0
        have q1 := cell_kept g4 q1
        have q2 := cell_kept g4 q2
        have f0 := frozen_kept g4 (by omega) f0
        have f1 := frozen_kept g4 (by omega) f1
        have f2 := frozen_kept g4 (by omega) f2
        go_wp2_with fail
        refine leaves_cons (f := 75) (args := #[.pointer (some ⟨w.heap.size + 1, 0, none⟩), .pointer (some ⟨w.heap.size + 1 + 1, 0, none⟩)]) (by simp) (by simp [go_sem]) ?_
        refine (typeD_panic (w.heap.size + 1) (w.heap.size + 1 + 1) fb _ _ _ [] _ q0 q1 q2 f0 f1 f2 (by omega)).mono ?_
        rintro e u' w'' ⟨rfl, rfl, rfl⟩
        simp [Leaves, settle, results, Try.results42, go_sem, q0, q1, q2]
        rw [E.out, HR.out]
        have hb4 := hb01.trans (g4.mono (by omega))
        refine ⟨fb, rfl, by omega, by simpa using g2, ⟨?_, ?_, ?_⟩, ?_⟩
        · rw [World.cell?_setCell_far _ _ _ _ (by show w.heap.size + 1 + 1 ≠ fb; omega), World.cell?_setCell_far _ _ _ _ (by show w.heap.size + 1 ≠ fb; omega), World.cell?_setCell_far _ _ _ _ (by show w.heap.size + 1 ≠ fb; omega)]; exact g3.1
        · rw [World.cell?_setCell_far _ _ _ _ (by show w.heap.size + 1 + 1 ≠ fb; omega), World.cell?_setCell_far _ _ _ _ (by show w.heap.size + 1 ≠ fb; omega), World.cell?_setCell_far _ _ _ _ (by show w.heap.size + 1 ≠ fb; omega)]; exact g3.2.1
        · rw [World.cell?_setCell_far _ _ _ _ (by show w.heap.size + 1 + 1 ≠ fb; omega), World.cell?_setCell_far _ _ _ _ (by show w.heap.size + 1 ≠ fb; omega), World.cell?_setCell_far _ _ _ _ (by show w.heap.size + 1 ≠ fb; omega)]; exact g3.2.2
        · (repeat (first | assumption | exact Below.refl _ _ | apply below_drewN | apply Below.drew | (refine Below.alloc ?_ (by first | omega | (simp; done) | (simp; omega)) _) | (refine Below.setCell ?_ (by first | omega | (simp; done) | (simp; omega)) _)))
      | ok x =>
        rw [hr] at hg
        obtain ⟨xa, xc, rfl, hxi, hb2⟩ := hg
        have hrx := Mode.rules_right gradual_good t.nodes [] t x (by intro p hp; cases hp) hcr.2 hr
        have HR := Lib.hid hr
        clear hr
        have hs2 := hb2.size
        have hxin : x.In w2 w2.heap.size xa := RTy.InS.up hxi (More.lt (fun b hb => by have hb : b < w.heap.size + 1 := hb; omega) hs2)
        have q0 := cell_kept hb2 q0
        have q1 := cell_kept hb2 q1
        have q2 := cell_kept hb2 q2
        have f0 := frozen_kept hb2 (by omega) f0
        have f1 := frozen_kept hb2 (by omega) f1
        have f2 := frozen_kept hb2 (by omega) f2
        go_wp2_with fail
        refine (whole_any x.nodes x w2.heap.size xa xc w2 (Nat.le_refl _) hxin hrx (Nat.le_refl _)).mono ?_
        rintro e w3 ⟨ya, yc, rfl, hy, hb3⟩
        have hs3 := hb3.size
        have q0 := cell_kept hb3 q0
        have q1 := cell_kept hb3 q1
        have q2 := cell_kept hb3 q2
        have f0 := frozen_kept hb3 (by omega) f0
        have f1 := frozen_kept hb3 (by omega) f1
        have f2 := frozen_kept hb3 (by omega) f2
        go_wp2_with fail
        refine leaves_cons (f := 75) (args := #[.pointer (some ⟨w.heap.size + 1, 0, none⟩), .pointer (some ⟨w.heap.size + 1 + 1, 0, none⟩)]) (by simp) (by simp [go_sem]) ?_
        refine (typeD_idle ⟨w.heap.size + 1, 0, none⟩ ⟨w.heap.size + 1 + 1, 0, none⟩ _).mono ?_
        rintro e u' w'' ⟨rfl, rfl, rfl⟩
        simp [Leaves, settle, results, Try.results42, go_sem, q0, q1, q2]
        rw [E.out, HR.out]
        have hb4 := hb01.trans (hb2.mono (by omega))
        have hb5 := hb4.trans (hb3.mono (by omega))
        refine ⟨ya, yc, rfl, hy.mono (fun b hb => ⟨by omega, by simpa using hb.2⟩) fun b o hb => ?_, ?_⟩
        · rw [World.cell?_setCell_far _ _ _ _ (by show w.heap.size + 1 + 1 ≠ b; omega), World.cell?_setCell_far _ _ _ _ (by show w.heap.size + 1 ≠ b; omega), World.cell?_setCell_far _ _ _ _ (by show w.heap.size + 1 ≠ b; omega)]
        · (repeat (first | assumption | exact Below.refl _ _ | apply below_drewN | apply Below.drew | (refine Below.alloc ?_ (by first | omega | (simp; done) | (simp; omega)) _) | (refine Below.setCell ?_ (by first | omega | (simp; done) | (simp; omega)) _)))
  · have hce : (t.check != 0) = true := by simp [hc]
    have E := Lib.hid (Mode.type_bad (M := gradual) (no := no) hc)
    clear hc
    have p0 : ∀ o, (w1.alloc o).cell? ⟨w.heap.size + 1, 0, none⟩ = some (.int .i8 0) := fun o => cell_kept (below_new w1 o) q0
    have p1 : ∀ o, (w1.alloc o).cell? ⟨w.heap.size + 1, 1, none⟩ = some (.slice none 0 0) := fun o => cell_kept (below_new w1 o) q1
    have p2 : ∀ o, (w1.alloc o).cell? ⟨w.heap.size + 1 + 1, 0, none⟩ = some .nilIface := fun o => cell_kept (below_new w1 o) q2
    have y0 : ∀ o, (w1.alloc o).frozen? ⟨w.heap.size + 1, 0, none⟩ = false := fun o => frozen_kept (below_new w1 o) (by omega) f0
    have y1 : ∀ o, (w1.alloc o).frozen? ⟨w.heap.size + 1, 1, none⟩ = false := fun o => frozen_kept (below_new w1 o) (by omega) f1
    have y2 : ∀ o, (w1.alloc o).frozen? ⟨w.heap.size + 1 + 1, 0, none⟩ = false := fun o => frozen_kept (below_new w1 o) (by omega) f2
    go_wp2_with fail
    rw [E.out]
    refine ⟨.tuple #[.agg #[.int .i8 0, .slice none 0 0], .iface 91 (.pointer (some ⟨w1.heap.size, 0, none⟩))], by simp [results, Try.results42, go_sem, p0, p1, p2], w1.heap.size, rfl, by omega, by simp, ⟨?_, ?_, ?_⟩, ?_⟩
    · simp [go_sem]
    · simp [go_sem]
    · simp [go_sem]
    · (repeat (first | assumption | exact Below.refl _ _ | apply below_drewN | apply Below.drew | (refine Below.alloc ?_ (by first | omega | (simp; done) | (simp; omega)) _) | (refine Below.setCell ?_ (by first | omega | (simp; done) | (simp; omega)) _)))
end Go.Proofs.Ytaoodchjggimcaa

/- The walk of check.Type. -/
set_option linter.unusedVariables false
set_option linter.unusedSimpArgs false
namespace Go.Proofs.Ytaoodchjggimcaa
open Go.RowKit

set_option maxRecDepth 100000 in
set_option maxHeartbeats 4000000 in
theorem checkType_any (t : RTm) (B : Nat) (s : TmSh) (w : World) (hin : t.In w B s) (hB : B ≤ w.heap.size) :
    Calls Try.prog 11 #[t.v s] w (TypePost (gradual.type t 17) w) := by
  go_enter Try.func11, Try.ntmps11
  go_wp2_with fail
  generalize hW : World.alloc _ _ = w0
  have hb0 : Below w.heap.size w w0 := by rw [← hW]; (repeat (first | assumption | exact Below.refl _ _ | apply below_drewN | apply Below.drew | (refine Below.alloc ?_ (by first | omega | (simp; done) | (simp; omega)) _) | (refine Below.setCell ?_ (by first | omega | (simp; done) | (simp; omega)) _)))
  have hz0 : w0.heap.size = w.heap.size + 1 + 1 + 1 := by rw [← hW]; simp
  have q0 : w0.cell? ⟨w.heap.size + 1, 0, none⟩ = some (.int .i8 0) := by rw [← hW]; simp [go_sem]
  have q1 : w0.cell? ⟨w.heap.size + 1, 1, none⟩ = some (.slice none 0 0) := by rw [← hW]; simp [go_sem]
  have f0 : w0.frozen? ⟨w.heap.size + 1, 0, none⟩ = false := by rw [← hW]; simp [go_sem]
  have f1 : w0.frozen? ⟨w.heap.size + 1, 1, none⟩ = false := by rw [← hW]; simp [go_sem]
  have hwd : WordsAt w0 (w.heap.size + 1 + 1 + 1) (w.heap.size + 1 + 1) 17 40 41 17 := by
    rw [← hW]
    exact ⟨by omega, by simp [go_sem], by simp [go_sem], by simp [go_sem], by simp [go_sem]⟩
  clear hW
  refine (type_c t (w.heap.size + 1 + 1 + 1) s (w.heap.size + 1 + 1) 17 w0 hwd ((hin.below hb0 hB).up (by omega)) (by omega)).mono ?_
  intro e w1 hg
  cases hr : gradual.type t 17 with
  | error f =>
    rw [hr] at hg
    obtain ⟨b, rfl, g1, g2, g3, g4⟩ := hg
    have HR := Lib.hid hr
    clear hr
    have q0 := cell_kept g4 q0
    have q1 := cell_kept g4 q1
    have f0 := frozen_kept g4 (by omega) f0
    have f1 := frozen_kept g4 (by omega) f1
    have hs := g4.size
    go_wp2_with fail
    refine bodyPost_ret (v := .tuple #[.agg #[.int .i8 0, .slice none 0 0], .iface 91 (.pointer (some ⟨b, 0, none⟩))]) (by simp [results, Try.results11, go_sem, q0, q1]) rfl ?_
    have hb := hb0.trans (g4.mono (by omega))
    rw [HR.out]
    refine ⟨b, rfl, by omega, by simpa using g2, ⟨?_, ?_, ?_⟩, ?_⟩
    · rw [World.cell?_setCell_far _ _ _ _ (by show w.heap.size + 1 ≠ b; omega), World.cell?_setCell_far _ _ _ _ (by show w.heap.size + 1 ≠ b; omega)]; exact g3.1
    · rw [World.cell?_setCell_far _ _ _ _ (by show w.heap.size + 1 ≠ b; omega), World.cell?_setCell_far _ _ _ _ (by show w.heap.size + 1 ≠ b; omega)]; exact g3.2.1
    · rw [World.cell?_setCell_far _ _ _ _ (by show w.heap.size + 1 ≠ b; omega), World.cell?_setCell_far _ _ _ _ (by show w.heap.size + 1 ≠ b; omega)]; exact g3.2.2
    · (repeat (first | assumption | exact Below.refl _ _ | apply below_drewN | apply Below.drew | (refine Below.alloc ?_ (by first | omega | (simp; done) | (simp; omega)) _) | (refine Below.setCell ?_ (by first | omega | (simp; done) | (simp; omega)) _)))
  | ok x =>
    rw [hr] at hg
    obtain ⟨ya, yc, rfl, hy, hb1⟩ := hg
    have HR := Lib.hid hr
    clear hr
    have q0 := cell_kept hb1 q0
    have q1 := cell_kept hb1 q1
    have f0 := frozen_kept hb1 (by omega) f0
    have f1 := frozen_kept hb1 (by omega) f1
    have hs := hb1.size
    go_wp2_with fail
    refine bodyPost_ret (v := .tuple #[.agg #[.int .i8 x.k, .slice ya x.ks.length yc], .nilIface]) (by simp [results, Try.results11, go_sem, q0, q1]) rfl ?_
    have hb := hb0.trans (hb1.mono (by omega))
    rw [HR.out]
    refine ⟨ya, yc, rfl, hy.mono (fun b hb => ⟨by omega, by simpa using hb.2⟩) fun b o hb => ?_, ?_⟩
    · rw [World.cell?_setCell_far _ _ _ _ (by show w.heap.size + 1 ≠ b; omega), World.cell?_setCell_far _ _ _ _ (by show w.heap.size + 1 ≠ b; omega)]
    · (repeat (first | assumption | exact Below.refl _ _ | apply below_drewN | apply Below.drew | (refine Below.alloc ?_ (by first | omega | (simp; done) | (simp; omega)) _) | (refine Below.setCell ?_ (by first | omega | (simp; done) | (simp; omega)) _)))
end Go.Proofs.Ytaoodchjggimcaa
