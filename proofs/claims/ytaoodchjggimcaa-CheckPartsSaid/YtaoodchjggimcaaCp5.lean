/- Parts of the proof of the statement that YtaoodchjggimcaaCp proves: contracts of functions, and plain laws. -/
import Derived.Test.YtaoodchjggimcaaCp4
import Derived.LoopN
import Derived.Test.YtaoodchjggimcaaCp2
import Derived.Test.YtaoodchjggimcaaProg
import Derived.Test.YtaoodchjggimcaaCp0
import Derived.ProofKit
import Derived.OpenShut
import Derived.ChangeOld
import Derived.SizedLaws
import Derived.Deep.Slices

/- The walk of package rules' rules, by the words of package check: terms of 3 kids that bind nothing. -/
set_option linter.unusedVariables false
set_option linter.unusedSimpArgs false
namespace Go.Proofs.Ytaoodchjggimcaa
open Go.RowKit

set_option maxRecDepth 100000 in
set_option maxHeartbeats 4000000 in
theorem rulesF3_c (N : Nat) (ih : ∀ (l : Env) (t : RTm) (B b o : Nat) (s : TmSh) (wb C : Nat) (S : Nat → Prop) (ea : Option Addr) (ec : Nat) (w : World), t.nodes ≤ N → WordsAt w B wb 17 40 41 17 → RTm.At w B b o s t → B ≤ w.heap.size → C ≤ w.heap.size → (∀ b, S b → b < w.heap.size) → (∀ b, b < B → S b) → EnvAt w C S ea ec l → l.length + 2 * t.nodes ≤ 20000 → t.right = true → l.right →
      Calls Try.prog 77 #[.pointer (some ⟨wb, 0, none⟩), .slice ea l.length ec, .pointer (some ⟨b, o, none⟩)] w (GetsTy S (gradual.rules N l t) w))(l : Env) (t : RTm) (B b o : Nat) (s : TmSh) (wb C : Nat) (S : Nat → Prop) (ea : Option Addr) (ec : Nat) (w : World) (hN : t.nodes ≤ N + 1) (hwd : WordsAt w B wb 17 40 41 17) (hat : RTm.At w B b o s t) (hB : B ≤ w.heap.size) (hC : C ≤ w.heap.size) (hS : ∀ b, S b → b < w.heap.size) (hBS : ∀ b, b < B → S b) (henv : EnvAt w C S ea ec l) (hnl : l.length + 2 * t.nodes ≤ 20000) (hrt : t.right = true) (hrl : l.right) (hkind : flatKind t.k = true) (hkk : kidsOf t.k = 3) :
    Calls Try.prog 77 #[.pointer (some ⟨wb, 0, none⟩), .slice ea l.length ec, .pointer (some ⟨b, o, none⟩)] w (GetsTy S (gradual.rules (N + 1) l t) w) := by
  have k0 := hat.c0
  have hwl := hwd.lt
  have hbl : b < w.heap.size := by have := hat.lt; omega
  have hlen := RTm.right_len hrt
  have hkn : t.ks.length = 3 := by omega
  have hF := Lib.hid (Mode.rulesF3 (M := gradual) (n := N) (l := l) hkind hkk)
  obtain ⟨kb0, ko0, ks0, hka0, hkat0⟩ := hat.kid (RTm.kid_get (t := t) (i := 0) (by omega))
  have hkn_0 := RTm.kid_nodes (RTm.kid_get (t := t) (i := 0) (by omega))
  have hkr0 := Lib.hid (RTm.kid_right hrt (i := 0) (by omega))
  obtain ⟨kb1, ko1, ks1, hka1, hkat1⟩ := hat.kid (RTm.kid_get (t := t) (i := 1) (by omega))
  have hkn_1 := RTm.kid_nodes (RTm.kid_get (t := t) (i := 1) (by omega))
  have hkr1 := Lib.hid (RTm.kid_right hrt (i := 1) (by omega))
  have hke := hka0.symm.trans hka1
  simp only [Option.some.injEq, Addr.mk.injEq, and_true] at hke
  obtain ⟨rfl, rfl⟩ := hke
  obtain ⟨kb2, ko2, ks2, hka2, hkat2⟩ := hat.kid (RTm.kid_get (t := t) (i := 2) (by omega))
  have hkn_2 := RTm.kid_nodes (RTm.kid_get (t := t) (i := 2) (by omega))
  have hkr2 := Lib.hid (RTm.kid_right hrt (i := 2) (by omega))
  have hke := hka0.symm.trans hka2
  simp only [Option.some.injEq, Addr.mk.injEq, and_true] at hke
  obtain ⟨rfl, rfl⟩ := hke
  have t10 := hat.c10
  rw [hka0, hkn] at t10
  have HKA := Lib.hid hka0
  have HKN := Lib.hid hkn
  clear hka0 hka1 hka2 hkn hlen hkk
  obtain ⟨h0, h1, h2, h3, h4, h5, h7, h14⟩ := flatKind_ne hkind
  have q0 : (t.k == (0 : Int)) = false := by simp [h0]
  have q1 : (t.k == (1 : Int)) = false := by simp [h1]
  have q2 : (t.k == (2 : Int)) = false := by simp [h2]
  have q3 : (t.k == (3 : Int)) = false := by simp [h3]
  have q4 : (t.k == (4 : Int)) = false := by simp [h4]
  have q5 : (t.k == (5 : Int)) = false := by simp [h5]
  have q7 : (t.k == (7 : Int)) = false := by simp [h7]
  have q14 : (t.k == (14 : Int)) = false := by simp [h14]
  clear h0 h1 h2 h3 h4 h5 h7 h14
  have HKD := Lib.hid hkind
  clear hkind
  go_enter Try.func77, Try.ntmps77
  go_wp2_with fail
  generalize hW : World.alloc _ _ = w1
  have hb1 : Below w.heap.size w w1 := by rw [← hW]; (repeat (first | assumption | exact Below.refl _ _ | apply below_drewN | apply Below.drew | (refine Below.alloc ?_ (by first | omega | (simp; done) | (simp; omega)) _) | (refine Below.setCell ?_ (by first | omega | (simp; done) | (simp; omega)) _)))
  have hz1 : w1.heap.size = w.heap.size + 1 + 1 := by rw [← hW]; simp
  have m0 : w1.cell? ⟨w.heap.size, 0, none⟩ = some (.int .i8 0) := by rw [← hW]; simp [go_sem]
  have m1 : w1.cell? ⟨w.heap.size, 1, none⟩ = some (.slice none 0 0) := by rw [← hW]; simp [go_sem]
  have f0 : w1.frozen? ⟨w.heap.size, 0, none⟩ = false := by rw [← hW]; simp [go_sem]
  have f1 : w1.frozen? ⟨w.heap.size, 1, none⟩ = false := by rw [← hW]; simp [go_sem]
  have a0 : w1.cell? ⟨w.heap.size + 1, 0, none⟩ = some (.int .i8 0) := by rw [← hW]; simp [go_sem]
  have g0 : w1.frozen? ⟨w.heap.size + 1, 0, none⟩ = false := by rw [← hW]; simp [go_sem]
  have a1 : w1.cell? ⟨w.heap.size + 1, 1, none⟩ = some (.slice none 0 0) := by rw [← hW]; simp [go_sem]
  have g1 : w1.frozen? ⟨w.heap.size + 1, 1, none⟩ = false := by rw [← hW]; simp [go_sem]
  have a2 : w1.cell? ⟨w.heap.size + 1, 2, none⟩ = some (.int .i8 0) := by rw [← hW]; simp [go_sem]
  have g2 : w1.frozen? ⟨w.heap.size + 1, 2, none⟩ = false := by rw [← hW]; simp [go_sem]
  have a3 : w1.cell? ⟨w.heap.size + 1, 3, none⟩ = some (.slice none 0 0) := by rw [← hW]; simp [go_sem]
  have g3 : w1.frozen? ⟨w.heap.size + 1, 3, none⟩ = false := by rw [← hW]; simp [go_sem]
  have a4 : w1.cell? ⟨w.heap.size + 1, 4, none⟩ = some (.int .i8 0) := by rw [← hW]; simp [go_sem]
  have g4 : w1.frozen? ⟨w.heap.size + 1, 4, none⟩ = false := by rw [← hW]; simp [go_sem]
  have a5 : w1.cell? ⟨w.heap.size + 1, 5, none⟩ = some (.slice none 0 0) := by rw [← hW]; simp [go_sem]
  have g5 : w1.frozen? ⟨w.heap.size + 1, 5, none⟩ = false := by rw [← hW]; simp [go_sem]
  clear hW
  have hz1 : w.heap.size + 1 < w1.heap.size := by omega
  have hSr : ∀ b, S b → b < w.heap.size + 1 := fun b hb => by have := hS b hb; omega
  have t10 := cell_kept hb1 t10
  refine wp_loop_rounds 4 ?_
  rw [rounds_succ]
  go_wp2_with fail
  have hx := ih l (t.kid 0) B kb0 (ko0 + 0 * 11) ks0 wb w1.heap.size S ea ec w1 (by omega) (hwd.below hb1 hB) (hkat0.below hb1 hB) (by have := hb1.size; omega) (Nat.le_refl _) (fun b hb => Nat.lt_of_lt_of_le (hS b hb) hb1.size) hBS (EnvAt.up (henv.below hb1 hC hS) (by have := hb1.size; omega) fun _ h => h) (by omega) hkr0.out hrl
  simp only [Nat.reduceMul, Nat.add_zero] at hx
  refine hx.mono ?_
  clear hx
  intro e v0 hg
  cases hr : gradual.rules N l (t.kid 0) with
  | error f =>
    rw [hr] at hg
    obtain ⟨fb, rfl, y1, y2, y3, y4⟩ := hg
    have E : Hid (gradual.rules (N + 1) l t = .error f) := by show _ = _; rw [hF.out, hr]
    clear hr
    go_wp2_with fail
    refine ⟨rfl, ?_⟩
    rw [E.out]
    exact Fails.mono (w1 := w1) ⟨fb, rfl, y1, y2, y3, y4⟩ hb1
  | ok x0 =>
    rw [hr] at hg
    obtain ⟨xa0, xc0, rfl, HX0, hv0⟩ := hg
    have HR0 := Lib.hid hr
    clear hr
    have a0 := cell_kept hv0 a0
    have a1 := cell_kept hv0 a1
    have a2 := cell_kept hv0 a2
    have a3 := cell_kept hv0 a3
    have a4 := cell_kept hv0 a4
    have a5 := cell_kept hv0 a5
    have m0 := cell_kept hv0 m0
    have m1 := cell_kept hv0 m1
    have t10 := cell_kept hv0 t10
    have g0 := frozen_kept hv0 (by have := hb1.size; omega) g0
    have g1 := frozen_kept hv0 (by have := hb1.size; omega) g1
    have g2 := frozen_kept hv0 (by have := hb1.size; omega) g2
    have g3 := frozen_kept hv0 (by have := hb1.size; omega) g3
    have g4 := frozen_kept hv0 (by have := hb1.size; omega) g4
    have g5 := frozen_kept hv0 (by have := hb1.size; omega) g5
    have f0 := frozen_kept hv0 (by have := hb1.size; omega) f0
    have f1 := frozen_kept hv0 (by have := hb1.size; omega) f1
    have hvs0 := hv0.size
    have hbx0 : Below w.heap.size w v0 := hb1.trans (hv0.mono hb1.size)
    have HX0 := RTy.InS.up HX0 (More.from_ (w1 := w1) (Nat.le_refl _))
    have hcx : ∀ u v, (v0.setCell ⟨w.heap.size + 1, 0, none⟩ u).setCell ⟨w.heap.size + 1, 1, none⟩ v = (v0.setCell ⟨w.heap.size + 1, 0, none⟩ u).setCell ⟨w.heap.size + 1, 1, none⟩ v := fun _ _ => rfl
    clear hcx
    have HX0 := HX0.slot (i := 0) (j := 1) (u := .int .i8 x0.k) (v := .slice xa0 x0.ks.length xc0) hSr hz1
    go_wp2_with fail
    obtain ⟨W0, hW⟩ : ∃ W, W = (v0.setCell ⟨w.heap.size + 1, 0, none⟩ (.int .i8 x0.k)).setCell ⟨w.heap.size + 1, 1, none⟩ (.slice xa0 x0.ks.length xc0) := ⟨_, rfl⟩
    rw [← hW]
    rw [← hW] at HX0
    have hbw0 : Below w.heap.size w W0 := by rw [hW]; (repeat (first | assumption | exact Below.refl _ _ | apply below_drewN | apply Below.drew | (refine Below.alloc ?_ (by first | omega | (simp; done) | (simp; omega)) _) | (refine Below.setCell ?_ (by first | omega | (simp; done) | (simp; omega)) _)))
    have hsz0 : v0.heap.size = W0.heap.size := by rw [hW]; simp
    have b0 : W0.cell? ⟨w.heap.size + 1, 0, none⟩ = some (.int .i8 x0.k) := by rw [hW]; simp [go_sem, a0, a1, a2, a3, a4, a5, g0, g1, g2, g3, g4, g5, m0, m1, f0, f1]
    have e0 : W0.frozen? ⟨w.heap.size + 1, 0, none⟩ = false := by rw [hW]; simp [go_sem, a0, a1, a2, a3, a4, a5, g0, g1, g2, g3, g4, g5, m0, m1, f0, f1]
    have b1 : W0.cell? ⟨w.heap.size + 1, 1, none⟩ = some (.slice xa0 x0.ks.length xc0) := by rw [hW]; simp [go_sem, a0, a1, a2, a3, a4, a5, g0, g1, g2, g3, g4, g5, m0, m1, f0, f1]
    have e1 : W0.frozen? ⟨w.heap.size + 1, 1, none⟩ = false := by rw [hW]; simp [go_sem, a0, a1, a2, a3, a4, a5, g0, g1, g2, g3, g4, g5, m0, m1, f0, f1]
    have b2 : W0.cell? ⟨w.heap.size + 1, 2, none⟩ = some (.int .i8 0) := by rw [hW]; simp [go_sem, a0, a1, a2, a3, a4, a5, g0, g1, g2, g3, g4, g5, m0, m1, f0, f1]
    have e2 : W0.frozen? ⟨w.heap.size + 1, 2, none⟩ = false := by rw [hW]; simp [go_sem, a0, a1, a2, a3, a4, a5, g0, g1, g2, g3, g4, g5, m0, m1, f0, f1]
    have b3 : W0.cell? ⟨w.heap.size + 1, 3, none⟩ = some (.slice none 0 0) := by rw [hW]; simp [go_sem, a0, a1, a2, a3, a4, a5, g0, g1, g2, g3, g4, g5, m0, m1, f0, f1]
    have e3 : W0.frozen? ⟨w.heap.size + 1, 3, none⟩ = false := by rw [hW]; simp [go_sem, a0, a1, a2, a3, a4, a5, g0, g1, g2, g3, g4, g5, m0, m1, f0, f1]
    have b4 : W0.cell? ⟨w.heap.size + 1, 4, none⟩ = some (.int .i8 0) := by rw [hW]; simp [go_sem, a0, a1, a2, a3, a4, a5, g0, g1, g2, g3, g4, g5, m0, m1, f0, f1]
    have e4 : W0.frozen? ⟨w.heap.size + 1, 4, none⟩ = false := by rw [hW]; simp [go_sem, a0, a1, a2, a3, a4, a5, g0, g1, g2, g3, g4, g5, m0, m1, f0, f1]
    have b5 : W0.cell? ⟨w.heap.size + 1, 5, none⟩ = some (.slice none 0 0) := by rw [hW]; simp [go_sem, a0, a1, a2, a3, a4, a5, g0, g1, g2, g3, g4, g5, m0, m1, f0, f1]
    have e5 : W0.frozen? ⟨w.heap.size + 1, 5, none⟩ = false := by rw [hW]; simp [go_sem, a0, a1, a2, a3, a4, a5, g0, g1, g2, g3, g4, g5, m0, m1, f0, f1]
    have n0 : W0.cell? ⟨w.heap.size, 0, none⟩ = some (.int .i8 0) := by rw [hW]; simp [go_sem, a0, a1, a2, a3, a4, a5, g0, g1, g2, g3, g4, g5, m0, m1, f0, f1]
    have n1 : W0.cell? ⟨w.heap.size, 1, none⟩ = some (.slice none 0 0) := by rw [hW]; simp [go_sem, a0, a1, a2, a3, a4, a5, g0, g1, g2, g3, g4, g5, m0, m1, f0, f1]
    have n2 : W0.frozen? ⟨w.heap.size, 0, none⟩ = false := by rw [hW]; simp [go_sem, a0, a1, a2, a3, a4, a5, g0, g1, g2, g3, g4, g5, m0, m1, f0, f1]
    have n3 : W0.frozen? ⟨w.heap.size, 1, none⟩ = false := by rw [hW]; simp [go_sem, a0, a1, a2, a3, a4, a5, g0, g1, g2, g3, g4, g5, m0, m1, f0, f1]
    have n4 := (hat.below hbw0 hB).c10
    rw [HKA.out, HKN.out] at n4
    have hW1_0 : w1.heap.size ≤ W0.heap.size := by omega
    clear hW a0 a1 a2 a3 a4 a5 g0 g1 g2 g3 g4 g5 m0 m1 f0 f1 t10 hsz0
    have a0 := b0
    have g0 := e0
    have a1 := b1
    have g1 := e1
    have a2 := b2
    have g2 := e2
    have a3 := b3
    have g3 := e3
    have a4 := b4
    have g4 := e4
    have a5 := b5
    have g5 := e5
    have m0 := n0
    have m1 := n1
    have f0 := n2
    have f1 := n3
    have t10 := n4
    clear b0 e0 b1 e1 b2 e2 b3 e3 b4 e4 b5 e5 n0 n1 n2 n3 n4
    rw [rounds_succ]
    go_wp2_with fail
    have hx := ih l (t.kid 1) B kb0 (ko0 + 1 * 11) ks1 wb W0.heap.size S ea ec W0 (by omega) (hwd.below hbw0 hB) (hkat1.below hbw0 hB) (by have := hbw0.size; omega) (Nat.le_refl _) (fun b hb => Nat.lt_of_lt_of_le (hS b hb) hbw0.size) hBS (EnvAt.up (henv.below hbw0 hC hS) (by have := hbw0.size; omega) fun _ h => h) (by omega) hkr1.out hrl
    simp only [Nat.reduceMul, Nat.add_zero] at hx
    refine hx.mono ?_
    clear hx
    intro e v1 hg
    cases hr : gradual.rules N l (t.kid 1) with
    | error f =>
      rw [hr] at hg
      obtain ⟨fb, rfl, y1, y2, y3, y4⟩ := hg
      have E : Hid (gradual.rules (N + 1) l t = .error f) := by show _ = _; rw [hF.out, HR0.out]; simp only [hr]
      clear hr
      go_wp2_with fail
      refine ⟨rfl, ?_⟩
      rw [E.out]
      exact Fails.mono (w1 := W0) ⟨fb, rfl, y1, y2, y3, y4⟩ hbw0
    | ok x1 =>
      rw [hr] at hg
      obtain ⟨xa1, xc1, rfl, HX1, hv1⟩ := hg
      have HR1 := Lib.hid hr
      clear hr
      have a0 := cell_kept hv1 a0
      have a1 := cell_kept hv1 a1
      have a2 := cell_kept hv1 a2
      have a3 := cell_kept hv1 a3
      have a4 := cell_kept hv1 a4
      have a5 := cell_kept hv1 a5
      have m0 := cell_kept hv1 m0
      have m1 := cell_kept hv1 m1
      have t10 := cell_kept hv1 t10
      have g0 := frozen_kept hv1 (by have := hbw0.size; omega) g0
      have g1 := frozen_kept hv1 (by have := hbw0.size; omega) g1
      have g2 := frozen_kept hv1 (by have := hbw0.size; omega) g2
      have g3 := frozen_kept hv1 (by have := hbw0.size; omega) g3
      have g4 := frozen_kept hv1 (by have := hbw0.size; omega) g4
      have g5 := frozen_kept hv1 (by have := hbw0.size; omega) g5
      have f0 := frozen_kept hv1 (by have := hbw0.size; omega) f0
      have f1 := frozen_kept hv1 (by have := hbw0.size; omega) f1
      have hvs1 := hv1.size
      have hbx1 : Below w.heap.size w v1 := hbw0.trans (hv1.mono hbw0.size)
      have HX1 := RTy.InS.up HX1 (More.from_ (w1 := w1) (hW1_0))
      have HX0 := RTy.InS.up (RTy.InS.below HX0 hv1 (More.lt (fun b hb => Nat.lt_of_lt_of_le (hS b hb) hb1.size) hW1_0)) (More.to_ hvs1)
      have hcx : ∀ u v, (v1.setCell ⟨w.heap.size + 1, 2, none⟩ u).setCell ⟨w.heap.size + 1, 3, none⟩ v = (v1.setCell ⟨w.heap.size + 1, 2, none⟩ u).setCell ⟨w.heap.size + 1, 3, none⟩ v := fun _ _ => rfl
      clear hcx
      have HX0 := HX0.slot (i := 2) (j := 3) (u := .int .i8 x1.k) (v := .slice xa1 x1.ks.length xc1) hSr hz1
      have HX1 := HX1.slot (i := 2) (j := 3) (u := .int .i8 x1.k) (v := .slice xa1 x1.ks.length xc1) hSr hz1
      go_wp2_with fail
      obtain ⟨W1, hW⟩ : ∃ W, W = (v1.setCell ⟨w.heap.size + 1, 2, none⟩ (.int .i8 x1.k)).setCell ⟨w.heap.size + 1, 3, none⟩ (.slice xa1 x1.ks.length xc1) := ⟨_, rfl⟩
      rw [← hW]
      rw [← hW] at HX0
      rw [← hW] at HX1
      have hbw1 : Below w.heap.size w W1 := by rw [hW]; (repeat (first | assumption | exact Below.refl _ _ | apply below_drewN | apply Below.drew | (refine Below.alloc ?_ (by first | omega | (simp; done) | (simp; omega)) _) | (refine Below.setCell ?_ (by first | omega | (simp; done) | (simp; omega)) _)))
      have hsz1 : v1.heap.size = W1.heap.size := by rw [hW]; simp
      have b0 : W1.cell? ⟨w.heap.size + 1, 0, none⟩ = some (.int .i8 x0.k) := by rw [hW]; simp [go_sem, a0, a1, a2, a3, a4, a5, g0, g1, g2, g3, g4, g5, m0, m1, f0, f1]
      have e0 : W1.frozen? ⟨w.heap.size + 1, 0, none⟩ = false := by rw [hW]; simp [go_sem, a0, a1, a2, a3, a4, a5, g0, g1, g2, g3, g4, g5, m0, m1, f0, f1]
      have b1 : W1.cell? ⟨w.heap.size + 1, 1, none⟩ = some (.slice xa0 x0.ks.length xc0) := by rw [hW]; simp [go_sem, a0, a1, a2, a3, a4, a5, g0, g1, g2, g3, g4, g5, m0, m1, f0, f1]
      have e1 : W1.frozen? ⟨w.heap.size + 1, 1, none⟩ = false := by rw [hW]; simp [go_sem, a0, a1, a2, a3, a4, a5, g0, g1, g2, g3, g4, g5, m0, m1, f0, f1]
      have b2 : W1.cell? ⟨w.heap.size + 1, 2, none⟩ = some (.int .i8 x1.k) := by rw [hW]; simp [go_sem, a0, a1, a2, a3, a4, a5, g0, g1, g2, g3, g4, g5, m0, m1, f0, f1]
      have e2 : W1.frozen? ⟨w.heap.size + 1, 2, none⟩ = false := by rw [hW]; simp [go_sem, a0, a1, a2, a3, a4, a5, g0, g1, g2, g3, g4, g5, m0, m1, f0, f1]
      have b3 : W1.cell? ⟨w.heap.size + 1, 3, none⟩ = some (.slice xa1 x1.ks.length xc1) := by rw [hW]; simp [go_sem, a0, a1, a2, a3, a4, a5, g0, g1, g2, g3, g4, g5, m0, m1, f0, f1]
      have e3 : W1.frozen? ⟨w.heap.size + 1, 3, none⟩ = false := by rw [hW]; simp [go_sem, a0, a1, a2, a3, a4, a5, g0, g1, g2, g3, g4, g5, m0, m1, f0, f1]
      have b4 : W1.cell? ⟨w.heap.size + 1, 4, none⟩ = some (.int .i8 0) := by rw [hW]; simp [go_sem, a0, a1, a2, a3, a4, a5, g0, g1, g2, g3, g4, g5, m0, m1, f0, f1]
      have e4 : W1.frozen? ⟨w.heap.size + 1, 4, none⟩ = false := by rw [hW]; simp [go_sem, a0, a1, a2, a3, a4, a5, g0, g1, g2, g3, g4, g5, m0, m1, f0, f1]
      have b5 : W1.cell? ⟨w.heap.size + 1, 5, none⟩ = some (.slice none 0 0) := by rw [hW]; simp [go_sem, a0, a1, a2, a3, a4, a5, g0, g1, g2, g3, g4, g5, m0, m1, f0, f1]
      have e5 : W1.frozen? ⟨w.heap.size + 1, 5, none⟩ = false := by rw [hW]; simp [go_sem, a0, a1, a2, a3, a4, a5, g0, g1, g2, g3, g4, g5, m0, m1, f0, f1]
      have n0 : W1.cell? ⟨w.heap.size, 0, none⟩ = some (.int .i8 0) := by rw [hW]; simp [go_sem, a0, a1, a2, a3, a4, a5, g0, g1, g2, g3, g4, g5, m0, m1, f0, f1]
      have n1 : W1.cell? ⟨w.heap.size, 1, none⟩ = some (.slice none 0 0) := by rw [hW]; simp [go_sem, a0, a1, a2, a3, a4, a5, g0, g1, g2, g3, g4, g5, m0, m1, f0, f1]
      have n2 : W1.frozen? ⟨w.heap.size, 0, none⟩ = false := by rw [hW]; simp [go_sem, a0, a1, a2, a3, a4, a5, g0, g1, g2, g3, g4, g5, m0, m1, f0, f1]
      have n3 : W1.frozen? ⟨w.heap.size, 1, none⟩ = false := by rw [hW]; simp [go_sem, a0, a1, a2, a3, a4, a5, g0, g1, g2, g3, g4, g5, m0, m1, f0, f1]
      have n4 := (hat.below hbw1 hB).c10
      rw [HKA.out, HKN.out] at n4
      have hW1_1 : w1.heap.size ≤ W1.heap.size := by omega
      clear hW a0 a1 a2 a3 a4 a5 g0 g1 g2 g3 g4 g5 m0 m1 f0 f1 t10 hsz1
      have a0 := b0
      have g0 := e0
      have a1 := b1
      have g1 := e1
      have a2 := b2
      have g2 := e2
      have a3 := b3
      have g3 := e3
      have a4 := b4
      have g4 := e4
      have a5 := b5
      have g5 := e5
      have m0 := n0
      have m1 := n1
      have f0 := n2
      have f1 := n3
      have t10 := n4
      clear b0 e0 b1 e1 b2 e2 b3 e3 b4 e4 b5 e5 n0 n1 n2 n3 n4
      rw [rounds_succ]
      go_wp2_with fail
      have hx := ih l (t.kid 2) B kb0 (ko0 + 2 * 11) ks2 wb W1.heap.size S ea ec W1 (by omega) (hwd.below hbw1 hB) (hkat2.below hbw1 hB) (by have := hbw1.size; omega) (Nat.le_refl _) (fun b hb => Nat.lt_of_lt_of_le (hS b hb) hbw1.size) hBS (EnvAt.up (henv.below hbw1 hC hS) (by have := hbw1.size; omega) fun _ h => h) (by omega) hkr2.out hrl
      simp only [Nat.reduceMul, Nat.add_zero] at hx
      refine hx.mono ?_
      clear hx
      intro e v2 hg
      cases hr : gradual.rules N l (t.kid 2) with
      | error f =>
        rw [hr] at hg
        obtain ⟨fb, rfl, y1, y2, y3, y4⟩ := hg
        have E : Hid (gradual.rules (N + 1) l t = .error f) := by show _ = _; rw [hF.out, HR0.out, HR1.out]; simp only [hr]
        clear hr
        go_wp2_with fail
        refine ⟨rfl, ?_⟩
        rw [E.out]
        exact Fails.mono (w1 := W1) ⟨fb, rfl, y1, y2, y3, y4⟩ hbw1
      | ok x2 =>
        rw [hr] at hg
        obtain ⟨xa2, xc2, rfl, HX2, hv2⟩ := hg
        have HR2 := Lib.hid hr
        clear hr
        have a0 := cell_kept hv2 a0
        have a1 := cell_kept hv2 a1
        have a2 := cell_kept hv2 a2
        have a3 := cell_kept hv2 a3
        have a4 := cell_kept hv2 a4
        have a5 := cell_kept hv2 a5
        have m0 := cell_kept hv2 m0
        have m1 := cell_kept hv2 m1
        have t10 := cell_kept hv2 t10
        have g0 := frozen_kept hv2 (by have := hbw1.size; omega) g0
        have g1 := frozen_kept hv2 (by have := hbw1.size; omega) g1
        have g2 := frozen_kept hv2 (by have := hbw1.size; omega) g2
        have g3 := frozen_kept hv2 (by have := hbw1.size; omega) g3
        have g4 := frozen_kept hv2 (by have := hbw1.size; omega) g4
        have g5 := frozen_kept hv2 (by have := hbw1.size; omega) g5
        have f0 := frozen_kept hv2 (by have := hbw1.size; omega) f0
        have f1 := frozen_kept hv2 (by have := hbw1.size; omega) f1
        have hvs2 := hv2.size
        have hbx2 : Below w.heap.size w v2 := hbw1.trans (hv2.mono hbw1.size)
        have HX2 := RTy.InS.up HX2 (More.from_ (w1 := w1) (hW1_1))
        have HX0 := RTy.InS.up (RTy.InS.below HX0 hv2 (More.lt (fun b hb => Nat.lt_of_lt_of_le (hS b hb) hb1.size) hW1_1)) (More.to_ hvs2)
        have HX1 := RTy.InS.up (RTy.InS.below HX1 hv2 (More.lt (fun b hb => Nat.lt_of_lt_of_le (hS b hb) hb1.size) hW1_1)) (More.to_ hvs2)
        have hcx : ∀ u v, (v2.setCell ⟨w.heap.size + 1, 4, none⟩ u).setCell ⟨w.heap.size + 1, 5, none⟩ v = (v2.setCell ⟨w.heap.size + 1, 4, none⟩ u).setCell ⟨w.heap.size + 1, 5, none⟩ v := fun _ _ => rfl
        clear hcx
        have HX0 := HX0.slot (i := 4) (j := 5) (u := .int .i8 x2.k) (v := .slice xa2 x2.ks.length xc2) hSr hz1
        have HX1 := HX1.slot (i := 4) (j := 5) (u := .int .i8 x2.k) (v := .slice xa2 x2.ks.length xc2) hSr hz1
        have HX2 := HX2.slot (i := 4) (j := 5) (u := .int .i8 x2.k) (v := .slice xa2 x2.ks.length xc2) hSr hz1
        go_wp2_with fail
        obtain ⟨W2, hW⟩ : ∃ W, W = (v2.setCell ⟨w.heap.size + 1, 4, none⟩ (.int .i8 x2.k)).setCell ⟨w.heap.size + 1, 5, none⟩ (.slice xa2 x2.ks.length xc2) := ⟨_, rfl⟩
        rw [← hW]
        rw [← hW] at HX0
        rw [← hW] at HX1
        rw [← hW] at HX2
        have hbw2 : Below w.heap.size w W2 := by rw [hW]; (repeat (first | assumption | exact Below.refl _ _ | apply below_drewN | apply Below.drew | (refine Below.alloc ?_ (by first | omega | (simp; done) | (simp; omega)) _) | (refine Below.setCell ?_ (by first | omega | (simp; done) | (simp; omega)) _)))
        have hsz2 : v2.heap.size = W2.heap.size := by rw [hW]; simp
        have b0 : W2.cell? ⟨w.heap.size + 1, 0, none⟩ = some (.int .i8 x0.k) := by rw [hW]; simp [go_sem, a0, a1, a2, a3, a4, a5, g0, g1, g2, g3, g4, g5, m0, m1, f0, f1]
        have e0 : W2.frozen? ⟨w.heap.size + 1, 0, none⟩ = false := by rw [hW]; simp [go_sem, a0, a1, a2, a3, a4, a5, g0, g1, g2, g3, g4, g5, m0, m1, f0, f1]
        have b1 : W2.cell? ⟨w.heap.size + 1, 1, none⟩ = some (.slice xa0 x0.ks.length xc0) := by rw [hW]; simp [go_sem, a0, a1, a2, a3, a4, a5, g0, g1, g2, g3, g4, g5, m0, m1, f0, f1]
        have e1 : W2.frozen? ⟨w.heap.size + 1, 1, none⟩ = false := by rw [hW]; simp [go_sem, a0, a1, a2, a3, a4, a5, g0, g1, g2, g3, g4, g5, m0, m1, f0, f1]
        have b2 : W2.cell? ⟨w.heap.size + 1, 2, none⟩ = some (.int .i8 x1.k) := by rw [hW]; simp [go_sem, a0, a1, a2, a3, a4, a5, g0, g1, g2, g3, g4, g5, m0, m1, f0, f1]
        have e2 : W2.frozen? ⟨w.heap.size + 1, 2, none⟩ = false := by rw [hW]; simp [go_sem, a0, a1, a2, a3, a4, a5, g0, g1, g2, g3, g4, g5, m0, m1, f0, f1]
        have b3 : W2.cell? ⟨w.heap.size + 1, 3, none⟩ = some (.slice xa1 x1.ks.length xc1) := by rw [hW]; simp [go_sem, a0, a1, a2, a3, a4, a5, g0, g1, g2, g3, g4, g5, m0, m1, f0, f1]
        have e3 : W2.frozen? ⟨w.heap.size + 1, 3, none⟩ = false := by rw [hW]; simp [go_sem, a0, a1, a2, a3, a4, a5, g0, g1, g2, g3, g4, g5, m0, m1, f0, f1]
        have b4 : W2.cell? ⟨w.heap.size + 1, 4, none⟩ = some (.int .i8 x2.k) := by rw [hW]; simp [go_sem, a0, a1, a2, a3, a4, a5, g0, g1, g2, g3, g4, g5, m0, m1, f0, f1]
        have e4 : W2.frozen? ⟨w.heap.size + 1, 4, none⟩ = false := by rw [hW]; simp [go_sem, a0, a1, a2, a3, a4, a5, g0, g1, g2, g3, g4, g5, m0, m1, f0, f1]
        have b5 : W2.cell? ⟨w.heap.size + 1, 5, none⟩ = some (.slice xa2 x2.ks.length xc2) := by rw [hW]; simp [go_sem, a0, a1, a2, a3, a4, a5, g0, g1, g2, g3, g4, g5, m0, m1, f0, f1]
        have e5 : W2.frozen? ⟨w.heap.size + 1, 5, none⟩ = false := by rw [hW]; simp [go_sem, a0, a1, a2, a3, a4, a5, g0, g1, g2, g3, g4, g5, m0, m1, f0, f1]
        have n0 : W2.cell? ⟨w.heap.size, 0, none⟩ = some (.int .i8 0) := by rw [hW]; simp [go_sem, a0, a1, a2, a3, a4, a5, g0, g1, g2, g3, g4, g5, m0, m1, f0, f1]
        have n1 : W2.cell? ⟨w.heap.size, 1, none⟩ = some (.slice none 0 0) := by rw [hW]; simp [go_sem, a0, a1, a2, a3, a4, a5, g0, g1, g2, g3, g4, g5, m0, m1, f0, f1]
        have n2 : W2.frozen? ⟨w.heap.size, 0, none⟩ = false := by rw [hW]; simp [go_sem, a0, a1, a2, a3, a4, a5, g0, g1, g2, g3, g4, g5, m0, m1, f0, f1]
        have n3 : W2.frozen? ⟨w.heap.size, 1, none⟩ = false := by rw [hW]; simp [go_sem, a0, a1, a2, a3, a4, a5, g0, g1, g2, g3, g4, g5, m0, m1, f0, f1]
        have n4 := (hat.below hbw2 hB).c10
        rw [HKA.out, HKN.out] at n4
        have hW1_2 : w1.heap.size ≤ W2.heap.size := by omega
        clear hW a0 a1 a2 a3 a4 a5 g0 g1 g2 g3 g4 g5 m0 m1 f0 f1 t10 hsz2
        have a0 := b0
        have g0 := e0
        have a1 := b1
        have g1 := e1
        have a2 := b2
        have g2 := e2
        have a3 := b3
        have g3 := e3
        have a4 := b4
        have g4 := e4
        have a5 := b5
        have g5 := e5
        have m0 := n0
        have m1 := n1
        have f0 := n2
        have f1 := n3
        have t10 := n4
        clear b0 e0 b1 e1 b2 e2 b3 e3 b4 e4 b5 e5 n0 n1 n2 n3 n4
        rw [rounds_succ]
        go_wp2_with fail
        have hS1 : ∀ b, More S w1 W2 b → b < W2.heap.size := More.lt (fun b hb => Nat.lt_of_lt_of_le (hS b hb) hb1.size) hW1_2
        have HU : RTy.unk.InS W2 (More S w1 W2) none := by unfold RTy.unk RTy.InS RTy.InsS; exact ⟨⟨by omega, by omega⟩, by simp [lenMax], trivial⟩
        have hrx := Mode.rules_right gradual_good N l (t.kid 0) x0 hrl hkr0.out HR0.out
        have hcall := flat_c t B b o s wb x0 x1 x2 (More S w1 W2) xa0 xa1 xa2 xc0 xc1 xc2 W2 (hwd.below hbw2 hB) (hat.below hbw2 hB) (by have := hbw2.size; omega) hS1 (fun b hb => .inl (hBS b hb)) HX0 HX1 HX2 hrx (RTm.right_ty hrt) HKD.out
        refine hcall.mono ?_
        clear hcall
        intro e w5 hg
        have hFF : Hid (gradual.rules (N + 1) l t = gradual.flat t x0 x1 x2) := by show _ = _; rw [hF.out, HR0.out]; simp only [HR1.out, HR2.out]
        have hsW := hbw2.size
        cases hr : gradual.flat t x0 x1 x2 with
        | error f =>
          rw [hr] at hg
          obtain ⟨fb, rfl, y1, y2, y3, y4⟩ := hg
          have HR2 := Lib.hid hr
          clear hr
          go_wp2_with fail
          refine ⟨rfl, ?_⟩
          rw [hFF.out, HR2.out]
          exact Fails.mono (w1 := W2) ⟨fb, rfl, y1, y2, y3, y4⟩ hbw2
        | ok z' =>
          rw [hr] at hg
          obtain ⟨qa, qc, rfl, hq, hb5⟩ := hg
          have HR2 := Lib.hid hr
          clear hr
          have m0 := cell_kept hb5 m0
          have m1 := cell_kept hb5 m1
          have f0 := frozen_kept hb5 (by omega) f0
          have f1 := frozen_kept hb5 (by omega) f1
          go_wp2_with fail
          refine bodyPost_ret (v := .agg #[.int .i8 z'.k, .slice qa z'.ks.length qc]) (by simp [results, Try.results77, go_sem, m0, m1]) rfl ?_
          rw [hFF.out, HR2.out]
          exact GetsTy.stored (S' := More S w1 W2) hS (fun b hb => by rcases hb with hb | hb; exact ⟨.inl hb, by have := hS b hb; omega⟩; exact ⟨.inr ⟨by omega, by omega⟩, by omega⟩) hq hbw2 hb5 (Nat.le_refl _) (by omega)
end Go.Proofs.Ytaoodchjggimcaa

/- The walk of package rules' rules, by the words of package check: every right term. -/
namespace Go.Proofs.Ytaoodchjggimcaa
open Go.RowKit

theorem rules_c (N : Nat) : ∀ (l : Env) (t : RTm) (B b o : Nat) (s : TmSh) (wb C : Nat) (S : Nat → Prop) (ea : Option Addr) (ec : Nat) (w : World), t.nodes ≤ N → WordsAt w B wb 17 40 41 17 → RTm.At w B b o s t → B ≤ w.heap.size → C ≤ w.heap.size → (∀ b, S b → b < w.heap.size) → (∀ b, b < B → S b) → EnvAt w C S ea ec l → l.length + 2 * t.nodes ≤ 20000 → t.right = true → l.right →
      Calls Try.prog 77 #[.pointer (some ⟨wb, 0, none⟩), .slice ea l.length ec, .pointer (some ⟨b, o, none⟩)] w (GetsTy S (gradual.rules N l t) w) := by
  induction N with
  | zero => intro l t B b o s wb C S ea ec w h; have := t.nodes_pos; omega
  | succ N ih =>
    intro l t B b o s wb C S ea ec w hN hwd hat hB hC hS hBS henv hnl hrt hrl
    have hk := RTm.right_kind hrt
    by_cases h0 : t.k = 0
    · exact rules0_c N l t B b o s wb C S ea ec w hN hwd hat hB hC hS hBS henv hnl hrt hrl h0
    by_cases h1 : t.k = 1
    · exact rules1_c N l t B b o s wb C S ea ec w hN hwd hat hB hC hS hBS henv hnl hrt hrl h1
    by_cases h2 : t.k = 2
    · exact rules2_c N l t B b o s wb C S ea ec w hN hwd hat hB hC hS hBS henv hnl hrt hrl h2
    by_cases h3 : t.k = 3
    · exact rules3_c N l t B b o s wb C S ea ec w hN hwd hat hB hC hS hBS henv hnl hrt hrl h3
    by_cases h4 : t.k = 4
    · exact rules4_c N ih l t B b o s wb C S ea ec w hN hwd hat hB hC hS hBS henv hnl hrt hrl h4
    by_cases h5 : t.k = 5
    · exact rules5_c N ih l t B b o s wb C S ea ec w hN hwd hat hB hC hS hBS henv hnl hrt hrl h5
    by_cases h7 : t.k = 7
    · exact rules7_c N ih l t B b o s wb C S ea ec w hN hwd hat hB hC hS hBS henv hnl hrt hrl h7
    by_cases h14 : t.k = 14
    · exact rules14_c N ih l t B b o s wb C S ea ec w hN hwd hat hB hC hS hBS henv hnl hrt hrl h14
    have hf : flatKind t.k = true := by
      unfold flatKind
      simp only [Bool.or_eq_true, beq_iff_eq]
      omega
    rcases kids_some hk.1 hk.2 h0 h1 (by omega) with h | h | h
    · exact rulesF1_c N ih l t B b o s wb C S ea ec w hN hwd hat hB hC hS hBS henv hnl hrt hrl hf h
    · exact rulesF2_c N ih l t B b o s wb C S ea ec w hN hwd hat hB hC hS hBS henv hnl hrt hrl hf h
    · exact rulesF3_c N ih l t B b o s wb C S ea ec w hN hwd hat hB hC hS hBS henv hnl hrt hrl hf h
end Go.Proofs.Ytaoodchjggimcaa

/- The walk of package rules' Type, by the words of package check. -/
set_option linter.unusedVariables false
set_option linter.unusedSimpArgs false
namespace Go.Proofs.Ytaoodchjggimcaa
open Go.RowKit

set_option maxRecDepth 100000 in
set_option maxHeartbeats 4000000 in
theorem type_c (t : RTm) (B : Nat) (s : TmSh) (wb : Nat) (no : Int) (w : World) (hwd : WordsAt w B wb 17 40 41 17) (hin : t.In w B s) (hB : B ≤ w.heap.size) :
    Calls Try.prog 42 #[.pointer (some ⟨wb, 0, none⟩), t.v s, .int .i8 no] w (TypePost (gradual.type t no) w) := by
  have hmf := @makeFunc_run Try.prog
  have hwl := hwd.lt
  go_enter_defers Try.func42, Try.ntmps42
  go_wp2_with fail
  generalize hW : World.alloc _ _ = w0
  have hb0 : Below w.heap.size w w0 := by rw [← hW]; (repeat (first | assumption | exact Below.refl _ _ | apply below_drewN | apply Below.drew | (refine Below.alloc ?_ (by first | omega | (simp; done) | (simp; omega)) _) | (refine Below.setCell ?_ (by first | omega | (simp; done) | (simp; omega)) _)))
  have hz0 : w0.heap.size = w.heap.size + 1 + 1 + 1 := by rw [← hW]; simp
  have hat0 : RTm.At w0 (w.heap.size + 1) w.heap.size 0 s t := by
    rw [← hW]
    exact RTm.At.boxed hin hB (E := 28) (by (repeat (first | assumption | exact Below.refl _ _ | apply below_drewN | apply Below.drew | (refine Below.alloc ?_ (by first | omega | (simp; done) | (simp; omega)) _) | (refine Below.setCell ?_ (by first | omega | (simp; done) | (simp; omega)) _))))
  have q0 : w0.cell? ⟨w.heap.size + 1, 0, none⟩ = some (.int .i8 0) := by rw [← hW]; simp [go_sem]
  have q1 : w0.cell? ⟨w.heap.size + 1, 1, none⟩ = some (.slice none 0 0) := by rw [← hW]; simp [go_sem]
  have q2 : w0.cell? ⟨w.heap.size + 1 + 1, 0, none⟩ = some .nilIface := by rw [← hW]; simp [go_sem]
  have f0 : w0.frozen? ⟨w.heap.size + 1, 0, none⟩ = false := by rw [← hW]; simp [go_sem]
  have f1 : w0.frozen? ⟨w.heap.size + 1, 1, none⟩ = false := by rw [← hW]; simp [go_sem]
  have f2 : w0.frozen? ⟨w.heap.size + 1 + 1, 0, none⟩ = false := by rw [← hW]; simp [go_sem]
  clear hW
  refine (mcheck_any t B s _ (hin.below hb0 hB) (by omega)).mono ?_
  rintro e w1 ⟨rfl, hb1⟩
  have hs1 := hb1.size
  have hb01 : Below w.heap.size w w1 := hb0.trans (hb1.mono (by omega))
  have q0 := cell_kept hb1 q0
  have q1 := cell_kept hb1 q1
  have q2 := cell_kept hb1 q2
  have f0 := frozen_kept hb1 (by omega) f0
  have f1 := frozen_kept hb1 (by omega) f1
  have f2 := frozen_kept hb1 (by omega) f2
  have hat1 := hat0.below hb1 (by omega)
  have hz1 : w.heap.size + 1 + 1 + 1 ≤ w1.heap.size := by omega
  clear hz0 hat0 hb0 hb1 hs1
  by_cases hc : t.check = 0
  · have hcr := RTm.check_right hc
    have hce : (t.check != 0) = false := by simp [hc]
    by_cases hh : t.has no = true
    · have E := Lib.hid (Mode.type_has (M := gradual) hc hh)
      have HH := Lib.hid hh
      clear hc hh
      go_wp2_with fail
      refine (has_any t.nodes t (w.heap.size + 1) w.heap.size 0 no s w1 (Nat.le_refl _) hat1 (by omega)).mono ?_
      rintro e _ ⟨rfl, rfl⟩
      have hh := HH.out
      have p0 : ∀ o, (w1.alloc o).cell? ⟨w.heap.size + 1, 0, none⟩ = some (.int .i8 0) := fun o => cell_kept (below_new w1 o) q0
      have p1 : ∀ o, (w1.alloc o).cell? ⟨w.heap.size + 1, 1, none⟩ = some (.slice none 0 0) := fun o => cell_kept (below_new w1 o) q1
      have p2 : ∀ o, (w1.alloc o).cell? ⟨w.heap.size + 1 + 1, 0, none⟩ = some .nilIface := fun o => cell_kept (below_new w1 o) q2
      have y0 : ∀ o, (w1.alloc o).frozen? ⟨w.heap.size + 1, 0, none⟩ = false := fun o => frozen_kept (below_new w1 o) (by omega) f0
      have y1 : ∀ o, (w1.alloc o).frozen? ⟨w.heap.size + 1, 1, none⟩ = false := fun o => frozen_kept (below_new w1 o) (by omega) f1
      have y2 : ∀ o, (w1.alloc o).frozen? ⟨w.heap.size + 1 + 1, 0, none⟩ = false := fun o => frozen_kept (below_new w1 o) (by omega) f2
      go_wp2_with fail
      rw [E.out]
      refine ⟨.tuple #[.agg #[.int .i8 0, .slice none 0 0], .iface 91 (.pointer (some ⟨w1.heap.size, 0, none⟩))], by simp [results, Try.results42, go_sem, p0, p1, p2], w1.heap.size, rfl, by omega, by simp, ⟨?_, ?_, ?_⟩, ?_⟩
      · simp [go_sem]
      · simp [go_sem]
      · simp [go_sem]
      · (repeat (first | assumption | exact Below.refl _ _ | apply below_drewN | apply Below.drew | (refine Below.alloc ?_ (by first | omega | (simp; done) | (simp; omega)) _) | (refine Below.setCell ?_ (by first | omega | (simp; done) | (simp; omega)) _)))
    · have hh' : t.has no = false := by simpa using hh
      have E := Lib.hid (Mode.type_rules (M := gradual) hc hh')
      have HH := Lib.hid hh'
      clear hc hh hh'
      go_wp2_with fail
      refine (has_any t.nodes t (w.heap.size + 1) w.heap.size 0 no s w1 (Nat.le_refl _) hat1 (by omega)).mono ?_
      rintro e _ ⟨rfl, rfl⟩
      have hh := HH.out
      go_wp2_with fail
      have hx := rules_c t.nodes [] t (w.heap.size + 1) w.heap.size 0 s wb 0 (fun b => b < w.heap.size + 1) none 0 w1 (Nat.le_refl _) ((hwd.below hb01 hB).up (by omega)) hat1 (by omega) (by omega) (fun b hb => by omega) (fun b hb => hb) (EnvAt.nil _ _ _) (by simp; omega) hcr.2 (by intro p hp; cases hp)
      refine hx.mono ?_
      clear hx
      intro e w2 hg
      cases hr : gradual.rules t.nodes [] t with
      | error f =>
        rw [hr] at hg
        obtain ⟨fb, rfl, g1, g2, g3, g4⟩ := hg
        have HR := Lib.hid hr
        clear hr
        have hs2 := g4.size
        have q0 := cell_kept g4 q0
        have q1 := cell_kept g4 q1
        have q2 := cell_kept g4 q2
        have f0 := frozen_kept g4 (by omega) f0
        have f1 := frozen_kept g4 (by omega) f1
        have f2 := frozen_kept g4 (by omega) f2
        go_wp2_with fail
        refine leaves_cons (f := 75) (args := #[.pointer (some ⟨w.heap.size + 1, 0, none⟩), .pointer (some ⟨w.heap.size + 1 + 1, 0, none⟩)]) (by simp) (by simp [go_sem]) ?_
        refine (typeD_panic (w.heap.size + 1) (w.heap.size + 1 + 1) fb _ _ _ [] _ q0 q1 q2 f0 f1 f2 (by omega)).mono ?_
        rintro e u' w'' ⟨rfl, rfl, rfl⟩
        simp [Leaves, settle, results, Try.results42, go_sem, q0, q1, q2]
        rw [E.out, HR.out]
        have hb4 := hb01.trans (g4.mono (by omega))
        refine ⟨fb, rfl, by omega, by simpa using g2, ⟨?_, ?_, ?_⟩, ?_⟩
        · rw [World.cell?_setCell_far _ _ _ _ (by show w.heap.size + 1 + 1 ≠ fb; omega), World.cell?_setCell_far _ _ _ _ (by show w.heap.size + 1 ≠ fb; omega), World.cell?_setCell_far _ _ _ _ (by show w.heap.size + 1 ≠ fb; omega)]; exact g3.1
        · rw [World.cell?_setCell_far _ _ _ _ (by show w.heap.size + 1 + 1 ≠ fb; omega), World.cell?_setCell_far _ _ _ _ (by show w.heap.size + 1 ≠ fb; omega), World.cell?_setCell_far _ _ _ _ (by show w.heap.size + 1 ≠ fb; omega)]; exact g3.2.1
        · rw [World.cell?_setCell_far _ _ _ _ (by show w.heap.size + 1 + 1 ≠ fb; omega), World.cell?_setCell_far _ _ _ _ (by show w.heap.size + 1 ≠ fb; omega), World.cell?_setCell_far _ _ _ _ (by show w.heap.size + 1 ≠ fb; omega)]; exact g3.2.2
        · (repeat (first | assumption | exact Below.refl _ _ | apply below_drewN | apply Below.drew | (refine Below.alloc ?_ (by first | omega | (simp; done) | (simp; omega)) _) | (refine Below.setCell ?_ (by first | omega | (simp; done) | (simp; omega)) _)))
      | ok x =>
        rw [hr] at hg
        obtain ⟨xa, xc, rfl, hxi, hb2⟩ := hg
        have hrx := Mode.rules_right gradual_good t.nodes [] t x (by intro p hp; cases hp) hcr.2 hr
        have HR := Lib.hid hr
        clear hr
        have hs2 := hb2.size
        have hxin : x.In w2 w2.heap.size xa := RTy.InS.up hxi (More.lt (fun b hb => by have hb : b < w.heap.size + 1 := hb; omega) hs2)
        have q0 := cell_kept hb2 q0
        have q1 := cell_kept hb2 q1
        have q2 := cell_kept hb2 q2
        have f0 := frozen_kept hb2 (by omega) f0
        have f1 := frozen_kept hb2 (by omega) f1
        have f2 := frozen_kept hb2 (by omega) f2
        go_wp2_with fail
        refine (whole_any x.nodes x w2.heap.size xa xc w2 (Nat.le_refl _) hxin hrx (Nat.le_refl _)).mono ?_
        rintro e w3 ⟨ya, yc, rfl, hy, hb3⟩
        have hs3 := hb3.size
        have q0 := cell_kept hb3 q0
        have q1 := cell_kept hb3 q1
        have q2 := cell_kept hb3 q2
        have f0 := frozen_kept hb3 (by omega) f0
        have f1 := frozen_kept hb3 (by omega) f1
        have f2 := frozen_kept hb3 (by omega) f2
        go_wp2_with fail
        refine leaves_cons (f := 75) (args := #[.pointer (some ⟨w.heap.size + 1, 0, none⟩), .pointer (some ⟨w.heap.size + 1 + 1, 0, none⟩)]) (by simp) (by simp [go_sem]) ?_
        refine (typeD_idle ⟨w.heap.size + 1, 0, none⟩ ⟨w.heap.size + 1 + 1, 0, none⟩ _).mono ?_
        rintro e u' w'' ⟨rfl, rfl, rfl⟩
        simp [Leaves, settle, results, Try.results42, go_sem, q0, q1, q2]
        rw [E.out, HR.out]
        have hb4 := hb01.trans (hb2.mono (by omega))
        have hb5 := hb4.trans (hb3.mono (by omega))
        refine ⟨ya, yc, rfl, hy.mono (fun b hb => ⟨by omega, by simpa using hb.2⟩) fun b o hb => ?_, ?_⟩
        · rw [World.cell?_setCell_far _ _ _ _ (by show w.heap.size + 1 + 1 ≠ b; omega), World.cell?_setCell_far _ _ _ _ (by show w.heap.size + 1 ≠ b; omega), World.cell?_setCell_far _ _ _ _ (by show w.heap.size + 1 ≠ b; omega)]
        · (repeat (first | assumption | exact Below.refl _ _ | apply below_drewN | apply Below.drew | (refine Below.alloc ?_ (by first | omega | (simp; done) | (simp; omega)) _) | (refine Below.setCell ?_ (by first | omega | (simp; done) | (simp; omega)) _)))
  · have hce : (t.check != 0) = true := by simp [hc]
    have E := Lib.hid (Mode.type_bad (M := gradual) (no := no) hc)
    clear hc
    have p0 : ∀ o, (w1.alloc o).cell? ⟨w.heap.size + 1, 0, none⟩ = some (.int .i8 0) := fun o => cell_kept (below_new w1 o) q0
    have p1 : ∀ o, (w1.alloc o).cell? ⟨w.heap.size + 1, 1, none⟩ = some (.slice none 0 0) := fun o => cell_kept (below_new w1 o) q1
    have p2 : ∀ o, (w1.alloc o).cell? ⟨w.heap.size + 1 + 1, 0, none⟩ = some .nilIface := fun o => cell_kept (below_new w1 o) q2
    have y0 : ∀ o, (w1.alloc o).frozen? ⟨w.heap.size + 1, 0, none⟩ = false := fun o => frozen_kept (below_new w1 o) (by omega) f0
    have y1 : ∀ o, (w1.alloc o).frozen? ⟨w.heap.size + 1, 1, none⟩ = false := fun o => frozen_kept (below_new w1 o) (by omega) f1
    have y2 : ∀ o, (w1.alloc o).frozen? ⟨w.heap.size + 1 + 1, 0, none⟩ = false := fun o => frozen_kept (below_new w1 o) (by omega) f2
    go_wp2_with fail
    rw [E.out]
    refine ⟨.tuple #[.agg #[.int .i8 0, .slice none 0 0], .iface 91 (.pointer (some ⟨w1.heap.size, 0, none⟩))], by simp [results, Try.results42, go_sem, p0, p1, p2], w1.heap.size, rfl, by omega, by simp, ⟨?_, ?_, ?_⟩, ?_⟩
    · simp [go_sem]
    · simp [go_sem]
    · simp [go_sem]
    · (repeat (first | assumption | exact Below.refl _ _ | apply below_drewN | apply Below.drew | (refine Below.alloc ?_ (by first | omega | (simp; done) | (simp; omega)) _) | (refine Below.setCell ?_ (by first | omega | (simp; done) | (simp; omega)) _)))
end Go.Proofs.Ytaoodchjggimcaa

/- The walk of check.Type. -/
set_option linter.unusedVariables false
set_option linter.unusedSimpArgs false
namespace Go.Proofs.Ytaoodchjggimcaa
open Go.RowKit

set_option maxRecDepth 100000 in
set_option maxHeartbeats 4000000 in
theorem checkType_any (t : RTm) (B : Nat) (s : TmSh) (w : World) (hin : t.In w B s) (hB : B ≤ w.heap.size) :
    Calls Try.prog 11 #[t.v s] w (TypePost (gradual.type t 17) w) := by
  go_enter Try.func11, Try.ntmps11
  go_wp2_with fail
  generalize hW : World.alloc _ _ = w0
  have hb0 : Below w.heap.size w w0 := by rw [← hW]; (repeat (first | assumption | exact Below.refl _ _ | apply below_drewN | apply Below.drew | (refine Below.alloc ?_ (by first | omega | (simp; done) | (simp; omega)) _) | (refine Below.setCell ?_ (by first | omega | (simp; done) | (simp; omega)) _)))
  have hz0 : w0.heap.size = w.heap.size + 1 + 1 + 1 := by rw [← hW]; simp
  have q0 : w0.cell? ⟨w.heap.size + 1, 0, none⟩ = some (.int .i8 0) := by rw [← hW]; simp [go_sem]
  have q1 : w0.cell? ⟨w.heap.size + 1, 1, none⟩ = some (.slice none 0 0) := by rw [← hW]; simp [go_sem]
  have f0 : w0.frozen? ⟨w.heap.size + 1, 0, none⟩ = false := by rw [← hW]; simp [go_sem]
  have f1 : w0.frozen? ⟨w.heap.size + 1, 1, none⟩ = false := by rw [← hW]; simp [go_sem]
  have hwd : WordsAt w0 (w.heap.size + 1 + 1 + 1) (w.heap.size + 1 + 1) 17 40 41 17 := by
    rw [← hW]
    exact ⟨by omega, by simp [go_sem], by simp [go_sem], by simp [go_sem], by simp [go_sem]⟩
  clear hW
  refine (type_c t (w.heap.size + 1 + 1 + 1) s (w.heap.size + 1 + 1) 17 w0 hwd ((hin.below hb0 hB).up (by omega)) (by omega)).mono ?_
  intro e w1 hg
  cases hr : gradual.type t 17 with
  | error f =>
    rw [hr] at hg
    obtain ⟨b, rfl, g1, g2, g3, g4⟩ := hg
    have HR := Lib.hid hr
    clear hr
    have q0 := cell_kept g4 q0
    have q1 := cell_kept g4 q1
    have f0 := frozen_kept g4 (by omega) f0
    have f1 := frozen_kept g4 (by omega) f1
    have hs := g4.size
    go_wp2_with fail
    refine bodyPost_ret (v := .tuple #[.agg #[.int .i8 0, .slice none 0 0], .iface 91 (.pointer (some ⟨b, 0, none⟩))]) (by simp [results, Try.results11, go_sem, q0, q1]) rfl ?_
    have hb := hb0.trans (g4.mono (by omega))
    rw [HR.out]
    refine ⟨b, rfl, by omega, by simpa using g2, ⟨?_, ?_, ?_⟩, ?_⟩
    · rw [World.cell?_setCell_far _ _ _ _ (by show w.heap.size + 1 ≠ b; omega), World.cell?_setCell_far _ _ _ _ (by show w.heap.size + 1 ≠ b; omega)]; exact g3.1
    · rw [World.cell?_setCell_far _ _ _ _ (by show w.heap.size + 1 ≠ b; omega), World.cell?_setCell_far _ _ _ _ (by show w.heap.size + 1 ≠ b; omega)]; exact g3.2.1
    · rw [World.cell?_setCell_far _ _ _ _ (by show w.heap.size + 1 ≠ b; omega), World.cell?_setCell_far _ _ _ _ (by show w.heap.size + 1 ≠ b; omega)]; exact g3.2.2
    · (repeat (first | assumption | exact Below.refl _ _ | apply below_drewN | apply Below.drew | (refine Below.alloc ?_ (by first | omega | (simp; done) | (simp; omega)) _) | (refine Below.setCell ?_ (by first | omega | (simp; done) | (simp; omega)) _)))
  | ok x =>
    rw [hr] at hg
    obtain ⟨ya, yc, rfl, hy, hb1⟩ := hg
    have HR := Lib.hid hr
    clear hr
    have q0 := cell_kept hb1 q0
    have q1 := cell_kept hb1 q1
    have f0 := frozen_kept hb1 (by omega) f0
    have f1 := frozen_kept hb1 (by omega) f1
    have hs := hb1.size
    go_wp2_with fail
    refine bodyPost_ret (v := .tuple #[.agg #[.int .i8 x.k, .slice ya x.ks.length yc], .nilIface]) (by simp [results, Try.results11, go_sem, q0, q1]) rfl ?_
    have hb := hb0.trans (hb1.mono (by omega))
    rw [HR.out]
    refine ⟨ya, yc, rfl, hy.mono (fun b hb => ⟨by omega, by simpa using hb.2⟩) fun b o hb => ?_, ?_⟩
    · rw [World.cell?_setCell_far _ _ _ _ (by show w.heap.size + 1 ≠ b; omega), World.cell?_setCell_far _ _ _ _ (by show w.heap.size + 1 ≠ b; omega)]
    · (repeat (first | assumption | exact Below.refl _ _ | apply below_drewN | apply Below.drew | (refine Below.alloc ?_ (by first | omega | (simp; done) | (simp; omega)) _) | (refine Below.setCell ?_ (by first | omega | (simp; done) | (simp; omega)) _)))
end Go.Proofs.Ytaoodchjggimcaa

/- The walk of the law CheckParts. -/
set_option linter.unusedVariables false
set_option linter.unusedSimpArgs false
namespace Go.Proofs.Ytaoodchjggimcaa
open Go.RowKit

set_option maxRecDepth 100000 in
set_option maxHeartbeats 4000000 in
theorem checkParts_any (t u : RTm) (B : Nat) (s s' : TmSh) (w : World) (hin : t.In w B s) (hin' : u.In w B s') (hB : B ≤ w.heap.size) :
    Calls Try.prog 3 #[t.v s, u.v s'] w fun e w' => e = .returned (.bool true) ∧ Below w.heap.size w w' := by
  have hlaw0 := partsLaw_true t u
  unfold partsLaw at hlaw0
  have hlaw := Lib.hid hlaw0
  clear hlaw0
  go_enter Try.func3, Try.ntmps3
  go_wp2_with fail
  generalize hW : World.alloc (World.alloc w _) _ = w0
  have hb0 : Below w.heap.size w w0 := by rw [← hW]; (repeat (first | assumption | exact Below.refl _ _ | apply below_drewN | apply Below.drew | (refine Below.alloc ?_ (by first | omega | (simp; done) | (simp; omega)) _) | (refine Below.setCell ?_ (by first | omega | (simp; done) | (simp; omega)) _)))
  have hz0 : w0.heap.size = w.heap.size + 1 + 1 := by rw [← hW]; simp
  have t0 : w0.cell? ⟨w.heap.size, 0, none⟩ = some (.int .i8 t.k) := by rw [← hW]; simp [go_sem]
  have t1 : w0.cell? ⟨w.heap.size, 1, none⟩ = some (.string t.name) := by rw [← hW]; simp [go_sem]
  have t2 : w0.cell? ⟨w.heap.size, 2, none⟩ = some (.string t.arg) := by rw [← hW]; simp [go_sem]
  have t3 : w0.cell? ⟨w.heap.size, 3, none⟩ = some (.int .i64 t.num) := by rw [← hW]; simp [go_sem]
  have t4 : w0.cell? ⟨w.heap.size, 4, none⟩ = some (.int .i8 t.ty.k) := by rw [← hW]; simp [go_sem]
  have t5 : w0.cell? ⟨w.heap.size, 5, none⟩ = some (.slice s.ta t.ty.ks.length s.tc) := by rw [← hW]; simp [go_sem]
  have t6 : w0.cell? ⟨w.heap.size, 6, none⟩ = some (.int .i8 t.to.k) := by rw [← hW]; simp [go_sem]
  have t7 : w0.cell? ⟨w.heap.size, 7, none⟩ = some (.slice s.oa t.to.ks.length s.oc) := by rw [← hW]; simp [go_sem]
  have t8 : w0.cell? ⟨w.heap.size, 8, none⟩ = some (.int .i64 t.label) := by rw [← hW]; simp [go_sem]
  have t9 : w0.cell? ⟨w.heap.size, 9, none⟩ = some (.int .i64 t.spot) := by rw [← hW]; simp [go_sem]
  have t10 : w0.cell? ⟨w.heap.size, 10, none⟩ = some (.slice s.ka t.ks.length s.kc) := by rw [← hW]; simp [go_sem]
  have u0 : w0.cell? ⟨w.heap.size + 1, 0, none⟩ = some (.int .i8 u.k) := by rw [← hW]; simp [go_sem]
  have u1 : w0.cell? ⟨w.heap.size + 1, 1, none⟩ = some (.string u.name) := by rw [← hW]; simp [go_sem]
  have u2 : w0.cell? ⟨w.heap.size + 1, 2, none⟩ = some (.string u.arg) := by rw [← hW]; simp [go_sem]
  have u3 : w0.cell? ⟨w.heap.size + 1, 3, none⟩ = some (.int .i64 u.num) := by rw [← hW]; simp [go_sem]
  have u4 : w0.cell? ⟨w.heap.size + 1, 4, none⟩ = some (.int .i8 u.ty.k) := by rw [← hW]; simp [go_sem]
  have u5 : w0.cell? ⟨w.heap.size + 1, 5, none⟩ = some (.slice s'.ta u.ty.ks.length s'.tc) := by rw [← hW]; simp [go_sem]
  have u6 : w0.cell? ⟨w.heap.size + 1, 6, none⟩ = some (.int .i8 u.to.k) := by rw [← hW]; simp [go_sem]
  have u7 : w0.cell? ⟨w.heap.size + 1, 7, none⟩ = some (.slice s'.oa u.to.ks.length s'.oc) := by rw [← hW]; simp [go_sem]
  have u8 : w0.cell? ⟨w.heap.size + 1, 8, none⟩ = some (.int .i64 u.label) := by rw [← hW]; simp [go_sem]
  have u9 : w0.cell? ⟨w.heap.size + 1, 9, none⟩ = some (.int .i64 u.spot) := by rw [← hW]; simp [go_sem]
  have u10 : w0.cell? ⟨w.heap.size + 1, 10, none⟩ = some (.slice s'.ka u.ks.length s'.kc) := by rw [← hW]; simp [go_sem]
  clear hW
  have HT := Lib.hid fun (W : World) (hW : Below w0.heap.size w0 W) => And.intro (cell_kept hW t0) (And.intro (cell_kept hW t1) (And.intro (cell_kept hW t2) (And.intro (cell_kept hW t3) (And.intro (cell_kept hW t4) (And.intro (cell_kept hW t5) (And.intro (cell_kept hW t6) (And.intro (cell_kept hW t7) (And.intro (cell_kept hW t8) (And.intro (cell_kept hW t9) (cell_kept hW t10))))))))))
  have HU := Lib.hid fun (W : World) (hW : Below w0.heap.size w0 W) => And.intro (cell_kept hW u0) (And.intro (cell_kept hW u1) (And.intro (cell_kept hW u2) (And.intro (cell_kept hW u3) (And.intro (cell_kept hW u4) (And.intro (cell_kept hW u5) (And.intro (cell_kept hW u6) (And.intro (cell_kept hW u7) (And.intro (cell_kept hW u8) (And.intro (cell_kept hW u9) (cell_kept hW u10))))))))))
  clear t0 t1 t2 t3 t4 t5 t6 t7 t8 t9 t10
  clear u0 u1 u2 u3 u4 u5 u6 u7 u8 u9 u10
  have hl0 : w.heap.size < w0.heap.size := by omega
  have hl1 : w.heap.size + 1 < w0.heap.size := by omega
  have hzz : w.heap.size + 1 + 1 ≤ w0.heap.size := by omega
  clear hz0
  refine (checkType_any t B s w0 (hin.below hb0 hB) (by omega)).mono ?_
  intro e w1 hg1
  cases hr1 : gradual.type t 17 with
  | error f1 =>
    rw [hr1] at hg1
    have HR1 := Lib.hid hr1
    clear hr1
    obtain ⟨fb1, rfl, g1, g2, g3, hb1⟩ := hg1
    clear g1 g2 g3
    have hs1 := hb1.size
    have hbw1 := hb0.trans (hb1.mono (Nat.le_of_lt hl0))
    obtain ⟨t0, t1, t2, t3, t4, t5, t6, t7, t8, t9, t10⟩ := HT.out _ hb1
    obtain ⟨u0, u1, u2, u3, u4, u5, u6, u7, u8, u9, u10⟩ := HU.out _ hb1
    have hm0 : w.heap.size < w1.heap.size := by omega
    have hm1 : w.heap.size + 1 < w1.heap.size := by omega
    go_wp2_with fail
    generalize hW : World.alloc w1 _ = w2
    have hb2 : Below w1.heap.size w1 w2 := by rw [← hW]; (repeat (first | assumption | exact Below.refl _ _ | apply below_drewN | apply Below.drew | (refine Below.alloc ?_ (by first | omega | (simp; done) | (simp; omega)) _) | (refine Below.setCell ?_ (by first | omega | (simp; done) | (simp; omega)) _)))
    have hz2 : w1.heap.size < w2.heap.size := by rw [← hW]; simp
    have a0 : w2.cell? ⟨w1.heap.size, 0, none⟩ = some (.int .i8 0) := by rw [← hW]; simp [go_sem]
    have a1 : w2.cell? ⟨w1.heap.size, 1, none⟩ = some (.slice none 0 0) := by rw [← hW]; simp [go_sem]
    clear hW
    have HA := Lib.hid fun (W : World) (hW : Below w2.heap.size w2 W) => And.intro (cell_kept hW a0) (cell_kept hW a1)
    clear a0 a1
    clear t0 t1 t2 t3 t4 t5 t6 t7 t8 t9 t10
    clear u0 u1 u2 u3 u4 u5 u6 u7 u8 u9 u10
    have hb02 : Below w0.heap.size w0 w2 := hb1.trans (hb2.mono hs1)
    have hbw2 := hb0.trans (hb02.mono (Nat.le_of_lt hl0))
    refine (checkType_any u B s' w2 (hin'.below hbw2 hB) (by omega)).mono ?_
    intro e w3 hg3
    cases hr2 : gradual.type u 17 with
    | error f2 =>
      rw [hr2] at hg3
      have HR2 := Lib.hid hr2
      clear hr2
      obtain ⟨fb3, rfl, g1, g2, g3, hb3⟩ := hg3
      clear g1 g2 g3
      have hs3 := hb3.size
      have hb03 : Below w0.heap.size w0 w3 := hb02.trans (hb3.mono (by omega))
      obtain ⟨t0, t1, t2, t3, t4, t5, t6, t7, t8, t9, t10⟩ := HT.out _ hb03
      obtain ⟨u0, u1, u2, u3, u4, u5, u6, u7, u8, u9, u10⟩ := HU.out _ hb03
      have hm2 : w.heap.size < w3.heap.size := by omega
      have hm3 : w.heap.size + 1 < w3.heap.size := by omega
      go_wp2_with fail
      generalize hV : World.alloc w3 _ = w4
      have hb4 : Below w3.heap.size w3 w4 := by rw [← hV]; (repeat (first | assumption | exact Below.refl _ _ | apply below_drewN | apply Below.drew | (refine Below.alloc ?_ (by first | omega | (simp; done) | (simp; omega)) _) | (refine Below.setCell ?_ (by first | omega | (simp; done) | (simp; omega)) _)))
      have hz4 : w4.heap.size = w3.heap.size + 1 := by rw [← hV]; simp
      have b0 : w4.cell? ⟨w3.heap.size, 0, none⟩ = some (.int .i8 0) := by rw [← hV]; simp [go_sem]
      have b1 : w4.cell? ⟨w3.heap.size, 1, none⟩ = some (.slice none 0 0) := by rw [← hV]; simp [go_sem]
      clear hV
      have HB := Lib.hid fun (W : World) (hW : Below w4.heap.size w4 W) => And.intro (cell_kept hW b0) (cell_kept hW b1)
      clear b0 b1
      clear t0 t1 t2 t3 t4 t5 t6 t7 t8 t9 t10
      clear u0 u1 u2 u3 u4 u5 u6 u7 u8 u9 u10
      have hb04 : Below w0.heap.size w0 w4 := hb03.trans (hb4.mono (by omega))
      have hbw4 := hb0.trans (hb04.mono (Nat.le_of_lt hl0))
      have hp := pairT_new (w := w4) (E := 28) (cs := #[.int .i8 t.k, .string t.name, .string t.arg, .int .i64 t.num, .int .i8 t.ty.k, .slice s.ta t.ty.ks.length s.tc, .int .i8 t.to.k, .slice s.oa t.to.ks.length s.oc, .int .i64 t.label, .int .i64 t.spot, .slice s.ka t.ks.length s.kc, .int .i8 u.k, .string u.name, .string u.arg, .int .i64 u.num, .int .i8 u.ty.k, .slice s'.ta u.ty.ks.length s'.tc, .int .i8 u.to.k, .slice s'.oa u.to.ks.length s'.oc, .int .i64 u.label, .int .i64 u.spot, .slice s'.ka u.ks.length s'.kc]) rfl (hin.below hbw4 hB) (hin'.below hbw4 hB) (by omega)
      rw [hz4] at hp
      generalize hW : World.alloc w4 _ = w5 at *
      have hb5 : Below w4.heap.size w4 w5 := by rw [← hW]; (repeat (first | assumption | exact Below.refl _ _ | apply below_drewN | apply Below.drew | (refine Below.alloc ?_ (by first | omega | (simp; done) | (simp; omega)) _) | (refine Below.setCell ?_ (by first | omega | (simp; done) | (simp; omega)) _)))
      have hps : w3.heap.size + 1 + 1 ≤ w5.heap.size := by rw [← hW]; simp [hz4]
      clear hW
      have hz4 : w3.heap.size < w4.heap.size := by omega
      have hcall := checkType_any (pairT t u) (w3.heap.size + 1 + 1) (pairSh (w3.heap.size + 1)) w5 hp hps
      clear hp
      refine hcall.mono ?_
      clear hcall
      intro e w6 hg6
      have hs5 := hb5.size
      have hb05 := hb04.trans (hb5.mono (by omega))
      cases hr3 : gradual.type (pairT t u) 17 with
      | error f3 =>
        rw [hr3] at hg6
        have HR3 := Lib.hid hr3
        clear hr3
        obtain ⟨fb6, rfl, g1, g2, g3, hb6⟩ := hg6
        clear g1 g2 g3
        have hs6 := hb6.size
        have hb46 := hb5.trans (hb6.mono hs5)
        have hb36 := hb4.trans (hb46.mono (by omega))
        have hb26 := hb3.trans (hb36.mono hs3)
        have hb16 := hb2.trans (hb26.mono (by omega))
        have hb06 := hb1.trans (hb16.mono hs1)
        have hbw6 := hb0.trans (hb06.mono (Nat.le_of_lt hl0))
        go_wp2_with fail
        go_ret
        refine ⟨rfl, ?_⟩
        (repeat (first | assumption | exact Below.refl _ _ | apply below_drewN | apply Below.drew | (refine Below.alloc ?_ (by first | omega | (simp; done) | (simp; omega)) _) | (refine Below.setCell ?_ (by first | omega | (simp; done) | (simp; omega)) _)))
      | ok z =>
        rw [hr3] at hg6
        have HR3 := Lib.hid hr3
        clear hr3
        have hv := hlaw.out
        rw [HR1.out, HR2.out, HR3.out] at hv
        simp [isOk] at hv
    | ok y =>
      rw [hr2] at hg3
      have HR2 := Lib.hid hr2
      clear hr2
      obtain ⟨ya, yc, rfl, hy, hb3⟩ := hg3
      have hy : y.In w3 w3.heap.size ya := RTy.InS.up hy fun b hb => hb.2
      have hs3 := hb3.size
      have hb03 : Below w0.heap.size w0 w3 := hb02.trans (hb3.mono (by omega))
      obtain ⟨t0, t1, t2, t3, t4, t5, t6, t7, t8, t9, t10⟩ := HT.out _ hb03
      obtain ⟨u0, u1, u2, u3, u4, u5, u6, u7, u8, u9, u10⟩ := HU.out _ hb03
      have hm2 : w.heap.size < w3.heap.size := by omega
      have hm3 : w.heap.size + 1 < w3.heap.size := by omega
      go_wp2_with fail
      generalize hV : World.alloc w3 _ = w4
      have hb4 : Below w3.heap.size w3 w4 := by rw [← hV]; (repeat (first | assumption | exact Below.refl _ _ | apply below_drewN | apply Below.drew | (refine Below.alloc ?_ (by first | omega | (simp; done) | (simp; omega)) _) | (refine Below.setCell ?_ (by first | omega | (simp; done) | (simp; omega)) _)))
      have hz4 : w4.heap.size = w3.heap.size + 1 := by rw [← hV]; simp
      have b0 : w4.cell? ⟨w3.heap.size, 0, none⟩ = some (.int .i8 y.k) := by rw [← hV]; simp [go_sem]
      have b1 : w4.cell? ⟨w3.heap.size, 1, none⟩ = some (.slice ya y.ks.length yc) := by rw [← hV]; simp [go_sem]
      clear hV
      have HB := Lib.hid fun (W : World) (hW : Below w4.heap.size w4 W) => And.intro (cell_kept hW b0) (cell_kept hW b1)
      clear b0 b1
      clear t0 t1 t2 t3 t4 t5 t6 t7 t8 t9 t10
      clear u0 u1 u2 u3 u4 u5 u6 u7 u8 u9 u10
      have hb04 : Below w0.heap.size w0 w4 := hb03.trans (hb4.mono (by omega))
      have hbw4 := hb0.trans (hb04.mono (Nat.le_of_lt hl0))
      have hp := pairT_new (w := w4) (E := 28) (cs := #[.int .i8 t.k, .string t.name, .string t.arg, .int .i64 t.num, .int .i8 t.ty.k, .slice s.ta t.ty.ks.length s.tc, .int .i8 t.to.k, .slice s.oa t.to.ks.length s.oc, .int .i64 t.label, .int .i64 t.spot, .slice s.ka t.ks.length s.kc, .int .i8 u.k, .string u.name, .string u.arg, .int .i64 u.num, .int .i8 u.ty.k, .slice s'.ta u.ty.ks.length s'.tc, .int .i8 u.to.k, .slice s'.oa u.to.ks.length s'.oc, .int .i64 u.label, .int .i64 u.spot, .slice s'.ka u.ks.length s'.kc]) rfl (hin.below hbw4 hB) (hin'.below hbw4 hB) (by omega)
      rw [hz4] at hp
      generalize hW : World.alloc w4 _ = w5 at *
      have hb5 : Below w4.heap.size w4 w5 := by rw [← hW]; (repeat (first | assumption | exact Below.refl _ _ | apply below_drewN | apply Below.drew | (refine Below.alloc ?_ (by first | omega | (simp; done) | (simp; omega)) _) | (refine Below.setCell ?_ (by first | omega | (simp; done) | (simp; omega)) _)))
      have hps : w3.heap.size + 1 + 1 ≤ w5.heap.size := by rw [← hW]; simp [hz4]
      clear hW
      have hz4 : w3.heap.size < w4.heap.size := by omega
      have hcall := checkType_any (pairT t u) (w3.heap.size + 1 + 1) (pairSh (w3.heap.size + 1)) w5 hp hps
      clear hp
      refine hcall.mono ?_
      clear hcall
      intro e w6 hg6
      have hs5 := hb5.size
      have hb05 := hb04.trans (hb5.mono (by omega))
      cases hr3 : gradual.type (pairT t u) 17 with
      | error f3 =>
        rw [hr3] at hg6
        have HR3 := Lib.hid hr3
        clear hr3
        obtain ⟨fb6, rfl, g1, g2, g3, hb6⟩ := hg6
        clear g1 g2 g3
        have hs6 := hb6.size
        have hb46 := hb5.trans (hb6.mono hs5)
        have hb36 := hb4.trans (hb46.mono (by omega))
        have hb26 := hb3.trans (hb36.mono hs3)
        have hb16 := hb2.trans (hb26.mono (by omega))
        have hb06 := hb1.trans (hb16.mono hs1)
        have hbw6 := hb0.trans (hb06.mono (Nat.le_of_lt hl0))
        go_wp2_with fail
        go_ret
        refine ⟨rfl, ?_⟩
        (repeat (first | assumption | exact Below.refl _ _ | apply below_drewN | apply Below.drew | (refine Below.alloc ?_ (by first | omega | (simp; done) | (simp; omega)) _) | (refine Below.setCell ?_ (by first | omega | (simp; done) | (simp; omega)) _)))
      | ok z =>
        rw [hr3] at hg6
        have HR3 := Lib.hid hr3
        clear hr3
        have hv := hlaw.out
        rw [HR1.out, HR2.out, HR3.out] at hv
        simp [isOk] at hv
  | ok x =>
    rw [hr1] at hg1
    have HR1 := Lib.hid hr1
    clear hr1
    obtain ⟨xa, xc, rfl, hx, hb1⟩ := hg1
    have hx : x.In w1 w1.heap.size xa := RTy.InS.up hx fun b hb => hb.2
    have hs1 := hb1.size
    have hbw1 := hb0.trans (hb1.mono (Nat.le_of_lt hl0))
    obtain ⟨t0, t1, t2, t3, t4, t5, t6, t7, t8, t9, t10⟩ := HT.out _ hb1
    obtain ⟨u0, u1, u2, u3, u4, u5, u6, u7, u8, u9, u10⟩ := HU.out _ hb1
    have hm0 : w.heap.size < w1.heap.size := by omega
    have hm1 : w.heap.size + 1 < w1.heap.size := by omega
    go_wp2_with fail
    generalize hW : World.alloc w1 _ = w2
    have hb2 : Below w1.heap.size w1 w2 := by rw [← hW]; (repeat (first | assumption | exact Below.refl _ _ | apply below_drewN | apply Below.drew | (refine Below.alloc ?_ (by first | omega | (simp; done) | (simp; omega)) _) | (refine Below.setCell ?_ (by first | omega | (simp; done) | (simp; omega)) _)))
    have hz2 : w1.heap.size < w2.heap.size := by rw [← hW]; simp
    have a0 : w2.cell? ⟨w1.heap.size, 0, none⟩ = some (.int .i8 x.k) := by rw [← hW]; simp [go_sem]
    have a1 : w2.cell? ⟨w1.heap.size, 1, none⟩ = some (.slice xa x.ks.length xc) := by rw [← hW]; simp [go_sem]
    clear hW
    have HA := Lib.hid fun (W : World) (hW : Below w2.heap.size w2 W) => And.intro (cell_kept hW a0) (cell_kept hW a1)
    clear a0 a1
    clear t0 t1 t2 t3 t4 t5 t6 t7 t8 t9 t10
    clear u0 u1 u2 u3 u4 u5 u6 u7 u8 u9 u10
    have hb02 : Below w0.heap.size w0 w2 := hb1.trans (hb2.mono hs1)
    have hbw2 := hb0.trans (hb02.mono (Nat.le_of_lt hl0))
    refine (checkType_any u B s' w2 (hin'.below hbw2 hB) (by omega)).mono ?_
    intro e w3 hg3
    cases hr2 : gradual.type u 17 with
    | error f2 =>
      rw [hr2] at hg3
      have HR2 := Lib.hid hr2
      clear hr2
      obtain ⟨fb3, rfl, g1, g2, g3, hb3⟩ := hg3
      clear g1 g2 g3
      have hs3 := hb3.size
      have hb03 : Below w0.heap.size w0 w3 := hb02.trans (hb3.mono (by omega))
      obtain ⟨t0, t1, t2, t3, t4, t5, t6, t7, t8, t9, t10⟩ := HT.out _ hb03
      obtain ⟨u0, u1, u2, u3, u4, u5, u6, u7, u8, u9, u10⟩ := HU.out _ hb03
      have hm2 : w.heap.size < w3.heap.size := by omega
      have hm3 : w.heap.size + 1 < w3.heap.size := by omega
      go_wp2_with fail
      generalize hV : World.alloc w3 _ = w4
      have hb4 : Below w3.heap.size w3 w4 := by rw [← hV]; (repeat (first | assumption | exact Below.refl _ _ | apply below_drewN | apply Below.drew | (refine Below.alloc ?_ (by first | omega | (simp; done) | (simp; omega)) _) | (refine Below.setCell ?_ (by first | omega | (simp; done) | (simp; omega)) _)))
      have hz4 : w4.heap.size = w3.heap.size + 1 := by rw [← hV]; simp
      have b0 : w4.cell? ⟨w3.heap.size, 0, none⟩ = some (.int .i8 0) := by rw [← hV]; simp [go_sem]
      have b1 : w4.cell? ⟨w3.heap.size, 1, none⟩ = some (.slice none 0 0) := by rw [← hV]; simp [go_sem]
      clear hV
      have HB := Lib.hid fun (W : World) (hW : Below w4.heap.size w4 W) => And.intro (cell_kept hW b0) (cell_kept hW b1)
      clear b0 b1
      clear t0 t1 t2 t3 t4 t5 t6 t7 t8 t9 t10
      clear u0 u1 u2 u3 u4 u5 u6 u7 u8 u9 u10
      have hb04 : Below w0.heap.size w0 w4 := hb03.trans (hb4.mono (by omega))
      have hbw4 := hb0.trans (hb04.mono (Nat.le_of_lt hl0))
      have hp := pairT_new (w := w4) (E := 28) (cs := #[.int .i8 t.k, .string t.name, .string t.arg, .int .i64 t.num, .int .i8 t.ty.k, .slice s.ta t.ty.ks.length s.tc, .int .i8 t.to.k, .slice s.oa t.to.ks.length s.oc, .int .i64 t.label, .int .i64 t.spot, .slice s.ka t.ks.length s.kc, .int .i8 u.k, .string u.name, .string u.arg, .int .i64 u.num, .int .i8 u.ty.k, .slice s'.ta u.ty.ks.length s'.tc, .int .i8 u.to.k, .slice s'.oa u.to.ks.length s'.oc, .int .i64 u.label, .int .i64 u.spot, .slice s'.ka u.ks.length s'.kc]) rfl (hin.below hbw4 hB) (hin'.below hbw4 hB) (by omega)
      rw [hz4] at hp
      generalize hW : World.alloc w4 _ = w5 at *
      have hb5 : Below w4.heap.size w4 w5 := by rw [← hW]; (repeat (first | assumption | exact Below.refl _ _ | apply below_drewN | apply Below.drew | (refine Below.alloc ?_ (by first | omega | (simp; done) | (simp; omega)) _) | (refine Below.setCell ?_ (by first | omega | (simp; done) | (simp; omega)) _)))
      have hps : w3.heap.size + 1 + 1 ≤ w5.heap.size := by rw [← hW]; simp [hz4]
      clear hW
      have hz4 : w3.heap.size < w4.heap.size := by omega
      have hcall := checkType_any (pairT t u) (w3.heap.size + 1 + 1) (pairSh (w3.heap.size + 1)) w5 hp hps
      clear hp
      refine hcall.mono ?_
      clear hcall
      intro e w6 hg6
      have hs5 := hb5.size
      have hb05 := hb04.trans (hb5.mono (by omega))
      cases hr3 : gradual.type (pairT t u) 17 with
      | error f3 =>
        rw [hr3] at hg6
        have HR3 := Lib.hid hr3
        clear hr3
        obtain ⟨fb6, rfl, g1, g2, g3, hb6⟩ := hg6
        clear g1 g2 g3
        have hs6 := hb6.size
        have hb46 := hb5.trans (hb6.mono hs5)
        have hb36 := hb4.trans (hb46.mono (by omega))
        have hb26 := hb3.trans (hb36.mono hs3)
        have hb16 := hb2.trans (hb26.mono (by omega))
        have hb06 := hb1.trans (hb16.mono hs1)
        have hbw6 := hb0.trans (hb06.mono (Nat.le_of_lt hl0))
        go_wp2_with fail
        go_ret
        refine ⟨rfl, ?_⟩
        (repeat (first | assumption | exact Below.refl _ _ | apply below_drewN | apply Below.drew | (refine Below.alloc ?_ (by first | omega | (simp; done) | (simp; omega)) _) | (refine Below.setCell ?_ (by first | omega | (simp; done) | (simp; omega)) _)))
      | ok z =>
        rw [hr3] at hg6
        have HR3 := Lib.hid hr3
        clear hr3
        have hv := hlaw.out
        rw [HR1.out, HR2.out, HR3.out] at hv
        simp [isOk] at hv
    | ok y =>
      rw [hr2] at hg3
      have HR2 := Lib.hid hr2
      clear hr2
      obtain ⟨ya, yc, rfl, hy, hb3⟩ := hg3
      have hy : y.In w3 w3.heap.size ya := RTy.InS.up hy fun b hb => hb.2
      have hs3 := hb3.size
      have hb03 : Below w0.heap.size w0 w3 := hb02.trans (hb3.mono (by omega))
      obtain ⟨t0, t1, t2, t3, t4, t5, t6, t7, t8, t9, t10⟩ := HT.out _ hb03
      obtain ⟨u0, u1, u2, u3, u4, u5, u6, u7, u8, u9, u10⟩ := HU.out _ hb03
      have hm2 : w.heap.size < w3.heap.size := by omega
      have hm3 : w.heap.size + 1 < w3.heap.size := by omega
      go_wp2_with fail
      generalize hV : World.alloc w3 _ = w4
      have hb4 : Below w3.heap.size w3 w4 := by rw [← hV]; (repeat (first | assumption | exact Below.refl _ _ | apply below_drewN | apply Below.drew | (refine Below.alloc ?_ (by first | omega | (simp; done) | (simp; omega)) _) | (refine Below.setCell ?_ (by first | omega | (simp; done) | (simp; omega)) _)))
      have hz4 : w4.heap.size = w3.heap.size + 1 := by rw [← hV]; simp
      have b0 : w4.cell? ⟨w3.heap.size, 0, none⟩ = some (.int .i8 y.k) := by rw [← hV]; simp [go_sem]
      have b1 : w4.cell? ⟨w3.heap.size, 1, none⟩ = some (.slice ya y.ks.length yc) := by rw [← hV]; simp [go_sem]
      clear hV
      have HB := Lib.hid fun (W : World) (hW : Below w4.heap.size w4 W) => And.intro (cell_kept hW b0) (cell_kept hW b1)
      clear b0 b1
      clear t0 t1 t2 t3 t4 t5 t6 t7 t8 t9 t10
      clear u0 u1 u2 u3 u4 u5 u6 u7 u8 u9 u10
      have hb04 : Below w0.heap.size w0 w4 := hb03.trans (hb4.mono (by omega))
      have hbw4 := hb0.trans (hb04.mono (Nat.le_of_lt hl0))
      have hp := pairT_new (w := w4) (E := 28) (cs := #[.int .i8 t.k, .string t.name, .string t.arg, .int .i64 t.num, .int .i8 t.ty.k, .slice s.ta t.ty.ks.length s.tc, .int .i8 t.to.k, .slice s.oa t.to.ks.length s.oc, .int .i64 t.label, .int .i64 t.spot, .slice s.ka t.ks.length s.kc, .int .i8 u.k, .string u.name, .string u.arg, .int .i64 u.num, .int .i8 u.ty.k, .slice s'.ta u.ty.ks.length s'.tc, .int .i8 u.to.k, .slice s'.oa u.to.ks.length s'.oc, .int .i64 u.label, .int .i64 u.spot, .slice s'.ka u.ks.length s'.kc]) rfl (hin.below hbw4 hB) (hin'.below hbw4 hB) (by omega)
      rw [hz4] at hp
      generalize hW : World.alloc w4 _ = w5 at *
      have hb5 : Below w4.heap.size w4 w5 := by rw [← hW]; (repeat (first | assumption | exact Below.refl _ _ | apply below_drewN | apply Below.drew | (refine Below.alloc ?_ (by first | omega | (simp; done) | (simp; omega)) _) | (refine Below.setCell ?_ (by first | omega | (simp; done) | (simp; omega)) _)))
      have hps : w3.heap.size + 1 + 1 ≤ w5.heap.size := by rw [← hW]; simp [hz4]
      clear hW
      have hz4 : w3.heap.size < w4.heap.size := by omega
      have hcall := checkType_any (pairT t u) (w3.heap.size + 1 + 1) (pairSh (w3.heap.size + 1)) w5 hp hps
      clear hp
      refine hcall.mono ?_
      clear hcall
      intro e w6 hg6
      have hs5 := hb5.size
      have hb05 := hb04.trans (hb5.mono (by omega))
      cases hr3 : gradual.type (pairT t u) 17 with
      | error f3 =>
        rw [hr3] at hg6
        have HR3 := Lib.hid hr3
        clear hr3
        obtain ⟨fb6, rfl, g1, g2, g3, hb6⟩ := hg6
        clear g1 g2 g3
        have hs6 := hb6.size
        have hb46 := hb5.trans (hb6.mono hs5)
        have hb36 := hb4.trans (hb46.mono (by omega))
        have hb26 := hb3.trans (hb36.mono hs3)
        have hb16 := hb2.trans (hb26.mono (by omega))
        have hb06 := hb1.trans (hb16.mono hs1)
        have hbw6 := hb0.trans (hb06.mono (Nat.le_of_lt hl0))
        obtain ⟨t0, t1, t2, t3, t4, t5, t6, t7, t8, t9, t10⟩ := HT.out _ hb06
        obtain ⟨u0, u1, u2, u3, u4, u5, u6, u7, u8, u9, u10⟩ := HU.out _ hb06
        obtain ⟨a0, a1⟩ := HA.out _ hb26
        obtain ⟨b0, b1⟩ := HB.out _ hb46
        have hn0 : w.heap.size < w6.heap.size := by omega
        have hn1 : w.heap.size + 1 < w6.heap.size := by omega
        have hn2 : w1.heap.size < w6.heap.size := by omega
        have hn3 : w3.heap.size < w6.heap.size := by omega
        go_wp2_with fail
        generalize hW : World.alloc w6 _ = w7
        have hb7 : Below w6.heap.size w6 w7 := by rw [← hW]; (repeat (first | assumption | exact Below.refl _ _ | apply below_drewN | apply Below.drew | (refine Below.alloc ?_ (by first | omega | (simp; done) | (simp; omega)) _) | (refine Below.setCell ?_ (by first | omega | (simp; done) | (simp; omega)) _)))
        clear hW
        have hs7 := hb7.size
        have hb67 := hbw6.trans (hb7.mono (by have := hbw6.size; omega))
        refine (tooGreat_any t u x y w7.heap.size s s' xa ya xc yc w7 ((hin.below hb67 hB).up (by have := hb67.size; omega)) ((hin'.below hb67 hB).up (by have := hb67.size; omega)) ((hx.below (hb16.trans (hb7.mono (by omega))) (Nat.le_refl _)).up (by omega)) ((hy.below (hb36.trans (hb7.mono (by omega))) (Nat.le_refl _)).up (by omega)) (Nat.le_refl _)).mono ?_
        rintro e w8 ⟨rfl, hb8⟩
        have hv := hlaw.out
        rw [HR1.out, HR2.out, HR3.out] at hv
        simp only [isOk, okD, Bool.not_true, Bool.false_or] at hv
        rw [hv]
        clear hv
        go_wp2_with fail
        go_ret
        exact ⟨rfl, hb67.trans (hb8.mono (by have := hb67.size; omega))⟩
      | ok z =>
        rw [hr3] at hg6
        have HR3 := Lib.hid hr3
        clear hr3
        obtain ⟨za, zc, rfl, hz, hb6⟩ := hg6
        have hs6 := hb6.size
        have hb46 := hb5.trans (hb6.mono hs5)
        have hb36 := hb4.trans (hb46.mono (by omega))
        have hb26 := hb3.trans (hb36.mono hs3)
        have hb16 := hb2.trans (hb26.mono (by omega))
        have hb06 := hb1.trans (hb16.mono hs1)
        have hbw6 := hb0.trans (hb06.mono (Nat.le_of_lt hl0))
        obtain ⟨a0, a1⟩ := HA.out _ hb26
        obtain ⟨b0, b1⟩ := HB.out _ hb46
        have hv := hlaw.out
        rw [HR1.out, HR2.out, HR3.out] at hv
        simp only [isOk, okD, Bool.true_and, Bool.and_eq_true, decide_eq_true_eq] at hv
        obtain ⟨hv0, hv1, hv2⟩ := hv
        obtain ⟨z0, z1, hzz2⟩ : ∃ z0 z1, z.ks = [z0, z1] := by
          match h : z.ks, hv0 with
          | [z0, z1], _ => exact ⟨z0, z1, rfl⟩
        have hk0 := hz.kid (j := 0) (x := z0) (by rw [hzz2]; rfl)
        have hk1 := hz.kid (j := 1) (x := z1) (by rw [hzz2]; rfl)
        have e0 : z.kid 0 = z0 := by unfold RTy.kid; rw [hzz2]; rfl
        have e1 : z.kid 1 = z1 := by unfold RTy.kid; rw [hzz2]; rfl
        rw [e0] at hv1
        rw [e1] at hv2
        obtain ⟨gb, go, ga0, gc0, rfl, hgb, k0, k1, hz0⟩ := hk0
        obtain ⟨gb', go', ga1, gc1, hge, hgb', k2, k3, hz1⟩ := hk1
        simp only [Option.some.injEq, Addr.mk.injEq, and_true] at hge
        obtain ⟨rfl, rfl⟩ := hge
        simp only [Nat.zero_mul, Nat.add_zero, Nat.one_mul] at k0 k1 k2 k3
        have hv1 := Lib.hid hv1
        have hv2 := Lib.hid hv2
        have HZL := Lib.hid hv0
        clear hv0 hzz2 e0 e1
        have hn2 : w1.heap.size < w6.heap.size := by omega
        have hn3 : w3.heap.size < w6.heap.size := by omega
        rw [HZL.out]
        go_wp2_with fail
        generalize hW : World.alloc w6 _ = w7
        have hb7 : Below w6.heap.size w6 w7 := by rw [← hW]; (repeat (first | assumption | exact Below.refl _ _ | apply below_drewN | apply Below.drew | (refine Below.alloc ?_ (by first | omega | (simp; done) | (simp; omega)) _) | (refine Below.setCell ?_ (by first | omega | (simp; done) | (simp; omega)) _)))
        have r1 : w7.cell? ⟨w6.heap.size, 1, none⟩ = some (.slice (some ⟨gb, go, none⟩) 2 zc) := by rw [← hW]; simp [go_sem]
        clear hW
        have hs7 := hb7.size
        have a0 := cell_kept hb7 a0
        have a1 := cell_kept hb7 a1
        have b0 := cell_kept hb7 b0
        have b1 := cell_kept hb7 b1
        have k0 := cell_kept hb7 k0
        have k1 := cell_kept hb7 k1
        have k2 := cell_kept hb7 k2
        have k3 := cell_kept hb7 k3
        have hbw7 := hbw6.trans (hb7.mono (by have := hbw6.size; omega))
        have hx7 : x.In w7 w7.heap.size xa := (hx.below (hb16.trans (hb7.mono (by omega))) (Nat.le_refl _)).up (by omega)
        have hy7 : y.In w7 w7.heap.size ya := (hy.below (hb36.trans (hb7.mono (by omega))) (Nat.le_refl _)).up (by omega)
        have hz07 : z0.In w7 w7.heap.size ga0 := RTy.InS.mono (fun b (hb : _ ∧ b < w6.heap.size) => (by omega : b < w7.heap.size)) (fun b o (hb : _ ∧ b < w6.heap.size) => hb7.cell (p := ⟨b, o, none⟩) hb.2) hz0
        have hz17 : z1.In w7 w7.heap.size ga1 := RTy.InS.mono (fun b (hb : _ ∧ b < w6.heap.size) => (by omega : b < w7.heap.size)) (fun b o (hb : _ ∧ b < w6.heap.size) => hb7.cell (p := ⟨b, o, none⟩) hb.2) hz1
        have hkeep := Lib.hid fun (W : World) (hW : Below w7.heap.size w7 W) => And.intro (cell_kept hW r1) (And.intro (cell_kept hW k0) (And.intro (cell_kept hW k1) (And.intro (cell_kept hW k2) (And.intro (cell_kept hW k3) (And.intro (cell_kept hW a0) (And.intro (cell_kept hW a1) (And.intro (cell_kept hW b0) (cell_kept hW b1))))))))
        have hcall0 := Lib.hid fun (W : World) (hW : Below w7.heap.size w7 W) => (kind_any z0.nodes z0 x w7.heap.size ga0 xa gc0 xc W (Nat.le_refl _) (hz07.below hW (Nat.le_refl _)) (hx7.below hW (Nat.le_refl _)) hW.size).mono fun e w' h => (show e = .returned (.bool true) ∧ Below w7.heap.size w7 w' from ⟨by rw [h.1, hv1.out], hW.trans (h.2.mono hW.size)⟩)
        have hcall1 := Lib.hid fun (W : World) (hW : Below w7.heap.size w7 W) => (kind_any z1.nodes z1 y w7.heap.size ga1 ya gc1 yc W (Nat.le_refl _) (hz17.below hW (Nat.le_refl _)) (hy7.below hW (Nat.le_refl _)) hW.size).mono fun e w' h => (show e = .returned (.bool true) ∧ Below w7.heap.size w7 w' from ⟨by rw [h.1, hv2.out], hW.trans (h.2.mono hW.size)⟩)
        go_region_held3 (fun v => v.cell? ⟨w6.heap.size, 1, none⟩ = some (.slice (some ⟨gb, go, none⟩) 2 zc) ∧ v.cell? ⟨gb, go, none⟩ = some (.int .i8 z0.k) ∧ v.cell? ⟨gb, go + 1, none⟩ = some (.slice ga0 z0.ks.length gc0) ∧ v.cell? ⟨gb, go + 2, none⟩ = some (.int .i8 z1.k) ∧ v.cell? ⟨gb, go + 2 + 1, none⟩ = some (.slice ga1 z1.ks.length gc1) ∧ v.cell? ⟨w1.heap.size, 0, none⟩ = some (.int .i8 x.k) ∧ v.cell? ⟨w1.heap.size, 1, none⟩ = some (.slice xa x.ks.length xc) ∧ v.cell? ⟨w3.heap.size, 0, none⟩ = some (.int .i8 y.k) ∧ v.cell? ⟨w3.heap.size, 1, none⟩ = some (.slice ya y.ks.length yc)) (first | (refine hkeep.out _ ?_; (repeat (first | assumption | exact Below.refl _ _ | apply below_drewN | apply Below.drew | (refine Below.alloc ?_ (by first | omega | (simp; done) | (simp; omega)) _) | (refine Below.setCell ?_ (by first | omega | (simp; done) | (simp; omega)) _))))) (first | (go_at_call_of 13 (.agg #[.int .i8 x.k, .slice xa x.ks.length xc] : Value); refine (hcall0.out _ ?_).mono ?_; (repeat (first | assumption | exact Below.refl _ _ | apply below_drewN | apply Below.drew | (refine Below.alloc ?_ (by first | omega | (simp; done) | (simp; omega)) _) | (refine Below.setCell ?_ (by first | omega | (simp; done) | (simp; omega)) _))); rintro e w8 ⟨rfl, hb8⟩) | (go_at_call_of 13 (.agg #[.int .i8 y.k, .slice ya y.ks.length yc] : Value); refine (hcall1.out _ ?_).mono ?_; (repeat (first | assumption | exact Below.refl _ _ | apply below_drewN | apply Below.drew | (refine Below.alloc ?_ (by first | omega | (simp; done) | (simp; omega)) _) | (refine Below.setCell ?_ (by first | omega | (simp; done) | (simp; omega)) _))); rintro e w8 ⟨rfl, hb8⟩))
        go_wp2_with fail
        go_ret
        exact ⟨rfl, hbw7.trans (hb8.mono hbw7.size)⟩
end Go.Proofs.Ytaoodchjggimcaa

/- Types and terms that come in, read as trees. -/
set_option linter.unusedVariables false
set_option linter.unusedSimpArgs false
namespace Go.Proofs.Ytaoodchjggimcaa
open Go.RowKit Go.ChangeShapes Go.WideShapes

theorem list2 {α : Type} {l : List α} (h : l.length = 2) : ∃ a b, l = [a, b] := by
  match l, h with
  | [a, b], _ => exact ⟨a, b, rfl⟩
theorem list9 {α : Type} {l : List α} (h : l.length = 9) : ∃ a0 a1 a2 a3 a4 a5 a6 a7 a8, l = [a0, a1, a2, a3, a4, a5, a6, a7, a8] := by
  match l, h with
  | [a0, a1, a2, a3, a4, a5, a6, a7, a8], _ => exact ⟨a0, a1, a2, a3, a4, a5, a6, a7, a8, rfl⟩
theorem list11 {α : Type} {l : List α} (h : l.length = 11) : ∃ a0 a1 a2 a3 a4 a5 a6 a7 a8 a9 a10, l = [a0, a1, a2, a3, a4, a5, a6, a7, a8, a9, a10] := by
  match l, h with
  | [a0, a1, a2, a3, a4, a5, a6, a7, a8, a9, a10], _ => exact ⟨a0, a1, a2, a3, a4, a5, a6, a7, a8, a9, a10, rfl⟩
section
variable {H : Type} {enc : TypeId × Value → H}
theorem cellsTy : Try.prog.cellsOf 25 = 2 := by kernel_rfl
theorem cellsTm : Try.prog.cellsOf 28 = 11 := by kernel_rfl
theorem cells8 : Try.prog.cellsOf 22 = 1 := by kernel_rfl
theorem cellsS : Try.prog.cellsOf 9 = 1 := by kernel_rfl
theorem cellsI : Try.prog.cellsOf 3 = 1 := by kernel_rfl
theorem cells64 : Try.prog.cellsOf 2 = 1 := by kernel_rfl
theorem cellsTys : Try.prog.cellsOf 23 = 1 := by kernel_rfl
theorem cellsTms : Try.prog.cellsOf 26 = 1 := by kernel_rfl
theorem bytesTy : Try.prog.bytesOf 25 = 32 := by kernel_rfl
theorem bytesTm : Try.prog.bytesOf 28 = 152 := by kernel_rfl
theorem wf8 {k : Int} (h : (Lit.int .i8 k).wf = true) : -128 ≤ k ∧ k ≤ 127 := by
  simp only [Lit.wf, Bool.and_eq_true, decide_eq_true_eq] at h
  rw [show IntKind.i8.min = -128 by decide, show IntKind.i8.max = 127 by decide] at h
  exact h
theorem wf64 {k : Int} (h : (Lit.int .i64 k).wf = true) : -9223372036854775808 ≤ k ∧ k ≤ 9223372036854775807 := by
  simp only [Lit.wf, Bool.and_eq_true, decide_eq_true_eq] at h
  rw [show IntKind.i64.min = -9223372036854775808 by decide, show IntKind.i64.max = 9223372036854775807 by decide] at h
  exact h
def Light (t : TypeId) (d : DataW H) : Prop := ∀ n ∈ DataW.weights Try.prog t d, n ≤ 140737488351232
theorem Light.parts {t : TypeId} {fs : Array Field} (ht : Try.prog.underlying t = some (.struct fs)) {ds : List (DataW H)} (h : Light t (.agg ds)) {j : Nat} {f : Field} {d : DataW H} (hf : fs[j]? = some f) (hd : ds[j]? = some d) : Light f.type d := by
  intro n hn
  refine h n ?_
  simp only [DataW.weights, ht]
  refine DataW.weights_mem_each (j := j) (t := f.type) (d := d) ?_ hd n hn
  rw [List.getElem?_map, Array.getElem?_toList, hf]; rfl
theorem weights_mem_all {P : Program} {e : TypeId} : ∀ {ds : List (DataW H)} {j : Nat} {d : DataW H}, ds[j]? = some d → ∀ n ∈ d.weights P e, n ∈ DataW.weightsAll P e ds
  | d0 :: ds, 0, d, hd, n, hn => by
    simp at hd; subst hd
    simp only [DataW.weightsAll, List.mem_append]; exact .inl hn
  | d0 :: ds, j + 1, d, hd, n, hn => by
    simp only [DataW.weightsAll, List.mem_append]
    exact .inr (weights_mem_all (ds := ds) (j := j) (by simpa using hd) n hn)
  | [], j, d, hd, n, hn => by simp at hd
theorem Light.elems {t e : TypeId} (ht : Try.prog.underlying t = some (.slice e)) {ds es : List (DataW H)} (h : Light t (.slice ds es)) : (∀ {j : Nat} {d : DataW H}, ds[j]? = some d → Light e d) ∧ (ds.length + es.length) * Try.prog.bytesOf e ≤ 140737488351232 := by
  refine ⟨fun {j d} hd n hn => h n ?_, h _ ?_⟩
  · simp only [DataW.weights, ht, List.mem_cons, List.mem_append]
    exact .inr (.inl (weights_mem_all hd n hn))
  · simp only [DataW.weights, ht, List.mem_cons, true_or]
theorem addr_spot {W : World} {a : Addr} {v : Value} (h : W.cell? a = some v) : a.spot = none := by
  unfold World.cell? at h
  split at h
  · split at h
    · cases h
    · rename_i hs; simpa using hs
  · cases h
theorem add_spot {b o n : Nat} : (⟨b, o, none⟩ : Addr).add n = ⟨b, o + n, none⟩ := by unfold Addr.add; split <;> simp_all
/-- The elements of a slice that came in, one by one. -/
theorem open_elems {W : World} {t e c : Nat} {n : Nat} {cs : List Value} {x : DataW H × List MemPlace} (hu : Try.prog.underlying t = some (.slice e)) (hc : Try.prog.cellsOf e = c) (hc1 : 1 ≤ c) (h : DataW.trod enc Try.prog W 0 (fun _ => true) true n t cs = some x) (hl : Light t x.1) :
    ∃ (a : Option Addr) (len cap m : Nat) (D : Nat → DataW H × List MemPlace), cs = [.slice a len cap] ∧ n = m + 1 ∧ len * Try.prog.bytesOf e ≤ 140737488351232 ∧ ∀ i, i < len → ∃ b o cs', a = some ⟨b, o, none⟩ ∧ cs'.length = c ∧ (∀ j, j < c → W.cell? ⟨b, o + (i * c + j), none⟩ = cs'[j]?) ∧ b < W.heap.size ∧ DataW.trod enc Try.prog W 0 (fun _ => true) true m e cs' = some (D i) ∧ Light e (D i).1 := by
  have hn : ∃ m, n = m + 1 := by
    cases n with
    | zero => simp [DataW.trod] at h
    | succ m => exact ⟨m, rfl⟩
  obtain ⟨m, rfl⟩ := hn
  rcases DataW.trod_slice hu h with ⟨rfl, rfl⟩ | ⟨a, len, cap, elems, rest, n', hn', rfl, rfl, hb, hle, hm, hlen, hel, -, -⟩
  · exact ⟨none, 0, 0, m, fun _ => (.nil, []), rfl, rfl, by omega, fun i hi => by omega⟩
  · obtain rfl : m = n' := by omega
    have hE := hl.elems hu
    refine ⟨some a, len, cap, m, fun i => elems.getD i (.nil, []), rfl, rfl, ?_, fun i hi => ?_⟩
    · have h2 := hE.2
      rw [List.length_map, List.length_map, hlen] at h2
      exact Nat.le_trans (Nat.mul_le_mul_right _ (by omega)) h2
    · have hel0 := fun i hi => hel i hi
      have hsp : a.spot = none := by
        have h0 := hel 0 (by omega)
        have hg : elems[0]? = some (elems[0]'(by omega)) := List.getElem?_eq_getElem (by omega)
        rw [hg, Option.bind_eq_some_iff] at h0
        obtain ⟨cs', h1, _⟩ := h0
        obtain ⟨_, hl1, hc'⟩ := World.cells?_some h1
        have h3 := hc' 0 (by rw [hc]; omega)
        have hg' : cs'[0]? = some (cs'[0]'(by rw [hl1, hc]; omega)) := List.getElem?_eq_getElem _
        rw [hg', Nat.zero_mul] at h3
        have h4 : (a.add 0).add 0 = a := by unfold Addr.add; simp
        rw [h4] at h3
        exact addr_spot h3
      obtain ⟨b, o, sp⟩ := a
      simp only at hsp
      subst hsp
      have h0 := hel i hi
      have hg : elems[i]? = some (elems[i]'(by omega)) := List.getElem?_eq_getElem (by omega)
      rw [hg, Option.bind_eq_some_iff] at h0
      obtain ⟨cs', h1, h2⟩ := h0
      obtain ⟨_, hl1, hc'⟩ := World.cells?_some h1
      rw [hc] at hl1
      have hcell : ∀ j, j < c → W.cell? ⟨b, o + (i * c + j), none⟩ = cs'[j]? := fun j hj => by
        have h3 := hc' j (by rw [hc]; exact hj)
        rw [hc, add_spot, add_spot, Nat.add_assoc] at h3
        exact h3
      have hD : elems.getD i (.nil, []) = elems[i]'(by omega) := by rw [List.getD_eq_getElem?_getD, hg]; rfl
      refine ⟨b, o, cs', rfl, hl1, hcell, ?_, by show _ = some (elems.getD i (.nil, [])); rw [hD]; exact h2, ?_⟩
      · have h3 := hcell 0 (by omega)
        rw [List.getElem?_eq_getElem (by omega)] at h3
        exact World.block_lt_of_cell? W _ h3
      · show Light e (elems.getD i (.nil, [])).1
        rw [hD]
        refine hE.1 (j := i) ?_
        rw [List.getElem?_map, hg]; rfl

theorem open_ty {W : World} (n : Nat) : ∀ (cs : List Value) (x : DataW H × List MemPlace), DataW.trod enc Try.prog W 0 (fun _ => true) true n 25 cs = some x → Light 25 x.1 → ∃ (t : RTy) (a : Option Addr) (c : Nat), cs = [.int .i8 t.k, .slice a t.ks.length c] ∧ t.In W W.heap.size a := by
  induction n using Nat.strongRecOn with
  | ind n ih =>
  intro cs x h hl
  obtain ⟨xs, m, rfl, rfl, hcl, hxl, hf⟩ := DataW.trod_struct Try.underlying25 h
  rw [cellsTy] at hcl
  have hxl2 : xs.length = 2 := hxl
  clear hxl h
  obtain ⟨c0, c1, rfl⟩ := list2 hcl
  obtain ⟨y0, y1, rfl⟩ := list2 hxl2
  have u0 := hf 0 { name := "Kind", type := 22, offset := 0, embedded := false, tag := "", pkgPath := "", byteOffset := 0 } rfl
  have u1 := hf 1 { name := "Kids", type := 23, offset := 1, embedded := false, tag := "", pkgPath := "", byteOffset := 8 } rfl
  dsimp only at u0 u1
  rw [cells8] at u0
  rw [cellsTys] at u1
  replace u0 : DataW.trod enc Try.prog W 0 (fun _ => true) true m 22 [c0] = some y0 := u0
  replace u1 : DataW.trod enc Try.prog W 0 (fun _ => true) true m 23 [c1] = some y1 := u1
  obtain ⟨k, hk, -, hwk⟩ := DataW.trod_int Try.underlying22 u0
  simp only [List.cons.injEq, and_true] at hk
  subst hk
  have hk8 := wf8 hwk
  have hl1 : Light 23 y1.1 := hl.parts Try.underlying25 (j := 1) rfl rfl
  obtain ⟨a, len, cap, p, D, hcs, rfl, hlen, hel⟩ := open_elems Try.underlying23 cellsTy (by omega) u1 hl1
  simp only [List.cons.injEq, and_true] at hcs
  subst hcs
  rw [bytesTy] at hlen
  have hkid : ∀ i, ∃ (t : RTy), i < len → ∃ b o a' c', a = some ⟨b, o, none⟩ ∧ b < W.heap.size ∧ W.cell? ⟨b, o + i * 2, none⟩ = some (.int .i8 t.k) ∧ W.cell? ⟨b, o + i * 2 + 1, none⟩ = some (.slice a' t.ks.length c') ∧ t.In W W.heap.size a' := by
    intro i
    by_cases hi : i < len
    · obtain ⟨b, o, cs', rfl, hcl, hcell, hb, ht, hlt⟩ := hel i hi
      obtain ⟨t, a', c', rfl, hin⟩ := ih p (by omega) cs' (D i) ht hlt
      refine ⟨t, fun _ => ⟨b, o, a', c', rfl, hb, ?_, ?_, hin⟩⟩
      · exact hcell 0 (by omega)
      · exact hcell 1 (by omega)
    · exact ⟨RTy.unk, fun h => absurd h hi⟩
  let f : Nat → RTy := fun i => Classical.choose (hkid i)
  have hfk := fun i => Classical.choose_spec (hkid i)
  have hin : (RTy.mk k ((List.range len).map f)).In W W.heap.size a := by
    unfold RTy.In RTy.InS
    refine ⟨hk8, by simp [lenMax]; omega, ?_⟩
    by_cases h0 : len = 0
    · subst h0; simp [RTy.InsS]
    · obtain ⟨b, o, -, -, rfl, hb, -⟩ := hfk 0 (by omega)
      refine RTy.InsS.mk (S := fun b => b < W.heap.size) hb fun j t hj => ?_
      rw [List.getElem?_map] at hj
      by_cases hjl : j < len
      · rw [List.getElem?_range hjl] at hj
        simp only [Option.map_some, Option.some.injEq] at hj
        subst hj
        obtain ⟨b', o', a', c', he, -, h1, h2, h3⟩ := hfk j hjl
        simp only [Option.some.injEq, Addr.mk.injEq, and_true] at he
        obtain ⟨rfl, rfl⟩ := he
        exact ⟨a', c', by rw [Nat.zero_add]; exact h1, by rw [Nat.zero_add]; exact h2, h3⟩
      · rw [List.getElem?_eq_none (by simpa using hjl)] at hj
        simp at hj
  refine ⟨RTy.mk k ((List.range len).map f), a, cap, ?_, hin⟩
  simp [RTy.k, RTy.ks]

theorem open_tm {W : World} (n : Nat) : ∀ (cs : List Value) (x : DataW H × List MemPlace), DataW.trod enc Try.prog W 0 (fun _ => true) true n 28 cs = some x → Light 28 x.1 → ∃ (t : RTm) (s : TmSh), cs = t.cells s ∧ t.In W W.heap.size s := by
  induction n using Nat.strongRecOn with
  | ind n ih =>
  intro cs x h hl
  obtain ⟨xs, m, rfl, rfl, hcl, hxl, hf⟩ := DataW.trod_struct Try.underlying28 h
  rw [cellsTm] at hcl
  have hxl2 : xs.length = 9 := hxl
  clear hxl h
  obtain ⟨c0, c1, c2, c3, c4, c5, c6, c7, c8, c9, c10, rfl⟩ := list11 hcl
  obtain ⟨y0, y1, y2, y3, y4, y5, y6, y7, y8, rfl⟩ := list9 hxl2
  have u0 := hf 0 { name := "Kind", type := 22, offset := 0, embedded := false, tag := "", pkgPath := "", byteOffset := 0 } rfl
  dsimp only at u0
  rw [cells8] at u0
  replace u0 : DataW.trod enc Try.prog W 0 (fun _ => true) true m 22 [c0] = some y0 := u0
  have u1 := hf 1 { name := "Name", type := 9, offset := 1, embedded := false, tag := "", pkgPath := "", byteOffset := 8 } rfl
  dsimp only at u1
  rw [cellsS] at u1
  replace u1 : DataW.trod enc Try.prog W 0 (fun _ => true) true m 9 [c1] = some y1 := u1
  have u2 := hf 2 { name := "Arg", type := 9, offset := 2, embedded := false, tag := "", pkgPath := "", byteOffset := 24 } rfl
  dsimp only at u2
  rw [cellsS] at u2
  replace u2 : DataW.trod enc Try.prog W 0 (fun _ => true) true m 9 [c2] = some y2 := u2
  have u3 := hf 3 { name := "Num", type := 2, offset := 3, embedded := false, tag := "", pkgPath := "", byteOffset := 40 } rfl
  dsimp only at u3
  rw [cells64] at u3
  replace u3 : DataW.trod enc Try.prog W 0 (fun _ => true) true m 2 [c3] = some y3 := u3
  have u4 := hf 4 { name := "Type", type := 25, offset := 4, embedded := false, tag := "", pkgPath := "", byteOffset := 48 } rfl
  dsimp only at u4
  rw [cellsTy] at u4
  replace u4 : DataW.trod enc Try.prog W 0 (fun _ => true) true m 25 [c4, c5] = some y4 := u4
  have u5 := hf 5 { name := "To", type := 25, offset := 6, embedded := false, tag := "", pkgPath := "", byteOffset := 80 } rfl
  dsimp only at u5
  rw [cellsTy] at u5
  replace u5 : DataW.trod enc Try.prog W 0 (fun _ => true) true m 25 [c6, c7] = some y5 := u5
  have u6 := hf 6 { name := "Label", type := 3, offset := 8, embedded := false, tag := "", pkgPath := "", byteOffset := 112 } rfl
  dsimp only at u6
  rw [cellsI] at u6
  replace u6 : DataW.trod enc Try.prog W 0 (fun _ => true) true m 3 [c8] = some y6 := u6
  have u7 := hf 7 { name := "At", type := 3, offset := 9, embedded := false, tag := "", pkgPath := "", byteOffset := 120 } rfl
  dsimp only at u7
  rw [cellsI] at u7
  replace u7 : DataW.trod enc Try.prog W 0 (fun _ => true) true m 3 [c9] = some y7 := u7
  have u8 := hf 8 { name := "Kids", type := 26, offset := 10, embedded := false, tag := "", pkgPath := "", byteOffset := 128 } rfl
  dsimp only at u8
  rw [cellsTms] at u8
  replace u8 : DataW.trod enc Try.prog W 0 (fun _ => true) true m 26 [c10] = some y8 := u8
  clear hf
  obtain ⟨k, hk, -, hwk⟩ := DataW.trod_int Try.underlying22 u0
  obtain ⟨nm, hnm, -, hnms⟩ := DataW.trod_string Try.underlying9 u1
  obtain ⟨ag, hag, -, hags⟩ := DataW.trod_string Try.underlying9 u2
  obtain ⟨nu, hnu, -, hwnu⟩ := DataW.trod_int Try.underlying2 u3
  obtain ⟨ty, ta, tc, hty, htin⟩ := open_ty m _ _ u4 (hl.parts Try.underlying28 (j := 4) rfl rfl)
  obtain ⟨tz, oa, oc, hto, hoin⟩ := open_ty m _ _ u5 (hl.parts Try.underlying28 (j := 5) rfl rfl)
  obtain ⟨lb, hlb, -, hwlb⟩ := DataW.trod_int Try.underlying3 u6
  obtain ⟨sp, hsp, -, hwsp⟩ := DataW.trod_int Try.underlying3 u7
  simp only [List.cons.injEq, and_true] at hk hnm hag hnu hty hto hlb hsp
  obtain ⟨rfl, rfl⟩ := hty
  obtain ⟨rfl, rfl⟩ := hto
  subst hk hnm hag hnu hlb hsp
  have hl1 : Light 26 y8.1 := hl.parts Try.underlying28 (j := 8) rfl rfl
  obtain ⟨a, len, cap, p, D, hcs, rfl, hlen, hel⟩ := open_elems Try.underlying26 cellsTm (by omega) u8 hl1
  simp only [List.cons.injEq, and_true] at hcs
  subst hcs
  rw [bytesTm] at hlen
  clear u0 u1 u2 u3 u4 u5 u6 u7 u8
  have hkid : ∀ i, ∃ (t : RTm), i < len → ∃ b o s', a = some ⟨b, o, none⟩ ∧ b < W.heap.size ∧ CellsAt W b (o + i * 11) (t.cells s') ∧ t.In W W.heap.size s' := by
    intro i
    by_cases hi : i < len
    · obtain ⟨b, o, cs', rfl, hcl, hcell, hb, ht, hlt⟩ := hel i hi
      obtain ⟨t, s', rfl, hin⟩ := ih p (by omega) cs' (D i) ht hlt
      refine ⟨t, fun _ => ⟨b, o, s', rfl, hb, fun j v hj => ?_, hin⟩⟩
      have hj11 : j < 11 := by
        have := (List.getElem?_eq_some_iff.1 hj).1
        simpa using this
      rw [Nat.add_assoc, hcell j hj11]; exact hj
    · exact ⟨RTm.mk 0 ⟨#[]⟩ ⟨#[]⟩ 0 RTy.unk RTy.unk 0 0 [], fun h => absurd h hi⟩
  let f : Nat → RTm := fun i => Classical.choose (hkid i)
  have hfk := fun i => Classical.choose_spec (hkid i)
  refine ⟨RTm.mk k nm ag nu ty tz lb sp ((List.range len).map f), ⟨ta, tc, oa, oc, a, cap⟩, ?_, ?_⟩
  · simp [RTm.cells, RTm.k, RTm.name, RTm.arg, RTm.num, RTm.ty, RTm.to, RTm.label, RTm.spot, RTm.ks]
  · unfold RTm.In RTm.InS
    refine ⟨⟨wf8 hwk, hnms, hags, wf64 hwnu, wf64 hwlb, wf64 hwsp, by simp [RTm.ks]; omega⟩, htin, hoin, ?_⟩
    by_cases h0 : len = 0
    · subst h0; simp [RTm.InsS]
    · obtain ⟨b, o, -, rfl, hb, -⟩ := hfk 0 (by omega)
      refine RTm.InsS.mk (S := fun b => b < W.heap.size) hb fun j t hj => ?_
      rw [List.getElem?_map] at hj
      by_cases hjl : j < len
      · rw [List.getElem?_range hjl] at hj
        simp only [Option.map_some, Option.some.injEq] at hj
        subst hj
        obtain ⟨b', o', s', he, -, h1, h2⟩ := hfk j hjl
        simp only [Option.some.injEq, Addr.mk.injEq, and_true] at he
        obtain ⟨rfl, rfl⟩ := he
        exact ⟨s', by rw [Nat.zero_add]; exact h1, h2⟩
      · rw [List.getElem?_eq_none (by simpa using hjl)] at hj
        simp at hj
end
end Go.Proofs.Ytaoodchjggimcaa
