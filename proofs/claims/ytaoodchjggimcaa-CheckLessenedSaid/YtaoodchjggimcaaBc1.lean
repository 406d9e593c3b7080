/- Parts of proofs about package rules and what it stands on: contracts of functions, and plain laws. -/
import Derived.Test.YtaoodchjggimcaaBc0
import Derived.Test.YtaoodchjggimcaaBa0
import Derived.Test.YtaoodchjggimcaaBa2
import Derived.LoopN

/- The walk of package rules' rules, by the words of package check: terms of kind 0. -/
set_option linter.unusedVariables false
set_option linter.unusedSimpArgs false
namespace Go.Proofs.Ytaoodchjggimcaa
open Go.RowKit

set_option maxRecDepth 100000 in
set_option maxHeartbeats 4000000 in
theorem rules0_c (N : Nat) (l : Env) (t : RTm) (B b o : Nat) (s : TmSh) (wb C : Nat) (S : Nat → Prop) (ea : Option Addr) (ec : Nat) (w : World) (hN : t.nodes ≤ N + 1) (hwd : WordsAt w B wb 17 40 41 17) (hat : RTm.At w B b o s t) (hB : B ≤ w.heap.size) (hC : C ≤ w.heap.size) (hS : ∀ b, S b → b < w.heap.size) (hBS : ∀ b, b < B → S b) (henv : EnvAt w C S ea ec l) (hnl : l.length + 2 * t.nodes ≤ 20000) (hrt : t.right = true) (hrl : l.right) (hkind : t.k = 0) :
    Calls Try.prog 77 #[.pointer (some ⟨wb, 0, none⟩), .slice ea l.length ec, .pointer (some ⟨b, o, none⟩)] w (GetsTy S (gradual.rules (N + 1) l t) w) := by
  have k0 := hat.c0
  rw [hkind] at k0
  have hwl := hwd.lt
  have hbl : b < w.heap.size := by have := hat.lt; omega
  go_enter Try.func77, Try.ntmps77
  go_upto_region 3 with fail
  generalize hW : World.alloc _ _ = w1
  have hb1 : Below w.heap.size w w1 := by rw [← hW]; (repeat (first | assumption | exact Below.refl _ _ | apply below_drewN | apply Below.drew | (refine Below.alloc ?_ (by first | omega | (simp; done) | (simp; omega)) _) | (refine Below.setCell ?_ (by first | omega | (simp; done) | (simp; omega)) _)))
  have hz1 : w1.heap.size = w.heap.size + 1 := by rw [← hW]; simp
  have m0 : w1.cell? ⟨w.heap.size, 0, none⟩ = some (.int .i8 0) := by rw [← hW]; simp [go_sem]
  have m1 : w1.cell? ⟨w.heap.size, 1, none⟩ = some (.slice none 0 0) := by rw [← hW]; simp [go_sem]
  have f0 : w1.frozen? ⟨w.heap.size, 0, none⟩ = false := by rw [← hW]; simp [go_sem]
  have f1 : w1.frozen? ⟨w.heap.size, 1, none⟩ = false := by rw [← hW]; simp [go_sem]
  clear hW
  have hS1 : ∀ b, S b → b < w1.heap.size := fun b hb => by have := hS b hb; omega
  have HK := Lib.hid hkind
  have hat1 := hat.below hb1 hB
  have hwd1 := hwd.below hb1 hB
  have henv1 := henv.below hb1 hC hS
  have t1 := hat1.c1
  have t2 := hat1.c2
  have t4 := hat1.c4
  have t5 := hat1.c5
  have t6 := hat1.c6
  have t7 := hat1.c7
  have t10 := hat1.c10
  clear hkind k0 henv
  go_wp2_with fail
  refine (find_any l t.name C S ea ec w1 (by omega) hS1 (by omega) henv1).mono ?_
  rintro e w2 ⟨hb2, hf⟩
  have hs2 := hb2.size
  have m0 := cell_kept hb2 m0
  have m1 := cell_kept hb2 m1
  have f0 := frozen_kept hb2 (by omega) f0
  have f1 := frozen_kept hb2 (by omega) f1
  have t1 := cell_kept hb2 t1
  have hbw2 : Below w.heap.size w w2 := hb1.trans (hb2.mono (by omega))
  have hbl2 : b < w2.heap.size := by omega
  cases hr : l.find t.name with
  | none =>
    rw [hr] at hf
    obtain rfl := hf
    have E : Hid (gradual.rules (N + 1) l t = .error ⟨41, t.spot, t.name⟩) := by show _ = _; simp [Mode.rules, HK.out, hr]
    clear hr
    go_wp2_with fail
    generalize hW : World.alloc _ _ = w3
    have hb3 : Below w.heap.size w w3 := by rw [← hW]; (repeat (first | assumption | exact Below.refl _ _ | apply below_drewN | apply Below.drew | (refine Below.alloc ?_ (by first | omega | (simp; done) | (simp; omega)) _) | (refine Below.setCell ?_ (by first | omega | (simp; done) | (simp; omega)) _)))
    clear hW
    refine (fail_any t B b o s 41 t.name w3 (hat.below hb3 hB) (by have := hb3.size; omega)).mono ?_
    rintro e w4 ⟨b1, rfl, h1, h2, h3, h4⟩
    go_wp2_with fail
    refine ⟨rfl, ?_⟩
    rw [E.out]
    exact Fails.mono (w1 := w3) ⟨b1, rfl, h1, h2, h3, h4⟩ hb3
  | some y =>
    rw [hr] at hf
    obtain ⟨ya, yc, rfl, hy⟩ := hf
    have E : Hid (gradual.rules (N + 1) l t = .ok y) := by show _ = _; simp [Mode.rules, HK.out, hr]
    clear hr
    go_upto_region 6 with fail
    generalize hW : World.alloc _ _ = w3
    have hb3 : Below w2.heap.size w2 w3 := by rw [← hW]; (repeat (first | assumption | exact Below.refl _ _ | apply below_drewN | apply Below.drew | (refine Below.alloc ?_ (by first | omega | (simp; done) | (simp; omega)) _) | (refine Below.setCell ?_ (by first | omega | (simp; done) | (simp; omega)) _)))
    have v0 : w3.cell? ⟨w2.heap.size, 0, none⟩ = some (.int .i8 y.k) := by rw [← hW]; simp [go_sem]
    have v1 : w3.cell? ⟨w2.heap.size, 1, none⟩ = some (.slice ya y.ks.length yc) := by rw [← hW]; simp [go_sem]
    clear hW
    have hs3 := hb3.size
    have m0 := cell_kept hb3 m0
    have m1 := cell_kept hb3 m1
    have f0 := frozen_kept hb3 (by omega) f0
    have f1 := frozen_kept hb3 (by omega) f1
    have hbw3 : Below w.heap.size w w3 := hbw2.trans (hb3.mono (by omega))
    go_wp2_with fail
    refine bodyPost_ret (v := .agg #[.int .i8 y.k, .slice ya y.ks.length yc]) (by simp [results, Try.results77, go_sem, m0, m1]) rfl ?_
    rw [E.out]
    exact GetsTy.stored0 hS (RTy.InS.below (C := w2.heap.size) hy hb3 fun b hb => by have := hS1 b hb; omega) hbw3 (by omega) (by omega)
end Go.Proofs.Ytaoodchjggimcaa

/- The walk of package rules' rules, by the words of package check: terms of kind 1. -/
set_option linter.unusedVariables false
set_option linter.unusedSimpArgs false
namespace Go.Proofs.Ytaoodchjggimcaa
open Go.RowKit

set_option maxRecDepth 100000 in
set_option maxHeartbeats 4000000 in
theorem rules1_c (N : Nat) (l : Env) (t : RTm) (B b o : Nat) (s : TmSh) (wb C : Nat) (S : Nat → Prop) (ea : Option Addr) (ec : Nat) (w : World) (hN : t.nodes ≤ N + 1) (hwd : WordsAt w B wb 17 40 41 17) (hat : RTm.At w B b o s t) (hB : B ≤ w.heap.size) (hC : C ≤ w.heap.size) (hS : ∀ b, S b → b < w.heap.size) (hBS : ∀ b, b < B → S b) (henv : EnvAt w C S ea ec l) (hnl : l.length + 2 * t.nodes ≤ 20000) (hrt : t.right = true) (hrl : l.right) (hkind : t.k = 1) :
    Calls Try.prog 77 #[.pointer (some ⟨wb, 0, none⟩), .slice ea l.length ec, .pointer (some ⟨b, o, none⟩)] w (GetsTy S (gradual.rules (N + 1) l t) w) := by
  have k0 := hat.c0
  rw [hkind] at k0
  have hwl := hwd.lt
  have hbl : b < w.heap.size := by have := hat.lt; omega
  go_enter Try.func77, Try.ntmps77
  go_upto_region 8 with fail
  generalize hW : World.alloc _ _ = w1
  have hb1 : Below w.heap.size w w1 := by rw [← hW]; (repeat (first | assumption | exact Below.refl _ _ | apply below_drewN | apply Below.drew | (refine Below.alloc ?_ (by first | omega | (simp; done) | (simp; omega)) _) | (refine Below.setCell ?_ (by first | omega | (simp; done) | (simp; omega)) _)))
  have hz1 : w1.heap.size = w.heap.size + 1 := by rw [← hW]; simp
  have m0 : w1.cell? ⟨w.heap.size, 0, none⟩ = some (.int .i8 0) := by rw [← hW]; simp [go_sem]
  have m1 : w1.cell? ⟨w.heap.size, 1, none⟩ = some (.slice none 0 0) := by rw [← hW]; simp [go_sem]
  have f0 : w1.frozen? ⟨w.heap.size, 0, none⟩ = false := by rw [← hW]; simp [go_sem]
  have f1 : w1.frozen? ⟨w.heap.size, 1, none⟩ = false := by rw [← hW]; simp [go_sem]
  clear hW
  have hS1 : ∀ b, S b → b < w1.heap.size := fun b hb => by have := hS b hb; omega
  have HK := Lib.hid hkind
  have hat1 := hat.below hb1 hB
  have hwd1 := hwd.below hb1 hB
  have henv1 := henv.below hb1 hC hS
  have t1 := hat1.c1
  have t2 := hat1.c2
  have t4 := hat1.c4
  have t5 := hat1.c5
  have t6 := hat1.c6
  have t7 := hat1.c7
  have t10 := hat1.c10
  clear hkind k0 henv
  have E : Hid (gradual.rules (N + 1) l t = .ok RTy.int) := by show _ = _; simp [Mode.rules, HK.out]
  go_wp2_with fail
  refine (number_any _).mono ?_
  rintro e w5 ⟨rfl, hb5⟩
  have hs5 := hb5.size
  have m0 := cell_kept hb5 m0
  have m1 := cell_kept hb5 m1
  have f0 := frozen_kept hb5 (by omega) f0
  have f1 := frozen_kept hb5 (by omega) f1
  go_wp2_with fail
  refine bodyPost_ret (v := .agg #[.int .i8 1, .slice none 0 0]) (by simp [results, Try.results77, go_sem, m0, m1]) rfl ?_
  rw [E.out]
  exact GetsTy.stored0 (z := RTy.int) (a := none) (c := 0) hS (by unfold RTy.int RTy.InS RTy.InsS; exact ⟨⟨by omega, by omega⟩, by simp [lenMax], trivial⟩) (hb1.trans (hb5.mono (by omega))) (by omega) (by omega)
end Go.Proofs.Ytaoodchjggimcaa

/- The walk of package rules' rules, by the words of package check: terms of kind 2. -/
set_option linter.unusedVariables false
set_option linter.unusedSimpArgs false
namespace Go.Proofs.Ytaoodchjggimcaa
open Go.RowKit

set_option maxRecDepth 100000 in
set_option maxHeartbeats 4000000 in
theorem rules2_c (N : Nat) (l : Env) (t : RTm) (B b o : Nat) (s : TmSh) (wb C : Nat) (S : Nat → Prop) (ea : Option Addr) (ec : Nat) (w : World) (hN : t.nodes ≤ N + 1) (hwd : WordsAt w B wb 17 40 41 17) (hat : RTm.At w B b o s t) (hB : B ≤ w.heap.size) (hC : C ≤ w.heap.size) (hS : ∀ b, S b → b < w.heap.size) (hBS : ∀ b, b < B → S b) (henv : EnvAt w C S ea ec l) (hnl : l.length + 2 * t.nodes ≤ 20000) (hrt : t.right = true) (hrl : l.right) (hkind : t.k = 2) :
    Calls Try.prog 77 #[.pointer (some ⟨wb, 0, none⟩), .slice ea l.length ec, .pointer (some ⟨b, o, none⟩)] w (GetsTy S (gradual.rules (N + 1) l t) w) := by
  have k0 := hat.c0
  rw [hkind] at k0
  have hwl := hwd.lt
  have hbl : b < w.heap.size := by have := hat.lt; omega
  go_enter Try.func77, Try.ntmps77
  go_upto_region 11 with fail
  generalize hW : World.alloc _ _ = w1
  have hb1 : Below w.heap.size w w1 := by rw [← hW]; (repeat (first | assumption | exact Below.refl _ _ | apply below_drewN | apply Below.drew | (refine Below.alloc ?_ (by first | omega | (simp; done) | (simp; omega)) _) | (refine Below.setCell ?_ (by first | omega | (simp; done) | (simp; omega)) _)))
  have hz1 : w1.heap.size = w.heap.size + 1 := by rw [← hW]; simp
  have m0 : w1.cell? ⟨w.heap.size, 0, none⟩ = some (.int .i8 0) := by rw [← hW]; simp [go_sem]
  have m1 : w1.cell? ⟨w.heap.size, 1, none⟩ = some (.slice none 0 0) := by rw [← hW]; simp [go_sem]
  have f0 : w1.frozen? ⟨w.heap.size, 0, none⟩ = false := by rw [← hW]; simp [go_sem]
  have f1 : w1.frozen? ⟨w.heap.size, 1, none⟩ = false := by rw [← hW]; simp [go_sem]
  clear hW
  have hS1 : ∀ b, S b → b < w1.heap.size := fun b hb => by have := hS b hb; omega
  have HK := Lib.hid hkind
  have hat1 := hat.below hb1 hB
  have hwd1 := hwd.below hb1 hB
  have henv1 := henv.below hb1 hC hS
  have t1 := hat1.c1
  have t2 := hat1.c2
  have t4 := hat1.c4
  have t5 := hat1.c5
  have t6 := hat1.c6
  have t7 := hat1.c7
  have t10 := hat1.c10
  clear hkind k0 henv
  have E : Hid (gradual.rules (N + 1) l t = .ok RTy.bool) := by show _ = _; simp [Mode.rules, HK.out]
  go_wp2_with fail
  refine (truth_any _).mono ?_
  rintro e w5 ⟨rfl, hb5⟩
  have hs5 := hb5.size
  have m0 := cell_kept hb5 m0
  have m1 := cell_kept hb5 m1
  have f0 := frozen_kept hb5 (by omega) f0
  have f1 := frozen_kept hb5 (by omega) f1
  go_wp2_with fail
  refine bodyPost_ret (v := .agg #[.int .i8 2, .slice none 0 0]) (by simp [results, Try.results77, go_sem, m0, m1]) rfl ?_
  rw [E.out]
  exact GetsTy.stored0 (z := RTy.bool) (a := none) (c := 0) hS (by unfold RTy.bool RTy.InS RTy.InsS; exact ⟨⟨by omega, by omega⟩, by simp [lenMax], trivial⟩) (hb1.trans (hb5.mono (by omega))) (by omega) (by omega)
end Go.Proofs.Ytaoodchjggimcaa

/- The walk of package rules' rules, by the words of package check: terms of kind 3. -/
set_option linter.unusedVariables false
set_option linter.unusedSimpArgs false
namespace Go.Proofs.Ytaoodchjggimcaa
open Go.RowKit

set_option maxRecDepth 100000 in
set_option maxHeartbeats 4000000 in
theorem rules3_c (N : Nat) (l : Env) (t : RTm) (B b o : Nat) (s : TmSh) (wb C : Nat) (S : Nat → Prop) (ea : Option Addr) (ec : Nat) (w : World) (hN : t.nodes ≤ N + 1) (hwd : WordsAt w B wb 17 40 41 17) (hat : RTm.At w B b o s t) (hB : B ≤ w.heap.size) (hC : C ≤ w.heap.size) (hS : ∀ b, S b → b < w.heap.size) (hBS : ∀ b, b < B → S b) (henv : EnvAt w C S ea ec l) (hnl : l.length + 2 * t.nodes ≤ 20000) (hrt : t.right = true) (hrl : l.right) (hkind : t.k = 3) :
    Calls Try.prog 77 #[.pointer (some ⟨wb, 0, none⟩), .slice ea l.length ec, .pointer (some ⟨b, o, none⟩)] w (GetsTy S (gradual.rules (N + 1) l t) w) := by
  have k0 := hat.c0
  rw [hkind] at k0
  have hwl := hwd.lt
  have hbl : b < w.heap.size := by have := hat.lt; omega
  go_enter Try.func77, Try.ntmps77
  go_upto_region 11 with fail
  generalize hW : World.alloc _ _ = w1
  have hb1 : Below w.heap.size w w1 := by rw [← hW]; (repeat (first | assumption | exact Below.refl _ _ | apply below_drewN | apply Below.drew | (refine Below.alloc ?_ (by first | omega | (simp; done) | (simp; omega)) _) | (refine Below.setCell ?_ (by first | omega | (simp; done) | (simp; omega)) _)))
  have hz1 : w1.heap.size = w.heap.size + 1 := by rw [← hW]; simp
  have m0 : w1.cell? ⟨w.heap.size, 0, none⟩ = some (.int .i8 0) := by rw [← hW]; simp [go_sem]
  have m1 : w1.cell? ⟨w.heap.size, 1, none⟩ = some (.slice none 0 0) := by rw [← hW]; simp [go_sem]
  have f0 : w1.frozen? ⟨w.heap.size, 0, none⟩ = false := by rw [← hW]; simp [go_sem]
  have f1 : w1.frozen? ⟨w.heap.size, 1, none⟩ = false := by rw [← hW]; simp [go_sem]
  clear hW
  have hS1 : ∀ b, S b → b < w1.heap.size := fun b hb => by have := hS b hb; omega
  have HK := Lib.hid hkind
  have hat1 := hat.below hb1 hB
  have hwd1 := hwd.below hb1 hB
  have henv1 := henv.below hb1 hC hS
  have t1 := hat1.c1
  have t2 := hat1.c2
  have t4 := hat1.c4
  have t5 := hat1.c5
  have t6 := hat1.c6
  have t7 := hat1.c7
  have t10 := hat1.c10
  clear hkind k0 henv
  have E : Hid (gradual.rules (N + 1) l t = .ok RTy.bool) := by show _ = _; simp [Mode.rules, HK.out]
  go_wp2_with fail
  refine (truth_any _).mono ?_
  rintro e w5 ⟨rfl, hb5⟩
  have hs5 := hb5.size
  have m0 := cell_kept hb5 m0
  have m1 := cell_kept hb5 m1
  have f0 := frozen_kept hb5 (by omega) f0
  have f1 := frozen_kept hb5 (by omega) f1
  go_wp2_with fail
  refine bodyPost_ret (v := .agg #[.int .i8 2, .slice none 0 0]) (by simp [results, Try.results77, go_sem, m0, m1]) rfl ?_
  rw [E.out]
  exact GetsTy.stored0 (z := RTy.bool) (a := none) (c := 0) hS (by unfold RTy.bool RTy.InS RTy.InsS; exact ⟨⟨by omega, by omega⟩, by simp [lenMax], trivial⟩) (hb1.trans (hb5.mono (by omega))) (by omega) (by omega)
end Go.Proofs.Ytaoodchjggimcaa

/- The walk of package rules' rules, by the words of package check: terms of kind 4. -/
set_option linter.unusedVariables false
set_option linter.unusedSimpArgs false
namespace Go.Proofs.Ytaoodchjggimcaa
open Go.RowKit

set_option maxRecDepth 100000 in
set_option maxHeartbeats 4000000 in
theorem rules4_c (N : Nat) (ih : ∀ (l : Env) (t : RTm) (B b o : Nat) (s : TmSh) (wb C : Nat) (S : Nat → Prop) (ea : Option Addr) (ec : Nat) (w : World), t.nodes ≤ N → WordsAt w B wb 17 40 41 17 → RTm.At w B b o s t → B ≤ w.heap.size → C ≤ w.heap.size → (∀ b, S b → b < w.heap.size) → (∀ b, b < B → S b) → EnvAt w C S ea ec l → l.length + 2 * t.nodes ≤ 20000 → t.right = true → l.right →
      Calls Try.prog 77 #[.pointer (some ⟨wb, 0, none⟩), .slice ea l.length ec, .pointer (some ⟨b, o, none⟩)] w (GetsTy S (gradual.rules N l t) w))(l : Env) (t : RTm) (B b o : Nat) (s : TmSh) (wb C : Nat) (S : Nat → Prop) (ea : Option Addr) (ec : Nat) (w : World) (hN : t.nodes ≤ N + 1) (hwd : WordsAt w B wb 17 40 41 17) (hat : RTm.At w B b o s t) (hB : B ≤ w.heap.size) (hC : C ≤ w.heap.size) (hS : ∀ b, S b → b < w.heap.size) (hBS : ∀ b, b < B → S b) (henv : EnvAt w C S ea ec l) (hnl : l.length + 2 * t.nodes ≤ 20000) (hrt : t.right = true) (hrl : l.right) (hkind : t.k = 4) :
    Calls Try.prog 77 #[.pointer (some ⟨wb, 0, none⟩), .slice ea l.length ec, .pointer (some ⟨b, o, none⟩)] w (GetsTy S (gradual.rules (N + 1) l t) w) := by
  have k0 := hat.c0
  rw [hkind] at k0
  have hwl := hwd.lt
  have hbl : b < w.heap.size := by have := hat.lt; omega
  go_enter Try.func77, Try.ntmps77
  go_upto_region 13 with fail
  generalize hW : World.alloc _ _ = w1
  have hb1 : Below w.heap.size w w1 := by rw [← hW]; (repeat (first | assumption | exact Below.refl _ _ | apply below_drewN | apply Below.drew | (refine Below.alloc ?_ (by first | omega | (simp; done) | (simp; omega)) _) | (refine Below.setCell ?_ (by first | omega | (simp; done) | (simp; omega)) _)))
  have hz1 : w1.heap.size = w.heap.size + 1 := by rw [← hW]; simp
  have m0 : w1.cell? ⟨w.heap.size, 0, none⟩ = some (.int .i8 0) := by rw [← hW]; simp [go_sem]
  have m1 : w1.cell? ⟨w.heap.size, 1, none⟩ = some (.slice none 0 0) := by rw [← hW]; simp [go_sem]
  have f0 : w1.frozen? ⟨w.heap.size, 0, none⟩ = false := by rw [← hW]; simp [go_sem]
  have f1 : w1.frozen? ⟨w.heap.size, 1, none⟩ = false := by rw [← hW]; simp [go_sem]
  clear hW
  have hS1 : ∀ b, S b → b < w1.heap.size := fun b hb => by have := hS b hb; omega
  have HK := Lib.hid hkind
  have hat1 := hat.below hb1 hB
  have hwd1 := hwd.below hb1 hB
  have henv1 := henv.below hb1 hC hS
  have t1 := hat1.c1
  have t2 := hat1.c2
  have t4 := hat1.c4
  have t5 := hat1.c5
  have t6 := hat1.c6
  have t7 := hat1.c7
  have t10 := hat1.c10
  clear hkind k0 henv
  have hlen := RTm.right_len hrt
  rw [HK.out] at hlen
  have hkn : t.ks.length = 1 := by unfold kidsOf at hlen; simp at hlen; omega
  obtain ⟨kb, ko, ks, hka, hkat⟩ := hat.kid (RTm.kid_get (t := t) (i := 0) (by omega))
  have hkn2 := RTm.kid_nodes (RTm.kid_get (t := t) (i := 0) (by omega))
  have hkr := Lib.hid (RTm.kid_right hrt (i := 0) (by omega))
  rw [hka, hkn] at t10
  have hty := RTm.right_ty hrt (by rw [HK.out]; rfl)
  have hbS := hb1.size
  have hw01 : w.heap.size < w1.heap.size := by omega
  have hkeep0 := fun (W : World) (hW : Below w.heap.size w W) => hW
  have hkeep := Lib.hid fun (W : World) (hW : Below w.heap.size w W) => (show W.cell? ⟨b, o + 1, none⟩ = some (.string t.name) ∧ W.cell? ⟨b, o + 4, none⟩ = some (.int .i8 t.ty.k) ∧ W.cell? ⟨b, o + 5, none⟩ = some (.slice s.ta t.ty.ks.length s.tc) ∧ W.cell? ⟨b, o + 10, none⟩ = some (.slice (some ⟨kb, ko, none⟩) 1 s.kc) from by have h := (hat.below hW hB); exact ⟨h.c1, h.c4, h.c5, by rw [← hka, ← hkn]; exact h.c10⟩)
  have hcallM := Lib.hid fun (W : World) (hW : Below w1.heap.size w1 W) => (more_any l t.name t.ty W.heap.size S ea s.ta ec s.tc W (by omega) (fun b hb => Nat.lt_of_lt_of_le (hS1 b hb) hW.size) (Nat.le_refl _) (EnvAt.up (henv1.below hW (by omega) hS1) (by have := hW.size; omega) fun _ h => h) (RTy.InS.below (RTy.InS.up hat1.inn.ty hBS) hW hS1)).mono fun e w' h => (show ∃ a' c', e = .returned (.slice a' (l.length + 1) c') ∧ EnvAt w' w'.heap.size S a' c' (l ++ [(t.name, t.ty)]) ∧ Below w1.heap.size w1 w' from by obtain ⟨a', c', h1, h2, h3⟩ := h; exact ⟨a', c', h1, h2, hW.trans (h3.mono hW.size)⟩)
  have hc0 : ∀ (W : World) (a' : Option Addr) (c' : Nat), Below w1.heap.size w1 W → EnvAt W W.heap.size S a' c' (l ++ [(t.name, t.ty)]) → Calls Try.prog 77 #[.pointer (some ⟨wb, 0, none⟩), .slice a' (l.length + 1) c', .pointer (some ⟨kb, ko + 0 * 11, none⟩)] W (GetsTy S (gradual.rules N (l ++ [(t.name, t.ty)]) (t.kid 0)) w1) := fun W a' c' hW hE => by
    have h := ih (l ++ [(t.name, t.ty)]) (t.kid 0) B kb (ko + 0 * 11) ks wb W.heap.size S a' c' W (by omega) (hwd1.below hW (by omega)) ((hkat.below hb1 hB).below hW (by omega)) (by have := hW.size; omega) (Nat.le_refl _) (fun b hb => Nat.lt_of_lt_of_le (hS1 b hb) hW.size) hBS hE (by simp; omega) hkr.out (Env.right_more hrl hty)
    rw [show (l ++ [(t.name, t.ty)]).length = l.length + 1 by simp] at h
    exact h.mono fun e w' h => GetsTy.on h hW
  simp only [Nat.zero_mul, Nat.add_zero] at hc0
  have hfin0 : ∀ f, gradual.rules (N + 1) l t = .error f → ∀ e w', Fails f w1 e w' → GetsTy S (gradual.rules (N + 1) l t) w e w' := fun f E e w' hf => by rw [E]; exact Fails.mono hf hb1
  have hcallN := Lib.hid fun (h : Hid False) (W : World) (args : Array Value) => (show Calls Try.prog 125 args W (fun e w' => e = .returned (.agg #[.int .i8 0, .slice none 0 0]) ∧ w1 = w') from h.out.elim)
  cases hr : gradual.rules N (l ++ [(t.name, t.ty)]) (t.kid 0) with
  | error f =>
    have E : gradual.rules (N + 1) l t = .error f := by simp [Mode.rules, HK.out, hr]
    have hfin := Lib.hid (hfin0 f E)
    rw [hr] at hc0
    have hcallR := Lib.hid fun W a' c' hW hE => (hc0 W a' c' hW hE).mono fun e w' (h : Fails f w1 e w') => (show Fails f w1 e w' ∨ (e = .returned (.agg #[.int .i8 0, .slice none 0 0]) ∧ w1 = w' ∧ Hid False) from .inl h)
    clear hr E hc0 hfin0
    go_region_held2 (fun v => v.cell? ⟨b, o + 1, none⟩ = some (.string t.name) ∧ v.cell? ⟨b, o + 4, none⟩ = some (.int .i8 t.ty.k) ∧ v.cell? ⟨b, o + 5, none⟩ = some (.slice s.ta t.ty.ks.length s.tc) ∧ v.cell? ⟨b, o + 10, none⟩ = some (.slice (some ⟨kb, ko, none⟩) 1 s.kc)) (first | exact hno.out.elim | (refine hkeep.out _ ?_; (repeat (first | assumption | exact Below.refl _ _ | apply below_drewN | apply Below.drew | (refine Below.alloc ?_ (by first | omega | (simp; done) | (simp; omega)) _) | (refine Below.setCell ?_ (by first | omega | (simp; done) | (simp; omega)) _))))) (first | (go_at_call 125; refine (hcallN.out hno _ _).mono ?_; rintro e _ ⟨rfl, rfl⟩) | (go_at_call 126; refine (hcallM.out _ ?_).mono ?_; (repeat (first | assumption | exact Below.refl _ _ | apply below_drewN | apply Below.drew | (refine Below.alloc ?_ (by first | omega | (simp; done) | (simp; omega)) _) | (refine Below.setCell ?_ (by first | omega | (simp; done) | (simp; omega)) _))); rintro e w2 ⟨ea2, ec2, rfl, henv2, hb2⟩; have hbw := hb1.trans (hb2.mono hbS); have n0 := cell_kept hb2 m0; have n1 := cell_kept hb2 m1; have e0 := frozen_kept hb2 hw01 f0; have e1 := frozen_kept hb2 hw01 f1) | (go_at_call 77; refine (hcallR.out _ _ _ hb2 henv2).mono ?_; rintro e w5 (⟨b1, rfl, hf⟩ | ⟨rfl, rfl, hno⟩); exact And.intro rfl (hfin.out _ _ ⟨b1, rfl, hf⟩)))
    exact hno.out.elim
  | ok bt =>
    rw [hr] at hc0
    have hcallR := Lib.hid hc0
    have hc1 : ∀ (W : World) (ba : Option Addr) (bc : Nat), Below w1.heap.size w1 W → bt.InS W (More S w1 W) ba → Calls Try.prog 125 #[.pointer (some ⟨b, o, none⟩), .int .i8 3, .agg #[.int .i8 t.ty.k, .slice s.ta t.ty.ks.length s.tc], .agg #[.int .i8 bt.k, .slice ba bt.ks.length bc]] W (GetsTy S (two t 3 t.ty bt) w1) := fun W ba bc hW hbt => (two_any t B b o s 3 t.ty bt s.ta ba s.tc bc W (hat1.below hW (by omega)) (by have := hW.size; omega) ⟨by omega, by omega⟩ (More S w1 W) (More.lt hS1 hW.size) (RTy.InS.up (RTy.InS.below (RTy.InS.up hat1.inn.ty hBS) hW hS1) fun b hb => .inl hb) hbt).mono fun e w' h => GetsTy.on2 h hW
    have E0 : gradual.rules (N + 1) l t = two t 3 t.ty bt := by simp [Mode.rules, HK.out, hr]
    clear hc0 hr
    cases hr2 : two t 3 t.ty bt with
    | error f =>
      have E : gradual.rules (N + 1) l t = .error f := by rw [E0, hr2]
      have hfin := Lib.hid (hfin0 f E)
      rw [hr2] at hc1
      have hcallT := Lib.hid fun W ba bc hW hE => (hc1 W ba bc hW hE).mono fun e w' (h : Fails f w1 e w') => (show Fails f w1 e w' ∨ (e = .returned (.agg #[.int .i8 0, .slice none 0 0]) ∧ w1 = w' ∧ Hid False) from .inl h)
      clear hr2 E E0 hc1 hfin0
      go_region_held2 (fun v => v.cell? ⟨b, o + 1, none⟩ = some (.string t.name) ∧ v.cell? ⟨b, o + 4, none⟩ = some (.int .i8 t.ty.k) ∧ v.cell? ⟨b, o + 5, none⟩ = some (.slice s.ta t.ty.ks.length s.tc) ∧ v.cell? ⟨b, o + 10, none⟩ = some (.slice (some ⟨kb, ko, none⟩) 1 s.kc)) (first | exact hno.out.elim | (refine hkeep.out _ ?_; (repeat (first | assumption | exact Below.refl _ _ | apply below_drewN | apply Below.drew | (refine Below.alloc ?_ (by first | omega | (simp; done) | (simp; omega)) _) | (refine Below.setCell ?_ (by first | omega | (simp; done) | (simp; omega)) _))))) (first | (go_at_call 126; refine (hcallM.out _ ?_).mono ?_; (repeat (first | assumption | exact Below.refl _ _ | apply below_drewN | apply Below.drew | (refine Below.alloc ?_ (by first | omega | (simp; done) | (simp; omega)) _) | (refine Below.setCell ?_ (by first | omega | (simp; done) | (simp; omega)) _))); rintro e w2 ⟨ea2, ec2, rfl, henv2, hb2⟩; have hbw := hb1.trans (hb2.mono hbS); have n0 := cell_kept hb2 m0; have n1 := cell_kept hb2 m1; have e0 := frozen_kept hb2 hw01 f0; have e1 := frozen_kept hb2 hw01 f1) | (go_at_call 77; refine (hcallR.out _ _ _ hb2 henv2).mono ?_; rintro e w2 ⟨ba, bc, rfl, hbt, hb2⟩; have hbw := hb1.trans (hb2.mono hbS); have n0 := cell_kept hb2 m0; have n1 := cell_kept hb2 m1; have e0 := frozen_kept hb2 hw01 f0; have e1 := frozen_kept hb2 hw01 f1) | (go_at_call 125; refine (hcallT.out _ _ _ hb2 hbt).mono ?_; rintro e w5 (⟨b1, rfl, hf⟩ | ⟨rfl, rfl, hno⟩); exact And.intro rfl (hfin.out _ _ ⟨b1, rfl, hf⟩)))
      exact hno.out.elim
    | ok z =>
      have E := Lib.hid (E0.trans hr2)
      rw [hr2] at hc1
      have hcallT := Lib.hid hc1
      clear hr2 E0 hc1 hfin0
      go_region_held3 (fun v => v.cell? ⟨b, o + 1, none⟩ = some (.string t.name) ∧ v.cell? ⟨b, o + 4, none⟩ = some (.int .i8 t.ty.k) ∧ v.cell? ⟨b, o + 5, none⟩ = some (.slice s.ta t.ty.ks.length s.tc) ∧ v.cell? ⟨b, o + 10, none⟩ = some (.slice (some ⟨kb, ko, none⟩) 1 s.kc)) (first | (refine hkeep.out _ ?_; (repeat (first | assumption | exact Below.refl _ _ | apply below_drewN | apply Below.drew | (refine Below.alloc ?_ (by first | omega | (simp; done) | (simp; omega)) _) | (refine Below.setCell ?_ (by first | omega | (simp; done) | (simp; omega)) _))))) (first | (go_at_call 126; refine (hcallM.out _ ?_).mono ?_; (repeat (first | assumption | exact Below.refl _ _ | apply below_drewN | apply Below.drew | (refine Below.alloc ?_ (by first | omega | (simp; done) | (simp; omega)) _) | (refine Below.setCell ?_ (by first | omega | (simp; done) | (simp; omega)) _))); rintro e w2 ⟨ea2, ec2, rfl, henv2, hb2⟩; have hbw := hb1.trans (hb2.mono hbS); have n0 := cell_kept hb2 m0; have n1 := cell_kept hb2 m1; have e0 := frozen_kept hb2 hw01 f0; have e1 := frozen_kept hb2 hw01 f1) | (go_at_call 77; refine (hcallR.out _ _ _ hb2 henv2).mono ?_; rintro e w2 ⟨ba, bc, rfl, hbt, hb2⟩; have hbw := hb1.trans (hb2.mono hbS); have n0 := cell_kept hb2 m0; have n1 := cell_kept hb2 m1; have e0 := frozen_kept hb2 hw01 f0; have e1 := frozen_kept hb2 hw01 f1) | (go_at_call 125; refine (hcallT.out _ _ _ hb2 hbt).mono ?_; rintro e w2 ⟨ba, bc, rfl, hbt, hb2⟩; have hbw := hb1.trans (hb2.mono hbS); have n0 := cell_kept hb2 m0; have n1 := cell_kept hb2 m1; have e0 := frozen_kept hb2 hw01 f0; have e1 := frozen_kept hb2 hw01 f1))
      go_wp2_with fail
      refine bodyPost_ret (v := .agg #[.int .i8 z.k, .slice ba z.ks.length bc]) (by simp [results, Try.results77, go_sem, n0, n1]) rfl ?_
      rw [E.out]
      exact GetsTy.stored (S' := S) hS (fun b hb => ⟨.inl hb, by have := hS b hb; omega⟩) hbt hb1 hb2 (Nat.le_refl _) hw01
end Go.Proofs.Ytaoodchjggimcaa

/- The walk of package rules' rules, by the words of package check: terms of kind 5. -/
set_option linter.unusedVariables false
set_option linter.unusedSimpArgs false
namespace Go.Proofs.Ytaoodchjggimcaa
open Go.RowKit

set_option maxRecDepth 100000 in
set_option maxHeartbeats 4000000 in
theorem rules5_c (N : Nat) (ih : ∀ (l : Env) (t : RTm) (B b o : Nat) (s : TmSh) (wb C : Nat) (S : Nat → Prop) (ea : Option Addr) (ec : Nat) (w : World), t.nodes ≤ N → WordsAt w B wb 17 40 41 17 → RTm.At w B b o s t → B ≤ w.heap.size → C ≤ w.heap.size → (∀ b, S b → b < w.heap.size) → (∀ b, b < B → S b) → EnvAt w C S ea ec l → l.length + 2 * t.nodes ≤ 20000 → t.right = true → l.right →
      Calls Try.prog 77 #[.pointer (some ⟨wb, 0, none⟩), .slice ea l.length ec, .pointer (some ⟨b, o, none⟩)] w (GetsTy S (gradual.rules N l t) w))(l : Env) (t : RTm) (B b o : Nat) (s : TmSh) (wb C : Nat) (S : Nat → Prop) (ea : Option Addr) (ec : Nat) (w : World) (hN : t.nodes ≤ N + 1) (hwd : WordsAt w B wb 17 40 41 17) (hat : RTm.At w B b o s t) (hB : B ≤ w.heap.size) (hC : C ≤ w.heap.size) (hS : ∀ b, S b → b < w.heap.size) (hBS : ∀ b, b < B → S b) (henv : EnvAt w C S ea ec l) (hnl : l.length + 2 * t.nodes ≤ 20000) (hrt : t.right = true) (hrl : l.right) (hkind : t.k = 5) :
    Calls Try.prog 77 #[.pointer (some ⟨wb, 0, none⟩), .slice ea l.length ec, .pointer (some ⟨b, o, none⟩)] w (GetsTy S (gradual.rules (N + 1) l t) w) := by
  have k0 := hat.c0
  rw [hkind] at k0
  have hwl := hwd.lt
  have hbl : b < w.heap.size := by have := hat.lt; omega
  go_enter Try.func77, Try.ntmps77
  go_upto_region 15 with fail
  generalize hW : World.alloc _ _ = w1
  have hb1 : Below w.heap.size w w1 := by rw [← hW]; (repeat (first | assumption | exact Below.refl _ _ | apply below_drewN | apply Below.drew | (refine Below.alloc ?_ (by first | omega | (simp; done) | (simp; omega)) _) | (refine Below.setCell ?_ (by first | omega | (simp; done) | (simp; omega)) _)))
  have hz1 : w1.heap.size = w.heap.size + 1 := by rw [← hW]; simp
  have m0 : w1.cell? ⟨w.heap.size, 0, none⟩ = some (.int .i8 0) := by rw [← hW]; simp [go_sem]
  have m1 : w1.cell? ⟨w.heap.size, 1, none⟩ = some (.slice none 0 0) := by rw [← hW]; simp [go_sem]
  have f0 : w1.frozen? ⟨w.heap.size, 0, none⟩ = false := by rw [← hW]; simp [go_sem]
  have f1 : w1.frozen? ⟨w.heap.size, 1, none⟩ = false := by rw [← hW]; simp [go_sem]
  clear hW
  have hS1 : ∀ b, S b → b < w1.heap.size := fun b hb => by have := hS b hb; omega
  have HK := Lib.hid hkind
  have hat1 := hat.below hb1 hB
  have hwd1 := hwd.below hb1 hB
  have henv1 := henv.below hb1 hC hS
  have t1 := hat1.c1
  have t2 := hat1.c2
  have t4 := hat1.c4
  have t5 := hat1.c5
  have t6 := hat1.c6
  have t7 := hat1.c7
  have t10 := hat1.c10
  clear hkind k0 henv
  have hlen := RTm.right_len hrt
  rw [HK.out] at hlen
  have hkn : t.ks.length = 1 := by unfold kidsOf at hlen; simp at hlen; omega
  obtain ⟨kb, ko, ks, hka, hkat⟩ := hat.kid (RTm.kid_get (t := t) (i := 0) (by omega))
  have hkn2 := RTm.kid_nodes (RTm.kid_get (t := t) (i := 0) (by omega))
  have hkr := Lib.hid (RTm.kid_right hrt (i := 0) (by omega))
  rw [hka, hkn] at t10
  have hty := RTm.right_ty hrt (by rw [HK.out]; rfl)
  have hto := RTm.right_to hrt (by rw [HK.out]; rfl)
  have hbS := hb1.size
  have hw01 : w.heap.size < w1.heap.size := by omega
  clear hz1
  have HTY : t.ty.InS w1 S s.ta := RTy.InS.up hat1.inn.ty hBS
  have HTO : t.to.InS w1 S s.oa := RTy.InS.up hat1.inn.to hBS
  have hkeep := Lib.hid fun (W : World) (hW : Below w1.heap.size w1 W) => And.intro (cell_kept hW t4) (And.intro (cell_kept hW t5) (And.intro (cell_kept hW t6) (cell_kept hW t7)))
  go_cut [9] (fun s9 wx => ∃ (r : Nat) (oa : Option Addr) (oc : Nat), s9 = .pointer (some ⟨r, 0, none⟩) ∧ VarAt wx w1 r S (.mk 3 [t.ty, t.to]) oa oc ∧ Below w1.heap.size w1 wx)
  case first =>
    go_region_held3 (fun v => v.cell? ⟨b, o + 4, none⟩ = some (.int .i8 t.ty.k) ∧ v.cell? ⟨b, o + 5, none⟩ = some (.slice s.ta t.ty.ks.length s.tc) ∧ v.cell? ⟨b, o + 6, none⟩ = some (.int .i8 t.to.k) ∧ v.cell? ⟨b, o + 7, none⟩ = some (.slice s.oa t.to.ks.length s.oc)) (first | (refine hkeep.out _ ?_; (repeat (first | assumption | exact Below.refl _ _ | apply below_drewN | apply Below.drew | (refine Below.alloc ?_ (by first | omega | (simp; done) | (simp; omega)) _) | (refine Below.setCell ?_ (by first | omega | (simp; done) | (simp; omega)) _))))) (fail)
    all_goals
      go_wp2_with fail
      go_meet
      first | refine ⟨w1.heap.size + 1, some ⟨w1.heap.size, 0, none⟩, 2, rfl, ?_, ?_⟩ | refine ⟨w1.heap.size, some ⟨w1.heap.size + 1, 0, none⟩, 2, rfl, ?_, ?_⟩
      · exact VarAt.two hS1 ⟨by omega, by omega⟩ HTY HTO (by (repeat (first | assumption | exact Below.refl _ _ | apply below_drewN | apply Below.drew | (refine Below.alloc ?_ (by first | omega | (simp; done) | (simp; omega)) _) | (refine Below.setCell ?_ (by first | omega | (simp; done) | (simp; omega)) _)))) (by omega) (by first | omega | (simp; done) | (simp; omega)) (by omega) (by first | omega | (simp; done) | (simp; omega)) (by omega) (by first | (simp [go_sem]; done) | (simp [go_sem]; rfl)) (by first | (simp [go_sem]; done) | (simp [go_sem]; rfl)) (by first | (simp [go_sem]; done) | (simp [go_sem]; rfl)) (by first | (simp [go_sem]; done) | (simp [go_sem]; rfl)) (by first | (simp [go_sem]; done) | (simp [go_sem]; rfl)) (by first | (simp [go_sem]; done) | (simp [go_sem]; rfl))
      · (repeat (first | assumption | exact Below.refl _ _ | apply below_drewN | apply Below.drew | (refine Below.alloc ?_ (by first | omega | (simp; done) | (simp; omega)) _) | (refine Below.setCell ?_ (by first | omega | (simp; done) | (simp; omega)) _)))
  case rest =>
    obtain ⟨wa, rfl⟩ : ∃ wa : World, wa = wc := ⟨_, rfl⟩
    obtain ⟨r, oa, oc, rfl, hv, hbv⟩ := hcut
    have hbwc : Below w.heap.size w wa := hb1.trans (hbv.mono hbS)
    have HSc : ∀ b, More S w1 wa b → b < wa.heap.size := More.lt hS1 hbv.size
    have HBSc : ∀ b, b < B → More S w1 wa b := fun b hb => .inl (hBS b hb)
    have henvc : EnvAt wa wa.heap.size (More S w1 wa) ea ec l := EnvAt.up (henv1.below hbv (by omega) hS1) (by have := hbwc.size; omega) fun _ h => .inl h
    have HOWN := hv.more
    have HTYc : t.ty.InS wa (More S w1 wa) s.ta := RTy.InS.up (RTy.InS.below HTY hbv hS1) fun _ h => .inl h
    have hatc := hat.below hbwc hB
    have t1 := hatc.c1
    have t2 := hatc.c2
    have t4 := hatc.c4
    have t5 := hatc.c5
    have t10 := hatc.c10
    rw [hka, hkn] at t10
    have p0 := hv.c0
    have p1 := hv.c1
    have m0 := cell_kept hbv m0
    have m1 := cell_kept hbv m1
    have f0 := frozen_kept hbv hw01 f0
    have f1 := frozen_kept hbv hw01 f1
    simp only [RTy.k, RTy.ks, List.length_cons, List.length_nil, Nat.zero_add, Nat.reduceAdd, Int.cast_ofNat_Int] at p0 p1
    clear hkeep t6 t7 hatc hv
    have hszc := hbwc.size
    go_upto_region 16 with fail
    have hkeep := Lib.hid fun (W : World) (hW : Below wa.heap.size wa W) => And.intro (cell_kept hW t1) (And.intro (cell_kept hW p0) (And.intro (cell_kept hW p1) (And.intro (cell_kept hW t2) (And.intro (cell_kept hW t4) (And.intro (cell_kept hW t5) (cell_kept hW t10))))))
    have hcM0 := Lib.hid fun (W : World) (hW : Below wa.heap.size wa W) => (show Calls Try.prog 126 #[.slice ea (l.length : Nat) ec, .string t.name, .agg #[.int .i8 3, .slice oa 2 oc]] W fun e w' => ∃ a' c', e = .returned (.slice a' (l.length + 1 : Nat) c') ∧ EnvAt w' w'.heap.size (More S w1 wa) a' c' (l ++ [(t.name, (RTy.mk 3 [t.ty, t.to]))]) ∧ Below W.heap.size W w' ∧ Below wa.heap.size wa w' from by
      have h := more_any l t.name (RTy.mk 3 [t.ty, t.to]) W.heap.size (More S w1 wa) ea oa ec oc W (by (try simp only [List.length_append, List.length_cons, List.length_nil]); omega) (fun b hb => Nat.lt_of_lt_of_le (HSc b hb) hW.size) (Nat.le_refl _) (EnvAt.up (henvc.below hW (Nat.le_refl _) HSc) hW.size fun _ h => h) (RTy.InS.below HOWN hW HSc)
      exact h.mono fun e w' h => by obtain ⟨a', c', h1, h2, h3⟩ := h; exact ⟨a', c', h1, h2, h3, hW.trans (h3.mono hW.size)⟩)
    have hcM1 := Lib.hid fun (W : World) (X : World) (hX : Below wa.heap.size wa X) (hXW : Below X.heap.size X W) (a0 : Option Addr) (c0 : Nat) (hE : EnvAt X X.heap.size (More S w1 wa) a0 c0 (l ++ [(t.name, (RTy.mk 3 [t.ty, t.to]))])) => (show Calls Try.prog 126 #[.slice a0 (l.length + 1 : Nat) c0, .string t.arg, .agg #[.int .i8 t.ty.k, .slice s.ta t.ty.ks.length s.tc]] W fun e w' => ∃ a' c', e = .returned (.slice a' (l.length + 1 + 1 : Nat) c') ∧ EnvAt w' w'.heap.size (More S w1 wa) a' c' ((l ++ [(t.name, (RTy.mk 3 [t.ty, t.to]))]) ++ [(t.arg, t.ty)]) ∧ Below W.heap.size W w' ∧ Below wa.heap.size wa w' from by
      have hW := hX.trans (hXW.mono hX.size)
      have h := more_any (l ++ [(t.name, (RTy.mk 3 [t.ty, t.to]))]) t.arg t.ty W.heap.size (More S w1 wa) a0 s.ta c0 s.tc W (by (try simp only [List.length_append, List.length_cons, List.length_nil]); omega) (fun b hb => Nat.lt_of_lt_of_le (HSc b hb) hW.size) (Nat.le_refl _) (EnvAt.up (hE.below hXW (Nat.le_refl _) fun b hb => Nat.lt_of_lt_of_le (HSc b hb) hX.size) hXW.size fun _ h => h) (RTy.InS.below HTYc hW HSc)
      rw [show ((l ++ [(t.name, (RTy.mk 3 [t.ty, t.to]))]) : Env).length = l.length + 1 by simp] at h; exact h.mono fun e w' h => by obtain ⟨a', c', h1, h2, h3⟩ := h; exact ⟨a', c', h1, h2, h3, hW.trans (h3.mono hW.size)⟩)
    have hc0 : ∀ (W : World) (a' : Option Addr) (c' : Nat), ∀ X : World, Below wa.heap.size wa X → Below X.heap.size X W → EnvAt X X.heap.size (More S w1 wa) a' c' ((l ++ [(t.name, (RTy.mk 3 [t.ty, t.to]))]) ++ [(t.arg, t.ty)]) → Calls Try.prog 77 #[.pointer (some ⟨wb, 0, none⟩), .slice a' (l.length + 1 + 1 : Nat) c', .pointer (some ⟨kb, ko + 0 * 11, none⟩)] W (GetsTy (More S w1 wa) (gradual.rules N ((l ++ [(t.name, (RTy.mk 3 [t.ty, t.to]))]) ++ [(t.arg, t.ty)]) (t.kid 0)) W) := fun W a' c' X hX hXW hE0 => by
      have hW := hX.trans (hXW.mono hX.size)
      have hE := (EnvAt.up (hE0.below hXW (Nat.le_refl _) fun b hb => Nat.lt_of_lt_of_le (HSc b hb) hX.size) hXW.size fun _ h => h)
      have hbw := hbwc.trans (hW.mono hbwc.size)
      have h := ih ((l ++ [(t.name, (RTy.mk 3 [t.ty, t.to]))]) ++ [(t.arg, t.ty)]) (t.kid 0) B kb (ko + 0 * 11) ks wb W.heap.size (More S w1 wa) a' c' W (by omega) (hwd.below hbw hB) (hkat.below hbw hB) (by have := hbw.size; omega) (Nat.le_refl _) (fun b hb => Nat.lt_of_lt_of_le (HSc b hb) hW.size) HBSc hE (by (try simp only [List.length_append, List.length_cons, List.length_nil]); omega) hkr.out (Env.right_more (Env.right_more hrl (RTy.right_two (by omega) (by omega) hty hto)) hty)
      rw [show (((l ++ [(t.name, (RTy.mk 3 [t.ty, t.to]))]) ++ [(t.arg, t.ty)]) : Env).length = l.length + 1 + 1 by simp] at h
      exact h
    simp only [Nat.reduceMul, Nat.add_zero] at hc0
    cases hr : gradual.rules N ((l ++ [(t.name, (RTy.mk 3 [t.ty, t.to]))]) ++ [(t.arg, t.ty)]) (t.kid 0) with
    | error f =>
      rw [hr] at hc0
      have E : gradual.rules (N + 1) l t = .error f := by rw [Mode.rules5 HK.out, hr]
      have hfin := Lib.hid fun (e : Ending) (w' : World) (hf : Fails f w e w') => (show GetsTy S (gradual.rules (N + 1) l t) w e w' from by rw [E]; exact hf)
      have hcR := Lib.hid fun (W : World) (a' : Option Addr) (c' : Nat) (X : World) (hX : Below wa.heap.size wa X) (hXW : Below X.heap.size X W) hE => (hc0 W a' c' X hX hXW hE).mono fun e w' (h : Fails f W e w') => (show Fails f w e w' ∨ (e = .returned (.agg #[.int .i8 0, .slice none 0 0]) ∧ W = w' ∧ Hid False) from .inl (Fails.mono h (hbwc.trans ((hX.trans (hXW.mono hX.size)).mono hbwc.size))))
      clear hr E hc0
      go_region_held2 (fun v => v.cell? ⟨b, o + 1, none⟩ = some (.string t.name) ∧ v.cell? ⟨r, 0, none⟩ = some (.int .i8 3) ∧ v.cell? ⟨r, 1, none⟩ = some (.slice oa 2 oc) ∧ v.cell? ⟨b, o + 2, none⟩ = some (.string t.arg) ∧ v.cell? ⟨b, o + 4, none⟩ = some (.int .i8 t.ty.k) ∧ v.cell? ⟨b, o + 5, none⟩ = some (.slice s.ta t.ty.ks.length s.tc) ∧ v.cell? ⟨b, o + 10, none⟩ = some (.slice (some ⟨kb, ko, none⟩) 1 s.kc)) (first | exact hno.out.elim | (refine hkeep.out _ ?_; (repeat (first | assumption | exact Below.refl _ _ | apply below_drewN | apply Below.drew | (refine Below.alloc ?_ (by first | omega | (simp; done) | (simp; omega)) _) | (refine Below.setCell ?_ (by first | omega | (simp; done) | (simp; omega)) _))))) (first | (go_at_call_of 126 (.string t.name : Value); refine (hcM0.out _ ?_).mono ?_; (repeat (first | assumption | exact Below.refl _ _ | apply below_drewN | apply Below.drew | (refine Below.alloc ?_ (by first | omega | (simp; done) | (simp; omega)) _) | (refine Below.setCell ?_ (by first | omega | (simp; done) | (simp; omega)) _))); rintro e w20 ⟨ea20, ec20, rfl, henv20, hb20, hc20⟩; have hs20 := hc20.size; have hnew0 := cell_kept hb20 (new_d0 wa _); have hnew1 := cell_kept hb20 (new_d1 wa _); have fnew0 := frozen_kept hb20 (new_dlt wa _) (new_e0 wa _); have fnew1 := frozen_kept hb20 (new_dlt wa _) (new_e1 wa _); have hnewl := Nat.lt_of_lt_of_le (new_dlt wa _) hb20.size) | (go_at_call_of 126 (.string t.name : Value); refine (hcM0.out _ ?_).mono ?_; (repeat (first | assumption | exact Below.refl _ _ | apply below_drewN | apply Below.drew | (refine Below.alloc ?_ (by first | omega | (simp; done) | (simp; omega)) _) | (refine Below.setCell ?_ (by first | omega | (simp; done) | (simp; omega)) _))); rintro e w20 ⟨ea20, ec20, rfl, henv20, hb20, hc20⟩; have hs20 := hc20.size) | (go_at_call_of 126 (.string t.arg : Value); refine (hcM1.out _ w20 hc20 ?_ _ _ henv20).mono ?_; (repeat (first | assumption | exact Below.refl _ _ | apply below_drewN | apply Below.drew | (refine Below.alloc ?_ (by first | omega | (simp; done) | (simp; omega)) _) | (refine Below.setCell ?_ (by first | omega | (simp; done) | (simp; omega)) _))); rintro e w21 ⟨ea21, ec21, rfl, henv21, hb21, hc21⟩; have hs21 := hc21.size; have hnew0 := cell_kept hb21 hnew0; have hnew1 := cell_kept hb21 hnew1; have fnew0 := frozen_kept hb21 hnewl fnew0; have fnew1 := frozen_kept hb21 hnewl fnew1; have hnewl := Nat.lt_of_lt_of_le hnewl hb21.size) | (go_at_call_of 126 (.string t.arg : Value); refine (hcM1.out _ w20 hc20 ?_ _ _ henv20).mono ?_; (repeat (first | assumption | exact Below.refl _ _ | apply below_drewN | apply Below.drew | (refine Below.alloc ?_ (by first | omega | (simp; done) | (simp; omega)) _) | (refine Below.setCell ?_ (by first | omega | (simp; done) | (simp; omega)) _))); rintro e w21 ⟨ea21, ec21, rfl, henv21, hb21, hc21⟩; have hs21 := hc21.size; have hnew0 := cell_kept hb21 (new_c0 w20 _); have hnew1 := cell_kept hb21 (new_c1 w20 _); have fnew0 := frozen_kept hb21 (new_lt w20 _) (new_f0 w20 _); have fnew1 := frozen_kept hb21 (new_lt w20 _) (new_f1 w20 _); have hnewl := Nat.lt_of_lt_of_le (new_lt w20 _) hb21.size) | (go_at_call_of 126 (.string t.arg : Value); refine (hcM1.out _ w20 hc20 ?_ _ _ henv20).mono ?_; (repeat (first | assumption | exact Below.refl _ _ | apply below_drewN | apply Below.drew | (refine Below.alloc ?_ (by first | omega | (simp; done) | (simp; omega)) _) | (refine Below.setCell ?_ (by first | omega | (simp; done) | (simp; omega)) _))); rintro e w21 ⟨ea21, ec21, rfl, henv21, hb21, hc21⟩; have hs21 := hc21.size) | (go_at_call 77; refine (hcR.out _ _ _ w21 hc21 ?_ henv21).mono ?_; (repeat (first | assumption | exact Below.refl _ _ | apply below_drewN | apply Below.drew | (refine Below.alloc ?_ (by first | omega | (simp; done) | (simp; omega)) _) | (refine Below.setCell ?_ (by first | omega | (simp; done) | (simp; omega)) _))); rintro e w25 (⟨b1, rfl, hf⟩ | ⟨rfl, rfl, hno⟩); exact And.intro rfl (hfin.out _ _ ⟨b1, rfl, hf⟩)))
      all_goals exact hno.out.elim
    | ok bt =>
      rw [hr] at hc0
      have hcR := Lib.hid fun (W : World) (a' : Option Addr) (c' : Nat) (X : World) (hX : Below wa.heap.size wa X) (hXW : Below X.heap.size X W) hE => (hc0 W a' c' X hX hXW hE).mono fun e w' h => (show ∃ ba bc, e = .returned (.agg #[.int .i8 bt.k, .slice ba bt.ks.length bc]) ∧ bt.InS w' (More (More S w1 wa) W w') ba ∧ Below W.heap.size W w' ∧ Below wa.heap.size wa w' from by obtain ⟨ba, bc, h1, h2, h3⟩ := h; exact ⟨ba, bc, h1, h2, h3, (hX.trans (hXW.mono hX.size)).trans (h3.mono (hX.trans (hXW.mono hX.size)).size)⟩)
      have HR10 := Lib.hid hr
      clear hr hc0
      go_cut [10] (fun s9 wx => ∃ (r : Nat) (za : Option Addr) (zc : Nat), s9 = .pointer (some ⟨r, 0, none⟩) ∧ VarAt wx wa r (More S w1 wa) bt za zc ∧ Below wa.heap.size wa wx)
      case first =>
        go_region_held3 (fun v => v.cell? ⟨b, o + 1, none⟩ = some (.string t.name) ∧ v.cell? ⟨r, 0, none⟩ = some (.int .i8 3) ∧ v.cell? ⟨r, 1, none⟩ = some (.slice oa 2 oc) ∧ v.cell? ⟨b, o + 2, none⟩ = some (.string t.arg) ∧ v.cell? ⟨b, o + 4, none⟩ = some (.int .i8 t.ty.k) ∧ v.cell? ⟨b, o + 5, none⟩ = some (.slice s.ta t.ty.ks.length s.tc) ∧ v.cell? ⟨b, o + 10, none⟩ = some (.slice (some ⟨kb, ko, none⟩) 1 s.kc)) (first | (refine hkeep.out _ ?_; (repeat (first | assumption | exact Below.refl _ _ | apply below_drewN | apply Below.drew | (refine Below.alloc ?_ (by first | omega | (simp; done) | (simp; omega)) _) | (refine Below.setCell ?_ (by first | omega | (simp; done) | (simp; omega)) _))))) (first | (go_at_call_of 126 (.string t.name : Value); refine (hcM0.out _ ?_).mono ?_; (repeat (first | assumption | exact Below.refl _ _ | apply below_drewN | apply Below.drew | (refine Below.alloc ?_ (by first | omega | (simp; done) | (simp; omega)) _) | (refine Below.setCell ?_ (by first | omega | (simp; done) | (simp; omega)) _))); rintro e w20 ⟨ea20, ec20, rfl, henv20, hb20, hc20⟩; have hs20 := hc20.size; have hnew0 := cell_kept hb20 (new_d0 wa _); have hnew1 := cell_kept hb20 (new_d1 wa _); have fnew0 := frozen_kept hb20 (new_dlt wa _) (new_e0 wa _); have fnew1 := frozen_kept hb20 (new_dlt wa _) (new_e1 wa _); have hnewl := Nat.lt_of_lt_of_le (new_dlt wa _) hb20.size) | (go_at_call_of 126 (.string t.name : Value); refine (hcM0.out _ ?_).mono ?_; (repeat (first | assumption | exact Below.refl _ _ | apply below_drewN | apply Below.drew | (refine Below.alloc ?_ (by first | omega | (simp; done) | (simp; omega)) _) | (refine Below.setCell ?_ (by first | omega | (simp; done) | (simp; omega)) _))); rintro e w20 ⟨ea20, ec20, rfl, henv20, hb20, hc20⟩; have hs20 := hc20.size) | (go_at_call_of 126 (.string t.arg : Value); refine (hcM1.out _ w20 hc20 ?_ _ _ henv20).mono ?_; (repeat (first | assumption | exact Below.refl _ _ | apply below_drewN | apply Below.drew | (refine Below.alloc ?_ (by first | omega | (simp; done) | (simp; omega)) _) | (refine Below.setCell ?_ (by first | omega | (simp; done) | (simp; omega)) _))); rintro e w21 ⟨ea21, ec21, rfl, henv21, hb21, hc21⟩; have hs21 := hc21.size; have hnew0 := cell_kept hb21 hnew0; have hnew1 := cell_kept hb21 hnew1; have fnew0 := frozen_kept hb21 hnewl fnew0; have fnew1 := frozen_kept hb21 hnewl fnew1; have hnewl := Nat.lt_of_lt_of_le hnewl hb21.size) | (go_at_call_of 126 (.string t.arg : Value); refine (hcM1.out _ w20 hc20 ?_ _ _ henv20).mono ?_; (repeat (first | assumption | exact Below.refl _ _ | apply below_drewN | apply Below.drew | (refine Below.alloc ?_ (by first | omega | (simp; done) | (simp; omega)) _) | (refine Below.setCell ?_ (by first | omega | (simp; done) | (simp; omega)) _))); rintro e w21 ⟨ea21, ec21, rfl, henv21, hb21, hc21⟩; have hs21 := hc21.size; have hnew0 := cell_kept hb21 (new_c0 w20 _); have hnew1 := cell_kept hb21 (new_c1 w20 _); have fnew0 := frozen_kept hb21 (new_lt w20 _) (new_f0 w20 _); have fnew1 := frozen_kept hb21 (new_lt w20 _) (new_f1 w20 _); have hnewl := Nat.lt_of_lt_of_le (new_lt w20 _) hb21.size) | (go_at_call_of 126 (.string t.arg : Value); refine (hcM1.out _ w20 hc20 ?_ _ _ henv20).mono ?_; (repeat (first | assumption | exact Below.refl _ _ | apply below_drewN | apply Below.drew | (refine Below.alloc ?_ (by first | omega | (simp; done) | (simp; omega)) _) | (refine Below.setCell ?_ (by first | omega | (simp; done) | (simp; omega)) _))); rintro e w21 ⟨ea21, ec21, rfl, henv21, hb21, hc21⟩; have hs21 := hc21.size) | (go_at_call 77; refine (hcR.out _ _ _ w21 hc21 ?_ henv21).mono ?_; (repeat (first | assumption | exact Below.refl _ _ | apply below_drewN | apply Below.drew | (refine Below.alloc ?_ (by first | omega | (simp; done) | (simp; omega)) _) | (refine Below.setCell ?_ (by first | omega | (simp; done) | (simp; omega)) _))); rintro e w22 ⟨ba, bc, rfl, hbt, hb22, hc22⟩; have hs22 := hb22.size; have hnew0 := cell_kept hb22 hnew0; have hnew1 := cell_kept hb22 hnew1; have fnew0 := frozen_kept hb22 hnewl fnew0; have fnew1 := frozen_kept hb22 hnewl fnew1) | (go_at_call 77; refine (hcR.out _ _ _ w21 hc21 ?_ henv21).mono ?_; (repeat (first | assumption | exact Below.refl _ _ | apply below_drewN | apply Below.drew | (refine Below.alloc ?_ (by first | omega | (simp; done) | (simp; omega)) _) | (refine Below.setCell ?_ (by first | omega | (simp; done) | (simp; omega)) _))); rintro e w22 ⟨ba, bc, rfl, hbt, hb22, hc22⟩; have hs22 := hb22.size; have hnew0 := cell_kept hb22 (new_c0 w21 _); have hnew1 := cell_kept hb22 (new_c1 w21 _); have fnew0 := frozen_kept hb22 (new_lt w21 _) (new_f0 w21 _); have fnew1 := frozen_kept hb22 (new_lt w21 _) (new_f1 w21 _)) | (go_at_call 77; refine (hcR.out _ _ _ w21 hc21 ?_ henv21).mono ?_; (repeat (first | assumption | exact Below.refl _ _ | apply below_drewN | apply Below.drew | (refine Below.alloc ?_ (by first | omega | (simp; done) | (simp; omega)) _) | (refine Below.setCell ?_ (by first | omega | (simp; done) | (simp; omega)) _))); rintro e w22 ⟨ba, bc, rfl, hbt, hb22, hc22⟩; have hs22 := hb22.size))
        all_goals
          go_wp2_with fail
          go_meet
          refine ⟨_, ba, bc, rfl, ?_, ?_⟩
          · try simp only [World.size_alloc, World.size_drew] at hs22
            first | (refine VarAt.mid HSc ?_ ?_ hbt ?_ hnew0 hnew1 <;> (first | omega | (simp only [World.size_drew, World.size_alloc]; omega))) | (refine VarAt.last HSc ?_ hbt ?_ <;> (first | omega | (simp only [World.size_drew, World.size_alloc]; omega)))
          · (repeat (first | assumption | exact Below.refl _ _ | apply below_drewN | apply Below.drew | (refine Below.alloc ?_ (by first | omega | (simp; done) | (simp; omega)) _) | (refine Below.setCell ?_ (by first | omega | (simp; done) | (simp; omega)) _)))
      case rest =>
        obtain ⟨r2, ba, bc, rfl, hv2, hbv2⟩ := hcut
        have hbwd : Below w.heap.size w wc := hbwc.trans (hbv2.mono hbwc.size)
        have hF : Hid (gradual.rules (N + 1) l t = if gradual.agrees bt t.to then small t (.mk 3 [t.ty, t.to]) else fault t 91) := by show _ = _; rw [Mode.rules5 HK.out, HR10.out]
        have hszv := hbv.size
        have hszv2 := hbv2.size
        clear HR10 hkeep hcM0 hcM1 hcR t1 t2 t4 t5 t10
        go_upto_region 17 with fail
        have v0 := hv2.c0
        have v1 := hv2.c1
        have p0 := cell_kept hbv2 p0
        have p1 := cell_kept hbv2 p1
        have m0 := cell_kept hbv2 m0
        have m1 := cell_kept hbv2 m1
        have f0 := frozen_kept hbv2 (by have := hbv.size; omega) f0
        have f1 := frozen_kept hbv2 (by have := hbv.size; omega) f1
        have t6 := (hat.below hbwd hB).c6
        have t7 := (hat.below hbwd hB).c7
        have HA2 : bt.In wc wc.heap.size ba := RTy.InS.up hv2.more (More.lt HSc hbv2.size)
        have HB2 : t.to.In wc wc.heap.size s.oa := RTy.In.up (hat.below hbwd hB).inn.to (by have := hbwd.size; omega)
        have hwd3 := hwd.below hbwd hB
        have hat3 := hat.below hbwd hB
        have a0 := hwd3.c0
        have hkeep := Lib.hid fun (W : World) (hW : Below wc.heap.size wc W) => And.intro (cell_kept hW a0) (And.intro (cell_kept hW v0) (And.intro (cell_kept hW v1) (And.intro (cell_kept hW t6) (cell_kept hW t7))))
        have hc0 : ∀ (W : World), Below wc.heap.size wc W → Calls Try.prog 17 #[.agg #[.int .i8 bt.k, .slice ba bt.ks.length bc], .agg #[.int .i8 t.to.k, .slice s.oa t.to.ks.length s.oc]] W fun e w' => e = .returned (.bool (gradual.agrees bt t.to)) ∧ Below wc.heap.size wc w' := fun W hW => (agrees_c bt t.to wc.heap.size _ _ _ _ W (RTy.In.below HA2 hW (Nat.le_refl _)) (RTy.In.below HB2 hW (Nat.le_refl _)) hW.size).mono fun e w' h => And.intro h.1 (hW.trans (h.2.mono hW.size))
        have hBW : B ≤ wc.heap.size := by have := hbwd.size; omega
        have hwant0 := Lib.hid fun (W : World) (hW : Below wc.heap.size wc W) => (want_no t B b o s 91 W (hat3.below hW hBW) (Nat.le_trans hBW hW.size)).mono fun e w' h => (show Fails ⟨91, t.spot, ⟨#[]⟩⟩ W e w' ∨ (e = .returned (.tuple #[]) ∧ Hid False) from .inl h)
        by_cases hag : gradual.agrees bt t.to = true
        · have E0 := Lib.hid (show gradual.rules (N + 1) l t = small t (.mk 3 [t.ty, t.to]) by rw [hF.out, if_pos hag])
          rw [hag] at hc0
          have hcall := Lib.hid hc0
          clear hag hc0
          go_region_held3 (fun v => v.cell? ⟨wb, 0, none⟩ = some (.func (.func 17) #[] #[]) ∧ v.cell? ⟨r2, 0, none⟩ = some (.int .i8 bt.k) ∧ v.cell? ⟨r2, 1, none⟩ = some (.slice ba bt.ks.length bc) ∧ v.cell? ⟨b, o + 6, none⟩ = some (.int .i8 t.to.k) ∧ v.cell? ⟨b, o + 7, none⟩ = some (.slice s.oa t.to.ks.length s.oc)) (first | (refine hkeep.out _ ?_; (repeat (first | assumption | exact Below.refl _ _ | apply below_drewN | apply Below.drew | (refine Below.alloc ?_ (by first | omega | (simp; done) | (simp; omega)) _) | (refine Below.setCell ?_ (by first | omega | (simp; done) | (simp; omega)) _))))) (first | (go_at_call 17; refine (hcall.out _ ?_).mono ?_; (repeat (first | assumption | exact Below.refl _ _ | apply below_drewN | apply Below.drew | (refine Below.alloc ?_ (by first | omega | (simp; done) | (simp; omega)) _) | (refine Below.setCell ?_ (by first | omega | (simp; done) | (simp; omega)) _))); rintro e w4 ⟨rfl, hb4⟩) | (go_at_call 127; refine (want_yes b o _ _).mono ?_; rintro e _ ⟨rfl, rfl⟩))
          have hs4 := hb4.size
          have hbw4 : Below w.heap.size w w4 := hbwd.trans (hb4.mono hbwd.size)
          have p0 := cell_kept hb4 p0
          have p1 := cell_kept hb4 p1
          have m0 := cell_kept hb4 m0
          have m1 := cell_kept hb4 m1
          have hszw := hbwd.size
          have f0 := frozen_kept hb4 (by omega) f0
          have f1 := frozen_kept hb4 (by omega) f1
          clear hkeep hcall a0 v0 v1 t6 t7 hwant0
          go_wp2_with fail
          have hsm := small_any t B b o s (.mk 3 [t.ty, t.to]) oa oc w4 (hat.below hbw4 hB) (by have := hbw4.size; omega) (More S w1 wa) (fun b hb => Nat.lt_of_lt_of_le (Nat.lt_of_lt_of_le (HSc b hb) hbv2.size) hs4) (HOWN.below (hbv2.trans (hb4.mono hbv2.size)) HSc)
          simp only [RTy.k, RTy.ks, List.length_cons, List.length_nil, Nat.zero_add, Nat.reduceAdd, Int.cast_ofNat_Int] at hsm
          refine hsm.mono ?_
          clear hsm
          intro e w5 hg
          cases hr : small t (.mk 3 [t.ty, t.to]) with
          | error f =>
            rw [hr] at hg
            obtain ⟨fb, rfl, g1, g2, g3, g4⟩ := hg
            have HR2 := Lib.hid hr
            clear hr
            go_wp2_with fail
            refine ⟨rfl, ?_⟩
            rw [E0.out, HR2.out]
            exact Fails.mono (w1 := w4) ⟨fb, rfl, g1, g2, g3, g4⟩ hbw4
          | ok z' =>
            rw [hr] at hg
            obtain ⟨qa, qc, rfl, hq, hb5⟩ := hg
            have HR2 := Lib.hid hr
            clear hr
            have m0 := cell_kept hb5 m0
            have m1 := cell_kept hb5 m1
            have f0 := frozen_kept hb5 (by omega) f0
            have f1 := frozen_kept hb5 (by omega) f1
            go_wp2_with fail
            refine bodyPost_ret (v := .agg #[.int .i8 z'.k, .slice qa z'.ks.length qc]) (by simp [results, Try.results77, go_sem, m0, m1]) rfl ?_
            rw [E0.out, HR2.out]
            exact GetsTy.stored (S' := More S w1 wa) hS (fun b hb => by rcases hb with hb | hb; exact ⟨.inl hb, by have := hS b hb; omega⟩; exact ⟨.inr ⟨by omega, by have := hbv2.size; omega⟩, by omega⟩) hq hbw4 hb5 (Nat.le_refl _) (by omega)
        · have hag' : gradual.agrees bt t.to = false := by simpa using hag
          have E : Hid (gradual.rules (N + 1) l t = fault t 91) := by show _ = _; rw [hF.out, if_neg hag]
          rw [hag'] at hc0
          have hcall := Lib.hid hc0
          have hfin := Lib.hid fun (W : World) (e : Ending) (w' : World) (hW : Below wc.heap.size wc W) (hf : Fails ⟨91, t.spot, ⟨#[]⟩⟩ W e w') => (show GetsTy S (gradual.rules (N + 1) l t) w e w' from by rw [E.out]; exact Fails.mono hf (hbwd.trans (hW.mono hbwd.size)))
          clear hag hag' hc0
          go_region_held2 (fun v => v.cell? ⟨wb, 0, none⟩ = some (.func (.func 17) #[] #[]) ∧ v.cell? ⟨r2, 0, none⟩ = some (.int .i8 bt.k) ∧ v.cell? ⟨r2, 1, none⟩ = some (.slice ba bt.ks.length bc) ∧ v.cell? ⟨b, o + 6, none⟩ = some (.int .i8 t.to.k) ∧ v.cell? ⟨b, o + 7, none⟩ = some (.slice s.oa t.to.ks.length s.oc)) (first | exact hno.out.elim | (refine hkeep.out _ ?_; (repeat (first | assumption | exact Below.refl _ _ | apply below_drewN | apply Below.drew | (refine Below.alloc ?_ (by first | omega | (simp; done) | (simp; omega)) _) | (refine Below.setCell ?_ (by first | omega | (simp; done) | (simp; omega)) _))))) (first | (go_at_call 17; refine (hcall.out _ ?_).mono ?_; (repeat (first | assumption | exact Below.refl _ _ | apply below_drewN | apply Below.drew | (refine Below.alloc ?_ (by first | omega | (simp; done) | (simp; omega)) _) | (refine Below.setCell ?_ (by first | omega | (simp; done) | (simp; omega)) _))); rintro e w4 ⟨rfl, hb4⟩) | (go_at_call 127; refine (hwant0.out _ ?_).mono ?_; (repeat (first | assumption | exact Below.refl _ _ | apply below_drewN | apply Below.drew | (refine Below.alloc ?_ (by first | omega | (simp; done) | (simp; omega)) _) | (refine Below.setCell ?_ (by first | omega | (simp; done) | (simp; omega)) _))); rintro e w5 (⟨b1, rfl, hf⟩ | ⟨rfl, hno⟩); exact And.intro rfl (hfin.out w4 _ _ hb4 ⟨b1, rfl, hf⟩)))
          exact hno.out.elim
end Go.Proofs.Ytaoodchjggimcaa

/- The walk of package rules' rules, by the words of package check: terms of kind 7. -/
set_option linter.unusedVariables false
set_option linter.unusedSimpArgs false
namespace Go.Proofs.Ytaoodchjggimcaa
open Go.RowKit

set_option maxRecDepth 100000 in
set_option maxHeartbeats 4000000 in
theorem rules7_c (N : Nat) (ih : ∀ (l : Env) (t : RTm) (B b o : Nat) (s : TmSh) (wb C : Nat) (S : Nat → Prop) (ea : Option Addr) (ec : Nat) (w : World), t.nodes ≤ N → WordsAt w B wb 17 40 41 17 → RTm.At w B b o s t → B ≤ w.heap.size → C ≤ w.heap.size → (∀ b, S b → b < w.heap.size) → (∀ b, b < B → S b) → EnvAt w C S ea ec l → l.length + 2 * t.nodes ≤ 20000 → t.right = true → l.right →
      Calls Try.prog 77 #[.pointer (some ⟨wb, 0, none⟩), .slice ea l.length ec, .pointer (some ⟨b, o, none⟩)] w (GetsTy S (gradual.rules N l t) w))(l : Env) (t : RTm) (B b o : Nat) (s : TmSh) (wb C : Nat) (S : Nat → Prop) (ea : Option Addr) (ec : Nat) (w : World) (hN : t.nodes ≤ N + 1) (hwd : WordsAt w B wb 17 40 41 17) (hat : RTm.At w B b o s t) (hB : B ≤ w.heap.size) (hC : C ≤ w.heap.size) (hS : ∀ b, S b → b < w.heap.size) (hBS : ∀ b, b < B → S b) (henv : EnvAt w C S ea ec l) (hnl : l.length + 2 * t.nodes ≤ 20000) (hrt : t.right = true) (hrl : l.right) (hkind : t.k = 7) :
    Calls Try.prog 77 #[.pointer (some ⟨wb, 0, none⟩), .slice ea l.length ec, .pointer (some ⟨b, o, none⟩)] w (GetsTy S (gradual.rules (N + 1) l t) w) := by
  have k0 := hat.c0
  rw [hkind] at k0
  have hwl := hwd.lt
  have hbl : b < w.heap.size := by have := hat.lt; omega
  go_enter Try.func77, Try.ntmps77
  go_upto_region 20 with fail
  generalize hW : World.alloc _ _ = w1
  have hb1 : Below w.heap.size w w1 := by rw [← hW]; (repeat (first | assumption | exact Below.refl _ _ | apply below_drewN | apply Below.drew | (refine Below.alloc ?_ (by first | omega | (simp; done) | (simp; omega)) _) | (refine Below.setCell ?_ (by first | omega | (simp; done) | (simp; omega)) _)))
  have hz1 : w1.heap.size = w.heap.size + 1 := by rw [← hW]; simp
  have m0 : w1.cell? ⟨w.heap.size, 0, none⟩ = some (.int .i8 0) := by rw [← hW]; simp [go_sem]
  have m1 : w1.cell? ⟨w.heap.size, 1, none⟩ = some (.slice none 0 0) := by rw [← hW]; simp [go_sem]
  have f0 : w1.frozen? ⟨w.heap.size, 0, none⟩ = false := by rw [← hW]; simp [go_sem]
  have f1 : w1.frozen? ⟨w.heap.size, 1, none⟩ = false := by rw [← hW]; simp [go_sem]
  clear hW
  have hS1 : ∀ b, S b → b < w1.heap.size := fun b hb => by have := hS b hb; omega
  have HK := Lib.hid hkind
  have hat1 := hat.below hb1 hB
  have hwd1 := hwd.below hb1 hB
  have henv1 := henv.below hb1 hC hS
  have t1 := hat1.c1
  have t2 := hat1.c2
  have t4 := hat1.c4
  have t5 := hat1.c5
  have t6 := hat1.c6
  have t7 := hat1.c7
  have t10 := hat1.c10
  clear hkind k0 henv
  have hlen := RTm.right_len hrt
  rw [HK.out] at hlen
  have hkn : t.ks.length = 2 := by unfold kidsOf at hlen; simp at hlen; omega
  obtain ⟨kb, ko, ks, hka, hkat⟩ := hat.kid (RTm.kid_get (t := t) (i := 0) (by omega))
  obtain ⟨kb', ko', ks', hka', hkat'⟩ := hat.kid (RTm.kid_get (t := t) (i := 1) (by omega))
  have hke := hka.symm.trans hka'
  simp only [Option.some.injEq, Addr.mk.injEq, and_true] at hke
  obtain ⟨rfl, rfl⟩ := hke
  have hkn2 := RTm.kid_nodes (RTm.kid_get (t := t) (i := 0) (by omega))
  have hkn3 := RTm.kid_nodes (RTm.kid_get (t := t) (i := 1) (by omega))
  have hkr := Lib.hid (RTm.kid_right hrt (i := 0) (by omega))
  have hkr' := Lib.hid (RTm.kid_right hrt (i := 1) (by omega))
  rw [hka, hkn] at t10
  have hty := RTm.right_ty hrt (by rw [HK.out]; rfl)
  have hbS := hb1.size
  have hw01 : w.heap.size < w1.heap.size := by omega
  go_wp2_with fail
  have hx := ih l (t.kid 0) B kb ko ks wb C S ea ec w1 (by omega) hwd1 (by have h := hkat.below hb1 hB; rwa [show ko + 0 * 11 = ko by omega] at h) (by omega) (by omega) hS1 hBS henv1 (by omega) hkr.out hrl
  refine hx.mono ?_
  clear hx
  intro e w2 hg
  cases hr : gradual.rules N l (t.kid 0) with
  | error f =>
    rw [hr] at hg
    obtain ⟨fb, rfl, g1, g2, g3, g4⟩ := hg
    have E : Hid (gradual.rules (N + 1) l t = .error f) := by show _ = _; simp [Mode.rules, HK.out, hr]
    clear hr
    go_wp2_with fail
    refine ⟨rfl, ?_⟩
    rw [E.out]
    exact Fails.mono (w1 := w1) ⟨fb, rfl, g1, g2, g3, g4⟩ hb1
  | ok x =>
    rw [hr] at hg
    obtain ⟨xa, xc, rfl, hxi, hb2⟩ := hg
    have hF : Hid (gradual.rules (N + 1) l t = if gradual.agrees x t.ty then gradual.rules N (l ++ [(t.name, t.ty)]) (t.kid 1) else fault t 91) := by show _ = _; simp [Mode.rules, HK.out, hr]
    clear hr
    have hs2 := hb2.size
    go_upto_region 21 with fail
    generalize hW : World.alloc _ _ = w3
    have hb3 : Below w2.heap.size w2 w3 := by rw [← hW]; (repeat (first | assumption | exact Below.refl _ _ | apply below_drewN | apply Below.drew | (refine Below.alloc ?_ (by first | omega | (simp; done) | (simp; omega)) _) | (refine Below.setCell ?_ (by first | omega | (simp; done) | (simp; omega)) _)))
    have v0 : w3.cell? ⟨w2.heap.size, 0, none⟩ = some (.int .i8 x.k) := by rw [← hW]; simp [go_sem]
    have v1 : w3.cell? ⟨w2.heap.size, 1, none⟩ = some (.slice xa x.ks.length xc) := by rw [← hW]; simp [go_sem]
    clear hW
    have hs3 := hb3.size
    have hb13 : Below w1.heap.size w1 w3 := hb2.trans (hb3.mono hs2)
    have hbw3 : Below w.heap.size w w3 := hb1.trans (hb13.mono hbS)
    have hwd3 := hwd.below hbw3 hB
    have hat3 := hat.below hbw3 hB
    have a0 := hwd3.c0
    have t4 := hat3.c4
    have t5 := hat3.c5
    have HX : x.In w3 w3.heap.size xa := RTy.In.up (RTy.In.below (RTy.InS.up hxi (More.lt hS1 hs2)) hb3 (Nat.le_refl _)) hs3
    have HY : t.ty.In w3 w3.heap.size s.ta := RTy.In.up hat3.inn.ty (by omega)
    have hkeep := Lib.hid fun (W : World) (hW : Below w3.heap.size w3 W) => And.intro (cell_kept hW a0) (And.intro (cell_kept hW v0) (And.intro (cell_kept hW v1) (And.intro (cell_kept hW t4) (cell_kept hW t5))))
    have hc0 : ∀ (W : World), Below w3.heap.size w3 W → Calls Try.prog 17 #[.agg #[.int .i8 x.k, .slice xa x.ks.length xc], .agg #[.int .i8 t.ty.k, .slice s.ta t.ty.ks.length s.tc]] W fun e w' => e = .returned (.bool (gradual.agrees x t.ty)) ∧ Below w3.heap.size w3 w' := fun W hW => (agrees_c x t.ty w3.heap.size _ _ _ _ W (RTy.In.below HX hW (Nat.le_refl _)) (RTy.In.below HY hW (Nat.le_refl _)) hW.size).mono fun e w' h => And.intro h.1 (hW.trans (h.2.mono hW.size))
    have hBW : B ≤ w3.heap.size := by omega
    have hwant0 := Lib.hid fun (W : World) (hW : Below w3.heap.size w3 W) => (want_no t B b o s 91 W (hat3.below hW hBW) (Nat.le_trans hBW hW.size)).mono fun e w' h => (show Fails ⟨91, t.spot, ⟨#[]⟩⟩ W e w' ∨ (e = .returned (.tuple #[]) ∧ Hid False) from .inl h)
    by_cases hag : gradual.agrees x t.ty = true
    · have E0 : gradual.rules (N + 1) l t = gradual.rules N (l ++ [(t.name, t.ty)]) (t.kid 1) := by rw [hF.out, if_pos hag]
      rw [hag] at hc0
      have hcall := Lib.hid hc0
      clear hag hc0
      go_region_held3 (fun v => v.cell? ⟨wb, 0, none⟩ = some (.func (.func 17) #[] #[]) ∧ v.cell? ⟨w2.heap.size, 0, none⟩ = some (.int .i8 x.k) ∧ v.cell? ⟨w2.heap.size, 1, none⟩ = some (.slice xa x.ks.length xc) ∧ v.cell? ⟨b, o + 4, none⟩ = some (.int .i8 t.ty.k) ∧ v.cell? ⟨b, o + 5, none⟩ = some (.slice s.ta t.ty.ks.length s.tc)) (first | (refine hkeep.out _ ?_; (repeat (first | assumption | exact Below.refl _ _ | apply below_drewN | apply Below.drew | (refine Below.alloc ?_ (by first | omega | (simp; done) | (simp; omega)) _) | (refine Below.setCell ?_ (by first | omega | (simp; done) | (simp; omega)) _))))) (first | (go_at_call 17; refine (hcall.out _ ?_).mono ?_; (repeat (first | assumption | exact Below.refl _ _ | apply below_drewN | apply Below.drew | (refine Below.alloc ?_ (by first | omega | (simp; done) | (simp; omega)) _) | (refine Below.setCell ?_ (by first | omega | (simp; done) | (simp; omega)) _))); rintro e w4 ⟨rfl, hb4⟩) | (go_at_call 127; refine (want_yes b o _ _).mono ?_; rintro e _ ⟨rfl, rfl⟩))
      go_upto_region 22 with fail
      have hs4 := hb4.size
      have hb14 : Below w1.heap.size w1 w4 := hb13.trans (hb4.mono (by omega))
      have hw04 : w.heap.size < w1.heap.size := by omega
      have hs14 := hb14.size
      have hbw4 := hb1.trans (hb14.mono hbS)
      clear hkeep hcall a0 v0 v1 t4 t5 hwant0
      have hkeep := Lib.hid fun (W : World) (hW : Below w.heap.size w W) => (show W.cell? ⟨b, o + 1, none⟩ = some (.string t.name) ∧ W.cell? ⟨b, o + 4, none⟩ = some (.int .i8 t.ty.k) ∧ W.cell? ⟨b, o + 5, none⟩ = some (.slice s.ta t.ty.ks.length s.tc) ∧ W.cell? ⟨b, o + 10, none⟩ = some (.slice (some ⟨kb, ko, none⟩) 2 s.kc) from by have h := (hat.below hW hB); exact ⟨h.c1, h.c4, h.c5, by rw [← hka, ← hkn]; exact h.c10⟩)
      have hcallM := Lib.hid fun (W : World) (hW : Below w1.heap.size w1 W) => (more_any l t.name t.ty W.heap.size S ea s.ta ec s.tc W (by omega) (fun b hb => Nat.lt_of_lt_of_le (hS1 b hb) hW.size) (Nat.le_refl _) (EnvAt.up (henv1.below hW (by omega) hS1) (by have := hW.size; omega) fun _ h => h) (RTy.InS.below (RTy.InS.up hat1.inn.ty hBS) hW hS1)).mono fun e w' h => (show ∃ a' c', e = .returned (.slice a' (l.length + 1) c') ∧ EnvAt w' w'.heap.size S a' c' (l ++ [(t.name, t.ty)]) ∧ Below w1.heap.size w1 w' from by obtain ⟨a', c', h1, h2, h3⟩ := h; exact ⟨a', c', h1, h2, hW.trans (h3.mono hW.size)⟩)
      have hc0 : ∀ (W : World) (a' : Option Addr) (c' : Nat), Below w1.heap.size w1 W → EnvAt W W.heap.size S a' c' (l ++ [(t.name, t.ty)]) → Calls Try.prog 77 #[.pointer (some ⟨wb, 0, none⟩), .slice a' (l.length + 1) c', .pointer (some ⟨kb, ko + 1 * 11, none⟩)] W (GetsTy S (gradual.rules N (l ++ [(t.name, t.ty)]) (t.kid 1)) w1) := fun W a' c' hW hE => by
        have h := ih (l ++ [(t.name, t.ty)]) (t.kid 1) B kb (ko + 1 * 11) ks' wb W.heap.size S a' c' W (by omega) (hwd1.below hW (by omega)) ((hkat'.below hb1 hB).below hW (by omega)) (by have := hW.size; omega) (Nat.le_refl _) (fun b hb => Nat.lt_of_lt_of_le (hS1 b hb) hW.size) hBS hE (by simp; omega) hkr'.out (Env.right_more hrl hty)
        rw [show (l ++ [(t.name, t.ty)]).length = l.length + 1 by simp] at h
        exact h.mono fun e w' h => GetsTy.on h hW
      simp only [Nat.one_mul] at hc0
      have hfin0 : ∀ f, gradual.rules (N + 1) l t = .error f → ∀ e w', Fails f w1 e w' → GetsTy S (gradual.rules (N + 1) l t) w e w' := fun f E e w' hf => by rw [E]; exact Fails.mono hf hb1
      cases hr : gradual.rules N (l ++ [(t.name, t.ty)]) (t.kid 1) with
      | error f =>
        have E : gradual.rules (N + 1) l t = .error f := by rw [E0, hr]
        have hfin := Lib.hid (hfin0 f E)
        rw [hr] at hc0
        have hcallR := Lib.hid fun W a' c' hW hE => (hc0 W a' c' hW hE).mono fun e w' (h : Fails f w1 e w') => (show Fails f w1 e w' ∨ (e = .returned (.agg #[.int .i8 0, .slice none 0 0]) ∧ w1 = w' ∧ Hid False) from .inl h)
        clear hr E E0 hc0 hfin0
        go_region_held2 (fun v => v.cell? ⟨b, o + 1, none⟩ = some (.string t.name) ∧ v.cell? ⟨b, o + 4, none⟩ = some (.int .i8 t.ty.k) ∧ v.cell? ⟨b, o + 5, none⟩ = some (.slice s.ta t.ty.ks.length s.tc) ∧ v.cell? ⟨b, o + 10, none⟩ = some (.slice (some ⟨kb, ko, none⟩) 2 s.kc)) (first | exact hno.out.elim | (refine hkeep.out _ ?_; (repeat (first | assumption | exact Below.refl _ _ | apply below_drewN | apply Below.drew | (refine Below.alloc ?_ (by first | omega | (simp; done) | (simp; omega)) _) | (refine Below.setCell ?_ (by first | omega | (simp; done) | (simp; omega)) _))))) (first | (go_at_call 126; refine (hcallM.out _ ?_).mono ?_; (repeat (first | assumption | exact Below.refl _ _ | apply below_drewN | apply Below.drew | (refine Below.alloc ?_ (by first | omega | (simp; done) | (simp; omega)) _) | (refine Below.setCell ?_ (by first | omega | (simp; done) | (simp; omega)) _))); rintro e w2 ⟨ea2, ec2, rfl, henv2, hb2⟩; have hbw := hb1.trans (hb2.mono hbS); have n0 := cell_kept hb2 m0; have n1 := cell_kept hb2 m1; have e0 := frozen_kept hb2 hw01 f0; have e1 := frozen_kept hb2 hw01 f1) | (go_at_call 77; refine (hcallR.out _ _ _ hb2 henv2).mono ?_; rintro e w5 (⟨b1, rfl, hf⟩ | ⟨rfl, rfl, hno⟩); exact And.intro rfl (hfin.out _ _ ⟨b1, rfl, hf⟩)))
        exact hno.out.elim
      | ok z =>
        have E := Lib.hid (E0.trans hr)
        rw [hr] at hc0
        have hcallR := Lib.hid hc0
        clear hr E0 hc0 hfin0
        go_region_held3 (fun v => v.cell? ⟨b, o + 1, none⟩ = some (.string t.name) ∧ v.cell? ⟨b, o + 4, none⟩ = some (.int .i8 t.ty.k) ∧ v.cell? ⟨b, o + 5, none⟩ = some (.slice s.ta t.ty.ks.length s.tc) ∧ v.cell? ⟨b, o + 10, none⟩ = some (.slice (some ⟨kb, ko, none⟩) 2 s.kc)) (first | (refine hkeep.out _ ?_; (repeat (first | assumption | exact Below.refl _ _ | apply below_drewN | apply Below.drew | (refine Below.alloc ?_ (by first | omega | (simp; done) | (simp; omega)) _) | (refine Below.setCell ?_ (by first | omega | (simp; done) | (simp; omega)) _))))) (first | (go_at_call 126; refine (hcallM.out _ ?_).mono ?_; (repeat (first | assumption | exact Below.refl _ _ | apply below_drewN | apply Below.drew | (refine Below.alloc ?_ (by first | omega | (simp; done) | (simp; omega)) _) | (refine Below.setCell ?_ (by first | omega | (simp; done) | (simp; omega)) _))); rintro e w2 ⟨ea2, ec2, rfl, henv2, hb2⟩; have hbw := hb1.trans (hb2.mono hbS); have n0 := cell_kept hb2 m0; have n1 := cell_kept hb2 m1; have e0 := frozen_kept hb2 hw01 f0; have e1 := frozen_kept hb2 hw01 f1) | (go_at_call 77; refine (hcallR.out _ _ _ hb2 henv2).mono ?_; rintro e w2 ⟨ba, bc, rfl, hbt, hb2⟩; have hbw := hb1.trans (hb2.mono hbS); have n0 := cell_kept hb2 m0; have n1 := cell_kept hb2 m1; have e0 := frozen_kept hb2 hw01 f0; have e1 := frozen_kept hb2 hw01 f1))
        go_wp2_with fail
        refine bodyPost_ret (v := .agg #[.int .i8 z.k, .slice ba z.ks.length bc]) (by simp [results, Try.results77, go_sem, n0, n1]) rfl ?_
        rw [E.out]
        exact GetsTy.stored (S' := S) hS (fun b hb => ⟨.inl hb, by have := hS b hb; omega⟩) hbt hb1 hb2 (Nat.le_refl _) hw01
    · have hag' : gradual.agrees x t.ty = false := by simpa using hag
      have E : Hid (gradual.rules (N + 1) l t = fault t 91) := by show _ = _; rw [hF.out, if_neg hag]
      rw [hag'] at hc0
      have hcall := Lib.hid hc0
      have hfin := Lib.hid fun (W : World) (e : Ending) (w' : World) (hW : Below w3.heap.size w3 W) (hf : Fails ⟨91, t.spot, ⟨#[]⟩⟩ W e w') => (show GetsTy S (gradual.rules (N + 1) l t) w e w' from by rw [E.out]; exact Fails.mono hf (hbw3.trans (hW.mono (by omega))))
      clear hag hag' hc0
      go_region_held2 (fun v => v.cell? ⟨wb, 0, none⟩ = some (.func (.func 17) #[] #[]) ∧ v.cell? ⟨w2.heap.size, 0, none⟩ = some (.int .i8 x.k) ∧ v.cell? ⟨w2.heap.size, 1, none⟩ = some (.slice xa x.ks.length xc) ∧ v.cell? ⟨b, o + 4, none⟩ = some (.int .i8 t.ty.k) ∧ v.cell? ⟨b, o + 5, none⟩ = some (.slice s.ta t.ty.ks.length s.tc)) (first | exact hno.out.elim | (refine hkeep.out _ ?_; (repeat (first | assumption | exact Below.refl _ _ | apply below_drewN | apply Below.drew | (refine Below.alloc ?_ (by first | omega | (simp; done) | (simp; omega)) _) | (refine Below.setCell ?_ (by first | omega | (simp; done) | (simp; omega)) _))))) (first | (go_at_call 17; refine (hcall.out _ ?_).mono ?_; (repeat (first | assumption | exact Below.refl _ _ | apply below_drewN | apply Below.drew | (refine Below.alloc ?_ (by first | omega | (simp; done) | (simp; omega)) _) | (refine Below.setCell ?_ (by first | omega | (simp; done) | (simp; omega)) _))); rintro e w4 ⟨rfl, hb4⟩) | (go_at_call 127; refine (hwant0.out _ ?_).mono ?_; (repeat (first | assumption | exact Below.refl _ _ | apply below_drewN | apply Below.drew | (refine Below.alloc ?_ (by first | omega | (simp; done) | (simp; omega)) _) | (refine Below.setCell ?_ (by first | omega | (simp; done) | (simp; omega)) _))); rintro e w5 (⟨b1, rfl, hf⟩ | ⟨rfl, hno⟩); exact And.intro rfl (hfin.out w4 _ _ hb4 ⟨b1, rfl, hf⟩)))
      exact hno.out.elim
end Go.Proofs.Ytaoodchjggimcaa

/- The walk of package rules' rules, by the words of package check: terms of kind 14. -/
set_option linter.unusedVariables false
set_option linter.unusedSimpArgs false
namespace Go.Proofs.Ytaoodchjggimcaa
open Go.RowKit

set_option maxRecDepth 100000 in
set_option maxHeartbeats 4000000 in
theorem rules14_c (N : Nat) (ih : ∀ (l : Env) (t : RTm) (B b o : Nat) (s : TmSh) (wb C : Nat) (S : Nat → Prop) (ea : Option Addr) (ec : Nat) (w : World), t.nodes ≤ N → WordsAt w B wb 17 40 41 17 → RTm.At w B b o s t → B ≤ w.heap.size → C ≤ w.heap.size → (∀ b, S b → b < w.heap.size) → (∀ b, b < B → S b) → EnvAt w C S ea ec l → l.length + 2 * t.nodes ≤ 20000 → t.right = true → l.right →
      Calls Try.prog 77 #[.pointer (some ⟨wb, 0, none⟩), .slice ea l.length ec, .pointer (some ⟨b, o, none⟩)] w (GetsTy S (gradual.rules N l t) w))(l : Env) (t : RTm) (B b o : Nat) (s : TmSh) (wb C : Nat) (S : Nat → Prop) (ea : Option Addr) (ec : Nat) (w : World) (hN : t.nodes ≤ N + 1) (hwd : WordsAt w B wb 17 40 41 17) (hat : RTm.At w B b o s t) (hB : B ≤ w.heap.size) (hC : C ≤ w.heap.size) (hS : ∀ b, S b → b < w.heap.size) (hBS : ∀ b, b < B → S b) (henv : EnvAt w C S ea ec l) (hnl : l.length + 2 * t.nodes ≤ 20000) (hrt : t.right = true) (hrl : l.right) (hkind : t.k = 14) :
    Calls Try.prog 77 #[.pointer (some ⟨wb, 0, none⟩), .slice ea l.length ec, .pointer (some ⟨b, o, none⟩)] w (GetsTy S (gradual.rules (N + 1) l t) w) := by
  have k0 := hat.c0
  rw [hkind] at k0
  have hwl := hwd.lt
  have hbl : b < w.heap.size := by have := hat.lt; omega
  go_enter Try.func77, Try.ntmps77
  go_upto_region 24 with fail
  generalize hW : World.alloc _ _ = w1
  have hb1 : Below w.heap.size w w1 := by rw [← hW]; (repeat (first | assumption | exact Below.refl _ _ | apply below_drewN | apply Below.drew | (refine Below.alloc ?_ (by first | omega | (simp; done) | (simp; omega)) _) | (refine Below.setCell ?_ (by first | omega | (simp; done) | (simp; omega)) _)))
  have hz1 : w1.heap.size = w.heap.size + 1 := by rw [← hW]; simp
  have m0 : w1.cell? ⟨w.heap.size, 0, none⟩ = some (.int .i8 0) := by rw [← hW]; simp [go_sem]
  have m1 : w1.cell? ⟨w.heap.size, 1, none⟩ = some (.slice none 0 0) := by rw [← hW]; simp [go_sem]
  have f0 : w1.frozen? ⟨w.heap.size, 0, none⟩ = false := by rw [← hW]; simp [go_sem]
  have f1 : w1.frozen? ⟨w.heap.size, 1, none⟩ = false := by rw [← hW]; simp [go_sem]
  clear hW
  have hS1 : ∀ b, S b → b < w1.heap.size := fun b hb => by have := hS b hb; omega
  have HK := Lib.hid hkind
  have hat1 := hat.below hb1 hB
  have hwd1 := hwd.below hb1 hB
  have henv1 := henv.below hb1 hC hS
  have t1 := hat1.c1
  have t2 := hat1.c2
  have t4 := hat1.c4
  have t5 := hat1.c5
  have t6 := hat1.c6
  have t7 := hat1.c7
  have t10 := hat1.c10
  clear hkind k0 henv
  have hlen := RTm.right_len hrt
  rw [HK.out] at hlen
  have hkn : t.ks.length = 3 := by unfold kidsOf at hlen; simp at hlen; omega
  obtain ⟨kb, ko, ks, hka, hkat⟩ := hat.kid (RTm.kid_get (t := t) (i := 0) (by omega))
  obtain ⟨kb', ko', ks1, hka', hkat1⟩ := hat.kid (RTm.kid_get (t := t) (i := 1) (by omega))
  have hke := hka.symm.trans hka'
  simp only [Option.some.injEq, Addr.mk.injEq, and_true] at hke
  obtain ⟨rfl, rfl⟩ := hke
  obtain ⟨kb', ko', ks2, hka', hkat2⟩ := hat.kid (RTm.kid_get (t := t) (i := 2) (by omega))
  have hke := hka.symm.trans hka'
  simp only [Option.some.injEq, Addr.mk.injEq, and_true] at hke
  obtain ⟨rfl, rfl⟩ := hke
  have hkn2 := RTm.kid_nodes (RTm.kid_get (t := t) (i := 0) (by omega))
  have hkn3 := RTm.kid_nodes (RTm.kid_get (t := t) (i := 1) (by omega))
  have hkn4 := RTm.kid_nodes (RTm.kid_get (t := t) (i := 2) (by omega))
  have hkr := Lib.hid (RTm.kid_right hrt (i := 0) (by omega))
  have hkr1 := Lib.hid (RTm.kid_right hrt (i := 1) (by omega))
  have hkr2 := Lib.hid (RTm.kid_right hrt (i := 2) (by omega))
  rw [hka, hkn] at t10
  have hbS := hb1.size
  have hw01 : w.heap.size < w1.heap.size := by omega
  clear hz1
  go_wp2_with fail
  have hx := ih l (t.kid 0) B kb ko ks wb C S ea ec w1 (by omega) hwd1 (by have h := hkat.below hb1 hB; rwa [show ko + 0 * 11 = ko by omega] at h) (by omega) (by omega) hS1 hBS henv1 (by omega) hkr.out hrl
  refine hx.mono ?_
  clear hx
  intro e w2 hg
  cases hr : gradual.rules N l (t.kid 0) with
  | error f =>
    rw [hr] at hg
    obtain ⟨fb, rfl, g1, g2, g3, g4⟩ := hg
    have E : Hid (gradual.rules (N + 1) l t = .error f) := by show _ = _; rw [Mode.rules14 HK.out, hr]
    clear hr
    go_wp2_with fail
    refine ⟨rfl, ?_⟩
    rw [E.out]
    exact Fails.mono (w1 := w1) ⟨fb, rfl, g1, g2, g3, g4⟩ hb1
  | ok x =>
    rw [hr] at hg
    obtain ⟨xa, xc, rfl, hxi, hb2⟩ := hg
    have hrx := Mode.rules_right gradual_good N l (t.kid 0) x hrl hkr.out hr
    have HR0 := Lib.hid hr
    clear hr
    have hs2 := hb2.size
    have hbw2 : Below w.heap.size w w2 := hb1.trans (hb2.mono hbS)
    go_wp2_with fail
    refine (asE_c t B b o s wb 5 x (More S w1 w2) xa xc w2 (hwd.below hbw2 hB) (hat.below hbw2 hB) (by omega) (by omega) (by omega) (More.lt hS1 hs2) hxi hrx).mono ?_
    intro e w3 hg
    cases hr : gradual.asE t 5 x with
    | error f =>
      rw [hr] at hg
      obtain ⟨fb, rfl, g1, g2, g3, g4⟩ := hg
      have E : Hid (gradual.rules (N + 1) l t = .error f) := by show _ = _; rw [Mode.rules14 HK.out, HR0.out]; simp only [hr]
      clear hr
      go_wp2_with fail
      refine ⟨rfl, ?_⟩
      rw [E.out]
      exact Fails.mono (w1 := w2) ⟨fb, rfl, g1, g2, g3, g4⟩ hbw2
    | ok p =>
      obtain ⟨p1, p2⟩ := p
      rw [hr] at hg
      obtain ⟨la, ra, lc, rc, rfl, hl, hrr, hb3⟩ := hg
      have hrp : p1.right = true ∧ p2.right = true := by
        have h := Mode.asE_ok hr
        simp only [Prod.mk.injEq] at h
        rw [h.1, h.2]
        exact (gradual_good).parts 5 x (by omega) (by omega) hrx
      have hF1 : Hid (gradual.rules (N + 1) l t = match gradual.rules N (l ++ [(t.name, p1)]) (t.kid 1) with | .error f => .error f | .ok b => match gradual.rules N (l ++ [(t.arg, p2)]) (t.kid 2) with | .error f => .error f | .ok c => gradual.meetE t b c) := by show _ = _; rw [Mode.rules14 HK.out, HR0.out]; simp only [hr]; first | done | rfl
      clear hr HR0
      have hs3 := hb3.size
      go_upto_region 25 with fail
      generalize hW : World.alloc _ _ = wa
      have hba : Below w3.heap.size w3 wa := by rw [← hW]; (repeat (first | assumption | exact Below.refl _ _ | apply below_drewN | apply Below.drew | (refine Below.alloc ?_ (by first | omega | (simp; done) | (simp; omega)) _) | (refine Below.setCell ?_ (by first | omega | (simp; done) | (simp; omega)) _)))
      have l0 : wa.cell? ⟨w3.heap.size, 0, none⟩ = some (.int .i8 p1.k) := by rw [← hW]; simp [go_sem]
      have l1 : wa.cell? ⟨w3.heap.size, 1, none⟩ = some (.slice la p1.ks.length lc) := by rw [← hW]; simp [go_sem]
      have r0 : wa.cell? ⟨w3.heap.size + 1, 0, none⟩ = some (.int .i8 p2.k) := by rw [← hW]; simp [go_sem]
      have r1 : wa.cell? ⟨w3.heap.size + 1, 1, none⟩ = some (.slice ra p2.ks.length rc) := by rw [← hW]; simp [go_sem]
      clear hW
      have hsa := hba.size
      have hb2a : Below w2.heap.size w2 wa := hb3.trans (hba.mono hs3)
      have hbwa : Below w.heap.size w wa := hbw2.trans (hb2a.mono hbw2.size)
      have hb1a : Below w1.heap.size w1 wa := hb2.trans (hb2a.mono hs2)
      have m0 := cell_kept hb1a m0
      have m1 := cell_kept hb1a m1
      have f0 := frozen_kept hb1a hw01 f0
      have f1 := frozen_kept hb1a hw01 f1
      have t1 := (hat.below hbwa hB).c1
      have t10 := (hat.below hbwa hB).c10
      rw [hka, hkn] at t10
      have HS2 : ∀ b, More S w1 w2 b → b < w2.heap.size := More.lt hS1 hs2
      have HSa : ∀ b, More S w1 w2 b → b < wa.heap.size := fun b hb => Nat.lt_of_lt_of_le (HS2 b hb) (by omega)
      have HBSa : ∀ b, b < B → More S w1 w2 b := fun b hb => .inl (hBS b hb)
      have HLa : p1.InS wa (More S w1 w2) la := RTy.InS.below hl hba fun b hb => Nat.lt_of_lt_of_le (HS2 b hb) hs3
      have HRa : p2.InS wa (More S w1 w2) ra := RTy.InS.below hrr hba fun b hb => Nat.lt_of_lt_of_le (HS2 b hb) hs3
      have henva : EnvAt wa wa.heap.size (More S w1 w2) ea ec l := EnvAt.up (henv1.below hb1a (by omega) hS1) (by omega) fun _ h => .inl h
      clear hl hrr t2 t4 t5 t6 t7
      have hkeep := Lib.hid fun (W : World) (hW : Below wa.heap.size wa W) => And.intro (cell_kept hW t1) (And.intro (cell_kept hW l0) (And.intro (cell_kept hW l1) (cell_kept hW t10)))
      have hcM0 := Lib.hid fun (W : World) (hW : Below wa.heap.size wa W) => (show Calls Try.prog 126 #[.slice ea (l.length : Nat) ec, .string t.name, .agg #[.int .i8 p1.k, .slice la p1.ks.length lc]] W fun e w' => ∃ a' c', e = .returned (.slice a' (l.length + 1 : Nat) c') ∧ EnvAt w' w'.heap.size (More S w1 w2) a' c' (l ++ [(t.name, p1)]) ∧ Below W.heap.size W w' ∧ Below wa.heap.size wa w' from by
        have h := more_any l t.name p1 W.heap.size (More S w1 w2) ea la ec lc W (by (try simp only [List.length_append, List.length_cons, List.length_nil]); omega) (fun b hb => Nat.lt_of_lt_of_le (HSa b hb) hW.size) (Nat.le_refl _) (EnvAt.up (henva.below hW (Nat.le_refl _) HSa) hW.size fun _ h => h) (RTy.InS.below HLa hW HSa)
        exact h.mono fun e w' h => by obtain ⟨a', c', h1, h2, h3⟩ := h; exact ⟨a', c', h1, h2, h3, hW.trans (h3.mono hW.size)⟩)
      have hc0 : ∀ (W : World) (a' : Option Addr) (c' : Nat), ∀ X : World, Below wa.heap.size wa X → Below X.heap.size X W → EnvAt X X.heap.size (More S w1 w2) a' c' (l ++ [(t.name, p1)]) → Calls Try.prog 77 #[.pointer (some ⟨wb, 0, none⟩), .slice a' (l.length + 1 : Nat) c', .pointer (some ⟨kb, ko + 1 * 11, none⟩)] W (GetsTy (More S w1 w2) (gradual.rules N (l ++ [(t.name, p1)]) (t.kid 1)) W) := fun W a' c' X hX hXW hE0 => by
        have hW := hX.trans (hXW.mono hX.size)
        have hE := (EnvAt.up (hE0.below hXW (Nat.le_refl _) fun b hb => Nat.lt_of_lt_of_le (HSa b hb) hX.size) hXW.size fun _ h => h)
        have hbw := hbwa.trans (hW.mono hbwa.size)
        have h := ih (l ++ [(t.name, p1)]) (t.kid 1) B kb (ko + 1 * 11) ks1 wb W.heap.size (More S w1 w2) a' c' W (by omega) (hwd.below hbw hB) (hkat1.below hbw hB) (by have := hbw.size; omega) (Nat.le_refl _) (fun b hb => Nat.lt_of_lt_of_le (HSa b hb) hW.size) HBSa hE (by (try simp only [List.length_append, List.length_cons, List.length_nil]); omega) hkr1.out (Env.right_more hrl hrp.1)
        rw [show ((l ++ [(t.name, p1)]) : Env).length = l.length + 1 by simp] at h
        exact h
      simp only [Nat.reduceMul, Nat.add_zero] at hc0
      cases hr : gradual.rules N (l ++ [(t.name, p1)]) (t.kid 1) with
      | error f =>
        rw [hr] at hc0
        have E : gradual.rules (N + 1) l t = .error f := by rw [hF1.out, hr]
        have hfin := Lib.hid fun (e : Ending) (w' : World) (hf : Fails f w e w') => (show GetsTy S (gradual.rules (N + 1) l t) w e w' from by rw [E]; exact hf)
        have hcR := Lib.hid fun (W : World) (a' : Option Addr) (c' : Nat) (X : World) (hX : Below wa.heap.size wa X) (hXW : Below X.heap.size X W) hE => (hc0 W a' c' X hX hXW hE).mono fun e w' (h : Fails f W e w') => (show Fails f w e w' ∨ (e = .returned (.agg #[.int .i8 0, .slice none 0 0]) ∧ W = w' ∧ Hid False) from .inl (Fails.mono h (hbwa.trans ((hX.trans (hXW.mono hX.size)).mono hbwa.size))))
        clear hr E hc0
        go_region_held2 (fun v => v.cell? ⟨b, o + 1, none⟩ = some (.string t.name) ∧ v.cell? ⟨w3.heap.size, 0, none⟩ = some (.int .i8 p1.k) ∧ v.cell? ⟨w3.heap.size, 1, none⟩ = some (.slice la p1.ks.length lc) ∧ v.cell? ⟨b, o + 10, none⟩ = some (.slice (some ⟨kb, ko, none⟩) 3 s.kc)) (first | exact hno.out.elim | (refine hkeep.out _ ?_; (repeat (first | assumption | exact Below.refl _ _ | apply below_drewN | apply Below.drew | (refine Below.alloc ?_ (by first | omega | (simp; done) | (simp; omega)) _) | (refine Below.setCell ?_ (by first | omega | (simp; done) | (simp; omega)) _))))) (first | (go_at_call 126; refine (hcM0.out _ ?_).mono ?_; (repeat (first | assumption | exact Below.refl _ _ | apply below_drewN | apply Below.drew | (refine Below.alloc ?_ (by first | omega | (simp; done) | (simp; omega)) _) | (refine Below.setCell ?_ (by first | omega | (simp; done) | (simp; omega)) _))); rintro e w20 ⟨ea20, ec20, rfl, henv20, hb20, hc20⟩; have hs20 := hc20.size; have hnew0 := cell_kept hb20 (new_d0 wa _); have hnew1 := cell_kept hb20 (new_d1 wa _); have fnew0 := frozen_kept hb20 (new_dlt wa _) (new_e0 wa _); have fnew1 := frozen_kept hb20 (new_dlt wa _) (new_e1 wa _); have hnewl := Nat.lt_of_lt_of_le (new_dlt wa _) hb20.size) | (go_at_call 126; refine (hcM0.out _ ?_).mono ?_; (repeat (first | assumption | exact Below.refl _ _ | apply below_drewN | apply Below.drew | (refine Below.alloc ?_ (by first | omega | (simp; done) | (simp; omega)) _) | (refine Below.setCell ?_ (by first | omega | (simp; done) | (simp; omega)) _))); rintro e w20 ⟨ea20, ec20, rfl, henv20, hb20, hc20⟩; have hs20 := hc20.size) | (go_at_call 77; refine (hcR.out _ _ _ w20 hc20 ?_ henv20).mono ?_; (repeat (first | assumption | exact Below.refl _ _ | apply below_drewN | apply Below.drew | (refine Below.alloc ?_ (by first | omega | (simp; done) | (simp; omega)) _) | (refine Below.setCell ?_ (by first | omega | (simp; done) | (simp; omega)) _))); rintro e w25 (⟨b1, rfl, hf⟩ | ⟨rfl, rfl, hno⟩); exact And.intro rfl (hfin.out _ _ ⟨b1, rfl, hf⟩)))
        all_goals exact hno.out.elim
      | ok bt =>
        rw [hr] at hc0
        have hcR := Lib.hid fun (W : World) (a' : Option Addr) (c' : Nat) (X : World) (hX : Below wa.heap.size wa X) (hXW : Below X.heap.size X W) hE => (hc0 W a' c' X hX hXW hE).mono fun e w' h => (show ∃ ba bc, e = .returned (.agg #[.int .i8 bt.k, .slice ba bt.ks.length bc]) ∧ bt.InS w' (More (More S w1 w2) W w') ba ∧ Below W.heap.size W w' ∧ Below wa.heap.size wa w' from by obtain ⟨ba, bc, h1, h2, h3⟩ := h; exact ⟨ba, bc, h1, h2, h3, (hX.trans (hXW.mono hX.size)).trans (h3.mono (hX.trans (hXW.mono hX.size)).size)⟩)
        have HR14 := Lib.hid hr
        clear hr hc0
        go_cut [14] (fun s9 wx => ∃ (r : Nat) (za : Option Addr) (zc : Nat), s9 = .pointer (some ⟨r, 0, none⟩) ∧ VarAt wx wa r (More S w1 w2) bt za zc ∧ Below wa.heap.size wa wx)
        case first =>
          go_region_held3 (fun v => v.cell? ⟨b, o + 1, none⟩ = some (.string t.name) ∧ v.cell? ⟨w3.heap.size, 0, none⟩ = some (.int .i8 p1.k) ∧ v.cell? ⟨w3.heap.size, 1, none⟩ = some (.slice la p1.ks.length lc) ∧ v.cell? ⟨b, o + 10, none⟩ = some (.slice (some ⟨kb, ko, none⟩) 3 s.kc)) (first | (refine hkeep.out _ ?_; (repeat (first | assumption | exact Below.refl _ _ | apply below_drewN | apply Below.drew | (refine Below.alloc ?_ (by first | omega | (simp; done) | (simp; omega)) _) | (refine Below.setCell ?_ (by first | omega | (simp; done) | (simp; omega)) _))))) (first | (go_at_call 126; refine (hcM0.out _ ?_).mono ?_; (repeat (first | assumption | exact Below.refl _ _ | apply below_drewN | apply Below.drew | (refine Below.alloc ?_ (by first | omega | (simp; done) | (simp; omega)) _) | (refine Below.setCell ?_ (by first | omega | (simp; done) | (simp; omega)) _))); rintro e w20 ⟨ea20, ec20, rfl, henv20, hb20, hc20⟩; have hs20 := hc20.size; have hnew0 := cell_kept hb20 (new_d0 wa _); have hnew1 := cell_kept hb20 (new_d1 wa _); have fnew0 := frozen_kept hb20 (new_dlt wa _) (new_e0 wa _); have fnew1 := frozen_kept hb20 (new_dlt wa _) (new_e1 wa _); have hnewl := Nat.lt_of_lt_of_le (new_dlt wa _) hb20.size) | (go_at_call 126; refine (hcM0.out _ ?_).mono ?_; (repeat (first | assumption | exact Below.refl _ _ | apply below_drewN | apply Below.drew | (refine Below.alloc ?_ (by first | omega | (simp; done) | (simp; omega)) _) | (refine Below.setCell ?_ (by first | omega | (simp; done) | (simp; omega)) _))); rintro e w20 ⟨ea20, ec20, rfl, henv20, hb20, hc20⟩; have hs20 := hc20.size) | (go_at_call 77; refine (hcR.out _ _ _ w20 hc20 ?_ henv20).mono ?_; (repeat (first | assumption | exact Below.refl _ _ | apply below_drewN | apply Below.drew | (refine Below.alloc ?_ (by first | omega | (simp; done) | (simp; omega)) _) | (refine Below.setCell ?_ (by first | omega | (simp; done) | (simp; omega)) _))); rintro e w21 ⟨ba, bc, rfl, hbt, hb21, hc21⟩; have hs21 := hb21.size; have hnew0 := cell_kept hb21 hnew0; have hnew1 := cell_kept hb21 hnew1; have fnew0 := frozen_kept hb21 hnewl fnew0; have fnew1 := frozen_kept hb21 hnewl fnew1) | (go_at_call 77; refine (hcR.out _ _ _ w20 hc20 ?_ henv20).mono ?_; (repeat (first | assumption | exact Below.refl _ _ | apply below_drewN | apply Below.drew | (refine Below.alloc ?_ (by first | omega | (simp; done) | (simp; omega)) _) | (refine Below.setCell ?_ (by first | omega | (simp; done) | (simp; omega)) _))); rintro e w21 ⟨ba, bc, rfl, hbt, hb21, hc21⟩; have hs21 := hb21.size; have hnew0 := cell_kept hb21 (new_c0 w20 _); have hnew1 := cell_kept hb21 (new_c1 w20 _); have fnew0 := frozen_kept hb21 (new_lt w20 _) (new_f0 w20 _); have fnew1 := frozen_kept hb21 (new_lt w20 _) (new_f1 w20 _)) | (go_at_call 77; refine (hcR.out _ _ _ w20 hc20 ?_ henv20).mono ?_; (repeat (first | assumption | exact Below.refl _ _ | apply below_drewN | apply Below.drew | (refine Below.alloc ?_ (by first | omega | (simp; done) | (simp; omega)) _) | (refine Below.setCell ?_ (by first | omega | (simp; done) | (simp; omega)) _))); rintro e w21 ⟨ba, bc, rfl, hbt, hb21, hc21⟩; have hs21 := hb21.size))
          all_goals
            go_wp2_with fail
            go_meet
            refine ⟨_, ba, bc, rfl, ?_, ?_⟩
            · try simp only [World.size_alloc, World.size_drew] at hs21
              first | (refine VarAt.mid HSa ?_ ?_ hbt ?_ hnew0 hnew1 <;> (first | omega | (simp only [World.size_drew, World.size_alloc]; omega))) | (refine VarAt.last HSa ?_ hbt ?_ <;> (first | omega | (simp only [World.size_drew, World.size_alloc]; omega)))
            · (repeat (first | assumption | exact Below.refl _ _ | apply below_drewN | apply Below.drew | (refine Below.alloc ?_ (by first | omega | (simp; done) | (simp; omega)) _) | (refine Below.setCell ?_ (by first | omega | (simp; done) | (simp; omega)) _)))
        case rest =>
          obtain ⟨wd, rfl⟩ : ∃ wd : World, wd = wc := ⟨_, rfl⟩
          obtain ⟨r2, ba, bc, rfl, hv2, hbv⟩ := hcut
          have hbwd : Below w.heap.size w wd := hbwa.trans (hbv.mono hbwa.size)
          have hF2 : Hid (gradual.rules (N + 1) l t = match gradual.rules N (l ++ [(t.arg, p2)]) (t.kid 2) with | .error f => .error f | .ok c => gradual.meetE t bt c) := by show _ = _; rw [hF1.out, HR14.out]; first | done | rfl
          clear HR14 hkeep hcM0 hcR l0 l1 t1 t10 hF1
          have hszv := hbv.size
          have hsz1 := hb1.size
          have hva := hbwa.size
          have v0 := hv2.c0
          have v1 := hv2.c1
          have r0 := cell_kept hbv r0
          have r1 := cell_kept hbv r1
          have m0 := cell_kept hbv m0
          have m1 := cell_kept hbv m1
          have f0 := frozen_kept hbv (by omega) f0
          have f1 := frozen_kept hbv (by omega) f1
          have t2 := (hat.below hbwd hB).c2
          have t10 := (hat.below hbwd hB).c10
          rw [hka, hkn] at t10
          have HSd : ∀ b, More S w1 w2 b → b < wd.heap.size := fun b hb => Nat.lt_of_lt_of_le (HSa b hb) hszv
          have HRd : p2.InS wd (More S w1 w2) ra := HRa.below hbv HSa
          have henvd : EnvAt wd wd.heap.size (More S w1 w2) ea ec l := EnvAt.up (henva.below hbv (Nat.le_refl _) HSa) hszv fun _ h => h
          go_upto_region 26 with fail
          have hkeep := Lib.hid fun (W : World) (hW : Below wd.heap.size wd W) => And.intro (cell_kept hW t2) (And.intro (cell_kept hW r0) (And.intro (cell_kept hW r1) (cell_kept hW t10)))
          have hcM0 := Lib.hid fun (W : World) (hW : Below wd.heap.size wd W) => (show Calls Try.prog 126 #[.slice ea (l.length : Nat) ec, .string t.arg, .agg #[.int .i8 p2.k, .slice ra p2.ks.length rc]] W fun e w' => ∃ a' c', e = .returned (.slice a' (l.length + 1 : Nat) c') ∧ EnvAt w' w'.heap.size (More S w1 w2) a' c' (l ++ [(t.arg, p2)]) ∧ Below W.heap.size W w' ∧ Below wd.heap.size wd w' from by
            have h := more_any l t.arg p2 W.heap.size (More S w1 w2) ea ra ec rc W (by (try simp only [List.length_append, List.length_cons, List.length_nil]); omega) (fun b hb => Nat.lt_of_lt_of_le (HSd b hb) hW.size) (Nat.le_refl _) (EnvAt.up (henvd.below hW (Nat.le_refl _) HSd) hW.size fun _ h => h) (RTy.InS.below HRd hW HSd)
            exact h.mono fun e w' h => by obtain ⟨a', c', h1, h2, h3⟩ := h; exact ⟨a', c', h1, h2, h3, hW.trans (h3.mono hW.size)⟩)
          have hc0 : ∀ (W : World) (a' : Option Addr) (c' : Nat), ∀ X : World, Below wd.heap.size wd X → Below X.heap.size X W → EnvAt X X.heap.size (More S w1 w2) a' c' (l ++ [(t.arg, p2)]) → Calls Try.prog 77 #[.pointer (some ⟨wb, 0, none⟩), .slice a' (l.length + 1 : Nat) c', .pointer (some ⟨kb, ko + 2 * 11, none⟩)] W (GetsTy (More S w1 w2) (gradual.rules N (l ++ [(t.arg, p2)]) (t.kid 2)) W) := fun W a' c' X hX hXW hE0 => by
            have hW := hX.trans (hXW.mono hX.size)
            have hE := (EnvAt.up (hE0.below hXW (Nat.le_refl _) fun b hb => Nat.lt_of_lt_of_le (HSd b hb) hX.size) hXW.size fun _ h => h)
            have hbw := hbwd.trans (hW.mono hbwd.size)
            have h := ih (l ++ [(t.arg, p2)]) (t.kid 2) B kb (ko + 2 * 11) ks2 wb W.heap.size (More S w1 w2) a' c' W (by omega) (hwd.below hbw hB) (hkat2.below hbw hB) (by have := hbw.size; omega) (Nat.le_refl _) (fun b hb => Nat.lt_of_lt_of_le (HSd b hb) hW.size) HBSa hE (by (try simp only [List.length_append, List.length_cons, List.length_nil]); omega) hkr2.out (Env.right_more hrl hrp.2)
            rw [show ((l ++ [(t.arg, p2)]) : Env).length = l.length + 1 by simp] at h
            exact h
          simp only [Nat.reduceMul, Nat.add_zero] at hc0
          cases hr : gradual.rules N (l ++ [(t.arg, p2)]) (t.kid 2) with
          | error f =>
            rw [hr] at hc0
            have E : gradual.rules (N + 1) l t = .error f := by rw [hF2.out, hr]
            have hfin := Lib.hid fun (e : Ending) (w' : World) (hf : Fails f w e w') => (show GetsTy S (gradual.rules (N + 1) l t) w e w' from by rw [E]; exact hf)
            have hcR := Lib.hid fun (W : World) (a' : Option Addr) (c' : Nat) (X : World) (hX : Below wd.heap.size wd X) (hXW : Below X.heap.size X W) hE => (hc0 W a' c' X hX hXW hE).mono fun e w' (h : Fails f W e w') => (show Fails f w e w' ∨ (e = .returned (.agg #[.int .i8 0, .slice none 0 0]) ∧ W = w' ∧ Hid False) from .inl (Fails.mono h (hbwd.trans ((hX.trans (hXW.mono hX.size)).mono hbwd.size))))
            clear hr E hc0
            go_region_held2 (fun v => v.cell? ⟨b, o + 2, none⟩ = some (.string t.arg) ∧ v.cell? ⟨w3.heap.size + 1, 0, none⟩ = some (.int .i8 p2.k) ∧ v.cell? ⟨w3.heap.size + 1, 1, none⟩ = some (.slice ra p2.ks.length rc) ∧ v.cell? ⟨b, o + 10, none⟩ = some (.slice (some ⟨kb, ko, none⟩) 3 s.kc)) (first | exact hno.out.elim | (refine hkeep.out _ ?_; (repeat (first | assumption | exact Below.refl _ _ | apply below_drewN | apply Below.drew | (refine Below.alloc ?_ (by first | omega | (simp; done) | (simp; omega)) _) | (refine Below.setCell ?_ (by first | omega | (simp; done) | (simp; omega)) _))))) (first | (go_at_call 126; refine (hcM0.out _ ?_).mono ?_; (repeat (first | assumption | exact Below.refl _ _ | apply below_drewN | apply Below.drew | (refine Below.alloc ?_ (by first | omega | (simp; done) | (simp; omega)) _) | (refine Below.setCell ?_ (by first | omega | (simp; done) | (simp; omega)) _))); rintro e w20 ⟨ea20, ec20, rfl, henv20, hb20, hc20⟩; have hs20 := hc20.size; have hnew0 := cell_kept hb20 (new_d0 wd _); have hnew1 := cell_kept hb20 (new_d1 wd _); have fnew0 := frozen_kept hb20 (new_dlt wd _) (new_e0 wd _); have fnew1 := frozen_kept hb20 (new_dlt wd _) (new_e1 wd _); have hnewl := Nat.lt_of_lt_of_le (new_dlt wd _) hb20.size) | (go_at_call 126; refine (hcM0.out _ ?_).mono ?_; (repeat (first | assumption | exact Below.refl _ _ | apply below_drewN | apply Below.drew | (refine Below.alloc ?_ (by first | omega | (simp; done) | (simp; omega)) _) | (refine Below.setCell ?_ (by first | omega | (simp; done) | (simp; omega)) _))); rintro e w20 ⟨ea20, ec20, rfl, henv20, hb20, hc20⟩; have hs20 := hc20.size) | (go_at_call 77; refine (hcR.out _ _ _ w20 hc20 ?_ henv20).mono ?_; (repeat (first | assumption | exact Below.refl _ _ | apply below_drewN | apply Below.drew | (refine Below.alloc ?_ (by first | omega | (simp; done) | (simp; omega)) _) | (refine Below.setCell ?_ (by first | omega | (simp; done) | (simp; omega)) _))); rintro e w25 (⟨b1, rfl, hf⟩ | ⟨rfl, rfl, hno⟩); exact And.intro rfl (hfin.out _ _ ⟨b1, rfl, hf⟩)))
            all_goals exact hno.out.elim
          | ok ct =>
            rw [hr] at hc0
            have hcR := Lib.hid fun (W : World) (a' : Option Addr) (c' : Nat) (X : World) (hX : Below wd.heap.size wd X) (hXW : Below X.heap.size X W) hE => (hc0 W a' c' X hX hXW hE).mono fun e w' h => (show ∃ ba bc, e = .returned (.agg #[.int .i8 ct.k, .slice ba ct.ks.length bc]) ∧ ct.InS w' (More (More S w1 w2) W w') ba ∧ Below W.heap.size W w' ∧ Below wd.heap.size wd w' from by obtain ⟨ba, bc, h1, h2, h3⟩ := h; exact ⟨ba, bc, h1, h2, h3, (hX.trans (hXW.mono hX.size)).trans (h3.mono (hX.trans (hXW.mono hX.size)).size)⟩)
            have HR15 := Lib.hid hr
            clear hr hc0
            go_cut [15] (fun s9 wx => ∃ (r : Nat) (za : Option Addr) (zc : Nat), s9 = .pointer (some ⟨r, 0, none⟩) ∧ VarAt wx wd r (More S w1 w2) ct za zc ∧ Below wd.heap.size wd wx)
            case first =>
              go_region_held3 (fun v => v.cell? ⟨b, o + 2, none⟩ = some (.string t.arg) ∧ v.cell? ⟨w3.heap.size + 1, 0, none⟩ = some (.int .i8 p2.k) ∧ v.cell? ⟨w3.heap.size + 1, 1, none⟩ = some (.slice ra p2.ks.length rc) ∧ v.cell? ⟨b, o + 10, none⟩ = some (.slice (some ⟨kb, ko, none⟩) 3 s.kc)) (first | (refine hkeep.out _ ?_; (repeat (first | assumption | exact Below.refl _ _ | apply below_drewN | apply Below.drew | (refine Below.alloc ?_ (by first | omega | (simp; done) | (simp; omega)) _) | (refine Below.setCell ?_ (by first | omega | (simp; done) | (simp; omega)) _))))) (first | (go_at_call 126; refine (hcM0.out _ ?_).mono ?_; (repeat (first | assumption | exact Below.refl _ _ | apply below_drewN | apply Below.drew | (refine Below.alloc ?_ (by first | omega | (simp; done) | (simp; omega)) _) | (refine Below.setCell ?_ (by first | omega | (simp; done) | (simp; omega)) _))); rintro e w20 ⟨ea20, ec20, rfl, henv20, hb20, hc20⟩; have hs20 := hc20.size; have hnew0 := cell_kept hb20 (new_d0 wd _); have hnew1 := cell_kept hb20 (new_d1 wd _); have fnew0 := frozen_kept hb20 (new_dlt wd _) (new_e0 wd _); have fnew1 := frozen_kept hb20 (new_dlt wd _) (new_e1 wd _); have hnewl := Nat.lt_of_lt_of_le (new_dlt wd _) hb20.size) | (go_at_call 126; refine (hcM0.out _ ?_).mono ?_; (repeat (first | assumption | exact Below.refl _ _ | apply below_drewN | apply Below.drew | (refine Below.alloc ?_ (by first | omega | (simp; done) | (simp; omega)) _) | (refine Below.setCell ?_ (by first | omega | (simp; done) | (simp; omega)) _))); rintro e w20 ⟨ea20, ec20, rfl, henv20, hb20, hc20⟩; have hs20 := hc20.size) | (go_at_call 77; refine (hcR.out _ _ _ w20 hc20 ?_ henv20).mono ?_; (repeat (first | assumption | exact Below.refl _ _ | apply below_drewN | apply Below.drew | (refine Below.alloc ?_ (by first | omega | (simp; done) | (simp; omega)) _) | (refine Below.setCell ?_ (by first | omega | (simp; done) | (simp; omega)) _))); rintro e w21 ⟨ba, bc, rfl, hbt, hb21, hc21⟩; have hs21 := hb21.size; have hnew0 := cell_kept hb21 hnew0; have hnew1 := cell_kept hb21 hnew1; have fnew0 := frozen_kept hb21 hnewl fnew0; have fnew1 := frozen_kept hb21 hnewl fnew1) | (go_at_call 77; refine (hcR.out _ _ _ w20 hc20 ?_ henv20).mono ?_; (repeat (first | assumption | exact Below.refl _ _ | apply below_drewN | apply Below.drew | (refine Below.alloc ?_ (by first | omega | (simp; done) | (simp; omega)) _) | (refine Below.setCell ?_ (by first | omega | (simp; done) | (simp; omega)) _))); rintro e w21 ⟨ba, bc, rfl, hbt, hb21, hc21⟩; have hs21 := hb21.size; have hnew0 := cell_kept hb21 (new_c0 w20 _); have hnew1 := cell_kept hb21 (new_c1 w20 _); have fnew0 := frozen_kept hb21 (new_lt w20 _) (new_f0 w20 _); have fnew1 := frozen_kept hb21 (new_lt w20 _) (new_f1 w20 _)) | (go_at_call 77; refine (hcR.out _ _ _ w20 hc20 ?_ henv20).mono ?_; (repeat (first | assumption | exact Below.refl _ _ | apply below_drewN | apply Below.drew | (refine Below.alloc ?_ (by first | omega | (simp; done) | (simp; omega)) _) | (refine Below.setCell ?_ (by first | omega | (simp; done) | (simp; omega)) _))); rintro e w21 ⟨ba, bc, rfl, hbt, hb21, hc21⟩; have hs21 := hb21.size))
              all_goals
                go_wp2_with fail
                go_meet
                refine ⟨_, ba, bc, rfl, ?_, ?_⟩
                · try simp only [World.size_alloc, World.size_drew] at hs21
                  first | (refine VarAt.mid HSd ?_ ?_ hbt ?_ hnew0 hnew1 <;> (first | omega | (simp only [World.size_drew, World.size_alloc]; omega))) | (refine VarAt.last HSd ?_ hbt ?_ <;> (first | omega | (simp only [World.size_drew, World.size_alloc]; omega)))
                · (repeat (first | assumption | exact Below.refl _ _ | apply below_drewN | apply Below.drew | (refine Below.alloc ?_ (by first | omega | (simp; done) | (simp; omega)) _) | (refine Below.setCell ?_ (by first | omega | (simp; done) | (simp; omega)) _)))
            case rest =>
              obtain ⟨r3, ca, cc, rfl, hv3, hbv3⟩ := hcut
              have hbwc : Below w.heap.size w wc := hbwd.trans (hbv3.mono hbwd.size)
              have hF : Hid (gradual.rules (N + 1) l t = gradual.meetE t bt ct) := by show _ = _; rw [hF2.out, HR15.out]
              have hszv := hbv.size
              have hszv3 := hbv3.size
              have hsz1 := hb1.size
              have hva := hbwa.size
              clear HR15 hkeep hcM0 hcR t2 t10 r0 r1
              have v0 := cell_kept hbv3 v0
              have v1 := cell_kept hbv3 v1
              have u0 := hv3.c0
              have u1 := hv3.c1
              have m0 := cell_kept hbv3 m0
              have m1 := cell_kept hbv3 m1
              have f0 := frozen_kept hbv3 (by omega) f0
              have f1 := frozen_kept hbv3 (by omega) f1
              have HB1 : bt.InS wc (More S w1 wc) ba := RTy.InS.up (hv2.more.below hbv3 (More.lt HSa hbv.size)) (by
                rintro b ((h | h) | h)
                · exact .inl h
                · exact .inr (by omega)
                · exact .inr (by omega))
              have HB2 : ct.InS wc (More S w1 wc) ca := RTy.InS.up hv3.more (by
                rintro b ((h | h) | h)
                · exact .inl h
                · exact .inr (by omega)
                · exact .inr (by omega))
              go_wp2_with fail
              refine (meetE_c t B b o s wb bt ct (More S w1 wc) ba ca bc cc wc (hwd.below hbwc hB) (hat.below hbwc hB) (by have := hbwc.size; omega) (More.lt hS1 (by omega)) HB1 HB2).mono ?_
              intro e w5 hg
              cases hr : gradual.meetE t bt ct with
              | error f =>
                rw [hr] at hg
                obtain ⟨fb, rfl, g1, g2, g3, g4⟩ := hg
                have HR2 := Lib.hid hr
                clear hr
                go_wp2_with fail
                refine ⟨rfl, ?_⟩
                rw [hF.out, HR2.out]
                exact Fails.mono (w1 := wc) ⟨fb, rfl, g1, g2, g3, g4⟩ hbwc
              | ok z' =>
                rw [hr] at hg
                obtain ⟨qa, qc, rfl, hq, hb5⟩ := hg
                have HR2 := Lib.hid hr
                clear hr
                have m0 := cell_kept hb5 m0
                have m1 := cell_kept hb5 m1
                have f0 := frozen_kept hb5 (by omega) f0
                have f1 := frozen_kept hb5 (by omega) f1
                go_wp2_with fail
                refine bodyPost_ret (v := .agg #[.int .i8 z'.k, .slice qa z'.ks.length qc]) (by simp [results, Try.results77, go_sem, m0, m1]) rfl ?_
                rw [hF.out, HR2.out]
                exact GetsTy.stored (S' := More S w1 wc) hS (fun b hb => by rcases hb with hb | hb; exact ⟨.inl hb, by have := hS b hb; omega⟩; exact ⟨.inr ⟨by omega, by omega⟩, by omega⟩) hq hbwc hb5 (Nat.le_refl _) (by omega)
end Go.Proofs.Ytaoodchjggimcaa

/- The walk of package rules' rules, by the words of package check: terms of 1 kids that bind nothing. -/
set_option linter.unusedVariables false
set_option linter.unusedSimpArgs false
namespace Go.Proofs.Ytaoodchjggimcaa
open Go.RowKit

set_option maxRecDepth 100000 in
set_option maxHeartbeats 4000000 in
theorem rulesF1_c (N : Nat) (ih : ∀ (l : Env) (t : RTm) (B b o : Nat) (s : TmSh) (wb C : Nat) (S : Nat → Prop) (ea : Option Addr) (ec : Nat) (w : World), t.nodes ≤ N → WordsAt w B wb 17 40 41 17 → RTm.At w B b o s t → B ≤ w.heap.size → C ≤ w.heap.size → (∀ b, S b → b < w.heap.size) → (∀ b, b < B → S b) → EnvAt w C S ea ec l → l.length + 2 * t.nodes ≤ 20000 → t.right = true → l.right →
      Calls Try.prog 77 #[.pointer (some ⟨wb, 0, none⟩), .slice ea l.length ec, .pointer (some ⟨b, o, none⟩)] w (GetsTy S (gradual.rules N l t) w))(l : Env) (t : RTm) (B b o : Nat) (s : TmSh) (wb C : Nat) (S : Nat → Prop) (ea : Option Addr) (ec : Nat) (w : World) (hN : t.nodes ≤ N + 1) (hwd : WordsAt w B wb 17 40 41 17) (hat : RTm.At w B b o s t) (hB : B ≤ w.heap.size) (hC : C ≤ w.heap.size) (hS : ∀ b, S b → b < w.heap.size) (hBS : ∀ b, b < B → S b) (henv : EnvAt w C S ea ec l) (hnl : l.length + 2 * t.nodes ≤ 20000) (hrt : t.right = true) (hrl : l.right) (hkind : flatKind t.k = true) (hkk : kidsOf t.k = 1) :
    Calls Try.prog 77 #[.pointer (some ⟨wb, 0, none⟩), .slice ea l.length ec, .pointer (some ⟨b, o, none⟩)] w (GetsTy S (gradual.rules (N + 1) l t) w) := by
  have k0 := hat.c0
  have hwl := hwd.lt
  have hbl : b < w.heap.size := by have := hat.lt; omega
  have hlen := RTm.right_len hrt
  have hkn : t.ks.length = 1 := by omega
  have hF := Lib.hid (Mode.rulesF1 (M := gradual) (n := N) (l := l) hkind hkk)
  obtain ⟨kb0, ko0, ks0, hka0, hkat0⟩ := hat.kid (RTm.kid_get (t := t) (i := 0) (by omega))
  have hkn_0 := RTm.kid_nodes (RTm.kid_get (t := t) (i := 0) (by omega))
  have hkr0 := Lib.hid (RTm.kid_right hrt (i := 0) (by omega))
  have t10 := hat.c10
  rw [hka0, hkn] at t10
  have HKA := Lib.hid hka0
  have HKN := Lib.hid hkn
  clear hka0 hkn hlen hkk
  obtain ⟨h0, h1, h2, h3, h4, h5, h7, h14⟩ := flatKind_ne hkind
  have q0 : (t.k == (0 : Int)) = false := by simp [h0]
  have q1 : (t.k == (1 : Int)) = false := by simp [h1]
  have q2 : (t.k == (2 : Int)) = false := by simp [h2]
  have q3 : (t.k == (3 : Int)) = false := by simp [h3]
  have q4 : (t.k == (4 : Int)) = false := by simp [h4]
  have q5 : (t.k == (5 : Int)) = false := by simp [h5]
  have q7 : (t.k == (7 : Int)) = false := by simp [h7]
  have q14 : (t.k == (14 : Int)) = false := by simp [h14]
  clear h0 h1 h2 h3 h4 h5 h7 h14
  have HKD := Lib.hid hkind
  clear hkind
  go_enter Try.func77, Try.ntmps77
  go_wp2_with fail
  generalize hW : World.alloc _ _ = w1
  have hb1 : Below w.heap.size w w1 := by rw [← hW]; (repeat (first | assumption | exact Below.refl _ _ | apply below_drewN | apply Below.drew | (refine Below.alloc ?_ (by first | omega | (simp; done) | (simp; omega)) _) | (refine Below.setCell ?_ (by first | omega | (simp; done) | (simp; omega)) _)))
  have hz1 : w1.heap.size = w.heap.size + 1 + 1 := by rw [← hW]; simp
  have m0 : w1.cell? ⟨w.heap.size, 0, none⟩ = some (.int .i8 0) := by rw [← hW]; simp [go_sem]
  have m1 : w1.cell? ⟨w.heap.size, 1, none⟩ = some (.slice none 0 0) := by rw [← hW]; simp [go_sem]
  have f0 : w1.frozen? ⟨w.heap.size, 0, none⟩ = false := by rw [← hW]; simp [go_sem]
  have f1 : w1.frozen? ⟨w.heap.size, 1, none⟩ = false := by rw [← hW]; simp [go_sem]
  have a0 : w1.cell? ⟨w.heap.size + 1, 0, none⟩ = some (.int .i8 0) := by rw [← hW]; simp [go_sem]
  have g0 : w1.frozen? ⟨w.heap.size + 1, 0, none⟩ = false := by rw [← hW]; simp [go_sem]
  have a1 : w1.cell? ⟨w.heap.size + 1, 1, none⟩ = some (.slice none 0 0) := by rw [← hW]; simp [go_sem]
  have g1 : w1.frozen? ⟨w.heap.size + 1, 1, none⟩ = false := by rw [← hW]; simp [go_sem]
  have a2 : w1.cell? ⟨w.heap.size + 1, 2, none⟩ = some (.int .i8 0) := by rw [← hW]; simp [go_sem]
  have g2 : w1.frozen? ⟨w.heap.size + 1, 2, none⟩ = false := by rw [← hW]; simp [go_sem]
  have a3 : w1.cell? ⟨w.heap.size + 1, 3, none⟩ = some (.slice none 0 0) := by rw [← hW]; simp [go_sem]
  have g3 : w1.frozen? ⟨w.heap.size + 1, 3, none⟩ = false := by rw [← hW]; simp [go_sem]
  have a4 : w1.cell? ⟨w.heap.size + 1, 4, none⟩ = some (.int .i8 0) := by rw [← hW]; simp [go_sem]
  have g4 : w1.frozen? ⟨w.heap.size + 1, 4, none⟩ = false := by rw [← hW]; simp [go_sem]
  have a5 : w1.cell? ⟨w.heap.size + 1, 5, none⟩ = some (.slice none 0 0) := by rw [← hW]; simp [go_sem]
  have g5 : w1.frozen? ⟨w.heap.size + 1, 5, none⟩ = false := by rw [← hW]; simp [go_sem]
  clear hW
  have hz1 : w.heap.size + 1 < w1.heap.size := by omega
  have hSr : ∀ b, S b → b < w.heap.size + 1 := fun b hb => by have := hS b hb; omega
  have t10 := cell_kept hb1 t10
  refine wp_loop_rounds 2 ?_
  rw [rounds_succ]
  go_wp2_with fail
  have hx := ih l (t.kid 0) B kb0 (ko0 + 0 * 11) ks0 wb w1.heap.size S ea ec w1 (by omega) (hwd.below hb1 hB) (hkat0.below hb1 hB) (by have := hb1.size; omega) (Nat.le_refl _) (fun b hb => Nat.lt_of_lt_of_le (hS b hb) hb1.size) hBS (EnvAt.up (henv.below hb1 hC hS) (by have := hb1.size; omega) fun _ h => h) (by omega) hkr0.out hrl
  simp only [Nat.reduceMul, Nat.add_zero] at hx
  refine hx.mono ?_
  clear hx
  intro e v0 hg
  cases hr : gradual.rules N l (t.kid 0) with
  | error f =>
    rw [hr] at hg
    obtain ⟨fb, rfl, y1, y2, y3, y4⟩ := hg
    have E : Hid (gradual.rules (N + 1) l t = .error f) := by show _ = _; rw [hF.out, hr]
    clear hr
    go_wp2_with fail
    refine ⟨rfl, ?_⟩
    rw [E.out]
    exact Fails.mono (w1 := w1) ⟨fb, rfl, y1, y2, y3, y4⟩ hb1
  | ok x0 =>
    rw [hr] at hg
    obtain ⟨xa0, xc0, rfl, HX0, hv0⟩ := hg
    have HR0 := Lib.hid hr
    clear hr
    have a0 := cell_kept hv0 a0
    have a1 := cell_kept hv0 a1
    have a2 := cell_kept hv0 a2
    have a3 := cell_kept hv0 a3
    have a4 := cell_kept hv0 a4
    have a5 := cell_kept hv0 a5
    have m0 := cell_kept hv0 m0
    have m1 := cell_kept hv0 m1
    have t10 := cell_kept hv0 t10
    have g0 := frozen_kept hv0 (by have := hb1.size; omega) g0
    have g1 := frozen_kept hv0 (by have := hb1.size; omega) g1
    have g2 := frozen_kept hv0 (by have := hb1.size; omega) g2
    have g3 := frozen_kept hv0 (by have := hb1.size; omega) g3
    have g4 := frozen_kept hv0 (by have := hb1.size; omega) g4
    have g5 := frozen_kept hv0 (by have := hb1.size; omega) g5
    have f0 := frozen_kept hv0 (by have := hb1.size; omega) f0
    have f1 := frozen_kept hv0 (by have := hb1.size; omega) f1
    have hvs0 := hv0.size
    have hbx0 : Below w.heap.size w v0 := hb1.trans (hv0.mono hb1.size)
    have HX0 := RTy.InS.up HX0 (More.from_ (w1 := w1) (Nat.le_refl _))
    have hcx : ∀ u v, (v0.setCell ⟨w.heap.size + 1, 0, none⟩ u).setCell ⟨w.heap.size + 1, 1, none⟩ v = (v0.setCell ⟨w.heap.size + 1, 0, none⟩ u).setCell ⟨w.heap.size + 1, 1, none⟩ v := fun _ _ => rfl
    clear hcx
    have HX0 := HX0.slot (i := 0) (j := 1) (u := .int .i8 x0.k) (v := .slice xa0 x0.ks.length xc0) hSr hz1
    go_wp2_with fail
    obtain ⟨W0, hW⟩ : ∃ W, W = (v0.setCell ⟨w.heap.size + 1, 0, none⟩ (.int .i8 x0.k)).setCell ⟨w.heap.size + 1, 1, none⟩ (.slice xa0 x0.ks.length xc0) := ⟨_, rfl⟩
    rw [← hW]
    rw [← hW] at HX0
    have hbw0 : Below w.heap.size w W0 := by rw [hW]; (repeat (first | assumption | exact Below.refl _ _ | apply below_drewN | apply Below.drew | (refine Below.alloc ?_ (by first | omega | (simp; done) | (simp; omega)) _) | (refine Below.setCell ?_ (by first | omega | (simp; done) | (simp; omega)) _)))
    have hsz0 : v0.heap.size = W0.heap.size := by rw [hW]; simp
    have b0 : W0.cell? ⟨w.heap.size + 1, 0, none⟩ = some (.int .i8 x0.k) := by rw [hW]; simp [go_sem, a0, a1, a2, a3, a4, a5, g0, g1, g2, g3, g4, g5, m0, m1, f0, f1]
    have e0 : W0.frozen? ⟨w.heap.size + 1, 0, none⟩ = false := by rw [hW]; simp [go_sem, a0, a1, a2, a3, a4, a5, g0, g1, g2, g3, g4, g5, m0, m1, f0, f1]
    have b1 : W0.cell? ⟨w.heap.size + 1, 1, none⟩ = some (.slice xa0 x0.ks.length xc0) := by rw [hW]; simp [go_sem, a0, a1, a2, a3, a4, a5, g0, g1, g2, g3, g4, g5, m0, m1, f0, f1]
    have e1 : W0.frozen? ⟨w.heap.size + 1, 1, none⟩ = false := by rw [hW]; simp [go_sem, a0, a1, a2, a3, a4, a5, g0, g1, g2, g3, g4, g5, m0, m1, f0, f1]
    have b2 : W0.cell? ⟨w.heap.size + 1, 2, none⟩ = some (.int .i8 0) := by rw [hW]; simp [go_sem, a0, a1, a2, a3, a4, a5, g0, g1, g2, g3, g4, g5, m0, m1, f0, f1]
    have e2 : W0.frozen? ⟨w.heap.size + 1, 2, none⟩ = false := by rw [hW]; simp [go_sem, a0, a1, a2, a3, a4, a5, g0, g1, g2, g3, g4, g5, m0, m1, f0, f1]
    have b3 : W0.cell? ⟨w.heap.size + 1, 3, none⟩ = some (.slice none 0 0) := by rw [hW]; simp [go_sem, a0, a1, a2, a3, a4, a5, g0, g1, g2, g3, g4, g5, m0, m1, f0, f1]
    have e3 : W0.frozen? ⟨w.heap.size + 1, 3, none⟩ = false := by rw [hW]; simp [go_sem, a0, a1, a2, a3, a4, a5, g0, g1, g2, g3, g4, g5, m0, m1, f0, f1]
    have b4 : W0.cell? ⟨w.heap.size + 1, 4, none⟩ = some (.int .i8 0) := by rw [hW]; simp [go_sem, a0, a1, a2, a3, a4, a5, g0, g1, g2, g3, g4, g5, m0, m1, f0, f1]
    have e4 : W0.frozen? ⟨w.heap.size + 1, 4, none⟩ = false := by rw [hW]; simp [go_sem, a0, a1, a2, a3, a4, a5, g0, g1, g2, g3, g4, g5, m0, m1, f0, f1]
    have b5 : W0.cell? ⟨w.heap.size + 1, 5, none⟩ = some (.slice none 0 0) := by rw [hW]; simp [go_sem, a0, a1, a2, a3, a4, a5, g0, g1, g2, g3, g4, g5, m0, m1, f0, f1]
    have e5 : W0.frozen? ⟨w.heap.size + 1, 5, none⟩ = false := by rw [hW]; simp [go_sem, a0, a1, a2, a3, a4, a5, g0, g1, g2, g3, g4, g5, m0, m1, f0, f1]
    have n0 : W0.cell? ⟨w.heap.size, 0, none⟩ = some (.int .i8 0) := by rw [hW]; simp [go_sem, a0, a1, a2, a3, a4, a5, g0, g1, g2, g3, g4, g5, m0, m1, f0, f1]
    have n1 : W0.cell? ⟨w.heap.size, 1, none⟩ = some (.slice none 0 0) := by rw [hW]; simp [go_sem, a0, a1, a2, a3, a4, a5, g0, g1, g2, g3, g4, g5, m0, m1, f0, f1]
    have n2 : W0.frozen? ⟨w.heap.size, 0, none⟩ = false := by rw [hW]; simp [go_sem, a0, a1, a2, a3, a4, a5, g0, g1, g2, g3, g4, g5, m0, m1, f0, f1]
    have n3 : W0.frozen? ⟨w.heap.size, 1, none⟩ = false := by rw [hW]; simp [go_sem, a0, a1, a2, a3, a4, a5, g0, g1, g2, g3, g4, g5, m0, m1, f0, f1]
    have n4 := (hat.below hbw0 hB).c10
    rw [HKA.out, HKN.out] at n4
    have hW1_0 : w1.heap.size ≤ W0.heap.size := by omega
    clear hW a0 a1 a2 a3 a4 a5 g0 g1 g2 g3 g4 g5 m0 m1 f0 f1 t10 hsz0
    have a0 := b0
    have g0 := e0
    have a1 := b1
    have g1 := e1
    have a2 := b2
    have g2 := e2
    have a3 := b3
    have g3 := e3
    have a4 := b4
    have g4 := e4
    have a5 := b5
    have g5 := e5
    have m0 := n0
    have m1 := n1
    have f0 := n2
    have f1 := n3
    have t10 := n4
    clear b0 e0 b1 e1 b2 e2 b3 e3 b4 e4 b5 e5 n0 n1 n2 n3 n4
    rw [rounds_succ]
    go_wp2_with fail
    have hS1 : ∀ b, More S w1 W0 b → b < W0.heap.size := More.lt (fun b hb => Nat.lt_of_lt_of_le (hS b hb) hb1.size) hW1_0
    have HU : RTy.unk.InS W0 (More S w1 W0) none := by unfold RTy.unk RTy.InS RTy.InsS; exact ⟨⟨by omega, by omega⟩, by simp [lenMax], trivial⟩
    have hrx := Mode.rules_right gradual_good N l (t.kid 0) x0 hrl hkr0.out HR0.out
    have hcall := flat_c t B b o s wb x0 RTy.unk RTy.unk (More S w1 W0) xa0 none none xc0 0 0 W0 (hwd.below hbw0 hB) (hat.below hbw0 hB) (by have := hbw0.size; omega) hS1 (fun b hb => .inl (hBS b hb)) HX0 HU HU hrx (RTm.right_ty hrt) HKD.out
    simp only [RTy.unk_k, RTy.unk_len] at hcall
    refine hcall.mono ?_
    clear hcall
    intro e w5 hg
    have hFF : Hid (gradual.rules (N + 1) l t = gradual.flat t x0 RTy.unk RTy.unk) := by show _ = _; rw [hF.out, HR0.out]
    have hsW := hbw0.size
    cases hr : gradual.flat t x0 RTy.unk RTy.unk with
    | error f =>
      rw [hr] at hg
      obtain ⟨fb, rfl, y1, y2, y3, y4⟩ := hg
      have HR2 := Lib.hid hr
      clear hr
      go_wp2_with fail
      refine ⟨rfl, ?_⟩
      rw [hFF.out, HR2.out]
      exact Fails.mono (w1 := W0) ⟨fb, rfl, y1, y2, y3, y4⟩ hbw0
    | ok z' =>
      rw [hr] at hg
      obtain ⟨qa, qc, rfl, hq, hb5⟩ := hg
      have HR2 := Lib.hid hr
      clear hr
      have m0 := cell_kept hb5 m0
      have m1 := cell_kept hb5 m1
      have f0 := frozen_kept hb5 (by omega) f0
      have f1 := frozen_kept hb5 (by omega) f1
      go_wp2_with fail
      refine bodyPost_ret (v := .agg #[.int .i8 z'.k, .slice qa z'.ks.length qc]) (by simp [results, Try.results77, go_sem, m0, m1]) rfl ?_
      rw [hFF.out, HR2.out]
      exact GetsTy.stored (S' := More S w1 W0) hS (fun b hb => by rcases hb with hb | hb; exact ⟨.inl hb, by have := hS b hb; omega⟩; exact ⟨.inr ⟨by omega, by omega⟩, by omega⟩) hq hbw0 hb5 (Nat.le_refl _) (by omega)
end Go.Proofs.Ytaoodchjggimcaa

/- The walk of package rules' rules, by the words of package check: terms of 2 kids that bind nothing. -/
set_option linter.unusedVariables false
set_option linter.unusedSimpArgs false
namespace Go.Proofs.Ytaoodchjggimcaa
open Go.RowKit

set_option maxRecDepth 100000 in
set_option maxHeartbeats 4000000 in
theorem rulesF2_c (N : Nat) (ih : ∀ (l : Env) (t : RTm) (B b o : Nat) (s : TmSh) (wb C : Nat) (S : Nat → Prop) (ea : Option Addr) (ec : Nat) (w : World), t.nodes ≤ N → WordsAt w B wb 17 40 41 17 → RTm.At w B b o s t → B ≤ w.heap.size → C ≤ w.heap.size → (∀ b, S b → b < w.heap.size) → (∀ b, b < B → S b) → EnvAt w C S ea ec l → l.length + 2 * t.nodes ≤ 20000 → t.right = true → l.right →
      Calls Try.prog 77 #[.pointer (some ⟨wb, 0, none⟩), .slice ea l.length ec, .pointer (some ⟨b, o, none⟩)] w (GetsTy S (gradual.rules N l t) w))(l : Env) (t : RTm) (B b o : Nat) (s : TmSh) (wb C : Nat) (S : Nat → Prop) (ea : Option Addr) (ec : Nat) (w : World) (hN : t.nodes ≤ N + 1) (hwd : WordsAt w B wb 17 40 41 17) (hat : RTm.At w B b o s t) (hB : B ≤ w.heap.size) (hC : C ≤ w.heap.size) (hS : ∀ b, S b → b < w.heap.size) (hBS : ∀ b, b < B → S b) (henv : EnvAt w C S ea ec l) (hnl : l.length + 2 * t.nodes ≤ 20000) (hrt : t.right = true) (hrl : l.right) (hkind : flatKind t.k = true) (hkk : kidsOf t.k = 2) :
    Calls Try.prog 77 #[.pointer (some ⟨wb, 0, none⟩), .slice ea l.length ec, .pointer (some ⟨b, o, none⟩)] w (GetsTy S (gradual.rules (N + 1) l t) w) := by
  have k0 := hat.c0
  have hwl := hwd.lt
  have hbl : b < w.heap.size := by have := hat.lt; omega
  have hlen := RTm.right_len hrt
  have hkn : t.ks.length = 2 := by omega
  have hF := Lib.hid (Mode.rulesF2 (M := gradual) (n := N) (l := l) hkind hkk)
  obtain ⟨kb0, ko0, ks0, hka0, hkat0⟩ := hat.kid (RTm.kid_get (t := t) (i := 0) (by omega))
  have hkn_0 := RTm.kid_nodes (RTm.kid_get (t := t) (i := 0) (by omega))
  have hkr0 := Lib.hid (RTm.kid_right hrt (i := 0) (by omega))
  obtain ⟨kb1, ko1, ks1, hka1, hkat1⟩ := hat.kid (RTm.kid_get (t := t) (i := 1) (by omega))
  have hkn_1 := RTm.kid_nodes (RTm.kid_get (t := t) (i := 1) (by omega))
  have hkr1 := Lib.hid (RTm.kid_right hrt (i := 1) (by omega))
  have hke := hka0.symm.trans hka1
  simp only [Option.some.injEq, Addr.mk.injEq, and_true] at hke
  obtain ⟨rfl, rfl⟩ := hke
  have t10 := hat.c10
  rw [hka0, hkn] at t10
  have HKA := Lib.hid hka0
  have HKN := Lib.hid hkn
  clear hka0 hka1 hkn hlen hkk
  obtain ⟨h0, h1, h2, h3, h4, h5, h7, h14⟩ := flatKind_ne hkind
  have q0 : (t.k == (0 : Int)) = false := by simp [h0]
  have q1 : (t.k == (1 : Int)) = false := by simp [h1]
  have q2 : (t.k == (2 : Int)) = false := by simp [h2]
  have q3 : (t.k == (3 : Int)) = false := by simp [h3]
  have q4 : (t.k == (4 : Int)) = false := by simp [h4]
  have q5 : (t.k == (5 : Int)) = false := by simp [h5]
  have q7 : (t.k == (7 : Int)) = false := by simp [h7]
  have q14 : (t.k == (14 : Int)) = false := by simp [h14]
  clear h0 h1 h2 h3 h4 h5 h7 h14
  have HKD := Lib.hid hkind
  clear hkind
  go_enter Try.func77, Try.ntmps77
  go_wp2_with fail
  generalize hW : World.alloc _ _ = w1
  have hb1 : Below w.heap.size w w1 := by rw [← hW]; (repeat (first | assumption | exact Below.refl _ _ | apply below_drewN | apply Below.drew | (refine Below.alloc ?_ (by first | omega | (simp; done) | (simp; omega)) _) | (refine Below.setCell ?_ (by first | omega | (simp; done) | (simp; omega)) _)))
  have hz1 : w1.heap.size = w.heap.size + 1 + 1 := by rw [← hW]; simp
  have m0 : w1.cell? ⟨w.heap.size, 0, none⟩ = some (.int .i8 0) := by rw [← hW]; simp [go_sem]
  have m1 : w1.cell? ⟨w.heap.size, 1, none⟩ = some (.slice none 0 0) := by rw [← hW]; simp [go_sem]
  have f0 : w1.frozen? ⟨w.heap.size, 0, none⟩ = false := by rw [← hW]; simp [go_sem]
  have f1 : w1.frozen? ⟨w.heap.size, 1, none⟩ = false := by rw [← hW]; simp [go_sem]
  have a0 : w1.cell? ⟨w.heap.size + 1, 0, none⟩ = some (.int .i8 0) := by rw [← hW]; simp [go_sem]
  have g0 : w1.frozen? ⟨w.heap.size + 1, 0, none⟩ = false := by rw [← hW]; simp [go_sem]
  have a1 : w1.cell? ⟨w.heap.size + 1, 1, none⟩ = some (.slice none 0 0) := by rw [← hW]; simp [go_sem]
  have g1 : w1.frozen? ⟨w.heap.size + 1, 1, none⟩ = false := by rw [← hW]; simp [go_sem]
  have a2 : w1.cell? ⟨w.heap.size + 1, 2, none⟩ = some (.int .i8 0) := by rw [← hW]; simp [go_sem]
  have g2 : w1.frozen? ⟨w.heap.size + 1, 2, none⟩ = false := by rw [← hW]; simp [go_sem]
  have a3 : w1.cell? ⟨w.heap.size + 1, 3, none⟩ = some (.slice none 0 0) := by rw [← hW]; simp [go_sem]
  have g3 : w1.frozen? ⟨w.heap.size + 1, 3, none⟩ = false := by rw [← hW]; simp [go_sem]
  have a4 : w1.cell? ⟨w.heap.size + 1, 4, none⟩ = some (.int .i8 0) := by rw [← hW]; simp [go_sem]
  have g4 : w1.frozen? ⟨w.heap.size + 1, 4, none⟩ = false := by rw [← hW]; simp [go_sem]
  have a5 : w1.cell? ⟨w.heap.size + 1, 5, none⟩ = some (.slice none 0 0) := by rw [← hW]; simp [go_sem]
  have g5 : w1.frozen? ⟨w.heap.size + 1, 5, none⟩ = false := by rw [← hW]; simp [go_sem]
  clear hW
  have hz1 : w.heap.size + 1 < w1.heap.size := by omega
  have hSr : ∀ b, S b → b < w.heap.size + 1 := fun b hb => by have := hS b hb; omega
  have t10 := cell_kept hb1 t10
  refine wp_loop_rounds 3 ?_
  rw [rounds_succ]
  go_wp2_with fail
  have hx := ih l (t.kid 0) B kb0 (ko0 + 0 * 11) ks0 wb w1.heap.size S ea ec w1 (by omega) (hwd.below hb1 hB) (hkat0.below hb1 hB) (by have := hb1.size; omega) (Nat.le_refl _) (fun b hb => Nat.lt_of_lt_of_le (hS b hb) hb1.size) hBS (EnvAt.up (henv.below hb1 hC hS) (by have := hb1.size; omega) fun _ h => h) (by omega) hkr0.out hrl
  simp only [Nat.reduceMul, Nat.add_zero] at hx
  refine hx.mono ?_
  clear hx
  intro e v0 hg
  cases hr : gradual.rules N l (t.kid 0) with
  | error f =>
    rw [hr] at hg
    obtain ⟨fb, rfl, y1, y2, y3, y4⟩ := hg
    have E : Hid (gradual.rules (N + 1) l t = .error f) := by show _ = _; rw [hF.out, hr]
    clear hr
    go_wp2_with fail
    refine ⟨rfl, ?_⟩
    rw [E.out]
    exact Fails.mono (w1 := w1) ⟨fb, rfl, y1, y2, y3, y4⟩ hb1
  | ok x0 =>
    rw [hr] at hg
    obtain ⟨xa0, xc0, rfl, HX0, hv0⟩ := hg
    have HR0 := Lib.hid hr
    clear hr
    have a0 := cell_kept hv0 a0
    have a1 := cell_kept hv0 a1
    have a2 := cell_kept hv0 a2
    have a3 := cell_kept hv0 a3
    have a4 := cell_kept hv0 a4
    have a5 := cell_kept hv0 a5
    have m0 := cell_kept hv0 m0
    have m1 := cell_kept hv0 m1
    have t10 := cell_kept hv0 t10
    have g0 := frozen_kept hv0 (by have := hb1.size; omega) g0
    have g1 := frozen_kept hv0 (by have := hb1.size; omega) g1
    have g2 := frozen_kept hv0 (by have := hb1.size; omega) g2
    have g3 := frozen_kept hv0 (by have := hb1.size; omega) g3
    have g4 := frozen_kept hv0 (by have := hb1.size; omega) g4
    have g5 := frozen_kept hv0 (by have := hb1.size; omega) g5
    have f0 := frozen_kept hv0 (by have := hb1.size; omega) f0
    have f1 := frozen_kept hv0 (by have := hb1.size; omega) f1
    have hvs0 := hv0.size
    have hbx0 : Below w.heap.size w v0 := hb1.trans (hv0.mono hb1.size)
    have HX0 := RTy.InS.up HX0 (More.from_ (w1 := w1) (Nat.le_refl _))
    have hcx : ∀ u v, (v0.setCell ⟨w.heap.size + 1, 0, none⟩ u).setCell ⟨w.heap.size + 1, 1, none⟩ v = (v0.setCell ⟨w.heap.size + 1, 0, none⟩ u).setCell ⟨w.heap.size + 1, 1, none⟩ v := fun _ _ => rfl
    clear hcx
    have HX0 := HX0.slot (i := 0) (j := 1) (u := .int .i8 x0.k) (v := .slice xa0 x0.ks.length xc0) hSr hz1
    go_wp2_with fail
    obtain ⟨W0, hW⟩ : ∃ W, W = (v0.setCell ⟨w.heap.size + 1, 0, none⟩ (.int .i8 x0.k)).setCell ⟨w.heap.size + 1, 1, none⟩ (.slice xa0 x0.ks.length xc0) := ⟨_, rfl⟩
    rw [← hW]
    rw [← hW] at HX0
    have hbw0 : Below w.heap.size w W0 := by rw [hW]; (repeat (first | assumption | exact Below.refl _ _ | apply below_drewN | apply Below.drew | (refine Below.alloc ?_ (by first | omega | (simp; done) | (simp; omega)) _) | (refine Below.setCell ?_ (by first | omega | (simp; done) | (simp; omega)) _)))
    have hsz0 : v0.heap.size = W0.heap.size := by rw [hW]; simp
    have b0 : W0.cell? ⟨w.heap.size + 1, 0, none⟩ = some (.int .i8 x0.k) := by rw [hW]; simp [go_sem, a0, a1, a2, a3, a4, a5, g0, g1, g2, g3, g4, g5, m0, m1, f0, f1]
    have e0 : W0.frozen? ⟨w.heap.size + 1, 0, none⟩ = false := by rw [hW]; simp [go_sem, a0, a1, a2, a3, a4, a5, g0, g1, g2, g3, g4, g5, m0, m1, f0, f1]
    have b1 : W0.cell? ⟨w.heap.size + 1, 1, none⟩ = some (.slice xa0 x0.ks.length xc0) := by rw [hW]; simp [go_sem, a0, a1, a2, a3, a4, a5, g0, g1, g2, g3, g4, g5, m0, m1, f0, f1]
    have e1 : W0.frozen? ⟨w.heap.size + 1, 1, none⟩ = false := by rw [hW]; simp [go_sem, a0, a1, a2, a3, a4, a5, g0, g1, g2, g3, g4, g5, m0, m1, f0, f1]
    have b2 : W0.cell? ⟨w.heap.size + 1, 2, none⟩ = some (.int .i8 0) := by rw [hW]; simp [go_sem, a0, a1, a2, a3, a4, a5, g0, g1, g2, g3, g4, g5, m0, m1, f0, f1]
    have e2 : W0.frozen? ⟨w.heap.size + 1, 2, none⟩ = false := by rw [hW]; simp [go_sem, a0, a1, a2, a3, a4, a5, g0, g1, g2, g3, g4, g5, m0, m1, f0, f1]
    have b3 : W0.cell? ⟨w.heap.size + 1, 3, none⟩ = some (.slice none 0 0) := by rw [hW]; simp [go_sem, a0, a1, a2, a3, a4, a5, g0, g1, g2, g3, g4, g5, m0, m1, f0, f1]
    have e3 : W0.frozen? ⟨w.heap.size + 1, 3, none⟩ = false := by rw [hW]; simp [go_sem, a0, a1, a2, a3, a4, a5, g0, g1, g2, g3, g4, g5, m0, m1, f0, f1]
    have b4 : W0.cell? ⟨w.heap.size + 1, 4, none⟩ = some (.int .i8 0) := by rw [hW]; simp [go_sem, a0, a1, a2, a3, a4, a5, g0, g1, g2, g3, g4, g5, m0, m1, f0, f1]
    have e4 : W0.frozen? ⟨w.heap.size + 1, 4, none⟩ = false := by rw [hW]; simp [go_sem, a0, a1, a2, a3, a4, a5, g0, g1, g2, g3, g4, g5, m0, m1, f0, f1]
    have b5 : W0.cell? ⟨w.heap.size + 1, 5, none⟩ = some (.slice none 0 0) := by rw [hW]; simp [go_sem, a0, a1, a2, a3, a4, a5, g0, g1, g2, g3, g4, g5, m0, m1, f0, f1]
    have e5 : W0.frozen? ⟨w.heap.size + 1, 5, none⟩ = false := by rw [hW]; simp [go_sem, a0, a1, a2, a3, a4, a5, g0, g1, g2, g3, g4, g5, m0, m1, f0, f1]
    have n0 : W0.cell? ⟨w.heap.size, 0, none⟩ = some (.int .i8 0) := by rw [hW]; simp [go_sem, a0, a1, a2, a3, a4, a5, g0, g1, g2, g3, g4, g5, m0, m1, f0, f1]
    have n1 : W0.cell? ⟨w.heap.size, 1, none⟩ = some (.slice none 0 0) := by rw [hW]; simp [go_sem, a0, a1, a2, a3, a4, a5, g0, g1, g2, g3, g4, g5, m0, m1, f0, f1]
    have n2 : W0.frozen? ⟨w.heap.size, 0, none⟩ = false := by rw [hW]; simp [go_sem, a0, a1, a2, a3, a4, a5, g0, g1, g2, g3, g4, g5, m0, m1, f0, f1]
    have n3 : W0.frozen? ⟨w.heap.size, 1, none⟩ = false := by rw [hW]; simp [go_sem, a0, a1, a2, a3, a4, a5, g0, g1, g2, g3, g4, g5, m0, m1, f0, f1]
    have n4 := (hat.below hbw0 hB).c10
    rw [HKA.out, HKN.out] at n4
    have hW1_0 : w1.heap.size ≤ W0.heap.size := by omega
    clear hW a0 a1 a2 a3 a4 a5 g0 g1 g2 g3 g4 g5 m0 m1 f0 f1 t10 hsz0
    have a0 := b0
    have g0 := e0
    have a1 := b1
    have g1 := e1
    have a2 := b2
    have g2 := e2
    have a3 := b3
    have g3 := e3
    have a4 := b4
    have g4 := e4
    have a5 := b5
    have g5 := e5
    have m0 := n0
    have m1 := n1
    have f0 := n2
    have f1 := n3
    have t10 := n4
    clear b0 e0 b1 e1 b2 e2 b3 e3 b4 e4 b5 e5 n0 n1 n2 n3 n4
    rw [rounds_succ]
    go_wp2_with fail
    have hx := ih l (t.kid 1) B kb0 (ko0 + 1 * 11) ks1 wb W0.heap.size S ea ec W0 (by omega) (hwd.below hbw0 hB) (hkat1.below hbw0 hB) (by have := hbw0.size; omega) (Nat.le_refl _) (fun b hb => Nat.lt_of_lt_of_le (hS b hb) hbw0.size) hBS (EnvAt.up (henv.below hbw0 hC hS) (by have := hbw0.size; omega) fun _ h => h) (by omega) hkr1.out hrl
    simp only [Nat.reduceMul, Nat.add_zero] at hx
    refine hx.mono ?_
    clear hx
    intro e v1 hg
    cases hr : gradual.rules N l (t.kid 1) with
    | error f =>
      rw [hr] at hg
      obtain ⟨fb, rfl, y1, y2, y3, y4⟩ := hg
      have E : Hid (gradual.rules (N + 1) l t = .error f) := by show _ = _; rw [hF.out, HR0.out]; simp only [hr]
      clear hr
      go_wp2_with fail
      refine ⟨rfl, ?_⟩
      rw [E.out]
      exact Fails.mono (w1 := W0) ⟨fb, rfl, y1, y2, y3, y4⟩ hbw0
    | ok x1 =>
      rw [hr] at hg
      obtain ⟨xa1, xc1, rfl, HX1, hv1⟩ := hg
      have HR1 := Lib.hid hr
      clear hr
      have a0 := cell_kept hv1 a0
      have a1 := cell_kept hv1 a1
      have a2 := cell_kept hv1 a2
      have a3 := cell_kept hv1 a3
      have a4 := cell_kept hv1 a4
      have a5 := cell_kept hv1 a5
      have m0 := cell_kept hv1 m0
      have m1 := cell_kept hv1 m1
      have t10 := cell_kept hv1 t10
      have g0 := frozen_kept hv1 (by have := hbw0.size; omega) g0
      have g1 := frozen_kept hv1 (by have := hbw0.size; omega) g1
      have g2 := frozen_kept hv1 (by have := hbw0.size; omega) g2
      have g3 := frozen_kept hv1 (by have := hbw0.size; omega) g3
      have g4 := frozen_kept hv1 (by have := hbw0.size; omega) g4
      have g5 := frozen_kept hv1 (by have := hbw0.size; omega) g5
      have f0 := frozen_kept hv1 (by have := hbw0.size; omega) f0
      have f1 := frozen_kept hv1 (by have := hbw0.size; omega) f1
      have hvs1 := hv1.size
      have hbx1 : Below w.heap.size w v1 := hbw0.trans (hv1.mono hbw0.size)
      have HX1 := RTy.InS.up HX1 (More.from_ (w1 := w1) (hW1_0))
      have HX0 := RTy.InS.up (RTy.InS.below HX0 hv1 (More.lt (fun b hb => Nat.lt_of_lt_of_le (hS b hb) hb1.size) hW1_0)) (More.to_ hvs1)
      have hcx : ∀ u v, (v1.setCell ⟨w.heap.size + 1, 2, none⟩ u).setCell ⟨w.heap.size + 1, 3, none⟩ v = (v1.setCell ⟨w.heap.size + 1, 2, none⟩ u).setCell ⟨w.heap.size + 1, 3, none⟩ v := fun _ _ => rfl
      clear hcx
      have HX0 := HX0.slot (i := 2) (j := 3) (u := .int .i8 x1.k) (v := .slice xa1 x1.ks.length xc1) hSr hz1
      have HX1 := HX1.slot (i := 2) (j := 3) (u := .int .i8 x1.k) (v := .slice xa1 x1.ks.length xc1) hSr hz1
      go_wp2_with fail
      obtain ⟨W1, hW⟩ : ∃ W, W = (v1.setCell ⟨w.heap.size + 1, 2, none⟩ (.int .i8 x1.k)).setCell ⟨w.heap.size + 1, 3, none⟩ (.slice xa1 x1.ks.length xc1) := ⟨_, rfl⟩
      rw [← hW]
      rw [← hW] at HX0
      rw [← hW] at HX1
      have hbw1 : Below w.heap.size w W1 := by rw [hW]; (repeat (first | assumption | exact Below.refl _ _ | apply below_drewN | apply Below.drew | (refine Below.alloc ?_ (by first | omega | (simp; done) | (simp; omega)) _) | (refine Below.setCell ?_ (by first | omega | (simp; done) | (simp; omega)) _)))
      have hsz1 : v1.heap.size = W1.heap.size := by rw [hW]; simp
      have b0 : W1.cell? ⟨w.heap.size + 1, 0, none⟩ = some (.int .i8 x0.k) := by rw [hW]; simp [go_sem, a0, a1, a2, a3, a4, a5, g0, g1, g2, g3, g4, g5, m0, m1, f0, f1]
      have e0 : W1.frozen? ⟨w.heap.size + 1, 0, none⟩ = false := by rw [hW]; simp [go_sem, a0, a1, a2, a3, a4, a5, g0, g1, g2, g3, g4, g5, m0, m1, f0, f1]
      have b1 : W1.cell? ⟨w.heap.size + 1, 1, none⟩ = some (.slice xa0 x0.ks.length xc0) := by rw [hW]; simp [go_sem, a0, a1, a2, a3, a4, a5, g0, g1, g2, g3, g4, g5, m0, m1, f0, f1]
      have e1 : W1.frozen? ⟨w.heap.size + 1, 1, none⟩ = false := by rw [hW]; simp [go_sem, a0, a1, a2, a3, a4, a5, g0, g1, g2, g3, g4, g5, m0, m1, f0, f1]
      have b2 : W1.cell? ⟨w.heap.size + 1, 2, none⟩ = some (.int .i8 x1.k) := by rw [hW]; simp [go_sem, a0, a1, a2, a3, a4, a5, g0, g1, g2, g3, g4, g5, m0, m1, f0, f1]
      have e2 : W1.frozen? ⟨w.heap.size + 1, 2, none⟩ = false := by rw [hW]; simp [go_sem, a0, a1, a2, a3, a4, a5, g0, g1, g2, g3, g4, g5, m0, m1, f0, f1]
      have b3 : W1.cell? ⟨w.heap.size + 1, 3, none⟩ = some (.slice xa1 x1.ks.length xc1) := by rw [hW]; simp [go_sem, a0, a1, a2, a3, a4, a5, g0, g1, g2, g3, g4, g5, m0, m1, f0, f1]
      have e3 : W1.frozen? ⟨w.heap.size + 1, 3, none⟩ = false := by rw [hW]; simp [go_sem, a0, a1, a2, a3, a4, a5, g0, g1, g2, g3, g4, g5, m0, m1, f0, f1]
      have b4 : W1.cell? ⟨w.heap.size + 1, 4, none⟩ = some (.int .i8 0) := by rw [hW]; simp [go_sem, a0, a1, a2, a3, a4, a5, g0, g1, g2, g3, g4, g5, m0, m1, f0, f1]
      have e4 : W1.frozen? ⟨w.heap.size + 1, 4, none⟩ = false := by rw [hW]; simp [go_sem, a0, a1, a2, a3, a4, a5, g0, g1, g2, g3, g4, g5, m0, m1, f0, f1]
      have b5 : W1.cell? ⟨w.heap.size + 1, 5, none⟩ = some (.slice none 0 0) := by rw [hW]; simp [go_sem, a0, a1, a2, a3, a4, a5, g0, g1, g2, g3, g4, g5, m0, m1, f0, f1]
      have e5 : W1.frozen? ⟨w.heap.size + 1, 5, none⟩ = false := by rw [hW]; simp [go_sem, a0, a1, a2, a3, a4, a5, g0, g1, g2, g3, g4, g5, m0, m1, f0, f1]
      have n0 : W1.cell? ⟨w.heap.size, 0, none⟩ = some (.int .i8 0) := by rw [hW]; simp [go_sem, a0, a1, a2, a3, a4, a5, g0, g1, g2, g3, g4, g5, m0, m1, f0, f1]
      have n1 : W1.cell? ⟨w.heap.size, 1, none⟩ = some (.slice none 0 0) := by rw [hW]; simp [go_sem, a0, a1, a2, a3, a4, a5, g0, g1, g2, g3, g4, g5, m0, m1, f0, f1]
      have n2 : W1.frozen? ⟨w.heap.size, 0, none⟩ = false := by rw [hW]; simp [go_sem, a0, a1, a2, a3, a4, a5, g0, g1, g2, g3, g4, g5, m0, m1, f0, f1]
      have n3 : W1.frozen? ⟨w.heap.size, 1, none⟩ = false := by rw [hW]; simp [go_sem, a0, a1, a2, a3, a4, a5, g0, g1, g2, g3, g4, g5, m0, m1, f0, f1]
      have n4 := (hat.below hbw1 hB).c10
      rw [HKA.out, HKN.out] at n4
      have hW1_1 : w1.heap.size ≤ W1.heap.size := by omega
      clear hW a0 a1 a2 a3 a4 a5 g0 g1 g2 g3 g4 g5 m0 m1 f0 f1 t10 hsz1
      have a0 := b0
      have g0 := e0
      have a1 := b1
      have g1 := e1
      have a2 := b2
      have g2 := e2
      have a3 := b3
      have g3 := e3
      have a4 := b4
      have g4 := e4
      have a5 := b5
      have g5 := e5
      have m0 := n0
      have m1 := n1
      have f0 := n2
      have f1 := n3
      have t10 := n4
      clear b0 e0 b1 e1 b2 e2 b3 e3 b4 e4 b5 e5 n0 n1 n2 n3 n4
      rw [rounds_succ]
      go_wp2_with fail
      have hS1 : ∀ b, More S w1 W1 b → b < W1.heap.size := More.lt (fun b hb => Nat.lt_of_lt_of_le (hS b hb) hb1.size) hW1_1
      have HU : RTy.unk.InS W1 (More S w1 W1) none := by unfold RTy.unk RTy.InS RTy.InsS; exact ⟨⟨by omega, by omega⟩, by simp [lenMax], trivial⟩
      have hrx := Mode.rules_right gradual_good N l (t.kid 0) x0 hrl hkr0.out HR0.out
      have hcall := flat_c t B b o s wb x0 x1 RTy.unk (More S w1 W1) xa0 xa1 none xc0 xc1 0 W1 (hwd.below hbw1 hB) (hat.below hbw1 hB) (by have := hbw1.size; omega) hS1 (fun b hb => .inl (hBS b hb)) HX0 HX1 HU hrx (RTm.right_ty hrt) HKD.out
      simp only [RTy.unk_k, RTy.unk_len] at hcall
      refine hcall.mono ?_
      clear hcall
      intro e w5 hg
      have hFF : Hid (gradual.rules (N + 1) l t = gradual.flat t x0 x1 RTy.unk) := by show _ = _; rw [hF.out, HR0.out]; simp only [HR1.out]
      have hsW := hbw1.size
      cases hr : gradual.flat t x0 x1 RTy.unk with
      | error f =>
        rw [hr] at hg
        obtain ⟨fb, rfl, y1, y2, y3, y4⟩ := hg
        have HR2 := Lib.hid hr
        clear hr
        go_wp2_with fail
        refine ⟨rfl, ?_⟩
        rw [hFF.out, HR2.out]
        exact Fails.mono (w1 := W1) ⟨fb, rfl, y1, y2, y3, y4⟩ hbw1
      | ok z' =>
        rw [hr] at hg
        obtain ⟨qa, qc, rfl, hq, hb5⟩ := hg
        have HR2 := Lib.hid hr
        clear hr
        have m0 := cell_kept hb5 m0
        have m1 := cell_kept hb5 m1
        have f0 := frozen_kept hb5 (by omega) f0
        have f1 := frozen_kept hb5 (by omega) f1
        go_wp2_with fail
        refine bodyPost_ret (v := .agg #[.int .i8 z'.k, .slice qa z'.ks.length qc]) (by simp [results, Try.results77, go_sem, m0, m1]) rfl ?_
        rw [hFF.out, HR2.out]
        exact GetsTy.stored (S' := More S w1 W1) hS (fun b hb => by rcases hb with hb | hb; exact ⟨.inl hb, by have := hS b hb; omega⟩; exact ⟨.inr ⟨by omega, by omega⟩, by omega⟩) hq hbw1 hb5 (Nat.le_refl _) (by omega)
end Go.Proofs.Ytaoodchjggimcaa
