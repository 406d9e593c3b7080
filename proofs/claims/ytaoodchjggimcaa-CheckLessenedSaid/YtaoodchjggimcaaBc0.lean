/- Parts of proofs about package rules and what it stands on: contracts of functions, and plain laws. -/
import Derived.Test.YtaoodchjggimcaaBa2
import Derived.Deep.RegionHeld2

/- What the rules' words mean in package check. -/
set_option linter.unusedVariables false
set_option linter.unusedSimpArgs false
namespace Go.Proofs.Ytaoodchjggimcaa
open Go.RowKit

theorem agrees_c (t u : RTy) (B : Nat) (a a' : Option Addr) (c c' : Nat) (w : World) (hin : t.In w B a) (hin' : u.In w B a') (hB : B ≤ w.heap.size) :
    Calls Try.prog 17 #[.agg #[.int .i8 t.k, .slice a t.ks.length c], .agg #[.int .i8 u.k, .slice a' u.ks.length c']] w fun e w' => e = .returned (.bool (gradual.agrees t u)) ∧ Below w.heap.size w w' :=
  agree_any t u B a a' c c' w hin hin' hB
theorem fits_c (t u : RTy) (B : Nat) (a a' : Option Addr) (c c' : Nat) (w : World) (hin : t.In w B a) (hin' : u.In w B a') (hB : B ≤ w.heap.size) :
    Calls Try.prog 17 #[.agg #[.int .i8 t.k, .slice a t.ks.length c], .agg #[.int .i8 u.k, .slice a' u.ks.length c']] w fun e w' => e = .returned (.bool (gradual.fits t u)) ∧ Below w.heap.size w w' :=
  agree_any t u B a a' c c' w hin hin' hB
theorem parts_c (k : Int) (t : RTy) (S : Nat → Prop) (a : Option Addr) (c : Nat) (w : World) (hk3 : 3 ≤ k) (hk5 : k ≤ 5) (hS : ∀ b, S b → b < w.heap.size) (hin : t.InS w S a) (hr : t.right = true) :
    Calls Try.prog 40 #[.int .i8 k, .agg #[.int .i8 t.k, .slice a t.ks.length c]] w (PartsPost (gradual.parts k t) S w) := by
  refine (as_any k t S a c w hk3 hk5 hS hin).mono ?_
  rintro e w' ⟨l, r, al, ar, cl, cr, b, rfl, h1, h2, h3, h4⟩
  have : gradual.parts k t = (l, r, b) := h3
  rw [this]
  exact ⟨al, ar, cl, cr, rfl, h1, h2, h4⟩
theorem meets_c (t u : RTy) (S : Nat → Prop) (a a' : Option Addr) (c c' : Nat) (w : World) (hS : ∀ b, S b → b < w.heap.size) (hin : t.InS w S a) (hin' : u.InS w S a') :
    Calls Try.prog 41 #[.agg #[.int .i8 t.k, .slice a t.ks.length c], .agg #[.int .i8 u.k, .slice a' u.ks.length c']] w (MeetsPost (gradual.meet t u) S w) := by
  refine (Meet_any t u w.heap.size a a' c c' w (hin.up hS) (hin'.up hS) (Nat.le_refl _)).mono ?_
  rintro e w' ⟨m, ma, mc, b, rfl, h1, h2, h3⟩
  have HM : gradual.meet t u = (m, b) := h2
  rw [HM]
  exact ⟨ma, mc, rfl, h1.up fun x hx => .inr hx, h3⟩
end Go.Proofs.Ytaoodchjggimcaa

/- The walks of package rules, by the words of package check: parts, or giving up. -/
set_option linter.unusedVariables false
set_option linter.unusedSimpArgs false
namespace Go.Proofs.Ytaoodchjggimcaa
open Go.RowKit

set_option maxRecDepth 100000 in
set_option maxHeartbeats 4000000 in
theorem asE_c (t : RTm) (B b o : Nat) (s : TmSh) (wb : Nat) (k : Int) (y : RTy) (S : Nat → Prop) (a : Option Addr) (c : Nat) (w : World) (hwd : WordsAt w B wb 17 40 41 17) (hat : RTm.At w B b o s t) (hB : B ≤ w.heap.size) (hk3 : 3 ≤ k) (hk5 : k ≤ 5) (hS : ∀ b, S b → b < w.heap.size) (hin : y.InS w S a) (hr : y.right = true) :
    Calls Try.prog 129 #[.pointer (some ⟨wb, 0, none⟩), .pointer (some ⟨b, o, none⟩), .int .i8 k, .agg #[.int .i8 y.k, .slice a y.ks.length c]] w (GetsTwo S (gradual.asE t k y) w) := by
  have he0 : gradual.asE t k y = if (gradual.parts k y).2.2 then .ok ((gradual.parts k y).1, (gradual.parts k y).2.1) else fault t 90 := rfl
  have hc0 := fun (W : World) (hW : Below w.heap.size w W) => parts_c k y S a c W hk3 hk5 (fun b hb => by have := hS b hb; have := hW.size; omega) (hin.below hW hS) hr
  generalize gradual.parts k y = p at he0 hc0
  obtain ⟨l, r, bb⟩ := p
  have HE := Lib.hid he0
  have hcall := Lib.hid hc0
  clear he0 hc0
  go_enter Try.func129, Try.ntmps129
  go_wp2_with fail
  generalize hW : World.alloc _ _ = w1
  have hb1 : Below w.heap.size w w1 := by rw [← hW]; (repeat (first | assumption | exact Below.refl _ _ | apply below_drewN | apply Below.drew | (refine Below.alloc ?_ (by first | omega | (simp; done) | (simp; omega)) _) | (refine Below.setCell ?_ (by first | omega | (simp; done) | (simp; omega)) _)))
  have hz : w1.heap.size = w.heap.size + 1 + 1 + 1 := by rw [← hW]; simp
  have q0 : w1.cell? ⟨w.heap.size, 0, none⟩ = some (.int .i8 y.k) := by rw [← hW]; simp [go_sem]
  have q1 : w1.cell? ⟨w.heap.size, 1, none⟩ = some (.slice a y.ks.length c) := by rw [← hW]; simp [go_sem]
  have m0 : w1.cell? ⟨w.heap.size + 1, 0, none⟩ = some (.int .i8 0) := by rw [← hW]; simp [go_sem]
  have m1 : w1.cell? ⟨w.heap.size + 1, 1, none⟩ = some (.slice none 0 0) := by rw [← hW]; simp [go_sem]
  have f0 : w1.frozen? ⟨w.heap.size + 1, 0, none⟩ = false := by rw [← hW]; simp [go_sem]
  have f1 : w1.frozen? ⟨w.heap.size + 1, 1, none⟩ = false := by rw [← hW]; simp [go_sem]
  have m2 : w1.cell? ⟨w.heap.size + 1 + 1, 0, none⟩ = some (.int .i8 0) := by rw [← hW]; simp [go_sem]
  have m3 : w1.cell? ⟨w.heap.size + 1 + 1, 1, none⟩ = some (.slice none 0 0) := by rw [← hW]; simp [go_sem]
  have f2 : w1.frozen? ⟨w.heap.size + 1 + 1, 0, none⟩ = false := by rw [← hW]; simp [go_sem]
  have f3 : w1.frozen? ⟨w.heap.size + 1 + 1, 1, none⟩ = false := by rw [← hW]; simp [go_sem]
  clear hW
  have g1 := (hwd.below hb1 hB).c1
  have hwl := hwd.lt
  have HZ := Lib.hid hz
  have hat1 := hat.below hb1 hB
  have hlo : wb < w.heap.size + 1 := by omega
  go_region_held3 (fun v => v.cell? ⟨wb, 1, none⟩ = some (.func (.func 40) #[] #[]) ∧ v.cell? ⟨w.heap.size, 0, none⟩ = some (.int .i8 y.k) ∧ v.cell? ⟨w.heap.size, 1, none⟩ = some (.slice a y.ks.length c))
    (first | exact ⟨g1, q0, q1⟩ | (refine hkeep.out _ ?_; (repeat (first | assumption | exact Below.refl _ _ | apply below_drewN | apply Below.drew | (refine Below.alloc ?_ (by first | omega | (simp; done) | (simp; omega)) _) | (refine Below.setCell ?_ (by first | omega | (simp; done) | (simp; omega)) _)))))
    (first | (go_at_call 40; refine (hcall.out _ ?_).mono ?_; (repeat (first | assumption | exact Below.refl _ _ | apply below_drewN | apply Below.drew | (refine Below.alloc ?_ (by first | omega | (simp; done) | (simp; omega)) _) | (refine Below.setCell ?_ (by first | omega | (simp; done) | (simp; omega)) _))); rintro e w2 ⟨al, ar, cl, cr, rfl, hl, hr2, hb2⟩; have hkeep := Lib.hid fun (W : World) (hW : Below (w.heap.size + 1) w2 W) => And.intro ((hW.cell (p := ⟨wb, 1, none⟩) hlo).trans (cell_kept hb2 g1)) (And.intro ((hW.cell (p := ⟨w.heap.size, 0, none⟩) (Nat.lt_succ_self _)).trans (cell_kept hb2 q0)) ((hW.cell (p := ⟨w.heap.size, 1, none⟩) (Nat.lt_succ_self _)).trans (cell_kept hb2 q1))); have m0 := cell_kept hb2 m0; have m1 := cell_kept hb2 m1; have m2 := cell_kept hb2 m2; have m3 := cell_kept hb2 m3; have hs2 := hb2.size; have f0 := frozen_kept hb2 (by rw [World.size_drew]; omega) f0; have f1 := frozen_kept hb2 (by rw [World.size_drew]; omega) f1; have f2 := frozen_kept hb2 (by rw [World.size_drew]; omega) f2; have f3 := frozen_kept hb2 (by rw [World.size_drew]; omega) f3))
  have hbb : Below w.heap.size w w2 := hb1.trans (Below.trans (Below.refl w.heap.size w1).drew (hb2.mono (by rw [World.size_drew]; omega)))
  have hlt0 : w.heap.size + 1 + 1 < w2.heap.size := by rw [World.size_drew] at hs2; omega
  have hat2 := hat.below hbb hB
  clear hat1 g1 q0 q1 hkeep
  generalize hW : World.setCell _ _ _ = w3
  have hb3 : Below (w.heap.size + 1) w2 w3 := by rw [← hW]; (repeat (first | assumption | exact Below.refl _ _ | apply below_drewN | apply Below.drew | (refine Below.alloc ?_ (by first | omega | (simp; done) | (simp; omega)) _) | (refine Below.setCell ?_ (by first | omega | (simp; done) | (simp; omega)) _)))
  have n0 : w3.cell? ⟨w.heap.size + 1, 0, none⟩ = some (.int .i8 l.k) := by rw [← hW]; simp [go_sem, m0, m1, m2, m3, f0, f1, f2, f3]
  have n1 : w3.cell? ⟨w.heap.size + 1, 1, none⟩ = some (.slice al l.ks.length cl) := by rw [← hW]; simp [go_sem, m0, m1, m2, m3, f0, f1, f2, f3]
  have e0 : w3.frozen? ⟨w.heap.size + 1, 0, none⟩ = false := by rw [← hW]; simp [go_sem, m0, m1, m2, m3, f0, f1, f2, f3]
  have e1 : w3.frozen? ⟨w.heap.size + 1, 1, none⟩ = false := by rw [← hW]; simp [go_sem, m0, m1, m2, m3, f0, f1, f2, f3]
  have n2 : w3.cell? ⟨w.heap.size + 1 + 1, 0, none⟩ = some (.int .i8 r.k) := by rw [← hW]; simp [go_sem, m0, m1, m2, m3, f0, f1, f2, f3]
  have n3 : w3.cell? ⟨w.heap.size + 1 + 1, 1, none⟩ = some (.slice ar r.ks.length cr) := by rw [← hW]; simp [go_sem, m0, m1, m2, m3, f0, f1, f2, f3]
  have e2 : w3.frozen? ⟨w.heap.size + 1 + 1, 0, none⟩ = false := by rw [← hW]; simp [go_sem, m0, m1, m2, m3, f0, f1, f2, f3]
  have e3 : w3.frozen? ⟨w.heap.size + 1 + 1, 1, none⟩ = false := by rw [← hW]; simp [go_sem, m0, m1, m2, m3, f0, f1, f2, f3]
  clear hW m0 m1 m2 m3 f0 f1 f2 f3
  have hs3 := hb3.size
  have hb3' : Below w.heap.size w w3 := hbb.trans (hb3.mono (by omega))
  cases bb with
  | false =>
    have E : Hid (gradual.asE t k y = fault t 90) := by show gradual.asE t k y = _; rw [HE.out, if_neg (by simp)]
    go_wp2_with fail
    refine (want_no t B b o s 90 _ (hat.below hb3' hB) (by omega)).mono ?_
    rintro e w4 ⟨b1, rfl, h1, h2, h3, h4⟩
    go_wp2_with fail
    refine ⟨rfl, ?_⟩
    rw [E.out]
    exact Fails.mono (w1 := w3) ⟨b1, rfl, h1, h2, h3, h4⟩ hb3'
  | true =>
    have E : Hid (gradual.asE t k y = .ok (l, r)) := by show gradual.asE t k y = _; rw [HE.out, if_pos rfl]
    go_wp2_with fail
    refine (want_yes b o _ _).mono ?_
    rintro e _ ⟨rfl, rfl⟩
    go_wp2_with fail
    go_region
    go_wp2_with fail
    refine bodyPost_ret (v := .tuple #[.agg #[.int .i8 l.k, .slice al l.ks.length cl], .agg #[.int .i8 r.k, .slice ar r.ks.length cr]]) (by simp [results, Try.results129, go_sem, n0, n1, n2, n3]) rfl ?_
    rw [E.out]
    refine ⟨al, ar, cl, cr, rfl, RTy.InS.below (C := w.heap.size) hl ?_ hS, RTy.InS.below (C := w.heap.size) hr2 ?_ hS, ?_⟩
    · have hx := hb3.mono (Nat.le_succ w.heap.size)
      (repeat (first | assumption | exact Below.refl _ _ | apply below_drewN | apply Below.drew | (refine Below.alloc ?_ (by first | omega | (simp; done) | (simp; omega)) _) | (refine Below.setCell ?_ (by first | omega | (simp; done) | (simp; omega)) _)))
    · have hx := hb3.mono (Nat.le_succ w.heap.size)
      (repeat (first | assumption | exact Below.refl _ _ | apply below_drewN | apply Below.drew | (refine Below.alloc ?_ (by first | omega | (simp; done) | (simp; omega)) _) | (refine Below.setCell ?_ (by first | omega | (simp; done) | (simp; omega)) _)))
    · (repeat (first | assumption | exact Below.refl _ _ | apply below_drewN | apply Below.drew | (refine Below.alloc ?_ (by first | omega | (simp; done) | (simp; omega)) _) | (refine Below.setCell ?_ (by first | omega | (simp; done) | (simp; omega)) _)))

set_option maxRecDepth 100000 in
set_option maxHeartbeats 4000000 in
theorem meetE_c (t : RTm) (B b o : Nat) (s : TmSh) (wb : Nat) (x y : RTy) (S : Nat → Prop) (a a' : Option Addr) (c c' : Nat) (w : World) (hwd : WordsAt w B wb 17 40 41 17) (hat : RTm.At w B b o s t) (hB : B ≤ w.heap.size) (hS : ∀ b, S b → b < w.heap.size) (hin : x.InS w S a) (hin' : y.InS w S a') :
    Calls Try.prog 130 #[.pointer (some ⟨wb, 0, none⟩), .pointer (some ⟨b, o, none⟩), .agg #[.int .i8 x.k, .slice a x.ks.length c], .agg #[.int .i8 y.k, .slice a' y.ks.length c']] w (GetsTy S (gradual.meetE t x y) w) := by
  have he0 : gradual.meetE t x y = if (gradual.meet x y).2 then small t (gradual.meet x y).1 else fault t 91 := rfl
  have hc0 := fun (W w1 : World) (hw1 : Below w.heap.size w w1) (hW : Below w1.heap.size w1 W) => (meets_c x y S a a' c c' W (fun b hb => by have := hS b hb; have := hW.size; have := hw1.size; omega) (hin.below (hw1.trans (hW.mono hw1.size)) hS) (hin'.below (hw1.trans (hW.mono hw1.size)) hS)).mono (fun e w' h => MeetsPost.on hW.size hW h)
  generalize gradual.meet x y = p at he0 hc0
  obtain ⟨z, bb⟩ := p
  have HE := Lib.hid he0
  have hcall := Lib.hid hc0
  clear he0 hc0
  go_enter Try.func130, Try.ntmps130
  go_upto_region 1 with fail
  generalize hW : World.alloc _ _ = w1
  have hb1 : Below w.heap.size w w1 := by rw [← hW]; (repeat (first | assumption | exact Below.refl _ _ | apply below_drewN | apply Below.drew | (refine Below.alloc ?_ (by first | omega | (simp; done) | (simp; omega)) _) | (refine Below.setCell ?_ (by first | omega | (simp; done) | (simp; omega)) _)))
  have hz : w1.heap.size = w.heap.size + 1 + 1 + 1 := by rw [← hW]; simp
  have q0 : w1.cell? ⟨w.heap.size, 0, none⟩ = some (.int .i8 x.k) := by rw [← hW]; simp [go_sem]
  have q1 : w1.cell? ⟨w.heap.size, 1, none⟩ = some (.slice a x.ks.length c) := by rw [← hW]; simp [go_sem]
  have q2 : w1.cell? ⟨w.heap.size + 1, 0, none⟩ = some (.int .i8 y.k) := by rw [← hW]; simp [go_sem]
  have q3 : w1.cell? ⟨w.heap.size + 1, 1, none⟩ = some (.slice a' y.ks.length c') := by rw [← hW]; simp [go_sem]
  have m0 : w1.cell? ⟨w.heap.size + 1 + 1, 0, none⟩ = some (.int .i8 0) := by rw [← hW]; simp [go_sem]
  have m1 : w1.cell? ⟨w.heap.size + 1 + 1, 1, none⟩ = some (.slice none 0 0) := by rw [← hW]; simp [go_sem]
  have f0 : w1.frozen? ⟨w.heap.size + 1 + 1, 0, none⟩ = false := by rw [← hW]; simp [go_sem]
  have f1 : w1.frozen? ⟨w.heap.size + 1 + 1, 1, none⟩ = false := by rw [← hW]; simp [go_sem]
  clear hW
  have g1 := (hwd.below hb1 hB).c2
  have hwl := hwd.lt
  have hat1 := hat.below hb1 hB
  have hlo : wb < w1.heap.size := by omega
  have hl1 : w.heap.size < w1.heap.size := by omega
  have hl2 : w.heap.size + 1 < w1.heap.size := by omega
  have hkeep := Lib.hid fun (W : World) (hW : Below w1.heap.size w1 W) => And.intro ((hW.cell (p := ⟨wb, 2, none⟩) hlo).trans g1) (And.intro ((hW.cell (p := ⟨w.heap.size, 0, none⟩) hl1).trans q0) (And.intro ((hW.cell (p := ⟨w.heap.size, 1, none⟩) hl1).trans q1) (And.intro ((hW.cell (p := ⟨w.heap.size + 1, 0, none⟩) hl2).trans q2) ((hW.cell (p := ⟨w.heap.size + 1, 1, none⟩) hl2).trans q3))))
  have HZ := Lib.hid hz
  have HL := Lib.hid (And.intro hlo (And.intro hl1 hl2))
  have HSS : Hid (∀ b, S b → b < w1.heap.size) := fun b hb => by have := hS b hb; have := hb1.size; omega
  have hbl1 := Lib.hid hb1.size
  have hcall2 := Lib.hid fun (W : World) (hW : Below w1.heap.size w1 W) => hcall.out W w1 hb1 hW
  clear hz hlo hl1 hl2 hcall
  go_cut [9, 10] (fun s9 s10 wx => ∃ (r : Nat) (za : Option Addr) (zc : Nat), s9 = .pointer (some ⟨r, 0, none⟩) ∧ s10 = .bool bb ∧ VarAt wx w1 r S z za zc ∧ Below w1.heap.size w1 wx)
  case first =>
    go_region_held3 (fun v => v.cell? ⟨wb, 2, none⟩ = some (.func (.func 41) #[] #[]) ∧ v.cell? ⟨w.heap.size, 0, none⟩ = some (.int .i8 x.k) ∧ v.cell? ⟨w.heap.size, 1, none⟩ = some (.slice a x.ks.length c) ∧ v.cell? ⟨w.heap.size + 1, 0, none⟩ = some (.int .i8 y.k) ∧ v.cell? ⟨w.heap.size + 1, 1, none⟩ = some (.slice a' y.ks.length c'))
      (first | (refine hkeep.out _ ?_; (repeat (first | assumption | exact Below.refl _ _ | apply below_drewN | apply Below.drew | (refine Below.alloc ?_ (by first | omega | (simp; done) | (simp; omega)) _) | (refine Below.setCell ?_ (by first | omega | (simp; done) | (simp; omega)) _)))))
      (first | (go_at_call 41; refine (hcall2.out _ ?_).mono ?_; (repeat (first | assumption | exact Below.refl _ _ | apply below_drewN | apply Below.drew | (refine Below.alloc ?_ (by first | omega | (simp; done) | (simp; omega)) _) | (refine Below.setCell ?_ (by first | omega | (simp; done) | (simp; omega)) _))); rintro e w2 ⟨za, zc, rfl, hz2, hb2, hb12⟩; have hs12 := hb12.size; have hnew0 := cell_kept hb2 (new_d0 w1 _); have hnew1 := cell_kept hb2 (new_d1 w1 _); have fnew0 := frozen_kept hb2 (new_dlt w1 _) (new_e0 w1 _); have fnew1 := frozen_kept hb2 (new_dlt w1 _) (new_e1 w1 _)) | (go_at_call 41; refine (hcall2.out _ ?_).mono ?_; (repeat (first | assumption | exact Below.refl _ _ | apply below_drewN | apply Below.drew | (refine Below.alloc ?_ (by first | omega | (simp; done) | (simp; omega)) _) | (refine Below.setCell ?_ (by first | omega | (simp; done) | (simp; omega)) _))); rintro e w2 ⟨za, zc, rfl, hz2, hb2, hb12⟩; have hs12 := hb12.size))
    all_goals
      go_wp2_with fail
      go_meet
      refine ⟨_, za, zc, rfl, rfl, ?_, ?_⟩
      · have hsz := hb2.size
        have hsz1 := hbl1.out
        simp only [World.size_alloc, World.size_drew] at hsz
        first | exact VarAt.first HSS.out hz2 (by omega) hnew0 hnew1 | exact VarAt.last HSS.out (Nat.le_refl _) hz2 hsz
      · (repeat (first | assumption | exact Below.refl _ _ | apply below_drewN | apply Below.drew | (refine Below.alloc ?_ (by first | omega | (simp; done) | (simp; omega)) _) | (refine Below.setCell ?_ (by first | omega | (simp; done) | (simp; omega)) _)))
  case rest =>
    obtain ⟨r, za, zc, rfl, rfl, hv, hbv⟩ := hcut
    have hz := HZ.out
    have hsv := hbv.size
    have hbw : Below w.heap.size w wc := hb1.trans (hbv.mono hb1.size)
    have m0 : wc.cell? ⟨w.heap.size + 1 + 1, 0, none⟩ = some (.int .i8 0) := cell_kept hbv m0
    have m1 : wc.cell? ⟨w.heap.size + 1 + 1, 1, none⟩ = some (.slice none 0 0) := cell_kept hbv m1
    have f0 : wc.frozen? ⟨w.heap.size + 1 + 1, 0, none⟩ = false := frozen_kept hbv (by omega) f0
    have f1 : wc.frozen? ⟨w.heap.size + 1 + 1, 1, none⟩ = false := frozen_kept hbv (by omega) f1
    have v0 := hv.c0
    have v1 := hv.c1
    clear hkeep hat1 g1 q0 q1 q2 q3
    cases bb with
    | false =>
      have E : Hid (gradual.meetE t x y = fault t 91) := by show gradual.meetE t x y = _; rw [HE.out, if_neg (by simp)]
      go_wp2_with fail
      refine (want_no t B b o s 91 _ (hat.below hbw hB) (by omega)).mono ?_
      rintro e w4 ⟨b1, rfl, h1, h2, h3, h4⟩
      go_wp2_with fail
      refine ⟨rfl, ?_⟩
      rw [E.out]
      exact Fails.mono (w1 := wc) ⟨b1, rfl, h1, h2, h3, h4⟩ hbw
    | true =>
      have E : Hid (gradual.meetE t x y = small t z) := by show gradual.meetE t x y = _; rw [HE.out, if_pos rfl]
      go_wp2_with fail
      refine (want_yes b o _ _).mono ?_
      rintro e _ ⟨rfl, rfl⟩
      go_wp2_with fail
      refine (small_any t B b o s z za zc wc (hat.below hbw hB) (by omega) (fun b => More S w1 wc b ∧ b ≠ r) ?_ hv.inn).mono ?_
      · rintro b ⟨hb | hb, -⟩
        · have := hS b hb
          omega
        · exact hb.2
      intro e w3 hg
      cases hr : small t z with
      | error f =>
        rw [hr] at hg
        obtain ⟨fb, rfl, g1, g2, g3, g4⟩ := hg
        have HR := Lib.hid hr
        clear hr
        go_wp2_with fail
        refine ⟨rfl, ?_⟩
        rw [E.out, HR.out]
        exact Fails.mono (w1 := wc) ⟨fb, rfl, g1, g2, g3, g4⟩ hbw
      | ok z' =>
        rw [hr] at hg
        obtain ⟨ya, yc, rfl, hy, hb2⟩ := hg
        have HR := Lib.hid hr
        clear hr
        have m0 := cell_kept hb2 m0
        have m1 := cell_kept hb2 m1
        have f0 := frozen_kept hb2 (by omega) f0
        have f1 := frozen_kept hb2 (by omega) f1
        go_wp2_with fail
        have hs2 := hb2.size
        refine bodyPost_ret (v := .agg #[.int .i8 z'.k, .slice ya z'.ks.length yc]) (by simp [results, Try.results130, go_sem, m0, m1]) rfl ?_
        rw [E.out, HR.out]
        have hb3 : Below w.heap.size w w3 := hbw.trans (hb2.mono (by omega))
        have hfar : ∀ (b : Nat), More (fun b => More S w1 wc b ∧ b ≠ r) wc w3 b → More S w w3 b ∧ b ≠ w.heap.size + 1 + 1 := by
          rintro b (⟨hb | hb, -⟩ | hb)
          · have := hS b hb
            exact ⟨.inl hb, by omega⟩
          · exact ⟨.inr (by omega), by omega⟩
          · exact ⟨.inr (by omega), by omega⟩
        refine ⟨ya, yc, rfl, hy.mono (fun b hb => ?_) ?_, ?_⟩
        · rcases (hfar b hb).1 with h | h
          · exact .inl h
          · exact .inr (by simpa using h)
        · intro b o hb
          have := (hfar b hb).2
          exact (World.cell?_setCell_far _ _ _ _ (by show w.heap.size + 1 + 1 ≠ b; omega)).trans (World.cell?_setCell_far _ _ _ _ (by show w.heap.size + 1 + 1 ≠ b; omega))
        · (repeat (first | assumption | exact Below.refl _ _ | apply below_drewN | apply Below.drew | (refine Below.alloc ?_ (by first | omega | (simp; done) | (simp; omega)) _) | (refine Below.setCell ?_ (by first | omega | (simp; done) | (simp; omega)) _)))
end Go.Proofs.Ytaoodchjggimcaa

/- The walk of package rules' flat, by the words of package check: terms of kind 6. -/
set_option linter.unusedVariables false
set_option linter.unusedSimpArgs false
namespace Go.Proofs.Ytaoodchjggimcaa
open Go.RowKit

set_option maxRecDepth 100000 in
set_option maxHeartbeats 4000000 in
theorem flat6_c (t : RTm) (B b o : Nat) (s : TmSh) (wb : Nat) (x y z : RTy) (S : Nat → Prop) (xa ya za : Option Addr) (xc yc zc : Nat) (w : World) (hwd : WordsAt w B wb 17 40 41 17) (hat : RTm.At w B b o s t) (hB : B ≤ w.heap.size) (hS : ∀ b, S b → b < w.heap.size) (hBS : ∀ b, b < B → S b)
    (hx : x.InS w S xa) (hy : y.InS w S ya) (hz : z.InS w S za) (hrx : x.right = true) (hkind : t.k = 6) :
    Calls Try.prog 131 #[.pointer (some ⟨wb, 0, none⟩), .pointer (some ⟨b, o, none⟩), .agg #[.int .i8 x.k, .slice xa x.ks.length xc, .int .i8 y.k, .slice ya y.ks.length yc, .int .i8 z.k, .slice za z.ks.length zc]] w (GetsTy S (gradual.flat t x y z) w) := by
  have k0 := hat.c0
  rw [hkind] at k0
  have hwl := hwd.lt
  have hbl : b < w.heap.size := by have := hat.lt; omega
  go_enter Try.func131, Try.ntmps131
  go_upto_region 3 with fail
  generalize hW : World.alloc _ _ = w1
  have hb1 : Below w.heap.size w w1 := by rw [← hW]; (repeat (first | assumption | exact Below.refl _ _ | apply below_drewN | apply Below.drew | (refine Below.alloc ?_ (by first | omega | (simp; done) | (simp; omega)) _) | (refine Below.setCell ?_ (by first | omega | (simp; done) | (simp; omega)) _)))
  have hz1 : w1.heap.size = w.heap.size + 1 + 1 := by rw [← hW]; simp
  have p0 : w1.cell? ⟨w.heap.size, 0, none⟩ = some (.int .i8 x.k) := by rw [← hW]; simp [go_sem]
  have p1 : w1.cell? ⟨w.heap.size, 1, none⟩ = some (.slice xa x.ks.length xc) := by rw [← hW]; simp [go_sem]
  have p2 : w1.cell? ⟨w.heap.size, 2, none⟩ = some (.int .i8 y.k) := by rw [← hW]; simp [go_sem]
  have p3 : w1.cell? ⟨w.heap.size, 3, none⟩ = some (.slice ya y.ks.length yc) := by rw [← hW]; simp [go_sem]
  have p4 : w1.cell? ⟨w.heap.size, 4, none⟩ = some (.int .i8 z.k) := by rw [← hW]; simp [go_sem]
  have p5 : w1.cell? ⟨w.heap.size, 5, none⟩ = some (.slice za z.ks.length zc) := by rw [← hW]; simp [go_sem]
  have m0 : w1.cell? ⟨w.heap.size + 1, 0, none⟩ = some (.int .i8 0) := by rw [← hW]; simp [go_sem]
  have m1 : w1.cell? ⟨w.heap.size + 1, 1, none⟩ = some (.slice none 0 0) := by rw [← hW]; simp [go_sem]
  have f0 : w1.frozen? ⟨w.heap.size + 1, 0, none⟩ = false := by rw [← hW]; simp [go_sem]
  have f1 : w1.frozen? ⟨w.heap.size + 1, 1, none⟩ = false := by rw [← hW]; simp [go_sem]
  clear hW
  have hS1 : ∀ b, S b → b < w1.heap.size := fun b hb => by have := hS b hb; omega
  have HK := Lib.hid hkind
  have HX := hx.below hb1 hS
  have HY := hy.below hb1 hS
  have HZ := hz.below hb1 hS
  have hat1 := hat.below hb1 hB
  have hwd1 := hwd.below hb1 hB
  have HTY : t.ty.InS w1 S s.ta := RTy.InS.up hat1.inn.ty hBS
  have HTO : t.to.InS w1 S s.oa := RTy.InS.up hat1.inn.to hBS
  have t4 := hat1.c4
  have t5 := hat1.c5
  have t6 := hat1.c6
  have t7 := hat1.c7
  have t1 := hat1.c1
  clear hkind hx hy hz k0
  go_wp2_with fail
  refine (asE_c t B b o s wb 3 x S xa xc w1 hwd1 hat1 (by omega) (by omega) (by omega) hS1 HX hrx).mono ?_
  intro e w2 hg
  cases hr : gradual.asE t 3 x with
  | error f =>
    rw [hr] at hg
    obtain ⟨fb, rfl, g1, g2, g3, g4⟩ := hg
    have hF : Hid (gradual.flat t x y z = .error f) := by show _ = _; simp [Mode.flat, HK.out, hr]
    clear hr
    go_wp2_with fail
    refine ⟨rfl, ?_⟩
    rw [hF.out]
    exact Fails.mono (w1 := w1) ⟨fb, rfl, g1, g2, g3, g4⟩ hb1
  | ok p =>
    obtain ⟨l, r⟩ := p
    rw [hr] at hg
    obtain ⟨la, ra, lc, rc, rfl, hl, hrr, hb2⟩ := hg
    have hF : Hid (gradual.flat t x y z = if gradual.agrees y l then .ok r else fault t 91) := by show _ = _; simp [Mode.flat, HK.out, hr]
    clear hr
    have p0 := cell_kept hb2 p0
    have p1 := cell_kept hb2 p1
    have p2 := cell_kept hb2 p2
    have p3 := cell_kept hb2 p3
    have p4 := cell_kept hb2 p4
    have p5 := cell_kept hb2 p5
    have m0 := cell_kept hb2 m0
    have m1 := cell_kept hb2 m1
    have t1 := cell_kept hb2 t1
    have t4 := cell_kept hb2 t4
    have t5 := cell_kept hb2 t5
    have t6 := cell_kept hb2 t6
    have t7 := cell_kept hb2 t7
    have f0 := frozen_kept hb2 (by omega) f0
    have f1 := frozen_kept hb2 (by omega) f1
    have hs2 := hb2.size
    have hbw2 : Below w.heap.size w w2 := hb1.trans (hb2.mono (by omega))
    go_upto_region 4 with fail
    generalize hW : World.alloc _ _ = w3
    have hb3 : Below w2.heap.size w2 w3 := by rw [← hW]; (repeat (first | assumption | exact Below.refl _ _ | apply below_drewN | apply Below.drew | (refine Below.alloc ?_ (by first | omega | (simp; done) | (simp; omega)) _) | (refine Below.setCell ?_ (by first | omega | (simp; done) | (simp; omega)) _)))
    have hz3 : w3.heap.size = w2.heap.size + 1 + 1 := by rw [← hW]; simp
    have l0 : w3.cell? ⟨w2.heap.size, 0, none⟩ = some (.int .i8 l.k) := by rw [← hW]; simp [go_sem]
    have l1 : w3.cell? ⟨w2.heap.size, 1, none⟩ = some (.slice la l.ks.length lc) := by rw [← hW]; simp [go_sem]
    have r0 : w3.cell? ⟨w2.heap.size + 1, 0, none⟩ = some (.int .i8 r.k) := by rw [← hW]; simp [go_sem]
    have r1 : w3.cell? ⟨w2.heap.size + 1, 1, none⟩ = some (.slice ra r.ks.length rc) := by rw [← hW]; simp [go_sem]
    clear hW
    have p0 := cell_kept hb3 p0
    have p1 := cell_kept hb3 p1
    have p2 := cell_kept hb3 p2
    have p3 := cell_kept hb3 p3
    have p4 := cell_kept hb3 p4
    have p5 := cell_kept hb3 p5
    have m0 := cell_kept hb3 m0
    have m1 := cell_kept hb3 m1
    have t1 := cell_kept hb3 t1
    have t4 := cell_kept hb3 t4
    have t5 := cell_kept hb3 t5
    have t6 := cell_kept hb3 t6
    have t7 := cell_kept hb3 t7
    have f0 := frozen_kept hb3 (by omega) f0
    have f1 := frozen_kept hb3 (by omega) f1
    have hbw3 : Below w.heap.size w w3 := hbw2.trans (hb3.mono (by omega))
    have hb13 : Below w1.heap.size w1 w3 := hb2.trans (hb3.mono (by omega))
    have HL : l.InS w3 S la := RTy.InS.below hl hb3 fun b hb => by have := hS1 b hb; omega
    have HR : r.InS w3 S ra := RTy.InS.below hrr hb3 fun b hb => by have := hS1 b hb; omega
    have HX := RTy.InS.below HX hb13 hS1
    have HY := RTy.InS.below HY hb13 hS1
    have HZ := RTy.InS.below HZ hb13 hS1
    have HTY := RTy.InS.below HTY hb13 hS1
    have hwd1 := hwd.below hbw3 hB
    have hat1 := hat.below hbw3 hB
    have hS1 : ∀ b, S b → b < w3.heap.size := fun b hb => by have := hS1 b hb; omega
    have HZ3 := Lib.hid hz3
    have a0 := hwd1.c0
    have hkeep := Lib.hid fun (W : World) (hW : Below w3.heap.size w3 W) => And.intro (cell_kept hW a0) (And.intro (cell_kept hW p2) (And.intro (cell_kept hW p3) (And.intro (cell_kept hW l0) (cell_kept hW l1))))
    have hc0 : ∀ (W : World), Below w3.heap.size w3 W → Calls Try.prog 17 #[.agg #[.int .i8 y.k, .slice ya y.ks.length yc], .agg #[.int .i8 l.k, .slice la l.ks.length lc]] W fun e w' => e = .returned (.bool (gradual.agrees y l)) ∧ Below w3.heap.size w3 w' := fun W hW => (agrees_c y l w3.heap.size _ _ _ _ W (RTy.In.below (RTy.InS.up HY hS1) hW (Nat.le_refl _)) (RTy.In.below (RTy.InS.up HL hS1) hW (Nat.le_refl _)) hW.size).mono fun e w' h => And.intro h.1 (hW.trans (h.2.mono hW.size))
    have HA := Lib.hid hat1
    have hBW : B ≤ w3.heap.size := by omega
    have hwant0 := Lib.hid fun (W : World) (hW : Below w3.heap.size w3 W) => (want_no t B b o s 91 W (HA.out.below hW hBW) (Nat.le_trans hBW hW.size)).mono fun e w' h => (show Fails ⟨91, t.spot, ⟨#[]⟩⟩ W e w' ∨ (e = .returned (.tuple #[]) ∧ Hid False) from .inl h)
    by_cases hag : gradual.agrees y l = true
    · have E : Hid (gradual.flat t x y z = .ok r) := by show _ = _; rw [hF.out, if_pos hag]
      rw [hag] at hc0
      have hcall := Lib.hid hc0
      clear hag hc0 hz3
      go_region_held3 (fun v => v.cell? ⟨wb, 0, none⟩ = some (.func (.func 17) #[] #[]) ∧ v.cell? ⟨w.heap.size, 2, none⟩ = some (.int .i8 y.k) ∧ v.cell? ⟨w.heap.size, 3, none⟩ = some (.slice ya y.ks.length yc) ∧ v.cell? ⟨w2.heap.size, 0, none⟩ = some (.int .i8 l.k) ∧ v.cell? ⟨w2.heap.size, 1, none⟩ = some (.slice la l.ks.length lc)) (first | (refine hkeep.out _ ?_; (repeat (first | assumption | exact Below.refl _ _ | apply below_drewN | apply Below.drew | (refine Below.alloc ?_ (by first | omega | (simp; done) | (simp; omega)) _) | (refine Below.setCell ?_ (by first | omega | (simp; done) | (simp; omega)) _))))) (first | (go_at_call 17; refine (hcall.out _ ?_).mono ?_; (repeat (first | assumption | exact Below.refl _ _ | apply below_drewN | apply Below.drew | (refine Below.alloc ?_ (by first | omega | (simp; done) | (simp; omega)) _) | (refine Below.setCell ?_ (by first | omega | (simp; done) | (simp; omega)) _))); rintro e w4 ⟨rfl, hb4⟩) | (go_at_call 127; refine (want_yes b o _ _).mono ?_; rintro e _ ⟨rfl, rfl⟩))
      have hs4 := hb4.size
      have hz3 := HZ3.out
      have p0 := cell_kept hb4 p0
      have p1 := cell_kept hb4 p1
      have p2 := cell_kept hb4 p2
      have p3 := cell_kept hb4 p3
      have p4 := cell_kept hb4 p4
      have p5 := cell_kept hb4 p5
      have m0 := cell_kept hb4 m0
      have m1 := cell_kept hb4 m1
      have t1 := cell_kept hb4 t1
      have t4 := cell_kept hb4 t4
      have t5 := cell_kept hb4 t5
      have t6 := cell_kept hb4 t6
      have t7 := cell_kept hb4 t7
      have r0 := cell_kept hb4 r0
      have r1 := cell_kept hb4 r1
      have f0 := frozen_kept hb4 (by omega) f0
      have f1 := frozen_kept hb4 (by omega) f1
      have hbw4 : Below w.heap.size w w4 := hbw3.trans (hb4.mono (by omega))
      have hwd4 := hwd.below hbw4 hB
      have hat4 := hat.below hbw4 hB
      have HL := RTy.InS.below HL hb4 hS1
      have HR := RTy.InS.below HR hb4 hS1
      have HX := RTy.InS.below HX hb4 hS1
      have HY := RTy.InS.below HY hb4 hS1
      have HZ := RTy.InS.below HZ hb4 hS1
      have HTY := RTy.InS.below HTY hb4 hS1
      have hS4 : ∀ b, S b → b < w4.heap.size := fun b hb => by have := hS1 b hb; omega
      clear hkeep a0
      go_wp2_with fail
      refine bodyPost_ret (v := .agg #[.int .i8 r.k, .slice ra r.ks.length rc]) (by simp [results, Try.results131, go_sem, m0, m1]) rfl ?_
      rw [E.out]
      exact GetsTy.stored0 hS HR hbw4 (by omega) (by omega)
    · have hag' : gradual.agrees y l = false := by simpa using hag
      have E : Hid (gradual.flat t x y z = fault t 91) := by show _ = _; rw [hF.out, if_neg hag]
      rw [hag'] at hc0
      have hcall := Lib.hid hc0
      have hfin := Lib.hid fun (W : World) (e : Ending) (w' : World) (hW : Below w3.heap.size w3 W) (hf : Fails ⟨91, t.spot, ⟨#[]⟩⟩ W e w') => (show GetsTy S (gradual.flat t x y z) w e w' from by rw [E.out]; exact Fails.mono hf (hbw3.trans (hW.mono (by omega))))
      clear hag hag' hc0 hz3
      go_region_held2 (fun v => v.cell? ⟨wb, 0, none⟩ = some (.func (.func 17) #[] #[]) ∧ v.cell? ⟨w.heap.size, 2, none⟩ = some (.int .i8 y.k) ∧ v.cell? ⟨w.heap.size, 3, none⟩ = some (.slice ya y.ks.length yc) ∧ v.cell? ⟨w2.heap.size, 0, none⟩ = some (.int .i8 l.k) ∧ v.cell? ⟨w2.heap.size, 1, none⟩ = some (.slice la l.ks.length lc)) (first | exact hno.out.elim | (refine hkeep.out _ ?_; (repeat (first | assumption | exact Below.refl _ _ | apply below_drewN | apply Below.drew | (refine Below.alloc ?_ (by first | omega | (simp; done) | (simp; omega)) _) | (refine Below.setCell ?_ (by first | omega | (simp; done) | (simp; omega)) _))))) (first | (go_at_call 17; refine (hcall.out _ ?_).mono ?_; (repeat (first | assumption | exact Below.refl _ _ | apply below_drewN | apply Below.drew | (refine Below.alloc ?_ (by first | omega | (simp; done) | (simp; omega)) _) | (refine Below.setCell ?_ (by first | omega | (simp; done) | (simp; omega)) _))); rintro e w4 ⟨rfl, hb4⟩) | (go_at_call 127; refine (hwant0.out _ ?_).mono ?_; (repeat (first | assumption | exact Below.refl _ _ | apply below_drewN | apply Below.drew | (refine Below.alloc ?_ (by first | omega | (simp; done) | (simp; omega)) _) | (refine Below.setCell ?_ (by first | omega | (simp; done) | (simp; omega)) _))); rintro e w5 (⟨b1, rfl, hf⟩ | ⟨rfl, hno⟩); exact And.intro rfl (hfin.out w4 _ _ hb4 ⟨b1, rfl, hf⟩)))
      exact hno.out.elim
end Go.Proofs.Ytaoodchjggimcaa

/- The walk of package rules' flat, by the words of package check: terms of kind 8. -/
set_option linter.unusedVariables false
set_option linter.unusedSimpArgs false
namespace Go.Proofs.Ytaoodchjggimcaa
open Go.RowKit

set_option maxRecDepth 100000 in
set_option maxHeartbeats 4000000 in
theorem flat8_c (t : RTm) (B b o : Nat) (s : TmSh) (wb : Nat) (x y z : RTy) (S : Nat → Prop) (xa ya za : Option Addr) (xc yc zc : Nat) (w : World) (hwd : WordsAt w B wb 17 40 41 17) (hat : RTm.At w B b o s t) (hB : B ≤ w.heap.size) (hS : ∀ b, S b → b < w.heap.size) (hBS : ∀ b, b < B → S b)
    (hx : x.InS w S xa) (hy : y.InS w S ya) (hz : z.InS w S za) (hrx : x.right = true) (hkind : t.k = 8) :
    Calls Try.prog 131 #[.pointer (some ⟨wb, 0, none⟩), .pointer (some ⟨b, o, none⟩), .agg #[.int .i8 x.k, .slice xa x.ks.length xc, .int .i8 y.k, .slice ya y.ks.length yc, .int .i8 z.k, .slice za z.ks.length zc]] w (GetsTy S (gradual.flat t x y z) w) := by
  have k0 := hat.c0
  rw [hkind] at k0
  have hwl := hwd.lt
  have hbl : b < w.heap.size := by have := hat.lt; omega
  go_enter Try.func131, Try.ntmps131
  go_upto_region 7 with fail
  generalize hW : World.alloc _ _ = w1
  have hb1 : Below w.heap.size w w1 := by rw [← hW]; (repeat (first | assumption | exact Below.refl _ _ | apply below_drewN | apply Below.drew | (refine Below.alloc ?_ (by first | omega | (simp; done) | (simp; omega)) _) | (refine Below.setCell ?_ (by first | omega | (simp; done) | (simp; omega)) _)))
  have hz1 : w1.heap.size = w.heap.size + 1 + 1 := by rw [← hW]; simp
  have p0 : w1.cell? ⟨w.heap.size, 0, none⟩ = some (.int .i8 x.k) := by rw [← hW]; simp [go_sem]
  have p1 : w1.cell? ⟨w.heap.size, 1, none⟩ = some (.slice xa x.ks.length xc) := by rw [← hW]; simp [go_sem]
  have p2 : w1.cell? ⟨w.heap.size, 2, none⟩ = some (.int .i8 y.k) := by rw [← hW]; simp [go_sem]
  have p3 : w1.cell? ⟨w.heap.size, 3, none⟩ = some (.slice ya y.ks.length yc) := by rw [← hW]; simp [go_sem]
  have p4 : w1.cell? ⟨w.heap.size, 4, none⟩ = some (.int .i8 z.k) := by rw [← hW]; simp [go_sem]
  have p5 : w1.cell? ⟨w.heap.size, 5, none⟩ = some (.slice za z.ks.length zc) := by rw [← hW]; simp [go_sem]
  have m0 : w1.cell? ⟨w.heap.size + 1, 0, none⟩ = some (.int .i8 0) := by rw [← hW]; simp [go_sem]
  have m1 : w1.cell? ⟨w.heap.size + 1, 1, none⟩ = some (.slice none 0 0) := by rw [← hW]; simp [go_sem]
  have f0 : w1.frozen? ⟨w.heap.size + 1, 0, none⟩ = false := by rw [← hW]; simp [go_sem]
  have f1 : w1.frozen? ⟨w.heap.size + 1, 1, none⟩ = false := by rw [← hW]; simp [go_sem]
  clear hW
  have hS1 : ∀ b, S b → b < w1.heap.size := fun b hb => by have := hS b hb; omega
  have HK := Lib.hid hkind
  have HX := hx.below hb1 hS
  have HY := hy.below hb1 hS
  have HZ := hz.below hb1 hS
  have hat1 := hat.below hb1 hB
  have hwd1 := hwd.below hb1 hB
  have HTY : t.ty.InS w1 S s.ta := RTy.InS.up hat1.inn.ty hBS
  have HTO : t.to.InS w1 S s.oa := RTy.InS.up hat1.inn.to hBS
  have t4 := hat1.c4
  have t5 := hat1.c5
  have t6 := hat1.c6
  have t7 := hat1.c7
  have t1 := hat1.c1
  clear hkind hx hy hz k0
  have hF : Hid (gradual.flat t x y z = if gradual.agrees x RTy.bool then gradual.meetE t y z else fault t 91) := by show _ = _; simp [Mode.flat, HK.out]
  have HZ3 := Lib.hid hz1
  have HBB : RTy.bool.InS w1 S none := by unfold RTy.bool RTy.InS RTy.InsS; exact ⟨⟨by omega, by omega⟩, by simp [lenMax], trivial⟩
  have a0 := hwd1.c0
  have hkeep := Lib.hid fun (W : World) (hW : Below w1.heap.size w1 W) => And.intro (cell_kept hW a0) (And.intro (cell_kept hW p0) (cell_kept hW p1))
  have hc0 : ∀ (W : World), Below w1.heap.size w1 W → Calls Try.prog 17 #[.agg #[.int .i8 x.k, .slice xa x.ks.length xc], .agg #[.int .i8 2, .slice none 0 0]] W fun e w' => e = .returned (.bool (gradual.agrees x RTy.bool)) ∧ Below w1.heap.size w1 w' := fun W hW => (agrees_c x RTy.bool w1.heap.size _ _ _ _ W (RTy.In.below (RTy.InS.up HX hS1) hW (Nat.le_refl _)) (RTy.In.below (RTy.InS.up HBB hS1) hW (Nat.le_refl _)) hW.size).mono fun e w' h => And.intro h.1 (hW.trans (h.2.mono hW.size))
  have HA := Lib.hid hat1
  have hBW : B ≤ w1.heap.size := by omega
  have hwant0 := Lib.hid fun (W : World) (hW : Below w1.heap.size w1 W) => (want_no t B b o s 91 W (HA.out.below hW hBW) (Nat.le_trans hBW hW.size)).mono fun e w' h => (show Fails ⟨91, t.spot, ⟨#[]⟩⟩ W e w' ∨ (e = .returned (.tuple #[]) ∧ Hid False) from .inl h)
  by_cases hag : gradual.agrees x RTy.bool = true
  · have E : Hid (gradual.flat t x y z = gradual.meetE t y z) := by show _ = _; rw [hF.out, if_pos hag]
    rw [hag] at hc0
    have hcall := Lib.hid hc0
    clear hag hc0 hz1
    go_region_held3 (fun v => v.cell? ⟨wb, 0, none⟩ = some (.func (.func 17) #[] #[]) ∧ v.cell? ⟨w.heap.size, 0, none⟩ = some (.int .i8 x.k) ∧ v.cell? ⟨w.heap.size, 1, none⟩ = some (.slice xa x.ks.length xc)) (first | (refine hkeep.out _ ?_; (repeat (first | assumption | exact Below.refl _ _ | apply below_drewN | apply Below.drew | (refine Below.alloc ?_ (by first | omega | (simp; done) | (simp; omega)) _) | (refine Below.setCell ?_ (by first | omega | (simp; done) | (simp; omega)) _))))) (first | (go_at_call 124; refine (truth_any _).mono ?_; rintro e w6 ⟨rfl, hb6⟩; have hb6 := Below.trans (Below.drew (Below.refl w1.heap.size w1)) hb6; have hs6 := hb6.size) | (go_at_call 17; refine (hcall.out _ ?_).mono ?_; (repeat (first | assumption | exact Below.refl _ _ | apply below_drewN | apply Below.drew | (refine Below.alloc ?_ (by first | omega | (simp; done) | (simp; omega)) _) | (refine Below.setCell ?_ (by first | omega | (simp; done) | (simp; omega)) _))); rintro e w4 ⟨rfl, hb4⟩) | (go_at_call 127; refine (want_yes b o _ _).mono ?_; rintro e _ ⟨rfl, rfl⟩))
    have hz1 := HZ3.out
    have hs4 := hb4.size
    have p0 := cell_kept hb4 p0
    have p1 := cell_kept hb4 p1
    have p2 := cell_kept hb4 p2
    have p3 := cell_kept hb4 p3
    have p4 := cell_kept hb4 p4
    have p5 := cell_kept hb4 p5
    have m0 := cell_kept hb4 m0
    have m1 := cell_kept hb4 m1
    have t1 := cell_kept hb4 t1
    have t4 := cell_kept hb4 t4
    have t5 := cell_kept hb4 t5
    have t6 := cell_kept hb4 t6
    have t7 := cell_kept hb4 t7
    have f0 := frozen_kept hb4 (by omega) f0
    have f1 := frozen_kept hb4 (by omega) f1
    have hbw4 : Below w.heap.size w w4 := hb1.trans (hb4.mono (by omega))
    have hwd4 := hwd.below hbw4 hB
    have hat4 := hat.below hbw4 hB
    have HX := RTy.InS.below HX hb4 hS1
    have HY := RTy.InS.below HY hb4 hS1
    have HZ := RTy.InS.below HZ hb4 hS1
    have HTY := RTy.InS.below HTY hb4 hS1
    have hS4 : ∀ b, S b → b < w4.heap.size := fun b hb => by have := hS1 b hb; omega
    clear hkeep a0
    go_wp2_with fail
    refine (meetE_c t B b o s wb y z S ya za yc zc w4 hwd4 hat4 (by omega) hS4 HY HZ).mono ?_
    intro e w5 hg
    cases hr : gradual.meetE t y z with
    | error f =>
      rw [hr] at hg
      obtain ⟨fb, rfl, g1, g2, g3, g4⟩ := hg
      have HR2 := Lib.hid hr
      clear hr
      go_wp2_with fail
      refine ⟨rfl, ?_⟩
      rw [E.out, HR2.out]
      exact Fails.mono (w1 := w4) ⟨fb, rfl, g1, g2, g3, g4⟩ hbw4
    | ok z' =>
      rw [hr] at hg
      obtain ⟨qa, qc, rfl, hq, hb5⟩ := hg
      have HR2 := Lib.hid hr
      clear hr
      have m0 := cell_kept hb5 m0
      have m1 := cell_kept hb5 m1
      have f0 := frozen_kept hb5 (by omega) f0
      have f1 := frozen_kept hb5 (by omega) f1
      go_wp2_with fail
      refine bodyPost_ret (v := .agg #[.int .i8 z'.k, .slice qa z'.ks.length qc]) (by simp [results, Try.results131, go_sem, m0, m1]) rfl ?_
      rw [E.out, HR2.out]
      exact GetsTy.stored (S' := S) hS (fun b hb => ⟨.inl hb, by have := hS b hb; omega⟩) hq hbw4 hb5 (by omega) (by omega)
  · have hag' : gradual.agrees x RTy.bool = false := by simpa using hag
    have E : Hid (gradual.flat t x y z = fault t 91) := by show _ = _; rw [hF.out, if_neg hag]
    rw [hag'] at hc0
    have hcall := Lib.hid hc0
    have hfin := Lib.hid fun (W : World) (e : Ending) (w' : World) (hW : Below w1.heap.size w1 W) (hf : Fails ⟨91, t.spot, ⟨#[]⟩⟩ W e w') => (show GetsTy S (gradual.flat t x y z) w e w' from by rw [E.out]; exact Fails.mono hf (hb1.trans (hW.mono (by omega))))
    clear hag hag' hc0 hz1
    go_region_held2 (fun v => v.cell? ⟨wb, 0, none⟩ = some (.func (.func 17) #[] #[]) ∧ v.cell? ⟨w.heap.size, 0, none⟩ = some (.int .i8 x.k) ∧ v.cell? ⟨w.heap.size, 1, none⟩ = some (.slice xa x.ks.length xc)) (first | exact hno.out.elim | (refine hkeep.out _ ?_; (repeat (first | assumption | exact Below.refl _ _ | apply below_drewN | apply Below.drew | (refine Below.alloc ?_ (by first | omega | (simp; done) | (simp; omega)) _) | (refine Below.setCell ?_ (by first | omega | (simp; done) | (simp; omega)) _))))) (first | (go_at_call 124; refine (truth_any _).mono ?_; rintro e w6 ⟨rfl, hb6⟩; have hb6 := Below.trans (Below.drew (Below.refl w1.heap.size w1)) hb6; have hs6 := hb6.size) | (go_at_call 17; refine (hcall.out _ ?_).mono ?_; (repeat (first | assumption | exact Below.refl _ _ | apply below_drewN | apply Below.drew | (refine Below.alloc ?_ (by first | omega | (simp; done) | (simp; omega)) _) | (refine Below.setCell ?_ (by first | omega | (simp; done) | (simp; omega)) _))); rintro e w4 ⟨rfl, hb4⟩) | (go_at_call 127; refine (hwant0.out _ ?_).mono ?_; (repeat (first | assumption | exact Below.refl _ _ | apply below_drewN | apply Below.drew | (refine Below.alloc ?_ (by first | omega | (simp; done) | (simp; omega)) _) | (refine Below.setCell ?_ (by first | omega | (simp; done) | (simp; omega)) _))); rintro e w5 (⟨b1, rfl, hf⟩ | ⟨rfl, hno⟩); exact And.intro rfl (hfin.out w4 _ _ hb4 ⟨b1, rfl, hf⟩)))
    exact hno.out.elim
end Go.Proofs.Ytaoodchjggimcaa

/- The walk of package rules' flat, by the words of package check: terms of kind 9. -/
set_option linter.unusedVariables false
set_option linter.unusedSimpArgs false
namespace Go.Proofs.Ytaoodchjggimcaa
open Go.RowKit

set_option maxRecDepth 100000 in
set_option maxHeartbeats 4000000 in
theorem flat9_c (t : RTm) (B b o : Nat) (s : TmSh) (wb : Nat) (x y z : RTy) (S : Nat → Prop) (xa ya za : Option Addr) (xc yc zc : Nat) (w : World) (hwd : WordsAt w B wb 17 40 41 17) (hat : RTm.At w B b o s t) (hB : B ≤ w.heap.size) (hS : ∀ b, S b → b < w.heap.size) (hBS : ∀ b, b < B → S b)
    (hx : x.InS w S xa) (hy : y.InS w S ya) (hz : z.InS w S za) (hrx : x.right = true) (hkind : t.k = 9) :
    Calls Try.prog 131 #[.pointer (some ⟨wb, 0, none⟩), .pointer (some ⟨b, o, none⟩), .agg #[.int .i8 x.k, .slice xa x.ks.length xc, .int .i8 y.k, .slice ya y.ks.length yc, .int .i8 z.k, .slice za z.ks.length zc]] w (GetsTy S (gradual.flat t x y z) w) := by
  have k0 := hat.c0
  rw [hkind] at k0
  have hwl := hwd.lt
  have hbl : b < w.heap.size := by have := hat.lt; omega
  go_enter Try.func131, Try.ntmps131
  go_upto_region 10 with fail
  generalize hW : World.alloc _ _ = w1
  have hb1 : Below w.heap.size w w1 := by rw [← hW]; (repeat (first | assumption | exact Below.refl _ _ | apply below_drewN | apply Below.drew | (refine Below.alloc ?_ (by first | omega | (simp; done) | (simp; omega)) _) | (refine Below.setCell ?_ (by first | omega | (simp; done) | (simp; omega)) _)))
  have hz1 : w1.heap.size = w.heap.size + 1 + 1 := by rw [← hW]; simp
  have p0 : w1.cell? ⟨w.heap.size, 0, none⟩ = some (.int .i8 x.k) := by rw [← hW]; simp [go_sem]
  have p1 : w1.cell? ⟨w.heap.size, 1, none⟩ = some (.slice xa x.ks.length xc) := by rw [← hW]; simp [go_sem]
  have p2 : w1.cell? ⟨w.heap.size, 2, none⟩ = some (.int .i8 y.k) := by rw [← hW]; simp [go_sem]
  have p3 : w1.cell? ⟨w.heap.size, 3, none⟩ = some (.slice ya y.ks.length yc) := by rw [← hW]; simp [go_sem]
  have p4 : w1.cell? ⟨w.heap.size, 4, none⟩ = some (.int .i8 z.k) := by rw [← hW]; simp [go_sem]
  have p5 : w1.cell? ⟨w.heap.size, 5, none⟩ = some (.slice za z.ks.length zc) := by rw [← hW]; simp [go_sem]
  have m0 : w1.cell? ⟨w.heap.size + 1, 0, none⟩ = some (.int .i8 0) := by rw [← hW]; simp [go_sem]
  have m1 : w1.cell? ⟨w.heap.size + 1, 1, none⟩ = some (.slice none 0 0) := by rw [← hW]; simp [go_sem]
  have f0 : w1.frozen? ⟨w.heap.size + 1, 0, none⟩ = false := by rw [← hW]; simp [go_sem]
  have f1 : w1.frozen? ⟨w.heap.size + 1, 1, none⟩ = false := by rw [← hW]; simp [go_sem]
  clear hW
  have hS1 : ∀ b, S b → b < w1.heap.size := fun b hb => by have := hS b hb; omega
  have HK := Lib.hid hkind
  have HX := hx.below hb1 hS
  have HY := hy.below hb1 hS
  have HZ := hz.below hb1 hS
  have hat1 := hat.below hb1 hB
  have hwd1 := hwd.below hb1 hB
  have HTY : t.ty.InS w1 S s.ta := RTy.InS.up hat1.inn.ty hBS
  have HTO : t.to.InS w1 S s.oa := RTy.InS.up hat1.inn.to hBS
  have t4 := hat1.c4
  have t5 := hat1.c5
  have t6 := hat1.c6
  have t7 := hat1.c7
  have t1 := hat1.c1
  clear hkind hx hy hz k0
  have hF : Hid (gradual.flat t x y z = two t 4 x y) := by show _ = _; simp [Mode.flat, HK.out]
  go_wp2_with fail
  refine (two_any t B b o s 4 x y xa ya xc yc w1 hat1 (by omega) ⟨by omega, by omega⟩ S hS1 HX HY).mono ?_
  intro e w5 hg
  cases hr : two t 4 x y with
  | error f =>
    rw [hr] at hg
    obtain ⟨fb, rfl, g1, g2, g3, g4⟩ := hg
    have HR2 := Lib.hid hr
    clear hr
    go_wp2_with fail
    refine ⟨rfl, ?_⟩
    rw [hF.out, HR2.out]
    exact Fails.mono (w1 := w1) ⟨fb, rfl, g1, g2, g3, g4⟩ hb1
  | ok z' =>
    rw [hr] at hg
    obtain ⟨qa, qc, rfl, hq, hb5⟩ := hg
    have HR2 := Lib.hid hr
    clear hr
    have m0 := cell_kept hb5 m0
    have m1 := cell_kept hb5 m1
    have f0 := frozen_kept hb5 (by omega) f0
    have f1 := frozen_kept hb5 (by omega) f1
    go_wp2_with fail
    refine bodyPost_ret (v := .agg #[.int .i8 z'.k, .slice qa z'.ks.length qc]) (by simp [results, Try.results131, go_sem, m0, m1]) rfl ?_
    rw [hF.out, HR2.out]
    exact GetsTy.stored (S' := S) hS (fun b hb => ⟨.inl hb, by have := hS b hb; omega⟩) hq hb1 hb5 (by omega) (by omega)
end Go.Proofs.Ytaoodchjggimcaa

/- The walk of package rules' flat, by the words of package check: terms of kind 10. -/
set_option linter.unusedVariables false
set_option linter.unusedSimpArgs false
namespace Go.Proofs.Ytaoodchjggimcaa
open Go.RowKit

set_option maxRecDepth 100000 in
set_option maxHeartbeats 4000000 in
theorem flat10_c (t : RTm) (B b o : Nat) (s : TmSh) (wb : Nat) (x y z : RTy) (S : Nat → Prop) (xa ya za : Option Addr) (xc yc zc : Nat) (w : World) (hwd : WordsAt w B wb 17 40 41 17) (hat : RTm.At w B b o s t) (hB : B ≤ w.heap.size) (hS : ∀ b, S b → b < w.heap.size) (hBS : ∀ b, b < B → S b)
    (hx : x.InS w S xa) (hy : y.InS w S ya) (hz : z.InS w S za) (hrx : x.right = true) (hkind : t.k = 10) :
    Calls Try.prog 131 #[.pointer (some ⟨wb, 0, none⟩), .pointer (some ⟨b, o, none⟩), .agg #[.int .i8 x.k, .slice xa x.ks.length xc, .int .i8 y.k, .slice ya y.ks.length yc, .int .i8 z.k, .slice za z.ks.length zc]] w (GetsTy S (gradual.flat t x y z) w) := by
  have k0 := hat.c0
  rw [hkind] at k0
  have hwl := hwd.lt
  have hbl : b < w.heap.size := by have := hat.lt; omega
  go_enter Try.func131, Try.ntmps131
  go_upto_region 12 with fail
  generalize hW : World.alloc _ _ = w1
  have hb1 : Below w.heap.size w w1 := by rw [← hW]; (repeat (first | assumption | exact Below.refl _ _ | apply below_drewN | apply Below.drew | (refine Below.alloc ?_ (by first | omega | (simp; done) | (simp; omega)) _) | (refine Below.setCell ?_ (by first | omega | (simp; done) | (simp; omega)) _)))
  have hz1 : w1.heap.size = w.heap.size + 1 + 1 := by rw [← hW]; simp
  have p0 : w1.cell? ⟨w.heap.size, 0, none⟩ = some (.int .i8 x.k) := by rw [← hW]; simp [go_sem]
  have p1 : w1.cell? ⟨w.heap.size, 1, none⟩ = some (.slice xa x.ks.length xc) := by rw [← hW]; simp [go_sem]
  have p2 : w1.cell? ⟨w.heap.size, 2, none⟩ = some (.int .i8 y.k) := by rw [← hW]; simp [go_sem]
  have p3 : w1.cell? ⟨w.heap.size, 3, none⟩ = some (.slice ya y.ks.length yc) := by rw [← hW]; simp [go_sem]
  have p4 : w1.cell? ⟨w.heap.size, 4, none⟩ = some (.int .i8 z.k) := by rw [← hW]; simp [go_sem]
  have p5 : w1.cell? ⟨w.heap.size, 5, none⟩ = some (.slice za z.ks.length zc) := by rw [← hW]; simp [go_sem]
  have m0 : w1.cell? ⟨w.heap.size + 1, 0, none⟩ = some (.int .i8 0) := by rw [← hW]; simp [go_sem]
  have m1 : w1.cell? ⟨w.heap.size + 1, 1, none⟩ = some (.slice none 0 0) := by rw [← hW]; simp [go_sem]
  have f0 : w1.frozen? ⟨w.heap.size + 1, 0, none⟩ = false := by rw [← hW]; simp [go_sem]
  have f1 : w1.frozen? ⟨w.heap.size + 1, 1, none⟩ = false := by rw [← hW]; simp [go_sem]
  clear hW
  have hS1 : ∀ b, S b → b < w1.heap.size := fun b hb => by have := hS b hb; omega
  have HK := Lib.hid hkind
  have HX := hx.below hb1 hS
  have HY := hy.below hb1 hS
  have HZ := hz.below hb1 hS
  have hat1 := hat.below hb1 hB
  have hwd1 := hwd.below hb1 hB
  have HTY : t.ty.InS w1 S s.ta := RTy.InS.up hat1.inn.ty hBS
  have HTO : t.to.InS w1 S s.oa := RTy.InS.up hat1.inn.to hBS
  have t4 := hat1.c4
  have t5 := hat1.c5
  have t6 := hat1.c6
  have t7 := hat1.c7
  have t1 := hat1.c1
  clear hkind hx hy hz k0
  go_wp2_with fail
  refine (asE_c t B b o s wb 4 x S xa xc w1 hwd1 hat1 (by omega) (by omega) (by omega) hS1 HX hrx).mono ?_
  intro e w2 hg
  cases hr : gradual.asE t 4 x with
  | error f =>
    rw [hr] at hg
    obtain ⟨fb, rfl, g1, g2, g3, g4⟩ := hg
    have hF : Hid (gradual.flat t x y z = .error f) := by show _ = _; simp [Mode.flat, HK.out, hr]
    clear hr
    go_wp2_with fail
    refine ⟨rfl, ?_⟩
    rw [hF.out]
    exact Fails.mono (w1 := w1) ⟨fb, rfl, g1, g2, g3, g4⟩ hb1
  | ok p =>
    obtain ⟨l, r⟩ := p
    rw [hr] at hg
    obtain ⟨la, ra, lc, rc, rfl, hl, hrr, hb2⟩ := hg
    have hF : Hid (gradual.flat t x y z = .ok l) := by show _ = _; simp [Mode.flat, HK.out, hr]
    clear hr
    have p0 := cell_kept hb2 p0
    have p1 := cell_kept hb2 p1
    have p2 := cell_kept hb2 p2
    have p3 := cell_kept hb2 p3
    have p4 := cell_kept hb2 p4
    have p5 := cell_kept hb2 p5
    have m0 := cell_kept hb2 m0
    have m1 := cell_kept hb2 m1
    have t1 := cell_kept hb2 t1
    have t4 := cell_kept hb2 t4
    have t5 := cell_kept hb2 t5
    have t6 := cell_kept hb2 t6
    have t7 := cell_kept hb2 t7
    have f0 := frozen_kept hb2 (by omega) f0
    have f1 := frozen_kept hb2 (by omega) f1
    have hs2 := hb2.size
    have hbw2 : Below w.heap.size w w2 := hb1.trans (hb2.mono (by omega))
    go_upto_region 13 with fail
    generalize hW : World.alloc _ _ = w3
    have hb3 : Below w2.heap.size w2 w3 := by rw [← hW]; (repeat (first | assumption | exact Below.refl _ _ | apply below_drewN | apply Below.drew | (refine Below.alloc ?_ (by first | omega | (simp; done) | (simp; omega)) _) | (refine Below.setCell ?_ (by first | omega | (simp; done) | (simp; omega)) _)))
    have hz3 : w3.heap.size = w2.heap.size + 1 + 1 := by rw [← hW]; simp
    have l0 : w3.cell? ⟨w2.heap.size, 0, none⟩ = some (.int .i8 l.k) := by rw [← hW]; simp [go_sem]
    have l1 : w3.cell? ⟨w2.heap.size, 1, none⟩ = some (.slice la l.ks.length lc) := by rw [← hW]; simp [go_sem]
    have r0 : w3.cell? ⟨w2.heap.size + 1, 0, none⟩ = some (.int .i8 r.k) := by rw [← hW]; simp [go_sem]
    have r1 : w3.cell? ⟨w2.heap.size + 1, 1, none⟩ = some (.slice ra r.ks.length rc) := by rw [← hW]; simp [go_sem]
    clear hW
    have p0 := cell_kept hb3 p0
    have p1 := cell_kept hb3 p1
    have p2 := cell_kept hb3 p2
    have p3 := cell_kept hb3 p3
    have p4 := cell_kept hb3 p4
    have p5 := cell_kept hb3 p5
    have m0 := cell_kept hb3 m0
    have m1 := cell_kept hb3 m1
    have t1 := cell_kept hb3 t1
    have t4 := cell_kept hb3 t4
    have t5 := cell_kept hb3 t5
    have t6 := cell_kept hb3 t6
    have t7 := cell_kept hb3 t7
    have f0 := frozen_kept hb3 (by omega) f0
    have f1 := frozen_kept hb3 (by omega) f1
    have hbw3 : Below w.heap.size w w3 := hbw2.trans (hb3.mono (by omega))
    have hb13 : Below w1.heap.size w1 w3 := hb2.trans (hb3.mono (by omega))
    have HL : l.InS w3 S la := RTy.InS.below hl hb3 fun b hb => by have := hS1 b hb; omega
    have HR : r.InS w3 S ra := RTy.InS.below hrr hb3 fun b hb => by have := hS1 b hb; omega
    have HX := RTy.InS.below HX hb13 hS1
    have HY := RTy.InS.below HY hb13 hS1
    have HZ := RTy.InS.below HZ hb13 hS1
    have HTY := RTy.InS.below HTY hb13 hS1
    have hwd1 := hwd.below hbw3 hB
    have hat1 := hat.below hbw3 hB
    have hS1 : ∀ b, S b → b < w3.heap.size := fun b hb => by have := hS1 b hb; omega
    have E := hF
    go_wp2_with fail
    refine bodyPost_ret (v := .agg #[.int .i8 l.k, .slice la l.ks.length lc]) (by simp [results, Try.results131, go_sem, m0, m1]) rfl ?_
    rw [E.out]
    exact GetsTy.stored0 hS HL hbw3 (by omega) (by omega)
end Go.Proofs.Ytaoodchjggimcaa

/- The walk of package rules' flat, by the words of package check: terms of kind 11. -/
set_option linter.unusedVariables false
set_option linter.unusedSimpArgs false
namespace Go.Proofs.Ytaoodchjggimcaa
open Go.RowKit

set_option maxRecDepth 100000 in
set_option maxHeartbeats 4000000 in
theorem flat11_c (t : RTm) (B b o : Nat) (s : TmSh) (wb : Nat) (x y z : RTy) (S : Nat → Prop) (xa ya za : Option Addr) (xc yc zc : Nat) (w : World) (hwd : WordsAt w B wb 17 40 41 17) (hat : RTm.At w B b o s t) (hB : B ≤ w.heap.size) (hS : ∀ b, S b → b < w.heap.size) (hBS : ∀ b, b < B → S b)
    (hx : x.InS w S xa) (hy : y.InS w S ya) (hz : z.InS w S za) (hrx : x.right = true) (hkind : t.k = 11) :
    Calls Try.prog 131 #[.pointer (some ⟨wb, 0, none⟩), .pointer (some ⟨b, o, none⟩), .agg #[.int .i8 x.k, .slice xa x.ks.length xc, .int .i8 y.k, .slice ya y.ks.length yc, .int .i8 z.k, .slice za z.ks.length zc]] w (GetsTy S (gradual.flat t x y z) w) := by
  have k0 := hat.c0
  rw [hkind] at k0
  have hwl := hwd.lt
  have hbl : b < w.heap.size := by have := hat.lt; omega
  go_enter Try.func131, Try.ntmps131
  go_upto_region 15 with fail
  generalize hW : World.alloc _ _ = w1
  have hb1 : Below w.heap.size w w1 := by rw [← hW]; (repeat (first | assumption | exact Below.refl _ _ | apply below_drewN | apply Below.drew | (refine Below.alloc ?_ (by first | omega | (simp; done) | (simp; omega)) _) | (refine Below.setCell ?_ (by first | omega | (simp; done) | (simp; omega)) _)))
  have hz1 : w1.heap.size = w.heap.size + 1 + 1 := by rw [← hW]; simp
  have p0 : w1.cell? ⟨w.heap.size, 0, none⟩ = some (.int .i8 x.k) := by rw [← hW]; simp [go_sem]
  have p1 : w1.cell? ⟨w.heap.size, 1, none⟩ = some (.slice xa x.ks.length xc) := by rw [← hW]; simp [go_sem]
  have p2 : w1.cell? ⟨w.heap.size, 2, none⟩ = some (.int .i8 y.k) := by rw [← hW]; simp [go_sem]
  have p3 : w1.cell? ⟨w.heap.size, 3, none⟩ = some (.slice ya y.ks.length yc) := by rw [← hW]; simp [go_sem]
  have p4 : w1.cell? ⟨w.heap.size, 4, none⟩ = some (.int .i8 z.k) := by rw [← hW]; simp [go_sem]
  have p5 : w1.cell? ⟨w.heap.size, 5, none⟩ = some (.slice za z.ks.length zc) := by rw [← hW]; simp [go_sem]
  have m0 : w1.cell? ⟨w.heap.size + 1, 0, none⟩ = some (.int .i8 0) := by rw [← hW]; simp [go_sem]
  have m1 : w1.cell? ⟨w.heap.size + 1, 1, none⟩ = some (.slice none 0 0) := by rw [← hW]; simp [go_sem]
  have f0 : w1.frozen? ⟨w.heap.size + 1, 0, none⟩ = false := by rw [← hW]; simp [go_sem]
  have f1 : w1.frozen? ⟨w.heap.size + 1, 1, none⟩ = false := by rw [← hW]; simp [go_sem]
  clear hW
  have hS1 : ∀ b, S b → b < w1.heap.size := fun b hb => by have := hS b hb; omega
  have HK := Lib.hid hkind
  have HX := hx.below hb1 hS
  have HY := hy.below hb1 hS
  have HZ := hz.below hb1 hS
  have hat1 := hat.below hb1 hB
  have hwd1 := hwd.below hb1 hB
  have HTY : t.ty.InS w1 S s.ta := RTy.InS.up hat1.inn.ty hBS
  have HTO : t.to.InS w1 S s.oa := RTy.InS.up hat1.inn.to hBS
  have t4 := hat1.c4
  have t5 := hat1.c5
  have t6 := hat1.c6
  have t7 := hat1.c7
  have t1 := hat1.c1
  clear hkind hx hy hz k0
  go_wp2_with fail
  refine (asE_c t B b o s wb 4 x S xa xc w1 hwd1 hat1 (by omega) (by omega) (by omega) hS1 HX hrx).mono ?_
  intro e w2 hg
  cases hr : gradual.asE t 4 x with
  | error f =>
    rw [hr] at hg
    obtain ⟨fb, rfl, g1, g2, g3, g4⟩ := hg
    have hF : Hid (gradual.flat t x y z = .error f) := by show _ = _; simp [Mode.flat, HK.out, hr]
    clear hr
    go_wp2_with fail
    refine ⟨rfl, ?_⟩
    rw [hF.out]
    exact Fails.mono (w1 := w1) ⟨fb, rfl, g1, g2, g3, g4⟩ hb1
  | ok p =>
    obtain ⟨l, r⟩ := p
    rw [hr] at hg
    obtain ⟨la, ra, lc, rc, rfl, hl, hrr, hb2⟩ := hg
    have hF : Hid (gradual.flat t x y z = .ok r) := by show _ = _; simp [Mode.flat, HK.out, hr]
    clear hr
    have p0 := cell_kept hb2 p0
    have p1 := cell_kept hb2 p1
    have p2 := cell_kept hb2 p2
    have p3 := cell_kept hb2 p3
    have p4 := cell_kept hb2 p4
    have p5 := cell_kept hb2 p5
    have m0 := cell_kept hb2 m0
    have m1 := cell_kept hb2 m1
    have t1 := cell_kept hb2 t1
    have t4 := cell_kept hb2 t4
    have t5 := cell_kept hb2 t5
    have t6 := cell_kept hb2 t6
    have t7 := cell_kept hb2 t7
    have f0 := frozen_kept hb2 (by omega) f0
    have f1 := frozen_kept hb2 (by omega) f1
    have hs2 := hb2.size
    have hbw2 : Below w.heap.size w w2 := hb1.trans (hb2.mono (by omega))
    go_upto_region 16 with fail
    generalize hW : World.alloc _ _ = w3
    have hb3 : Below w2.heap.size w2 w3 := by rw [← hW]; (repeat (first | assumption | exact Below.refl _ _ | apply below_drewN | apply Below.drew | (refine Below.alloc ?_ (by first | omega | (simp; done) | (simp; omega)) _) | (refine Below.setCell ?_ (by first | omega | (simp; done) | (simp; omega)) _)))
    have hz3 : w3.heap.size = w2.heap.size + 1 + 1 := by rw [← hW]; simp
    have l0 : w3.cell? ⟨w2.heap.size, 0, none⟩ = some (.int .i8 l.k) := by rw [← hW]; simp [go_sem]
    have l1 : w3.cell? ⟨w2.heap.size, 1, none⟩ = some (.slice la l.ks.length lc) := by rw [← hW]; simp [go_sem]
    have r0 : w3.cell? ⟨w2.heap.size + 1, 0, none⟩ = some (.int .i8 r.k) := by rw [← hW]; simp [go_sem]
    have r1 : w3.cell? ⟨w2.heap.size + 1, 1, none⟩ = some (.slice ra r.ks.length rc) := by rw [← hW]; simp [go_sem]
    clear hW
    have p0 := cell_kept hb3 p0
    have p1 := cell_kept hb3 p1
    have p2 := cell_kept hb3 p2
    have p3 := cell_kept hb3 p3
    have p4 := cell_kept hb3 p4
    have p5 := cell_kept hb3 p5
    have m0 := cell_kept hb3 m0
    have m1 := cell_kept hb3 m1
    have t1 := cell_kept hb3 t1
    have t4 := cell_kept hb3 t4
    have t5 := cell_kept hb3 t5
    have t6 := cell_kept hb3 t6
    have t7 := cell_kept hb3 t7
    have f0 := frozen_kept hb3 (by omega) f0
    have f1 := frozen_kept hb3 (by omega) f1
    have hbw3 : Below w.heap.size w w3 := hbw2.trans (hb3.mono (by omega))
    have hb13 : Below w1.heap.size w1 w3 := hb2.trans (hb3.mono (by omega))
    have HL : l.InS w3 S la := RTy.InS.below hl hb3 fun b hb => by have := hS1 b hb; omega
    have HR : r.InS w3 S ra := RTy.InS.below hrr hb3 fun b hb => by have := hS1 b hb; omega
    have HX := RTy.InS.below HX hb13 hS1
    have HY := RTy.InS.below HY hb13 hS1
    have HZ := RTy.InS.below HZ hb13 hS1
    have HTY := RTy.InS.below HTY hb13 hS1
    have hwd1 := hwd.below hbw3 hB
    have hat1 := hat.below hbw3 hB
    have hS1 : ∀ b, S b → b < w3.heap.size := fun b hb => by have := hS1 b hb; omega
    have E := hF
    go_wp2_with fail
    refine bodyPost_ret (v := .agg #[.int .i8 r.k, .slice ra r.ks.length rc]) (by simp [results, Try.results131, go_sem, m0, m1]) rfl ?_
    rw [E.out]
    exact GetsTy.stored0 hS HR hbw3 (by omega) (by omega)
end Go.Proofs.Ytaoodchjggimcaa

/- The walk of package rules' flat, by the words of package check: terms of kind 12. -/
set_option linter.unusedVariables false
set_option linter.unusedSimpArgs false
namespace Go.Proofs.Ytaoodchjggimcaa
open Go.RowKit

set_option maxRecDepth 100000 in
set_option maxHeartbeats 4000000 in
theorem flat12_c (t : RTm) (B b o : Nat) (s : TmSh) (wb : Nat) (x y z : RTy) (S : Nat → Prop) (xa ya za : Option Addr) (xc yc zc : Nat) (w : World) (hwd : WordsAt w B wb 17 40 41 17) (hat : RTm.At w B b o s t) (hB : B ≤ w.heap.size) (hS : ∀ b, S b → b < w.heap.size) (hBS : ∀ b, b < B → S b)
    (hx : x.InS w S xa) (hy : y.InS w S ya) (hz : z.InS w S za) (hrx : x.right = true) (hrt : t.ty.right = true) (hkind : t.k = 12) :
    Calls Try.prog 131 #[.pointer (some ⟨wb, 0, none⟩), .pointer (some ⟨b, o, none⟩), .agg #[.int .i8 x.k, .slice xa x.ks.length xc, .int .i8 y.k, .slice ya y.ks.length yc, .int .i8 z.k, .slice za z.ks.length zc]] w (GetsTy S (gradual.flat t x y z) w) := by
  have k0 := hat.c0
  rw [hkind] at k0
  have hwl := hwd.lt
  have hbl : b < w.heap.size := by have := hat.lt; omega
  go_enter Try.func131, Try.ntmps131
  go_upto_region 18 with fail
  generalize hW : World.alloc _ _ = w1
  have hb1 : Below w.heap.size w w1 := by rw [← hW]; (repeat (first | assumption | exact Below.refl _ _ | apply below_drewN | apply Below.drew | (refine Below.alloc ?_ (by first | omega | (simp; done) | (simp; omega)) _) | (refine Below.setCell ?_ (by first | omega | (simp; done) | (simp; omega)) _)))
  have hz1 : w1.heap.size = w.heap.size + 1 + 1 := by rw [← hW]; simp
  have p0 : w1.cell? ⟨w.heap.size, 0, none⟩ = some (.int .i8 x.k) := by rw [← hW]; simp [go_sem]
  have p1 : w1.cell? ⟨w.heap.size, 1, none⟩ = some (.slice xa x.ks.length xc) := by rw [← hW]; simp [go_sem]
  have p2 : w1.cell? ⟨w.heap.size, 2, none⟩ = some (.int .i8 y.k) := by rw [← hW]; simp [go_sem]
  have p3 : w1.cell? ⟨w.heap.size, 3, none⟩ = some (.slice ya y.ks.length yc) := by rw [← hW]; simp [go_sem]
  have p4 : w1.cell? ⟨w.heap.size, 4, none⟩ = some (.int .i8 z.k) := by rw [← hW]; simp [go_sem]
  have p5 : w1.cell? ⟨w.heap.size, 5, none⟩ = some (.slice za z.ks.length zc) := by rw [← hW]; simp [go_sem]
  have m0 : w1.cell? ⟨w.heap.size + 1, 0, none⟩ = some (.int .i8 0) := by rw [← hW]; simp [go_sem]
  have m1 : w1.cell? ⟨w.heap.size + 1, 1, none⟩ = some (.slice none 0 0) := by rw [← hW]; simp [go_sem]
  have f0 : w1.frozen? ⟨w.heap.size + 1, 0, none⟩ = false := by rw [← hW]; simp [go_sem]
  have f1 : w1.frozen? ⟨w.heap.size + 1, 1, none⟩ = false := by rw [← hW]; simp [go_sem]
  clear hW
  have hS1 : ∀ b, S b → b < w1.heap.size := fun b hb => by have := hS b hb; omega
  have HK := Lib.hid hkind
  have HX := hx.below hb1 hS
  have HY := hy.below hb1 hS
  have HZ := hz.below hb1 hS
  have hat1 := hat.below hb1 hB
  have hwd1 := hwd.below hb1 hB
  have HTY : t.ty.InS w1 S s.ta := RTy.InS.up hat1.inn.ty hBS
  have HTO : t.to.InS w1 S s.oa := RTy.InS.up hat1.inn.to hBS
  have t4 := hat1.c4
  have t5 := hat1.c5
  have t6 := hat1.c6
  have t7 := hat1.c7
  have t1 := hat1.c1
  clear hkind hx hy hz k0
  go_wp2_with fail
  refine (asE_c t B b o s wb 5 t.ty S s.ta s.tc w1 hwd1 hat1 (by omega) (by omega) (by omega) hS1 HTY hrt).mono ?_
  intro e w2 hg
  cases hr : gradual.asE t 5 t.ty with
  | error f =>
    rw [hr] at hg
    obtain ⟨fb, rfl, g1, g2, g3, g4⟩ := hg
    have hF : Hid (gradual.flat t x y z = .error f) := by show _ = _; simp [Mode.flat, HK.out, hr]
    clear hr
    go_wp2_with fail
    refine ⟨rfl, ?_⟩
    rw [hF.out]
    exact Fails.mono (w1 := w1) ⟨fb, rfl, g1, g2, g3, g4⟩ hb1
  | ok p =>
    obtain ⟨l, r⟩ := p
    rw [hr] at hg
    obtain ⟨la, ra, lc, rc, rfl, hl, hrr, hb2⟩ := hg
    have hF : Hid (gradual.flat t x y z = if gradual.agrees x l then two t 5 l r else fault t 91) := by show _ = _; simp [Mode.flat, HK.out, hr]
    clear hr
    have p0 := cell_kept hb2 p0
    have p1 := cell_kept hb2 p1
    have p2 := cell_kept hb2 p2
    have p3 := cell_kept hb2 p3
    have p4 := cell_kept hb2 p4
    have p5 := cell_kept hb2 p5
    have m0 := cell_kept hb2 m0
    have m1 := cell_kept hb2 m1
    have t1 := cell_kept hb2 t1
    have t4 := cell_kept hb2 t4
    have t5 := cell_kept hb2 t5
    have t6 := cell_kept hb2 t6
    have t7 := cell_kept hb2 t7
    have f0 := frozen_kept hb2 (by omega) f0
    have f1 := frozen_kept hb2 (by omega) f1
    have hs2 := hb2.size
    have hbw2 : Below w.heap.size w w2 := hb1.trans (hb2.mono (by omega))
    go_upto_region 19 with fail
    generalize hW : World.alloc _ _ = w3
    have hb3 : Below w2.heap.size w2 w3 := by rw [← hW]; (repeat (first | assumption | exact Below.refl _ _ | apply below_drewN | apply Below.drew | (refine Below.alloc ?_ (by first | omega | (simp; done) | (simp; omega)) _) | (refine Below.setCell ?_ (by first | omega | (simp; done) | (simp; omega)) _)))
    have hz3 : w3.heap.size = w2.heap.size + 1 + 1 := by rw [← hW]; simp
    have l0 : w3.cell? ⟨w2.heap.size, 0, none⟩ = some (.int .i8 l.k) := by rw [← hW]; simp [go_sem]
    have l1 : w3.cell? ⟨w2.heap.size, 1, none⟩ = some (.slice la l.ks.length lc) := by rw [← hW]; simp [go_sem]
    have r0 : w3.cell? ⟨w2.heap.size + 1, 0, none⟩ = some (.int .i8 r.k) := by rw [← hW]; simp [go_sem]
    have r1 : w3.cell? ⟨w2.heap.size + 1, 1, none⟩ = some (.slice ra r.ks.length rc) := by rw [← hW]; simp [go_sem]
    clear hW
    have p0 := cell_kept hb3 p0
    have p1 := cell_kept hb3 p1
    have p2 := cell_kept hb3 p2
    have p3 := cell_kept hb3 p3
    have p4 := cell_kept hb3 p4
    have p5 := cell_kept hb3 p5
    have m0 := cell_kept hb3 m0
    have m1 := cell_kept hb3 m1
    have t1 := cell_kept hb3 t1
    have t4 := cell_kept hb3 t4
    have t5 := cell_kept hb3 t5
    have t6 := cell_kept hb3 t6
    have t7 := cell_kept hb3 t7
    have f0 := frozen_kept hb3 (by omega) f0
    have f1 := frozen_kept hb3 (by omega) f1
    have hbw3 : Below w.heap.size w w3 := hbw2.trans (hb3.mono (by omega))
    have hb13 : Below w1.heap.size w1 w3 := hb2.trans (hb3.mono (by omega))
    have HL : l.InS w3 S la := RTy.InS.below hl hb3 fun b hb => by have := hS1 b hb; omega
    have HR : r.InS w3 S ra := RTy.InS.below hrr hb3 fun b hb => by have := hS1 b hb; omega
    have HX := RTy.InS.below HX hb13 hS1
    have HY := RTy.InS.below HY hb13 hS1
    have HZ := RTy.InS.below HZ hb13 hS1
    have HTY := RTy.InS.below HTY hb13 hS1
    have hwd1 := hwd.below hbw3 hB
    have hat1 := hat.below hbw3 hB
    have hS1 : ∀ b, S b → b < w3.heap.size := fun b hb => by have := hS1 b hb; omega
    have HZ3 := Lib.hid hz3
    have a0 := hwd1.c0
    have hkeep := Lib.hid fun (W : World) (hW : Below w3.heap.size w3 W) => And.intro (cell_kept hW a0) (And.intro (cell_kept hW p0) (And.intro (cell_kept hW p1) (And.intro (cell_kept hW l0) (cell_kept hW l1))))
    have hc0 : ∀ (W : World), Below w3.heap.size w3 W → Calls Try.prog 17 #[.agg #[.int .i8 x.k, .slice xa x.ks.length xc], .agg #[.int .i8 l.k, .slice la l.ks.length lc]] W fun e w' => e = .returned (.bool (gradual.agrees x l)) ∧ Below w3.heap.size w3 w' := fun W hW => (agrees_c x l w3.heap.size _ _ _ _ W (RTy.In.below (RTy.InS.up HX hS1) hW (Nat.le_refl _)) (RTy.In.below (RTy.InS.up HL hS1) hW (Nat.le_refl _)) hW.size).mono fun e w' h => And.intro h.1 (hW.trans (h.2.mono hW.size))
    have HA := Lib.hid hat1
    have hBW : B ≤ w3.heap.size := by omega
    have hwant0 := Lib.hid fun (W : World) (hW : Below w3.heap.size w3 W) => (want_no t B b o s 91 W (HA.out.below hW hBW) (Nat.le_trans hBW hW.size)).mono fun e w' h => (show Fails ⟨91, t.spot, ⟨#[]⟩⟩ W e w' ∨ (e = .returned (.tuple #[]) ∧ Hid False) from .inl h)
    by_cases hag : gradual.agrees x l = true
    · have E : Hid (gradual.flat t x y z = two t 5 l r) := by show _ = _; rw [hF.out, if_pos hag]
      rw [hag] at hc0
      have hcall := Lib.hid hc0
      clear hag hc0 hz3
      go_region_held3 (fun v => v.cell? ⟨wb, 0, none⟩ = some (.func (.func 17) #[] #[]) ∧ v.cell? ⟨w.heap.size, 0, none⟩ = some (.int .i8 x.k) ∧ v.cell? ⟨w.heap.size, 1, none⟩ = some (.slice xa x.ks.length xc) ∧ v.cell? ⟨w2.heap.size, 0, none⟩ = some (.int .i8 l.k) ∧ v.cell? ⟨w2.heap.size, 1, none⟩ = some (.slice la l.ks.length lc)) (first | (refine hkeep.out _ ?_; (repeat (first | assumption | exact Below.refl _ _ | apply below_drewN | apply Below.drew | (refine Below.alloc ?_ (by first | omega | (simp; done) | (simp; omega)) _) | (refine Below.setCell ?_ (by first | omega | (simp; done) | (simp; omega)) _))))) (first | (go_at_call 17; refine (hcall.out _ ?_).mono ?_; (repeat (first | assumption | exact Below.refl _ _ | apply below_drewN | apply Below.drew | (refine Below.alloc ?_ (by first | omega | (simp; done) | (simp; omega)) _) | (refine Below.setCell ?_ (by first | omega | (simp; done) | (simp; omega)) _))); rintro e w4 ⟨rfl, hb4⟩) | (go_at_call 127; refine (want_yes b o _ _).mono ?_; rintro e _ ⟨rfl, rfl⟩))
      have hs4 := hb4.size
      have hz3 := HZ3.out
      have p0 := cell_kept hb4 p0
      have p1 := cell_kept hb4 p1
      have p2 := cell_kept hb4 p2
      have p3 := cell_kept hb4 p3
      have p4 := cell_kept hb4 p4
      have p5 := cell_kept hb4 p5
      have m0 := cell_kept hb4 m0
      have m1 := cell_kept hb4 m1
      have t1 := cell_kept hb4 t1
      have t4 := cell_kept hb4 t4
      have t5 := cell_kept hb4 t5
      have t6 := cell_kept hb4 t6
      have t7 := cell_kept hb4 t7
      have l0 := cell_kept hb4 l0
      have l1 := cell_kept hb4 l1
      have r0 := cell_kept hb4 r0
      have r1 := cell_kept hb4 r1
      have f0 := frozen_kept hb4 (by omega) f0
      have f1 := frozen_kept hb4 (by omega) f1
      have hbw4 : Below w.heap.size w w4 := hbw3.trans (hb4.mono (by omega))
      have hwd4 := hwd.below hbw4 hB
      have hat4 := hat.below hbw4 hB
      have HL := RTy.InS.below HL hb4 hS1
      have HR := RTy.InS.below HR hb4 hS1
      have HX := RTy.InS.below HX hb4 hS1
      have HY := RTy.InS.below HY hb4 hS1
      have HZ := RTy.InS.below HZ hb4 hS1
      have HTY := RTy.InS.below HTY hb4 hS1
      have hS4 : ∀ b, S b → b < w4.heap.size := fun b hb => by have := hS1 b hb; omega
      clear hkeep a0
      go_wp2_with fail
      refine (two_any t B b o s 5 l r la ra lc rc w4 hat4 (by omega) ⟨by omega, by omega⟩ S hS4 HL HR).mono ?_
      intro e w5 hg
      cases hr : two t 5 l r with
      | error f =>
        rw [hr] at hg
        obtain ⟨fb, rfl, g1, g2, g3, g4⟩ := hg
        have HR2 := Lib.hid hr
        clear hr
        go_wp2_with fail
        refine ⟨rfl, ?_⟩
        rw [E.out, HR2.out]
        exact Fails.mono (w1 := w4) ⟨fb, rfl, g1, g2, g3, g4⟩ hbw4
      | ok z' =>
        rw [hr] at hg
        obtain ⟨qa, qc, rfl, hq, hb5⟩ := hg
        have HR2 := Lib.hid hr
        clear hr
        have m0 := cell_kept hb5 m0
        have m1 := cell_kept hb5 m1
        have f0 := frozen_kept hb5 (by omega) f0
        have f1 := frozen_kept hb5 (by omega) f1
        go_wp2_with fail
        refine bodyPost_ret (v := .agg #[.int .i8 z'.k, .slice qa z'.ks.length qc]) (by simp [results, Try.results131, go_sem, m0, m1]) rfl ?_
        rw [E.out, HR2.out]
        exact GetsTy.stored (S' := S) hS (fun b hb => ⟨.inl hb, by have := hS b hb; omega⟩) hq hbw4 hb5 (by omega) (by omega)
    · have hag' : gradual.agrees x l = false := by simpa using hag
      have E : Hid (gradual.flat t x y z = fault t 91) := by show _ = _; rw [hF.out, if_neg hag]
      rw [hag'] at hc0
      have hcall := Lib.hid hc0
      have hfin := Lib.hid fun (W : World) (e : Ending) (w' : World) (hW : Below w3.heap.size w3 W) (hf : Fails ⟨91, t.spot, ⟨#[]⟩⟩ W e w') => (show GetsTy S (gradual.flat t x y z) w e w' from by rw [E.out]; exact Fails.mono hf (hbw3.trans (hW.mono (by omega))))
      clear hag hag' hc0 hz3
      go_region_held2 (fun v => v.cell? ⟨wb, 0, none⟩ = some (.func (.func 17) #[] #[]) ∧ v.cell? ⟨w.heap.size, 0, none⟩ = some (.int .i8 x.k) ∧ v.cell? ⟨w.heap.size, 1, none⟩ = some (.slice xa x.ks.length xc) ∧ v.cell? ⟨w2.heap.size, 0, none⟩ = some (.int .i8 l.k) ∧ v.cell? ⟨w2.heap.size, 1, none⟩ = some (.slice la l.ks.length lc)) (first | exact hno.out.elim | (refine hkeep.out _ ?_; (repeat (first | assumption | exact Below.refl _ _ | apply below_drewN | apply Below.drew | (refine Below.alloc ?_ (by first | omega | (simp; done) | (simp; omega)) _) | (refine Below.setCell ?_ (by first | omega | (simp; done) | (simp; omega)) _))))) (first | (go_at_call 17; refine (hcall.out _ ?_).mono ?_; (repeat (first | assumption | exact Below.refl _ _ | apply below_drewN | apply Below.drew | (refine Below.alloc ?_ (by first | omega | (simp; done) | (simp; omega)) _) | (refine Below.setCell ?_ (by first | omega | (simp; done) | (simp; omega)) _))); rintro e w4 ⟨rfl, hb4⟩) | (go_at_call 127; refine (hwant0.out _ ?_).mono ?_; (repeat (first | assumption | exact Below.refl _ _ | apply below_drewN | apply Below.drew | (refine Below.alloc ?_ (by first | omega | (simp; done) | (simp; omega)) _) | (refine Below.setCell ?_ (by first | omega | (simp; done) | (simp; omega)) _))); rintro e w5 (⟨b1, rfl, hf⟩ | ⟨rfl, hno⟩); exact And.intro rfl (hfin.out w4 _ _ hb4 ⟨b1, rfl, hf⟩)))
      exact hno.out.elim
end Go.Proofs.Ytaoodchjggimcaa

/- The walk of package rules' flat, by the words of package check: terms of kind 13. -/
set_option linter.unusedVariables false
set_option linter.unusedSimpArgs false
namespace Go.Proofs.Ytaoodchjggimcaa
open Go.RowKit

set_option maxRecDepth 100000 in
set_option maxHeartbeats 4000000 in
theorem flat13_c (t : RTm) (B b o : Nat) (s : TmSh) (wb : Nat) (x y z : RTy) (S : Nat → Prop) (xa ya za : Option Addr) (xc yc zc : Nat) (w : World) (hwd : WordsAt w B wb 17 40 41 17) (hat : RTm.At w B b o s t) (hB : B ≤ w.heap.size) (hS : ∀ b, S b → b < w.heap.size) (hBS : ∀ b, b < B → S b)
    (hx : x.InS w S xa) (hy : y.InS w S ya) (hz : z.InS w S za) (hrx : x.right = true) (hrt : t.ty.right = true) (hkind : t.k = 13) :
    Calls Try.prog 131 #[.pointer (some ⟨wb, 0, none⟩), .pointer (some ⟨b, o, none⟩), .agg #[.int .i8 x.k, .slice xa x.ks.length xc, .int .i8 y.k, .slice ya y.ks.length yc, .int .i8 z.k, .slice za z.ks.length zc]] w (GetsTy S (gradual.flat t x y z) w) := by
  have k0 := hat.c0
  rw [hkind] at k0
  have hwl := hwd.lt
  have hbl : b < w.heap.size := by have := hat.lt; omega
  go_enter Try.func131, Try.ntmps131
  go_upto_region 22 with fail
  generalize hW : World.alloc _ _ = w1
  have hb1 : Below w.heap.size w w1 := by rw [← hW]; (repeat (first | assumption | exact Below.refl _ _ | apply below_drewN | apply Below.drew | (refine Below.alloc ?_ (by first | omega | (simp; done) | (simp; omega)) _) | (refine Below.setCell ?_ (by first | omega | (simp; done) | (simp; omega)) _)))
  have hz1 : w1.heap.size = w.heap.size + 1 + 1 := by rw [← hW]; simp
  have p0 : w1.cell? ⟨w.heap.size, 0, none⟩ = some (.int .i8 x.k) := by rw [← hW]; simp [go_sem]
  have p1 : w1.cell? ⟨w.heap.size, 1, none⟩ = some (.slice xa x.ks.length xc) := by rw [← hW]; simp [go_sem]
  have p2 : w1.cell? ⟨w.heap.size, 2, none⟩ = some (.int .i8 y.k) := by rw [← hW]; simp [go_sem]
  have p3 : w1.cell? ⟨w.heap.size, 3, none⟩ = some (.slice ya y.ks.length yc) := by rw [← hW]; simp [go_sem]
  have p4 : w1.cell? ⟨w.heap.size, 4, none⟩ = some (.int .i8 z.k) := by rw [← hW]; simp [go_sem]
  have p5 : w1.cell? ⟨w.heap.size, 5, none⟩ = some (.slice za z.ks.length zc) := by rw [← hW]; simp [go_sem]
  have m0 : w1.cell? ⟨w.heap.size + 1, 0, none⟩ = some (.int .i8 0) := by rw [← hW]; simp [go_sem]
  have m1 : w1.cell? ⟨w.heap.size + 1, 1, none⟩ = some (.slice none 0 0) := by rw [← hW]; simp [go_sem]
  have f0 : w1.frozen? ⟨w.heap.size + 1, 0, none⟩ = false := by rw [← hW]; simp [go_sem]
  have f1 : w1.frozen? ⟨w.heap.size + 1, 1, none⟩ = false := by rw [← hW]; simp [go_sem]
  clear hW
  have hS1 : ∀ b, S b → b < w1.heap.size := fun b hb => by have := hS b hb; omega
  have HK := Lib.hid hkind
  have HX := hx.below hb1 hS
  have HY := hy.below hb1 hS
  have HZ := hz.below hb1 hS
  have hat1 := hat.below hb1 hB
  have hwd1 := hwd.below hb1 hB
  have HTY : t.ty.InS w1 S s.ta := RTy.InS.up hat1.inn.ty hBS
  have HTO : t.to.InS w1 S s.oa := RTy.InS.up hat1.inn.to hBS
  have t4 := hat1.c4
  have t5 := hat1.c5
  have t6 := hat1.c6
  have t7 := hat1.c7
  have t1 := hat1.c1
  clear hkind hx hy hz k0
  go_wp2_with fail
  refine (asE_c t B b o s wb 5 t.ty S s.ta s.tc w1 hwd1 hat1 (by omega) (by omega) (by omega) hS1 HTY hrt).mono ?_
  intro e w2 hg
  cases hr : gradual.asE t 5 t.ty with
  | error f =>
    rw [hr] at hg
    obtain ⟨fb, rfl, g1, g2, g3, g4⟩ := hg
    have hF : Hid (gradual.flat t x y z = .error f) := by show _ = _; simp [Mode.flat, HK.out, hr]
    clear hr
    go_wp2_with fail
    refine ⟨rfl, ?_⟩
    rw [hF.out]
    exact Fails.mono (w1 := w1) ⟨fb, rfl, g1, g2, g3, g4⟩ hb1
  | ok p =>
    obtain ⟨l, r⟩ := p
    rw [hr] at hg
    obtain ⟨la, ra, lc, rc, rfl, hl, hrr, hb2⟩ := hg
    have hF : Hid (gradual.flat t x y z = if gradual.agrees x r then two t 5 l r else fault t 91) := by show _ = _; simp [Mode.flat, HK.out, hr]
    clear hr
    have p0 := cell_kept hb2 p0
    have p1 := cell_kept hb2 p1
    have p2 := cell_kept hb2 p2
    have p3 := cell_kept hb2 p3
    have p4 := cell_kept hb2 p4
    have p5 := cell_kept hb2 p5
    have m0 := cell_kept hb2 m0
    have m1 := cell_kept hb2 m1
    have t1 := cell_kept hb2 t1
    have t4 := cell_kept hb2 t4
    have t5 := cell_kept hb2 t5
    have t6 := cell_kept hb2 t6
    have t7 := cell_kept hb2 t7
    have f0 := frozen_kept hb2 (by omega) f0
    have f1 := frozen_kept hb2 (by omega) f1
    have hs2 := hb2.size
    have hbw2 : Below w.heap.size w w2 := hb1.trans (hb2.mono (by omega))
    go_upto_region 23 with fail
    generalize hW : World.alloc _ _ = w3
    have hb3 : Below w2.heap.size w2 w3 := by rw [← hW]; (repeat (first | assumption | exact Below.refl _ _ | apply below_drewN | apply Below.drew | (refine Below.alloc ?_ (by first | omega | (simp; done) | (simp; omega)) _) | (refine Below.setCell ?_ (by first | omega | (simp; done) | (simp; omega)) _)))
    have hz3 : w3.heap.size = w2.heap.size + 1 + 1 := by rw [← hW]; simp
    have l0 : w3.cell? ⟨w2.heap.size, 0, none⟩ = some (.int .i8 l.k) := by rw [← hW]; simp [go_sem]
    have l1 : w3.cell? ⟨w2.heap.size, 1, none⟩ = some (.slice la l.ks.length lc) := by rw [← hW]; simp [go_sem]
    have r0 : w3.cell? ⟨w2.heap.size + 1, 0, none⟩ = some (.int .i8 r.k) := by rw [← hW]; simp [go_sem]
    have r1 : w3.cell? ⟨w2.heap.size + 1, 1, none⟩ = some (.slice ra r.ks.length rc) := by rw [← hW]; simp [go_sem]
    clear hW
    have p0 := cell_kept hb3 p0
    have p1 := cell_kept hb3 p1
    have p2 := cell_kept hb3 p2
    have p3 := cell_kept hb3 p3
    have p4 := cell_kept hb3 p4
    have p5 := cell_kept hb3 p5
    have m0 := cell_kept hb3 m0
    have m1 := cell_kept hb3 m1
    have t1 := cell_kept hb3 t1
    have t4 := cell_kept hb3 t4
    have t5 := cell_kept hb3 t5
    have t6 := cell_kept hb3 t6
    have t7 := cell_kept hb3 t7
    have f0 := frozen_kept hb3 (by omega) f0
    have f1 := frozen_kept hb3 (by omega) f1
    have hbw3 : Below w.heap.size w w3 := hbw2.trans (hb3.mono (by omega))
    have hb13 : Below w1.heap.size w1 w3 := hb2.trans (hb3.mono (by omega))
    have HL : l.InS w3 S la := RTy.InS.below hl hb3 fun b hb => by have := hS1 b hb; omega
    have HR : r.InS w3 S ra := RTy.InS.below hrr hb3 fun b hb => by have := hS1 b hb; omega
    have HX := RTy.InS.below HX hb13 hS1
    have HY := RTy.InS.below HY hb13 hS1
    have HZ := RTy.InS.below HZ hb13 hS1
    have HTY := RTy.InS.below HTY hb13 hS1
    have hwd1 := hwd.below hbw3 hB
    have hat1 := hat.below hbw3 hB
    have hS1 : ∀ b, S b → b < w3.heap.size := fun b hb => by have := hS1 b hb; omega
    have HZ3 := Lib.hid hz3
    have a0 := hwd1.c0
    have hkeep := Lib.hid fun (W : World) (hW : Below w3.heap.size w3 W) => And.intro (cell_kept hW a0) (And.intro (cell_kept hW p0) (And.intro (cell_kept hW p1) (And.intro (cell_kept hW r0) (cell_kept hW r1))))
    have hc0 : ∀ (W : World), Below w3.heap.size w3 W → Calls Try.prog 17 #[.agg #[.int .i8 x.k, .slice xa x.ks.length xc], .agg #[.int .i8 r.k, .slice ra r.ks.length rc]] W fun e w' => e = .returned (.bool (gradual.agrees x r)) ∧ Below w3.heap.size w3 w' := fun W hW => (agrees_c x r w3.heap.size _ _ _ _ W (RTy.In.below (RTy.InS.up HX hS1) hW (Nat.le_refl _)) (RTy.In.below (RTy.InS.up HR hS1) hW (Nat.le_refl _)) hW.size).mono fun e w' h => And.intro h.1 (hW.trans (h.2.mono hW.size))
    have HA := Lib.hid hat1
    have hBW : B ≤ w3.heap.size := by omega
    have hwant0 := Lib.hid fun (W : World) (hW : Below w3.heap.size w3 W) => (want_no t B b o s 91 W (HA.out.below hW hBW) (Nat.le_trans hBW hW.size)).mono fun e w' h => (show Fails ⟨91, t.spot, ⟨#[]⟩⟩ W e w' ∨ (e = .returned (.tuple #[]) ∧ Hid False) from .inl h)
    by_cases hag : gradual.agrees x r = true
    · have E : Hid (gradual.flat t x y z = two t 5 l r) := by show _ = _; rw [hF.out, if_pos hag]
      rw [hag] at hc0
      have hcall := Lib.hid hc0
      clear hag hc0 hz3
      go_region_held3 (fun v => v.cell? ⟨wb, 0, none⟩ = some (.func (.func 17) #[] #[]) ∧ v.cell? ⟨w.heap.size, 0, none⟩ = some (.int .i8 x.k) ∧ v.cell? ⟨w.heap.size, 1, none⟩ = some (.slice xa x.ks.length xc) ∧ v.cell? ⟨w2.heap.size + 1, 0, none⟩ = some (.int .i8 r.k) ∧ v.cell? ⟨w2.heap.size + 1, 1, none⟩ = some (.slice ra r.ks.length rc)) (first | (refine hkeep.out _ ?_; (repeat (first | assumption | exact Below.refl _ _ | apply below_drewN | apply Below.drew | (refine Below.alloc ?_ (by first | omega | (simp; done) | (simp; omega)) _) | (refine Below.setCell ?_ (by first | omega | (simp; done) | (simp; omega)) _))))) (first | (go_at_call 17; refine (hcall.out _ ?_).mono ?_; (repeat (first | assumption | exact Below.refl _ _ | apply below_drewN | apply Below.drew | (refine Below.alloc ?_ (by first | omega | (simp; done) | (simp; omega)) _) | (refine Below.setCell ?_ (by first | omega | (simp; done) | (simp; omega)) _))); rintro e w4 ⟨rfl, hb4⟩) | (go_at_call 127; refine (want_yes b o _ _).mono ?_; rintro e _ ⟨rfl, rfl⟩))
      have hs4 := hb4.size
      have hz3 := HZ3.out
      have p0 := cell_kept hb4 p0
      have p1 := cell_kept hb4 p1
      have p2 := cell_kept hb4 p2
      have p3 := cell_kept hb4 p3
      have p4 := cell_kept hb4 p4
      have p5 := cell_kept hb4 p5
      have m0 := cell_kept hb4 m0
      have m1 := cell_kept hb4 m1
      have t1 := cell_kept hb4 t1
      have t4 := cell_kept hb4 t4
      have t5 := cell_kept hb4 t5
      have t6 := cell_kept hb4 t6
      have t7 := cell_kept hb4 t7
      have l0 := cell_kept hb4 l0
      have l1 := cell_kept hb4 l1
      have r0 := cell_kept hb4 r0
      have r1 := cell_kept hb4 r1
      have f0 := frozen_kept hb4 (by omega) f0
      have f1 := frozen_kept hb4 (by omega) f1
      have hbw4 : Below w.heap.size w w4 := hbw3.trans (hb4.mono (by omega))
      have hwd4 := hwd.below hbw4 hB
      have hat4 := hat.below hbw4 hB
      have HL := RTy.InS.below HL hb4 hS1
      have HR := RTy.InS.below HR hb4 hS1
      have HX := RTy.InS.below HX hb4 hS1
      have HY := RTy.InS.below HY hb4 hS1
      have HZ := RTy.InS.below HZ hb4 hS1
      have HTY := RTy.InS.below HTY hb4 hS1
      have hS4 : ∀ b, S b → b < w4.heap.size := fun b hb => by have := hS1 b hb; omega
      clear hkeep a0
      go_wp2_with fail
      refine (two_any t B b o s 5 l r la ra lc rc w4 hat4 (by omega) ⟨by omega, by omega⟩ S hS4 HL HR).mono ?_
      intro e w5 hg
      cases hr : two t 5 l r with
      | error f =>
        rw [hr] at hg
        obtain ⟨fb, rfl, g1, g2, g3, g4⟩ := hg
        have HR2 := Lib.hid hr
        clear hr
        go_wp2_with fail
        refine ⟨rfl, ?_⟩
        rw [E.out, HR2.out]
        exact Fails.mono (w1 := w4) ⟨fb, rfl, g1, g2, g3, g4⟩ hbw4
      | ok z' =>
        rw [hr] at hg
        obtain ⟨qa, qc, rfl, hq, hb5⟩ := hg
        have HR2 := Lib.hid hr
        clear hr
        have m0 := cell_kept hb5 m0
        have m1 := cell_kept hb5 m1
        have f0 := frozen_kept hb5 (by omega) f0
        have f1 := frozen_kept hb5 (by omega) f1
        go_wp2_with fail
        refine bodyPost_ret (v := .agg #[.int .i8 z'.k, .slice qa z'.ks.length qc]) (by simp [results, Try.results131, go_sem, m0, m1]) rfl ?_
        rw [E.out, HR2.out]
        exact GetsTy.stored (S' := S) hS (fun b hb => ⟨.inl hb, by have := hS b hb; omega⟩) hq hbw4 hb5 (by omega) (by omega)
    · have hag' : gradual.agrees x r = false := by simpa using hag
      have E : Hid (gradual.flat t x y z = fault t 91) := by show _ = _; rw [hF.out, if_neg hag]
      rw [hag'] at hc0
      have hcall := Lib.hid hc0
      have hfin := Lib.hid fun (W : World) (e : Ending) (w' : World) (hW : Below w3.heap.size w3 W) (hf : Fails ⟨91, t.spot, ⟨#[]⟩⟩ W e w') => (show GetsTy S (gradual.flat t x y z) w e w' from by rw [E.out]; exact Fails.mono hf (hbw3.trans (hW.mono (by omega))))
      clear hag hag' hc0 hz3
      go_region_held2 (fun v => v.cell? ⟨wb, 0, none⟩ = some (.func (.func 17) #[] #[]) ∧ v.cell? ⟨w.heap.size, 0, none⟩ = some (.int .i8 x.k) ∧ v.cell? ⟨w.heap.size, 1, none⟩ = some (.slice xa x.ks.length xc) ∧ v.cell? ⟨w2.heap.size + 1, 0, none⟩ = some (.int .i8 r.k) ∧ v.cell? ⟨w2.heap.size + 1, 1, none⟩ = some (.slice ra r.ks.length rc)) (first | exact hno.out.elim | (refine hkeep.out _ ?_; (repeat (first | assumption | exact Below.refl _ _ | apply below_drewN | apply Below.drew | (refine Below.alloc ?_ (by first | omega | (simp; done) | (simp; omega)) _) | (refine Below.setCell ?_ (by first | omega | (simp; done) | (simp; omega)) _))))) (first | (go_at_call 17; refine (hcall.out _ ?_).mono ?_; (repeat (first | assumption | exact Below.refl _ _ | apply below_drewN | apply Below.drew | (refine Below.alloc ?_ (by first | omega | (simp; done) | (simp; omega)) _) | (refine Below.setCell ?_ (by first | omega | (simp; done) | (simp; omega)) _))); rintro e w4 ⟨rfl, hb4⟩) | (go_at_call 127; refine (hwant0.out _ ?_).mono ?_; (repeat (first | assumption | exact Below.refl _ _ | apply below_drewN | apply Below.drew | (refine Below.alloc ?_ (by first | omega | (simp; done) | (simp; omega)) _) | (refine Below.setCell ?_ (by first | omega | (simp; done) | (simp; omega)) _))); rintro e w5 (⟨b1, rfl, hf⟩ | ⟨rfl, hno⟩); exact And.intro rfl (hfin.out w4 _ _ hb4 ⟨b1, rfl, hf⟩)))
      exact hno.out.elim
end Go.Proofs.Ytaoodchjggimcaa

/- The walk of package rules' flat, by the words of package check: terms of kind 15. -/
set_option linter.unusedVariables false
set_option linter.unusedSimpArgs false
namespace Go.Proofs.Ytaoodchjggimcaa
open Go.RowKit

set_option maxRecDepth 100000 in
set_option maxHeartbeats 4000000 in
theorem flat15_c (t : RTm) (B b o : Nat) (s : TmSh) (wb : Nat) (x y z : RTy) (S : Nat → Prop) (xa ya za : Option Addr) (xc yc zc : Nat) (w : World) (hwd : WordsAt w B wb 17 40 41 17) (hat : RTm.At w B b o s t) (hB : B ≤ w.heap.size) (hS : ∀ b, S b → b < w.heap.size) (hBS : ∀ b, b < B → S b)
    (hx : x.InS w S xa) (hy : y.InS w S ya) (hz : z.InS w S za) (hrx : x.right = true) (hkind : t.k = 15) :
    Calls Try.prog 131 #[.pointer (some ⟨wb, 0, none⟩), .pointer (some ⟨b, o, none⟩), .agg #[.int .i8 x.k, .slice xa x.ks.length xc, .int .i8 y.k, .slice ya y.ks.length yc, .int .i8 z.k, .slice za z.ks.length zc]] w (GetsTy S (gradual.flat t x y z) w) := by
  have k0 := hat.c0
  rw [hkind] at k0
  have hwl := hwd.lt
  have hbl : b < w.heap.size := by have := hat.lt; omega
  go_enter Try.func131, Try.ntmps131
  go_upto_region 31 with fail
  generalize hW : World.alloc _ _ = w1
  have hb1 : Below w.heap.size w w1 := by rw [← hW]; (repeat (first | assumption | exact Below.refl _ _ | apply below_drewN | apply Below.drew | (refine Below.alloc ?_ (by first | omega | (simp; done) | (simp; omega)) _) | (refine Below.setCell ?_ (by first | omega | (simp; done) | (simp; omega)) _)))
  have hz1 : w1.heap.size = w.heap.size + 1 + 1 := by rw [← hW]; simp
  have p0 : w1.cell? ⟨w.heap.size, 0, none⟩ = some (.int .i8 x.k) := by rw [← hW]; simp [go_sem]
  have p1 : w1.cell? ⟨w.heap.size, 1, none⟩ = some (.slice xa x.ks.length xc) := by rw [← hW]; simp [go_sem]
  have p2 : w1.cell? ⟨w.heap.size, 2, none⟩ = some (.int .i8 y.k) := by rw [← hW]; simp [go_sem]
  have p3 : w1.cell? ⟨w.heap.size, 3, none⟩ = some (.slice ya y.ks.length yc) := by rw [← hW]; simp [go_sem]
  have p4 : w1.cell? ⟨w.heap.size, 4, none⟩ = some (.int .i8 z.k) := by rw [← hW]; simp [go_sem]
  have p5 : w1.cell? ⟨w.heap.size, 5, none⟩ = some (.slice za z.ks.length zc) := by rw [← hW]; simp [go_sem]
  have m0 : w1.cell? ⟨w.heap.size + 1, 0, none⟩ = some (.int .i8 0) := by rw [← hW]; simp [go_sem]
  have m1 : w1.cell? ⟨w.heap.size + 1, 1, none⟩ = some (.slice none 0 0) := by rw [← hW]; simp [go_sem]
  have f0 : w1.frozen? ⟨w.heap.size + 1, 0, none⟩ = false := by rw [← hW]; simp [go_sem]
  have f1 : w1.frozen? ⟨w.heap.size + 1, 1, none⟩ = false := by rw [← hW]; simp [go_sem]
  clear hW
  have hS1 : ∀ b, S b → b < w1.heap.size := fun b hb => by have := hS b hb; omega
  have HK := Lib.hid hkind
  have HX := hx.below hb1 hS
  have HY := hy.below hb1 hS
  have HZ := hz.below hb1 hS
  have hat1 := hat.below hb1 hB
  have hwd1 := hwd.below hb1 hB
  have HTY : t.ty.InS w1 S s.ta := RTy.InS.up hat1.inn.ty hBS
  have HTO : t.to.InS w1 S s.oa := RTy.InS.up hat1.inn.to hBS
  have t4 := hat1.c4
  have t5 := hat1.c5
  have t6 := hat1.c6
  have t7 := hat1.c7
  have t1 := hat1.c1
  clear hkind hx hy hz k0
  have hF : Hid (gradual.flat t x y z = if gradual.agrees x RTy.int && gradual.agrees y RTy.int then .ok (if t.name.toList == [60] || t.name.toList == [61] then RTy.bool else RTy.int) else fault t 91) := by show _ = _; simp [Mode.flat, HK.out]
  have a0 := hwd1.c0
  have HI : RTy.int.InS w1 S none := by unfold RTy.int RTy.InS RTy.InsS; exact ⟨⟨by omega, by omega⟩, by simp [lenMax], trivial⟩
  have hkeep := Lib.hid fun (W : World) (hW : Below w1.heap.size w1 W) => And.intro (cell_kept hW a0) (And.intro (cell_kept hW p0) (And.intro (cell_kept hW p1) (And.intro (cell_kept hW p2) (cell_kept hW p3))))
  have hc1 : ∀ (W : World), Below w1.heap.size w1 W → Calls Try.prog 17 #[.agg #[.int .i8 x.k, .slice xa x.ks.length xc], .agg #[.int .i8 1, .slice none 0 0]] W fun e w' => e = .returned (.bool (gradual.agrees x RTy.int)) ∧ Below w1.heap.size w1 w' := fun W hW => (agrees_c x RTy.int w1.heap.size _ _ _ _ W (RTy.In.below (RTy.InS.up HX hS1) hW (Nat.le_refl _)) (RTy.In.below (RTy.InS.up HI hS1) hW (Nat.le_refl _)) hW.size).mono fun e w' h => And.intro h.1 (hW.trans (h.2.mono hW.size))
  have hc2 : ∀ (W : World), Below w1.heap.size w1 W → Calls Try.prog 17 #[.agg #[.int .i8 y.k, .slice ya y.ks.length yc], .agg #[.int .i8 1, .slice none 0 0]] W fun e w' => e = .returned (.bool (gradual.agrees y RTy.int)) ∧ Below w1.heap.size w1 w' := fun W hW => (agrees_c y RTy.int w1.heap.size _ _ _ _ W (RTy.In.below (RTy.InS.up HY hS1) hW (Nat.le_refl _)) (RTy.In.below (RTy.InS.up HI hS1) hW (Nat.le_refl _)) hW.size).mono fun e w' h => And.intro h.1 (hW.trans (h.2.mono hW.size))
  have hnum := Lib.hid fun (W : World) (hW : Below w1.heap.size w1 W) => (number_any W).mono fun e w' h => And.intro h.1 (hW.trans (h.2.mono hW.size))
  have HA := Lib.hid hat1
  have hBW : B ≤ w1.heap.size := by omega
  have hwant0 := Lib.hid fun (W : World) (hW : Below w1.heap.size w1 W) => (want_no t B b o s 91 W (HA.out.below hW hBW) (Nat.le_trans hBW hW.size)).mono fun e w' h => (show Fails ⟨91, t.spot, ⟨#[]⟩⟩ W e w' ∨ (e = .returned (.tuple #[]) ∧ Hid False) from .inl h)
  have hfin0 : gradual.flat t x y z = fault t 91 → ∀ (W : World) (e : Ending) (w' : World), Below w1.heap.size w1 W → Fails ⟨91, t.spot, ⟨#[]⟩⟩ W e w' → GetsTy S (gradual.flat t x y z) w e w' := fun E W e w' hW hf => by rw [E]; exact Fails.mono hf (hb1.trans (hW.mono (by omega)))
  have HZ1 := Lib.hid hz1
  by_cases hg1 : gradual.agrees x RTy.int = true
  · rw [hg1] at hc1
    have hcall1 := Lib.hid hc1
    by_cases hg2 : gradual.agrees y RTy.int = true
    · have E : Hid (gradual.flat t x y z = .ok (if t.name.toList == [60] || t.name.toList == [61] then RTy.bool else RTy.int)) := by show _ = _; rw [hF.out, hg1, hg2]; rfl
      rw [hg2] at hc2
      have hcall2 := Lib.hid hc2
      clear hg1 hg2 hc1 hc2 hz1 hfin0
      go_region_held3 (fun v => v.cell? ⟨wb, 0, none⟩ = some (.func (.func 17) #[] #[]) ∧ v.cell? ⟨w.heap.size, 0, none⟩ = some (.int .i8 x.k) ∧ v.cell? ⟨w.heap.size, 1, none⟩ = some (.slice xa x.ks.length xc) ∧ v.cell? ⟨w.heap.size, 2, none⟩ = some (.int .i8 y.k) ∧ v.cell? ⟨w.heap.size, 3, none⟩ = some (.slice ya y.ks.length yc)) (first | (refine hkeep.out _ ?_; (repeat (first | assumption | exact Below.refl _ _ | apply below_drewN | apply Below.drew | (refine Below.alloc ?_ (by first | omega | (simp; done) | (simp; omega)) _) | (refine Below.setCell ?_ (by first | omega | (simp; done) | (simp; omega)) _))))) (first | (go_at_call 123; refine (hnum.out _ ?_).mono ?_; (repeat (first | assumption | exact Below.refl _ _ | apply below_drewN | apply Below.drew | (refine Below.alloc ?_ (by first | omega | (simp; done) | (simp; omega)) _) | (refine Below.setCell ?_ (by first | omega | (simp; done) | (simp; omega)) _))); rintro e w6 ⟨rfl, hb6⟩; have hs6 := hb6.size) | (go_at_call_of 17 (.agg #[.int .i8 x.k, .slice xa x.ks.length xc] : Value); refine (hcall1.out _ ?_).mono ?_; (repeat (first | assumption | exact Below.refl _ _ | apply below_drewN | apply Below.drew | (refine Below.alloc ?_ (by first | omega | (simp; done) | (simp; omega)) _) | (refine Below.setCell ?_ (by first | omega | (simp; done) | (simp; omega)) _))); rintro e w4 ⟨rfl, hb4⟩) | (go_at_call_of 17 (.agg #[.int .i8 y.k, .slice ya y.ks.length yc] : Value); refine (hcall2.out _ ?_).mono ?_; (repeat (first | assumption | exact Below.refl _ _ | apply below_drewN | apply Below.drew | (refine Below.alloc ?_ (by first | omega | (simp; done) | (simp; omega)) _) | (refine Below.setCell ?_ (by first | omega | (simp; done) | (simp; omega)) _))); rintro e w4 ⟨rfl, hb4⟩) | (go_at_call 127; refine (want_yes b o _ _).mono ?_; rintro e _ ⟨rfl, rfl⟩))
      have hz1 := HZ1.out
      have hs4 := hb4.size
      have p0 := cell_kept hb4 p0
      have p1 := cell_kept hb4 p1
      have p2 := cell_kept hb4 p2
      have p3 := cell_kept hb4 p3
      have p4 := cell_kept hb4 p4
      have p5 := cell_kept hb4 p5
      have m0 := cell_kept hb4 m0
      have m1 := cell_kept hb4 m1
      have t1 := cell_kept hb4 t1
      have t4 := cell_kept hb4 t4
      have t5 := cell_kept hb4 t5
      have t6 := cell_kept hb4 t6
      have t7 := cell_kept hb4 t7
      have f0 := frozen_kept hb4 (by omega) f0
      have f1 := frozen_kept hb4 (by omega) f1
      have hbw4 : Below w.heap.size w w4 := hb1.trans (hb4.mono (by omega))
      have hwd4 := hwd.below hbw4 hB
      have hat4 := hat.below hbw4 hB
      have HX := RTy.InS.below HX hb4 hS1
      have HY := RTy.InS.below HY hb4 hS1
      have HZ := RTy.InS.below HZ hb4 hS1
      have HTY := RTy.InS.below HTY hb4 hS1
      have hS4 : ∀ b, S b → b < w4.heap.size := fun b hb => by have := hS1 b hb; omega
      have HTO := RTy.InS.below HTO hb4 hS1
      clear hkeep a0
      by_cases n1 : (t.name.toList == [60]) = true
      · have E : Hid (gradual.flat t x y z = .ok RTy.bool) := by show _ = _; rw [E.out, n1]; rfl
        go_wp2_with fail
        refine (truth_any _).mono ?_
        rintro e w5 ⟨rfl, hb5⟩
        have hs5 := hb5.size
        have m0 := cell_kept hb5 m0
        have m1 := cell_kept hb5 m1
        have f0 := frozen_kept hb5 (by omega) f0
        have f1 := frozen_kept hb5 (by omega) f1
        go_wp2_with fail
        refine bodyPost_ret (v := .agg #[.int .i8 2, .slice none 0 0]) (by simp [results, Try.results131, go_sem, m0, m1]) rfl ?_
        rw [E.out]
        exact GetsTy.stored0 (z := RTy.bool) (a := none) (c := 0) hS (by unfold RTy.bool RTy.InS RTy.InsS; exact ⟨⟨by omega, by omega⟩, by simp [lenMax], trivial⟩) (hbw4.trans (hb5.mono (by omega))) (by omega) (by omega)
      · have n1' : (t.name.toList == [60]) = false := by simpa using n1
        by_cases n2 : (t.name.toList == [61]) = true
        · have E : Hid (gradual.flat t x y z = .ok RTy.bool) := by show _ = _; rw [E.out, n1', n2]; rfl
          go_wp2_with fail
          refine (truth_any _).mono ?_
          rintro e w5 ⟨rfl, hb5⟩
          have hs5 := hb5.size
          have m0 := cell_kept hb5 m0
          have m1 := cell_kept hb5 m1
          have f0 := frozen_kept hb5 (by omega) f0
          have f1 := frozen_kept hb5 (by omega) f1
          go_wp2_with fail
          refine bodyPost_ret (v := .agg #[.int .i8 2, .slice none 0 0]) (by simp [results, Try.results131, go_sem, m0, m1]) rfl ?_
          rw [E.out]
          exact GetsTy.stored0 (z := RTy.bool) (a := none) (c := 0) hS (by unfold RTy.bool RTy.InS RTy.InsS; exact ⟨⟨by omega, by omega⟩, by simp [lenMax], trivial⟩) (hbw4.trans (hb5.mono (by omega))) (by omega) (by omega)
        · have n2' : (t.name.toList == [61]) = false := by simpa using n2
          have E : Hid (gradual.flat t x y z = .ok RTy.int) := by show _ = _; rw [E.out, n1', n2']; rfl
          go_wp2_with fail
          refine (number_any _).mono ?_
          rintro e w5 ⟨rfl, hb5⟩
          have hs5 := hb5.size
          have m0 := cell_kept hb5 m0
          have m1 := cell_kept hb5 m1
          have f0 := frozen_kept hb5 (by omega) f0
          have f1 := frozen_kept hb5 (by omega) f1
          go_wp2_with fail
          refine bodyPost_ret (v := .agg #[.int .i8 1, .slice none 0 0]) (by simp [results, Try.results131, go_sem, m0, m1]) rfl ?_
          rw [E.out]
          exact GetsTy.stored0 (z := RTy.int) (a := none) (c := 0) hS (by unfold RTy.int RTy.InS RTy.InsS; exact ⟨⟨by omega, by omega⟩, by simp [lenMax], trivial⟩) (hbw4.trans (hb5.mono (by omega))) (by omega) (by omega)
    · have hg2' : gradual.agrees y RTy.int = false := by simpa using hg2
      have E : gradual.flat t x y z = fault t 91 := by rw [hF.out, hg1, hg2']; rfl
      rw [hg2'] at hc2
      have hcall2 := Lib.hid hc2
      have hfin := Lib.hid (hfin0 E)
      clear hg1 hg2 hg2' hc1 hc2 hz1 hfin0 E
      go_region_held2 (fun v => v.cell? ⟨wb, 0, none⟩ = some (.func (.func 17) #[] #[]) ∧ v.cell? ⟨w.heap.size, 0, none⟩ = some (.int .i8 x.k) ∧ v.cell? ⟨w.heap.size, 1, none⟩ = some (.slice xa x.ks.length xc) ∧ v.cell? ⟨w.heap.size, 2, none⟩ = some (.int .i8 y.k) ∧ v.cell? ⟨w.heap.size, 3, none⟩ = some (.slice ya y.ks.length yc)) (first | exact hno.out.elim | (refine hkeep.out _ ?_; (repeat (first | assumption | exact Below.refl _ _ | apply below_drewN | apply Below.drew | (refine Below.alloc ?_ (by first | omega | (simp; done) | (simp; omega)) _) | (refine Below.setCell ?_ (by first | omega | (simp; done) | (simp; omega)) _))))) (first | (go_at_call 123; refine (hnum.out _ ?_).mono ?_; (repeat (first | assumption | exact Below.refl _ _ | apply below_drewN | apply Below.drew | (refine Below.alloc ?_ (by first | omega | (simp; done) | (simp; omega)) _) | (refine Below.setCell ?_ (by first | omega | (simp; done) | (simp; omega)) _))); rintro e w6 ⟨rfl, hb6⟩; have hs6 := hb6.size) | (go_at_call_of 17 (.agg #[.int .i8 x.k, .slice xa x.ks.length xc] : Value); refine (hcall1.out _ ?_).mono ?_; (repeat (first | assumption | exact Below.refl _ _ | apply below_drewN | apply Below.drew | (refine Below.alloc ?_ (by first | omega | (simp; done) | (simp; omega)) _) | (refine Below.setCell ?_ (by first | omega | (simp; done) | (simp; omega)) _))); rintro e w4 ⟨rfl, hb4⟩) | (go_at_call_of 17 (.agg #[.int .i8 y.k, .slice ya y.ks.length yc] : Value); refine (hcall2.out _ ?_).mono ?_; (repeat (first | assumption | exact Below.refl _ _ | apply below_drewN | apply Below.drew | (refine Below.alloc ?_ (by first | omega | (simp; done) | (simp; omega)) _) | (refine Below.setCell ?_ (by first | omega | (simp; done) | (simp; omega)) _))); rintro e w4 ⟨rfl, hb4⟩) | (go_at_call 127; refine (hwant0.out _ ?_).mono ?_; (repeat (first | assumption | exact Below.refl _ _ | apply below_drewN | apply Below.drew | (refine Below.alloc ?_ (by first | omega | (simp; done) | (simp; omega)) _) | (refine Below.setCell ?_ (by first | omega | (simp; done) | (simp; omega)) _))); rintro e w5 (⟨b1, rfl, hf⟩ | ⟨rfl, hno⟩); exact And.intro rfl (hfin.out w4 _ _ hb4 ⟨b1, rfl, hf⟩)))
      exact hno.out.elim
  · have hg1' : gradual.agrees x RTy.int = false := by simpa using hg1
    have E : gradual.flat t x y z = fault t 91 := by rw [hF.out, hg1']; rfl
    rw [hg1'] at hc1
    have hcall1 := Lib.hid hc1
    have hfin := Lib.hid (hfin0 E)
    clear hg1 hg1' hc1 hc2 hz1 hfin0 E
    refine wp_region_held_drew (S := fun v => v.cell? ⟨wb, 0, none⟩ = some (.func (.func 17) #[] #[]) ∧ v.cell? ⟨w.heap.size, 0, none⟩ = some (.int .i8 x.k) ∧ v.cell? ⟨w.heap.size, 1, none⟩ = some (.slice xa x.ks.length xc) ∧ v.cell? ⟨w.heap.size, 2, none⟩ = some (.int .i8 y.k) ∧ v.cell? ⟨w.heap.size, 3, none⟩ = some (.slice ya y.ks.length yc)) (by kernel_rfl) ?_ (fun hHeld => ?_)
    · refine hkeep.out _ ?_; (repeat (first | assumption | exact Below.refl _ _ | apply below_drewN | apply Below.drew | (refine Below.alloc ?_ (by first | omega | (simp; done) | (simp; omega)) _) | (refine Below.setCell ?_ (by first | omega | (simp; done) | (simp; omega)) _)))
    refine wpAnyH_take (i := 0) (v := ?_) rfl (by kernel_rfl) (by kernel_rfl) (by kernel_rfl) (fun _ _ _ h => h) (Or.inl ⟨by rfl, ?_⟩) (by assumption) ?_
    rotate_left
    · intro w hSw; (try dsimp only at hSw); go_simp; try with_reducible rfl
    try simp only [Act.put, List.setIfInBounds_toArray, List.set_cons_zero, List.set_cons_succ, List.getElem_toArray, List.getElem_cons_zero, List.getElem_cons_succ]
    refine wpAnyH_take (i := 1) (v := ?_) rfl (by kernel_rfl) (by kernel_rfl) (by kernel_rfl) (fun _ _ _ h => h) (Or.inl ⟨by rfl, ?_⟩) (by assumption) ?_
    rotate_left
    · intro w hSw; (try dsimp only at hSw); go_simp; try with_reducible rfl
    try simp only [Act.put, List.setIfInBounds_toArray, List.set_cons_zero, List.set_cons_succ, List.getElem_toArray, List.getElem_cons_zero, List.getElem_cons_succ]
    refine wpAnyH_take (i := 2) (v := ?_) rfl (by kernel_rfl) (by kernel_rfl) (by kernel_rfl) (fun _ _ _ h => h) (Or.inl ⟨by rfl, ?_⟩) (by assumption) ?_
    rotate_left
    · intro w hSw; (try dsimp only at hSw); go_simp; try with_reducible rfl
    try simp only [Act.put, List.setIfInBounds_toArray, List.set_cons_zero, List.set_cons_succ, List.getElem_toArray, List.getElem_cons_zero, List.getElem_cons_succ]
    refine wpAnyH_take (i := 3) (v := ?_) rfl (by kernel_rfl) (by kernel_rfl) (by kernel_rfl) (fun _ _ _ h => h) (Or.inl ⟨by rfl, ?_⟩) (by assumption) ?_
    rotate_left
    · intro w hSw; (try dsimp only at hSw); go_simp; try with_reducible rfl
    try simp only [Act.put, List.setIfInBounds_toArray, List.set_cons_zero, List.set_cons_succ, List.getElem_toArray, List.getElem_cons_zero, List.getElem_cons_succ]
    refine wpAnyH_take (i := 4) (v := ?_) rfl (by kernel_rfl) (by kernel_rfl) (by kernel_rfl) (fun _ _ _ h => h) (Or.inl ⟨by rfl, ?_⟩) (by assumption) ?_
    rotate_left
    · intro w hSw; (try dsimp only at hSw); go_simp; try with_reducible rfl
    try simp only [Act.put, List.setIfInBounds_toArray, List.set_cons_zero, List.set_cons_succ, List.getElem_toArray, List.getElem_cons_zero, List.getElem_cons_succ]
    refine wpAnyH_take (i := 5) (v := ?_) rfl (by kernel_rfl) (by kernel_rfl) (by kernel_rfl) (fun _ _ _ h => h) (Or.inl ⟨by rfl, ?_⟩) (by assumption) ?_
    rotate_left
    · intro w hSw; (try dsimp only at hSw); go_simp; try with_reducible rfl
    try simp only [Act.put, List.setIfInBounds_toArray, List.set_cons_zero, List.set_cons_succ, List.getElem_toArray, List.getElem_cons_zero, List.getElem_cons_succ]
    refine wpAnyH_take (i := 6) (v := ?_) rfl (by kernel_rfl) (by kernel_rfl) (by kernel_rfl) (fun _ _ _ h => h) (Or.inl ⟨by rfl, ?_⟩) (by assumption) ?_
    rotate_left
    · intro w hSw; (try dsimp only at hSw); go_simp; try with_reducible rfl
    try simp only [Act.put, List.setIfInBounds_toArray, List.set_cons_zero, List.set_cons_succ, List.getElem_toArray, List.getElem_cons_zero, List.getElem_cons_succ]
    refine wpAnyH_ready (rs := [7]) (by kernel_rfl) (by simp) ?_
    refine AllReadyH.cons rfl (fun K hK => ?_) AllReadyH.nil
    go_simp
    go_at_call 123
    refine (hnum.out _ ?_).mono ?_
    · (repeat (first | assumption | exact Below.refl _ _ | apply below_drewN | apply Below.drew | (refine Below.alloc ?_ (by first | omega | (simp; done) | (simp; omega)) _) | (refine Below.setCell ?_ (by first | omega | (simp; done) | (simp; omega)) _)))
    rintro e w6 ⟨rfl, hb6⟩
    refine hK.out _ _ ?_ (fun hHeld => ?_)
    · refine hkeep.out _ ?_; (repeat (first | assumption | exact Below.refl _ _ | apply below_drewN | apply Below.drew | (refine Below.alloc ?_ (by first | omega | (simp; done) | (simp; omega)) _) | (refine Below.setCell ?_ (by first | omega | (simp; done) | (simp; omega)) _)))
    clear hK K
    try simp only [Act.put, List.setIfInBounds_toArray, List.set_cons_zero, List.set_cons_succ, List.getElem_toArray, List.getElem_cons_zero, List.getElem_cons_succ]
    refine wpAnyH_ready (rs := [8]) (by kernel_rfl) (by simp) ?_
    refine AllReadyH.cons rfl (fun K hK => ?_) AllReadyH.nil
    go_simp
    go_at_call_of 17 (.agg #[.int .i8 x.k, .slice xa x.ks.length xc] : Value)
    refine (hcall1.out _ ?_).mono ?_
    · (repeat (first | assumption | exact Below.refl _ _ | apply below_drewN | apply Below.drew | (refine Below.alloc ?_ (by first | omega | (simp; done) | (simp; omega)) _) | (refine Below.setCell ?_ (by first | omega | (simp; done) | (simp; omega)) _)))
    rintro e w4 ⟨rfl, hb4⟩
    refine hK.out _ _ ?_ (fun hHeld => ?_)
    · refine hkeep.out _ ?_; (repeat (first | assumption | exact Below.refl _ _ | apply below_drewN | apply Below.drew | (refine Below.alloc ?_ (by first | omega | (simp; done) | (simp; omega)) _) | (refine Below.setCell ?_ (by first | omega | (simp; done) | (simp; omega)) _)))
    clear hK K
    try simp only [Act.put, List.setIfInBounds_toArray, List.set_cons_zero, List.set_cons_succ, List.getElem_toArray, List.getElem_cons_zero, List.getElem_cons_succ]
    refine wpAnyH_take (i := 9) (v := ?_) rfl (by kernel_rfl) (by kernel_rfl) (by kernel_rfl) (fun _ _ _ h => h) (Or.inl ⟨by rfl, ?_⟩) (by assumption) ?_
    rotate_left
    · intro w hSw; (try dsimp only at hSw); go_simp; try with_reducible rfl
    try simp only [Act.put, List.setIfInBounds_toArray, List.set_cons_zero, List.set_cons_succ, List.getElem_toArray, List.getElem_cons_zero, List.getElem_cons_succ]
    refine wpAnyH_off (i := 10) rfl (by kernel_rfl) (by kernel_rfl) (by kernel_rfl) (fun _ _ _ h => h) (by rfl) (by rfl) (by assumption) ?_
    try simp only [Act.put, List.setIfInBounds_toArray, List.set_cons_zero, List.set_cons_succ, List.getElem_toArray, List.getElem_cons_zero, List.getElem_cons_succ]
    refine wpAnyH_off (i := 11) rfl (by kernel_rfl) (by kernel_rfl) (by kernel_rfl) (fun _ _ _ h => h) (by rfl) (by rfl) (by assumption) ?_
    try simp only [Act.put, List.setIfInBounds_toArray, List.set_cons_zero, List.set_cons_succ, List.getElem_toArray, List.getElem_cons_zero, List.getElem_cons_succ]
    refine wpAnyH_off (i := 12) rfl (by kernel_rfl) (by kernel_rfl) (by kernel_rfl) (fun _ _ _ h => h) (by rfl) (by rfl) (by assumption) ?_
    try simp only [Act.put, List.setIfInBounds_toArray, List.set_cons_zero, List.set_cons_succ, List.getElem_toArray, List.getElem_cons_zero, List.getElem_cons_succ]
    refine wpAnyH_off (i := 13) rfl (by kernel_rfl) (by kernel_rfl) (by kernel_rfl) (fun _ _ _ h => h) (by rfl) (by rfl) (by assumption) ?_
    try simp only [Act.put, List.setIfInBounds_toArray, List.set_cons_zero, List.set_cons_succ, List.getElem_toArray, List.getElem_cons_zero, List.getElem_cons_succ]
    refine wpAnyH_off (i := 14) rfl (by kernel_rfl) (by kernel_rfl) (by kernel_rfl) (fun _ _ _ h => h) (by rfl) (by rfl) (by assumption) ?_
    try simp only [Act.put, List.setIfInBounds_toArray, List.set_cons_zero, List.set_cons_succ, List.getElem_toArray, List.getElem_cons_zero, List.getElem_cons_succ]
    refine wpAnyH_off (i := 15) rfl (by kernel_rfl) (by kernel_rfl) (by kernel_rfl) (fun _ _ _ h => h) (by rfl) (by rfl) (by assumption) ?_
    try simp only [Act.put, List.setIfInBounds_toArray, List.set_cons_zero, List.set_cons_succ, List.getElem_toArray, List.getElem_cons_zero, List.getElem_cons_succ]
    refine wpAnyH_off (i := 16) rfl (by kernel_rfl) (by kernel_rfl) (by kernel_rfl) (fun _ _ _ h => h) (by rfl) (by rfl) (by assumption) ?_
    try simp only [Act.put, List.setIfInBounds_toArray, List.set_cons_zero, List.set_cons_succ, List.getElem_toArray, List.getElem_cons_zero, List.getElem_cons_succ]
    refine wpAnyH_off (i := 17) rfl (by kernel_rfl) (by kernel_rfl) (by kernel_rfl) (fun _ _ _ h => h) (by rfl) (by rfl) (by assumption) ?_
    try simp only [Act.put, List.setIfInBounds_toArray, List.set_cons_zero, List.set_cons_succ, List.getElem_toArray, List.getElem_cons_zero, List.getElem_cons_succ]
    refine wpAnyH_take (i := 18) (v := ?_) rfl (by kernel_rfl) (by kernel_rfl) (by kernel_rfl) (fun _ _ _ h => h) (Or.inl ⟨by rfl, ?_⟩) (by assumption) ?_
    rotate_left
    · intro w hSw; (try dsimp only at hSw); go_simp; try with_reducible rfl
    try simp only [Act.put, List.setIfInBounds_toArray, List.set_cons_zero, List.set_cons_succ, List.getElem_toArray, List.getElem_cons_zero, List.getElem_cons_succ]
    refine wpAnyH_ready (rs := [19]) (by kernel_rfl) (by simp) ?_
    refine AllReadyH.cons rfl (fun K hK => ?_) AllReadyH.nil
    go_simp
    go_at_call 127
    refine (hwant0.out _ ?_).mono ?_
    · (repeat (first | assumption | exact Below.refl _ _ | apply below_drewN | apply Below.drew | (refine Below.alloc ?_ (by first | omega | (simp; done) | (simp; omega)) _) | (refine Below.setCell ?_ (by first | omega | (simp; done) | (simp; omega)) _)))
    rintro e w5 (⟨b1, rfl, hf⟩ | ⟨rfl, hno⟩)
    · exact And.intro rfl (hfin.out w4 _ _ hb4 ⟨b1, rfl, hf⟩)
    · exact hno.out.elim
end Go.Proofs.Ytaoodchjggimcaa

/- The walk of package rules' flat, by the words of package check: terms of kind 16. -/
set_option linter.unusedVariables false
set_option linter.unusedSimpArgs false
namespace Go.Proofs.Ytaoodchjggimcaa
open Go.RowKit

set_option maxRecDepth 100000 in
set_option maxHeartbeats 4000000 in
theorem flat16_c (t : RTm) (B b o : Nat) (s : TmSh) (wb : Nat) (x y z : RTy) (S : Nat → Prop) (xa ya za : Option Addr) (xc yc zc : Nat) (w : World) (hwd : WordsAt w B wb 17 40 41 17) (hat : RTm.At w B b o s t) (hB : B ≤ w.heap.size) (hS : ∀ b, S b → b < w.heap.size) (hBS : ∀ b, b < B → S b)
    (hx : x.InS w S xa) (hy : y.InS w S ya) (hz : z.InS w S za) (hrx : x.right = true) (hkind : t.k = 16) :
    Calls Try.prog 131 #[.pointer (some ⟨wb, 0, none⟩), .pointer (some ⟨b, o, none⟩), .agg #[.int .i8 x.k, .slice xa x.ks.length xc, .int .i8 y.k, .slice ya y.ks.length yc, .int .i8 z.k, .slice za z.ks.length zc]] w (GetsTy S (gradual.flat t x y z) w) := by
  have k0 := hat.c0
  rw [hkind] at k0
  have hwl := hwd.lt
  have hbl : b < w.heap.size := by have := hat.lt; omega
  go_enter Try.func131, Try.ntmps131
  go_upto_region 26 with fail
  generalize hW : World.alloc _ _ = w1
  have hb1 : Below w.heap.size w w1 := by rw [← hW]; (repeat (first | assumption | exact Below.refl _ _ | apply below_drewN | apply Below.drew | (refine Below.alloc ?_ (by first | omega | (simp; done) | (simp; omega)) _) | (refine Below.setCell ?_ (by first | omega | (simp; done) | (simp; omega)) _)))
  have hz1 : w1.heap.size = w.heap.size + 1 + 1 := by rw [← hW]; simp
  have p0 : w1.cell? ⟨w.heap.size, 0, none⟩ = some (.int .i8 x.k) := by rw [← hW]; simp [go_sem]
  have p1 : w1.cell? ⟨w.heap.size, 1, none⟩ = some (.slice xa x.ks.length xc) := by rw [← hW]; simp [go_sem]
  have p2 : w1.cell? ⟨w.heap.size, 2, none⟩ = some (.int .i8 y.k) := by rw [← hW]; simp [go_sem]
  have p3 : w1.cell? ⟨w.heap.size, 3, none⟩ = some (.slice ya y.ks.length yc) := by rw [← hW]; simp [go_sem]
  have p4 : w1.cell? ⟨w.heap.size, 4, none⟩ = some (.int .i8 z.k) := by rw [← hW]; simp [go_sem]
  have p5 : w1.cell? ⟨w.heap.size, 5, none⟩ = some (.slice za z.ks.length zc) := by rw [← hW]; simp [go_sem]
  have m0 : w1.cell? ⟨w.heap.size + 1, 0, none⟩ = some (.int .i8 0) := by rw [← hW]; simp [go_sem]
  have m1 : w1.cell? ⟨w.heap.size + 1, 1, none⟩ = some (.slice none 0 0) := by rw [← hW]; simp [go_sem]
  have f0 : w1.frozen? ⟨w.heap.size + 1, 0, none⟩ = false := by rw [← hW]; simp [go_sem]
  have f1 : w1.frozen? ⟨w.heap.size + 1, 1, none⟩ = false := by rw [← hW]; simp [go_sem]
  clear hW
  have hS1 : ∀ b, S b → b < w1.heap.size := fun b hb => by have := hS b hb; omega
  have HK := Lib.hid hkind
  have HX := hx.below hb1 hS
  have HY := hy.below hb1 hS
  have HZ := hz.below hb1 hS
  have hat1 := hat.below hb1 hB
  have hwd1 := hwd.below hb1 hB
  have HTY : t.ty.InS w1 S s.ta := RTy.InS.up hat1.inn.ty hBS
  have HTO : t.to.InS w1 S s.oa := RTy.InS.up hat1.inn.to hBS
  have t4 := hat1.c4
  have t5 := hat1.c5
  have t6 := hat1.c6
  have t7 := hat1.c7
  have t1 := hat1.c1
  clear hkind hx hy hz k0
  have hF : Hid (gradual.flat t x y z = if gradual.agrees x t.ty then .ok t.ty else fault t 91) := by show _ = _; simp [Mode.flat, HK.out]
  have HZ3 := Lib.hid hz1
  have a0 := hwd1.c0
  have hkeep := Lib.hid fun (W : World) (hW : Below w1.heap.size w1 W) => And.intro (cell_kept hW a0) (And.intro (cell_kept hW p0) (And.intro (cell_kept hW p1) (And.intro (cell_kept hW t4) (cell_kept hW t5))))
  have hc0 : ∀ (W : World), Below w1.heap.size w1 W → Calls Try.prog 17 #[.agg #[.int .i8 x.k, .slice xa x.ks.length xc], .agg #[.int .i8 t.ty.k, .slice s.ta t.ty.ks.length s.tc]] W fun e w' => e = .returned (.bool (gradual.agrees x t.ty)) ∧ Below w1.heap.size w1 w' := fun W hW => (agrees_c x t.ty w1.heap.size _ _ _ _ W (RTy.In.below (RTy.InS.up HX hS1) hW (Nat.le_refl _)) (RTy.In.below (RTy.InS.up HTY hS1) hW (Nat.le_refl _)) hW.size).mono fun e w' h => And.intro h.1 (hW.trans (h.2.mono hW.size))
  have HA := Lib.hid hat1
  have hBW : B ≤ w1.heap.size := by omega
  have hwant0 := Lib.hid fun (W : World) (hW : Below w1.heap.size w1 W) => (want_no t B b o s 91 W (HA.out.below hW hBW) (Nat.le_trans hBW hW.size)).mono fun e w' h => (show Fails ⟨91, t.spot, ⟨#[]⟩⟩ W e w' ∨ (e = .returned (.tuple #[]) ∧ Hid False) from .inl h)
  by_cases hag : gradual.agrees x t.ty = true
  · have E : Hid (gradual.flat t x y z = .ok t.ty) := by show _ = _; rw [hF.out, if_pos hag]
    rw [hag] at hc0
    have hcall := Lib.hid hc0
    clear hag hc0 hz1
    go_region_held3 (fun v => v.cell? ⟨wb, 0, none⟩ = some (.func (.func 17) #[] #[]) ∧ v.cell? ⟨w.heap.size, 0, none⟩ = some (.int .i8 x.k) ∧ v.cell? ⟨w.heap.size, 1, none⟩ = some (.slice xa x.ks.length xc) ∧ v.cell? ⟨b, o + 4, none⟩ = some (.int .i8 t.ty.k) ∧ v.cell? ⟨b, o + 5, none⟩ = some (.slice s.ta t.ty.ks.length s.tc)) (first | (refine hkeep.out _ ?_; (repeat (first | assumption | exact Below.refl _ _ | apply below_drewN | apply Below.drew | (refine Below.alloc ?_ (by first | omega | (simp; done) | (simp; omega)) _) | (refine Below.setCell ?_ (by first | omega | (simp; done) | (simp; omega)) _))))) (first | (go_at_call 17; refine (hcall.out _ ?_).mono ?_; (repeat (first | assumption | exact Below.refl _ _ | apply below_drewN | apply Below.drew | (refine Below.alloc ?_ (by first | omega | (simp; done) | (simp; omega)) _) | (refine Below.setCell ?_ (by first | omega | (simp; done) | (simp; omega)) _))); rintro e w4 ⟨rfl, hb4⟩) | (go_at_call 127; refine (want_yes b o _ _).mono ?_; rintro e _ ⟨rfl, rfl⟩))
    have hz1 := HZ3.out
    have hs4 := hb4.size
    have p0 := cell_kept hb4 p0
    have p1 := cell_kept hb4 p1
    have p2 := cell_kept hb4 p2
    have p3 := cell_kept hb4 p3
    have p4 := cell_kept hb4 p4
    have p5 := cell_kept hb4 p5
    have m0 := cell_kept hb4 m0
    have m1 := cell_kept hb4 m1
    have t1 := cell_kept hb4 t1
    have t4 := cell_kept hb4 t4
    have t5 := cell_kept hb4 t5
    have t6 := cell_kept hb4 t6
    have t7 := cell_kept hb4 t7
    have f0 := frozen_kept hb4 (by omega) f0
    have f1 := frozen_kept hb4 (by omega) f1
    have hbw4 : Below w.heap.size w w4 := hb1.trans (hb4.mono (by omega))
    have hwd4 := hwd.below hbw4 hB
    have hat4 := hat.below hbw4 hB
    have HX := RTy.InS.below HX hb4 hS1
    have HY := RTy.InS.below HY hb4 hS1
    have HZ := RTy.InS.below HZ hb4 hS1
    have HTY := RTy.InS.below HTY hb4 hS1
    have hS4 : ∀ b, S b → b < w4.heap.size := fun b hb => by have := hS1 b hb; omega
    clear hkeep a0
    go_wp2_with fail
    refine bodyPost_ret (v := .agg #[.int .i8 t.ty.k, .slice s.ta t.ty.ks.length s.tc]) (by simp [results, Try.results131, go_sem, m0, m1]) rfl ?_
    rw [E.out]
    exact GetsTy.stored0 hS HTY hbw4 (by omega) (by omega)
  · have hag' : gradual.agrees x t.ty = false := by simpa using hag
    have E : Hid (gradual.flat t x y z = fault t 91) := by show _ = _; rw [hF.out, if_neg hag]
    rw [hag'] at hc0
    have hcall := Lib.hid hc0
    have hfin := Lib.hid fun (W : World) (e : Ending) (w' : World) (hW : Below w1.heap.size w1 W) (hf : Fails ⟨91, t.spot, ⟨#[]⟩⟩ W e w') => (show GetsTy S (gradual.flat t x y z) w e w' from by rw [E.out]; exact Fails.mono hf (hb1.trans (hW.mono (by omega))))
    clear hag hag' hc0 hz1
    go_region_held2 (fun v => v.cell? ⟨wb, 0, none⟩ = some (.func (.func 17) #[] #[]) ∧ v.cell? ⟨w.heap.size, 0, none⟩ = some (.int .i8 x.k) ∧ v.cell? ⟨w.heap.size, 1, none⟩ = some (.slice xa x.ks.length xc) ∧ v.cell? ⟨b, o + 4, none⟩ = some (.int .i8 t.ty.k) ∧ v.cell? ⟨b, o + 5, none⟩ = some (.slice s.ta t.ty.ks.length s.tc)) (first | exact hno.out.elim | (refine hkeep.out _ ?_; (repeat (first | assumption | exact Below.refl _ _ | apply below_drewN | apply Below.drew | (refine Below.alloc ?_ (by first | omega | (simp; done) | (simp; omega)) _) | (refine Below.setCell ?_ (by first | omega | (simp; done) | (simp; omega)) _))))) (first | (go_at_call 17; refine (hcall.out _ ?_).mono ?_; (repeat (first | assumption | exact Below.refl _ _ | apply below_drewN | apply Below.drew | (refine Below.alloc ?_ (by first | omega | (simp; done) | (simp; omega)) _) | (refine Below.setCell ?_ (by first | omega | (simp; done) | (simp; omega)) _))); rintro e w4 ⟨rfl, hb4⟩) | (go_at_call 127; refine (hwant0.out _ ?_).mono ?_; (repeat (first | assumption | exact Below.refl _ _ | apply below_drewN | apply Below.drew | (refine Below.alloc ?_ (by first | omega | (simp; done) | (simp; omega)) _) | (refine Below.setCell ?_ (by first | omega | (simp; done) | (simp; omega)) _))); rintro e w5 (⟨b1, rfl, hf⟩ | ⟨rfl, hno⟩); exact And.intro rfl (hfin.out w4 _ _ hb4 ⟨b1, rfl, hf⟩)))
    exact hno.out.elim
end Go.Proofs.Ytaoodchjggimcaa

/- The walk of package rules' flat, by the words of package check: terms of kind 17. -/
set_option linter.unusedVariables false
set_option linter.unusedSimpArgs false
namespace Go.Proofs.Ytaoodchjggimcaa
open Go.RowKit

set_option maxRecDepth 100000 in
set_option maxHeartbeats 4000000 in
theorem flat17_c (t : RTm) (B b o : Nat) (s : TmSh) (wb : Nat) (x y z : RTy) (S : Nat → Prop) (xa ya za : Option Addr) (xc yc zc : Nat) (w : World) (hwd : WordsAt w B wb 17 40 41 17) (hat : RTm.At w B b o s t) (hB : B ≤ w.heap.size) (hS : ∀ b, S b → b < w.heap.size) (hBS : ∀ b, b < B → S b)
    (hx : x.InS w S xa) (hy : y.InS w S ya) (hz : z.InS w S za) (hrx : x.right = true) (hkind : t.k = 17) :
    Calls Try.prog 131 #[.pointer (some ⟨wb, 0, none⟩), .pointer (some ⟨b, o, none⟩), .agg #[.int .i8 x.k, .slice xa x.ks.length xc, .int .i8 y.k, .slice ya y.ks.length yc, .int .i8 z.k, .slice za z.ks.length zc]] w (GetsTy S (gradual.flat t x y z) w) := by
  have k0 := hat.c0
  rw [hkind] at k0
  have hwl := hwd.lt
  have hbl : b < w.heap.size := by have := hat.lt; omega
  go_enter Try.func131, Try.ntmps131
  go_upto_region 29 with fail
  generalize hW : World.alloc _ _ = w1
  have hb1 : Below w.heap.size w w1 := by rw [← hW]; (repeat (first | assumption | exact Below.refl _ _ | apply below_drewN | apply Below.drew | (refine Below.alloc ?_ (by first | omega | (simp; done) | (simp; omega)) _) | (refine Below.setCell ?_ (by first | omega | (simp; done) | (simp; omega)) _)))
  have hz1 : w1.heap.size = w.heap.size + 1 + 1 := by rw [← hW]; simp
  have p0 : w1.cell? ⟨w.heap.size, 0, none⟩ = some (.int .i8 x.k) := by rw [← hW]; simp [go_sem]
  have p1 : w1.cell? ⟨w.heap.size, 1, none⟩ = some (.slice xa x.ks.length xc) := by rw [← hW]; simp [go_sem]
  have p2 : w1.cell? ⟨w.heap.size, 2, none⟩ = some (.int .i8 y.k) := by rw [← hW]; simp [go_sem]
  have p3 : w1.cell? ⟨w.heap.size, 3, none⟩ = some (.slice ya y.ks.length yc) := by rw [← hW]; simp [go_sem]
  have p4 : w1.cell? ⟨w.heap.size, 4, none⟩ = some (.int .i8 z.k) := by rw [← hW]; simp [go_sem]
  have p5 : w1.cell? ⟨w.heap.size, 5, none⟩ = some (.slice za z.ks.length zc) := by rw [← hW]; simp [go_sem]
  have m0 : w1.cell? ⟨w.heap.size + 1, 0, none⟩ = some (.int .i8 0) := by rw [← hW]; simp [go_sem]
  have m1 : w1.cell? ⟨w.heap.size + 1, 1, none⟩ = some (.slice none 0 0) := by rw [← hW]; simp [go_sem]
  have f0 : w1.frozen? ⟨w.heap.size + 1, 0, none⟩ = false := by rw [← hW]; simp [go_sem]
  have f1 : w1.frozen? ⟨w.heap.size + 1, 1, none⟩ = false := by rw [← hW]; simp [go_sem]
  clear hW
  have hS1 : ∀ b, S b → b < w1.heap.size := fun b hb => by have := hS b hb; omega
  have HK := Lib.hid hkind
  have HX := hx.below hb1 hS
  have HY := hy.below hb1 hS
  have HZ := hz.below hb1 hS
  have hat1 := hat.below hb1 hB
  have hwd1 := hwd.below hb1 hB
  have HTY : t.ty.InS w1 S s.ta := RTy.InS.up hat1.inn.ty hBS
  have HTO : t.to.InS w1 S s.oa := RTy.InS.up hat1.inn.to hBS
  have t4 := hat1.c4
  have t5 := hat1.c5
  have t6 := hat1.c6
  have t7 := hat1.c7
  have t1 := hat1.c1
  clear hkind hx hy hz k0
  have hF : Hid (gradual.flat t x y z = if x.same t.ty && gradual.fits t.ty t.to then .ok t.to else fault t 91) := by show _ = _; simp [Mode.flat, HK.out]
  have a0 := hwd1.c3
  have hkeep := Lib.hid fun (W : World) (hW : Below w1.heap.size w1 W) => And.intro (cell_kept hW a0) (And.intro (cell_kept hW p0) (And.intro (cell_kept hW p1) (And.intro (cell_kept hW t4) (And.intro (cell_kept hW t5) (And.intro (cell_kept hW t6) (cell_kept hW t7))))))
  have hc1 : ∀ (W : World), Below w1.heap.size w1 W → Calls Try.prog 18 #[.agg #[.int .i8 x.k, .slice xa x.ks.length xc], .agg #[.int .i8 t.ty.k, .slice s.ta t.ty.ks.length s.tc]] W fun e w' => e = .returned (.bool (x.same t.ty)) ∧ Below w1.heap.size w1 w' := fun W hW => (tsame_any x t.ty w1.heap.size _ _ _ _ W (RTy.In.below (RTy.InS.up HX hS1) hW (Nat.le_refl _)) (RTy.In.below (RTy.InS.up HTY hS1) hW (Nat.le_refl _)) hW.size).mono fun e w' h => And.intro h.1 (hW.trans (h.2.mono hW.size))
  have hc2 : ∀ (W : World), Below w1.heap.size w1 W → Calls Try.prog 17 #[.agg #[.int .i8 t.ty.k, .slice s.ta t.ty.ks.length s.tc], .agg #[.int .i8 t.to.k, .slice s.oa t.to.ks.length s.oc]] W fun e w' => e = .returned (.bool (gradual.fits t.ty t.to)) ∧ Below w1.heap.size w1 w' := fun W hW => (fits_c t.ty t.to w1.heap.size _ _ _ _ W (RTy.In.below (RTy.InS.up HTY hS1) hW (Nat.le_refl _)) (RTy.In.below (RTy.InS.up HTO hS1) hW (Nat.le_refl _)) hW.size).mono fun e w' h => And.intro h.1 (hW.trans (h.2.mono hW.size))
  have hnum := Lib.hid fun (W : World) (hW : Below w1.heap.size w1 W) => (number_any W).mono fun e w' h => And.intro h.1 (hW.trans (h.2.mono hW.size))
  have HA := Lib.hid hat1
  have hBW : B ≤ w1.heap.size := by omega
  have hwant0 := Lib.hid fun (W : World) (hW : Below w1.heap.size w1 W) => (want_no t B b o s 91 W (HA.out.below hW hBW) (Nat.le_trans hBW hW.size)).mono fun e w' h => (show Fails ⟨91, t.spot, ⟨#[]⟩⟩ W e w' ∨ (e = .returned (.tuple #[]) ∧ Hid False) from .inl h)
  have hfin0 : gradual.flat t x y z = fault t 91 → ∀ (W : World) (e : Ending) (w' : World), Below w1.heap.size w1 W → Fails ⟨91, t.spot, ⟨#[]⟩⟩ W e w' → GetsTy S (gradual.flat t x y z) w e w' := fun E W e w' hW hf => by rw [E]; exact Fails.mono hf (hb1.trans (hW.mono (by omega)))
  have HZ1 := Lib.hid hz1
  by_cases hg1 : x.same t.ty = true
  · rw [hg1] at hc1
    have hcall1 := Lib.hid hc1
    by_cases hg2 : gradual.fits t.ty t.to = true
    · have E : Hid (gradual.flat t x y z = .ok t.to) := by show _ = _; rw [hF.out, hg1, hg2]; rfl
      rw [hg2] at hc2
      have hcall2 := Lib.hid hc2
      clear hg1 hg2 hc1 hc2 hz1 hfin0
      go_region_held3 (fun v => v.cell? ⟨wb, 3, none⟩ = some (.func (.func 17) #[] #[]) ∧ v.cell? ⟨w.heap.size, 0, none⟩ = some (.int .i8 x.k) ∧ v.cell? ⟨w.heap.size, 1, none⟩ = some (.slice xa x.ks.length xc) ∧ v.cell? ⟨b, o + 4, none⟩ = some (.int .i8 t.ty.k) ∧ v.cell? ⟨b, o + 5, none⟩ = some (.slice s.ta t.ty.ks.length s.tc) ∧ v.cell? ⟨b, o + 6, none⟩ = some (.int .i8 t.to.k) ∧ v.cell? ⟨b, o + 7, none⟩ = some (.slice s.oa t.to.ks.length s.oc)) (first | (refine hkeep.out _ ?_; (repeat (first | assumption | exact Below.refl _ _ | apply below_drewN | apply Below.drew | (refine Below.alloc ?_ (by first | omega | (simp; done) | (simp; omega)) _) | (refine Below.setCell ?_ (by first | omega | (simp; done) | (simp; omega)) _))))) (first | (go_at_call_of 18 (.agg #[.int .i8 x.k, .slice xa x.ks.length xc] : Value); refine (hcall1.out _ ?_).mono ?_; (repeat (first | assumption | exact Below.refl _ _ | apply below_drewN | apply Below.drew | (refine Below.alloc ?_ (by first | omega | (simp; done) | (simp; omega)) _) | (refine Below.setCell ?_ (by first | omega | (simp; done) | (simp; omega)) _))); rintro e w4 ⟨rfl, hb4⟩) | (go_at_call_of 17 (.agg #[.int .i8 t.ty.k, .slice s.ta t.ty.ks.length s.tc] : Value); refine (hcall2.out _ ?_).mono ?_; (repeat (first | assumption | exact Below.refl _ _ | apply below_drewN | apply Below.drew | (refine Below.alloc ?_ (by first | omega | (simp; done) | (simp; omega)) _) | (refine Below.setCell ?_ (by first | omega | (simp; done) | (simp; omega)) _))); rintro e w4 ⟨rfl, hb4⟩) | (go_at_call 127; refine (want_yes b o _ _).mono ?_; rintro e _ ⟨rfl, rfl⟩))
      have hz1 := HZ1.out
      have hs4 := hb4.size
      have p0 := cell_kept hb4 p0
      have p1 := cell_kept hb4 p1
      have p2 := cell_kept hb4 p2
      have p3 := cell_kept hb4 p3
      have p4 := cell_kept hb4 p4
      have p5 := cell_kept hb4 p5
      have m0 := cell_kept hb4 m0
      have m1 := cell_kept hb4 m1
      have t1 := cell_kept hb4 t1
      have t4 := cell_kept hb4 t4
      have t5 := cell_kept hb4 t5
      have t6 := cell_kept hb4 t6
      have t7 := cell_kept hb4 t7
      have f0 := frozen_kept hb4 (by omega) f0
      have f1 := frozen_kept hb4 (by omega) f1
      have hbw4 : Below w.heap.size w w4 := hb1.trans (hb4.mono (by omega))
      have hwd4 := hwd.below hbw4 hB
      have hat4 := hat.below hbw4 hB
      have HX := RTy.InS.below HX hb4 hS1
      have HY := RTy.InS.below HY hb4 hS1
      have HZ := RTy.InS.below HZ hb4 hS1
      have HTY := RTy.InS.below HTY hb4 hS1
      have hS4 : ∀ b, S b → b < w4.heap.size := fun b hb => by have := hS1 b hb; omega
      have HTO := RTy.InS.below HTO hb4 hS1
      clear hkeep a0
      go_wp2_with fail
      refine bodyPost_ret (v := .agg #[.int .i8 t.to.k, .slice s.oa t.to.ks.length s.oc]) (by simp [results, Try.results131, go_sem, m0, m1]) rfl ?_
      rw [E.out]
      exact GetsTy.stored0 hS HTO hbw4 (by omega) (by omega)
    · have hg2' : gradual.fits t.ty t.to = false := by simpa using hg2
      have E : gradual.flat t x y z = fault t 91 := by rw [hF.out, hg1, hg2']; rfl
      rw [hg2'] at hc2
      have hcall2 := Lib.hid hc2
      have hfin := Lib.hid (hfin0 E)
      clear hg1 hg2 hg2' hc1 hc2 hz1 hfin0 E
      go_region_held2 (fun v => v.cell? ⟨wb, 3, none⟩ = some (.func (.func 17) #[] #[]) ∧ v.cell? ⟨w.heap.size, 0, none⟩ = some (.int .i8 x.k) ∧ v.cell? ⟨w.heap.size, 1, none⟩ = some (.slice xa x.ks.length xc) ∧ v.cell? ⟨b, o + 4, none⟩ = some (.int .i8 t.ty.k) ∧ v.cell? ⟨b, o + 5, none⟩ = some (.slice s.ta t.ty.ks.length s.tc) ∧ v.cell? ⟨b, o + 6, none⟩ = some (.int .i8 t.to.k) ∧ v.cell? ⟨b, o + 7, none⟩ = some (.slice s.oa t.to.ks.length s.oc)) (first | exact hno.out.elim | (refine hkeep.out _ ?_; (repeat (first | assumption | exact Below.refl _ _ | apply below_drewN | apply Below.drew | (refine Below.alloc ?_ (by first | omega | (simp; done) | (simp; omega)) _) | (refine Below.setCell ?_ (by first | omega | (simp; done) | (simp; omega)) _))))) (first | (go_at_call_of 18 (.agg #[.int .i8 x.k, .slice xa x.ks.length xc] : Value); refine (hcall1.out _ ?_).mono ?_; (repeat (first | assumption | exact Below.refl _ _ | apply below_drewN | apply Below.drew | (refine Below.alloc ?_ (by first | omega | (simp; done) | (simp; omega)) _) | (refine Below.setCell ?_ (by first | omega | (simp; done) | (simp; omega)) _))); rintro e w4 ⟨rfl, hb4⟩) | (go_at_call_of 17 (.agg #[.int .i8 t.ty.k, .slice s.ta t.ty.ks.length s.tc] : Value); refine (hcall2.out _ ?_).mono ?_; (repeat (first | assumption | exact Below.refl _ _ | apply below_drewN | apply Below.drew | (refine Below.alloc ?_ (by first | omega | (simp; done) | (simp; omega)) _) | (refine Below.setCell ?_ (by first | omega | (simp; done) | (simp; omega)) _))); rintro e w4 ⟨rfl, hb4⟩) | (go_at_call 127; refine (hwant0.out _ ?_).mono ?_; (repeat (first | assumption | exact Below.refl _ _ | apply below_drewN | apply Below.drew | (refine Below.alloc ?_ (by first | omega | (simp; done) | (simp; omega)) _) | (refine Below.setCell ?_ (by first | omega | (simp; done) | (simp; omega)) _))); rintro e w5 (⟨b1, rfl, hf⟩ | ⟨rfl, hno⟩); exact And.intro rfl (hfin.out w4 _ _ hb4 ⟨b1, rfl, hf⟩)))
      exact hno.out.elim
  · have hg1' : x.same t.ty = false := by simpa using hg1
    have E : gradual.flat t x y z = fault t 91 := by rw [hF.out, hg1']; rfl
    rw [hg1'] at hc1
    have hcall1 := Lib.hid hc1
    have hfin := Lib.hid (hfin0 E)
    clear hg1 hg1' hc1 hc2 hz1 hfin0 E
    refine wp_region_held_drew (S := fun v => v.cell? ⟨wb, 3, none⟩ = some (.func (.func 17) #[] #[]) ∧ v.cell? ⟨w.heap.size, 0, none⟩ = some (.int .i8 x.k) ∧ v.cell? ⟨w.heap.size, 1, none⟩ = some (.slice xa x.ks.length xc) ∧ v.cell? ⟨b, o + 4, none⟩ = some (.int .i8 t.ty.k) ∧ v.cell? ⟨b, o + 5, none⟩ = some (.slice s.ta t.ty.ks.length s.tc) ∧ v.cell? ⟨b, o + 6, none⟩ = some (.int .i8 t.to.k) ∧ v.cell? ⟨b, o + 7, none⟩ = some (.slice s.oa t.to.ks.length s.oc)) (by kernel_rfl) ?_ (fun hHeld => ?_)
    · refine hkeep.out _ ?_; (repeat (first | assumption | exact Below.refl _ _ | apply below_drewN | apply Below.drew | (refine Below.alloc ?_ (by first | omega | (simp; done) | (simp; omega)) _) | (refine Below.setCell ?_ (by first | omega | (simp; done) | (simp; omega)) _)))
    refine wpAnyH_take (i := 0) (v := ?_) rfl (by kernel_rfl) (by kernel_rfl) (by kernel_rfl) (fun _ _ _ h => h) (Or.inl ⟨by rfl, ?_⟩) (by assumption) ?_
    rotate_left
    · intro w hSw; (try dsimp only at hSw); go_simp; try with_reducible rfl
    try simp only [Act.put, List.setIfInBounds_toArray, List.set_cons_zero, List.set_cons_succ, List.getElem_toArray, List.getElem_cons_zero, List.getElem_cons_succ]
    refine wpAnyH_take (i := 1) (v := ?_) rfl (by kernel_rfl) (by kernel_rfl) (by kernel_rfl) (fun _ _ _ h => h) (Or.inl ⟨by rfl, ?_⟩) (by assumption) ?_
    rotate_left
    · intro w hSw; (try dsimp only at hSw); go_simp; try with_reducible rfl
    try simp only [Act.put, List.setIfInBounds_toArray, List.set_cons_zero, List.set_cons_succ, List.getElem_toArray, List.getElem_cons_zero, List.getElem_cons_succ]
    refine wpAnyH_take (i := 2) (v := ?_) rfl (by kernel_rfl) (by kernel_rfl) (by kernel_rfl) (fun _ _ _ h => h) (Or.inl ⟨by rfl, ?_⟩) (by assumption) ?_
    rotate_left
    · intro w hSw; (try dsimp only at hSw); go_simp; try with_reducible rfl
    try simp only [Act.put, List.setIfInBounds_toArray, List.set_cons_zero, List.set_cons_succ, List.getElem_toArray, List.getElem_cons_zero, List.getElem_cons_succ]
    refine wpAnyH_take (i := 3) (v := ?_) rfl (by kernel_rfl) (by kernel_rfl) (by kernel_rfl) (fun _ _ _ h => h) (Or.inl ⟨by rfl, ?_⟩) (by assumption) ?_
    rotate_left
    · intro w hSw; (try dsimp only at hSw); go_simp; try with_reducible rfl
    try simp only [Act.put, List.setIfInBounds_toArray, List.set_cons_zero, List.set_cons_succ, List.getElem_toArray, List.getElem_cons_zero, List.getElem_cons_succ]
    refine wpAnyH_take (i := 4) (v := ?_) rfl (by kernel_rfl) (by kernel_rfl) (by kernel_rfl) (fun _ _ _ h => h) (Or.inl ⟨by rfl, ?_⟩) (by assumption) ?_
    rotate_left
    · intro w hSw; (try dsimp only at hSw); go_simp; try with_reducible rfl
    try simp only [Act.put, List.setIfInBounds_toArray, List.set_cons_zero, List.set_cons_succ, List.getElem_toArray, List.getElem_cons_zero, List.getElem_cons_succ]
    refine wpAnyH_take (i := 5) (v := ?_) rfl (by kernel_rfl) (by kernel_rfl) (by kernel_rfl) (fun _ _ _ h => h) (Or.inl ⟨by rfl, ?_⟩) (by assumption) ?_
    rotate_left
    · intro w hSw; (try dsimp only at hSw); go_simp; try with_reducible rfl
    try simp only [Act.put, List.setIfInBounds_toArray, List.set_cons_zero, List.set_cons_succ, List.getElem_toArray, List.getElem_cons_zero, List.getElem_cons_succ]
    refine wpAnyH_take (i := 6) (v := ?_) rfl (by kernel_rfl) (by kernel_rfl) (by kernel_rfl) (fun _ _ _ h => h) (Or.inl ⟨by rfl, ?_⟩) (by assumption) ?_
    rotate_left
    · intro w hSw; (try dsimp only at hSw); go_simp; try with_reducible rfl
    try simp only [Act.put, List.setIfInBounds_toArray, List.set_cons_zero, List.set_cons_succ, List.getElem_toArray, List.getElem_cons_zero, List.getElem_cons_succ]
    refine wpAnyH_ready (rs := [7]) (by kernel_rfl) (by simp) ?_
    refine AllReadyH.cons rfl (fun K hK => ?_) AllReadyH.nil
    go_simp
    go_at_call_of 18 (.agg #[.int .i8 x.k, .slice xa x.ks.length xc] : Value)
    refine (hcall1.out _ ?_).mono ?_
    · (repeat (first | assumption | exact Below.refl _ _ | apply below_drewN | apply Below.drew | (refine Below.alloc ?_ (by first | omega | (simp; done) | (simp; omega)) _) | (refine Below.setCell ?_ (by first | omega | (simp; done) | (simp; omega)) _)))
    rintro e w4 ⟨rfl, hb4⟩
    refine hK.out _ _ ?_ (fun hHeld => ?_)
    · refine hkeep.out _ ?_; (repeat (first | assumption | exact Below.refl _ _ | apply below_drewN | apply Below.drew | (refine Below.alloc ?_ (by first | omega | (simp; done) | (simp; omega)) _) | (refine Below.setCell ?_ (by first | omega | (simp; done) | (simp; omega)) _)))
    clear hK K
    try simp only [Act.put, List.setIfInBounds_toArray, List.set_cons_zero, List.set_cons_succ, List.getElem_toArray, List.getElem_cons_zero, List.getElem_cons_succ]
    refine wpAnyH_take (i := 8) (v := ?_) rfl (by kernel_rfl) (by kernel_rfl) (by kernel_rfl) (fun _ _ _ h => h) (Or.inl ⟨by rfl, ?_⟩) (by assumption) ?_
    rotate_left
    · intro w hSw; (try dsimp only at hSw); go_simp; try with_reducible rfl
    try simp only [Act.put, List.setIfInBounds_toArray, List.set_cons_zero, List.set_cons_succ, List.getElem_toArray, List.getElem_cons_zero, List.getElem_cons_succ]
    refine wpAnyH_off (i := 9) rfl (by kernel_rfl) (by kernel_rfl) (by kernel_rfl) (fun _ _ _ h => h) (by rfl) (by rfl) (by assumption) ?_
    try simp only [Act.put, List.setIfInBounds_toArray, List.set_cons_zero, List.set_cons_succ, List.getElem_toArray, List.getElem_cons_zero, List.getElem_cons_succ]
    refine wpAnyH_off (i := 10) rfl (by kernel_rfl) (by kernel_rfl) (by kernel_rfl) (fun _ _ _ h => h) (by rfl) (by rfl) (by assumption) ?_
    try simp only [Act.put, List.setIfInBounds_toArray, List.set_cons_zero, List.set_cons_succ, List.getElem_toArray, List.getElem_cons_zero, List.getElem_cons_succ]
    refine wpAnyH_off (i := 11) rfl (by kernel_rfl) (by kernel_rfl) (by kernel_rfl) (fun _ _ _ h => h) (by rfl) (by rfl) (by assumption) ?_
    try simp only [Act.put, List.setIfInBounds_toArray, List.set_cons_zero, List.set_cons_succ, List.getElem_toArray, List.getElem_cons_zero, List.getElem_cons_succ]
    refine wpAnyH_off (i := 12) rfl (by kernel_rfl) (by kernel_rfl) (by kernel_rfl) (fun _ _ _ h => h) (by rfl) (by rfl) (by assumption) ?_
    try simp only [Act.put, List.setIfInBounds_toArray, List.set_cons_zero, List.set_cons_succ, List.getElem_toArray, List.getElem_cons_zero, List.getElem_cons_succ]
    refine wpAnyH_off (i := 13) rfl (by kernel_rfl) (by kernel_rfl) (by kernel_rfl) (fun _ _ _ h => h) (by rfl) (by rfl) (by assumption) ?_
    try simp only [Act.put, List.setIfInBounds_toArray, List.set_cons_zero, List.set_cons_succ, List.getElem_toArray, List.getElem_cons_zero, List.getElem_cons_succ]
    refine wpAnyH_off (i := 14) rfl (by kernel_rfl) (by kernel_rfl) (by kernel_rfl) (fun _ _ _ h => h) (by rfl) (by rfl) (by assumption) ?_
    try simp only [Act.put, List.setIfInBounds_toArray, List.set_cons_zero, List.set_cons_succ, List.getElem_toArray, List.getElem_cons_zero, List.getElem_cons_succ]
    refine wpAnyH_off (i := 15) rfl (by kernel_rfl) (by kernel_rfl) (by kernel_rfl) (fun _ _ _ h => h) (by rfl) (by rfl) (by assumption) ?_
    try simp only [Act.put, List.setIfInBounds_toArray, List.set_cons_zero, List.set_cons_succ, List.getElem_toArray, List.getElem_cons_zero, List.getElem_cons_succ]
    refine wpAnyH_off (i := 16) rfl (by kernel_rfl) (by kernel_rfl) (by kernel_rfl) (fun _ _ _ h => h) (by rfl) (by rfl) (by assumption) ?_
    try simp only [Act.put, List.setIfInBounds_toArray, List.set_cons_zero, List.set_cons_succ, List.getElem_toArray, List.getElem_cons_zero, List.getElem_cons_succ]
    refine wpAnyH_off (i := 17) rfl (by kernel_rfl) (by kernel_rfl) (by kernel_rfl) (fun _ _ _ h => h) (by rfl) (by rfl) (by assumption) ?_
    try simp only [Act.put, List.setIfInBounds_toArray, List.set_cons_zero, List.set_cons_succ, List.getElem_toArray, List.getElem_cons_zero, List.getElem_cons_succ]
    refine wpAnyH_off (i := 18) rfl (by kernel_rfl) (by kernel_rfl) (by kernel_rfl) (fun _ _ _ h => h) (by rfl) (by rfl) (by assumption) ?_
    try simp only [Act.put, List.setIfInBounds_toArray, List.set_cons_zero, List.set_cons_succ, List.getElem_toArray, List.getElem_cons_zero, List.getElem_cons_succ]
    refine wpAnyH_off (i := 19) rfl (by kernel_rfl) (by kernel_rfl) (by kernel_rfl) (fun _ _ _ h => h) (by rfl) (by rfl) (by assumption) ?_
    try simp only [Act.put, List.setIfInBounds_toArray, List.set_cons_zero, List.set_cons_succ, List.getElem_toArray, List.getElem_cons_zero, List.getElem_cons_succ]
    refine wpAnyH_off (i := 20) rfl (by kernel_rfl) (by kernel_rfl) (by kernel_rfl) (fun _ _ _ h => h) (by rfl) (by rfl) (by assumption) ?_
    try simp only [Act.put, List.setIfInBounds_toArray, List.set_cons_zero, List.set_cons_succ, List.getElem_toArray, List.getElem_cons_zero, List.getElem_cons_succ]
    refine wpAnyH_off (i := 21) rfl (by kernel_rfl) (by kernel_rfl) (by kernel_rfl) (fun _ _ _ h => h) (by rfl) (by rfl) (by assumption) ?_
    try simp only [Act.put, List.setIfInBounds_toArray, List.set_cons_zero, List.set_cons_succ, List.getElem_toArray, List.getElem_cons_zero, List.getElem_cons_succ]
    refine wpAnyH_take (i := 22) (v := ?_) rfl (by kernel_rfl) (by kernel_rfl) (by kernel_rfl) (fun _ _ _ h => h) (Or.inl ⟨by rfl, ?_⟩) (by assumption) ?_
    rotate_left
    · intro w hSw; (try dsimp only at hSw); go_simp; try with_reducible rfl
    try simp only [Act.put, List.setIfInBounds_toArray, List.set_cons_zero, List.set_cons_succ, List.getElem_toArray, List.getElem_cons_zero, List.getElem_cons_succ]
    refine wpAnyH_ready (rs := [23]) (by kernel_rfl) (by simp) ?_
    refine AllReadyH.cons rfl (fun K hK => ?_) AllReadyH.nil
    go_simp
    go_at_call 127
    refine (hwant0.out _ ?_).mono ?_
    · (repeat (first | assumption | exact Below.refl _ _ | apply below_drewN | apply Below.drew | (refine Below.alloc ?_ (by first | omega | (simp; done) | (simp; omega)) _) | (refine Below.setCell ?_ (by first | omega | (simp; done) | (simp; omega)) _)))
    rintro e w5 (⟨b1, rfl, hf⟩ | ⟨rfl, hno⟩)
    · exact And.intro rfl (hfin.out w4 _ _ hb4 ⟨b1, rfl, hf⟩)
    · exact hno.out.elim
end Go.Proofs.Ytaoodchjggimcaa

/- The walk of package rules' flat, by the words of package check: every kind that binds nothing. -/
namespace Go.Proofs.Ytaoodchjggimcaa
open Go.RowKit

theorem flat_c (t : RTm) (B b o : Nat) (s : TmSh) (wb : Nat) (x y z : RTy) (S : Nat → Prop) (xa ya za : Option Addr) (xc yc zc : Nat) (w : World) (hwd : WordsAt w B wb 17 40 41 17) (hat : RTm.At w B b o s t) (hB : B ≤ w.heap.size) (hS : ∀ b, S b → b < w.heap.size) (hBS : ∀ b, b < B → S b)
    (hx : x.InS w S xa) (hy : y.InS w S ya) (hz : z.InS w S za) (hrx : x.right = true) (hrt : hasFrom t.k = true → t.ty.right = true) (hkind : flatKind t.k = true) :
    Calls Try.prog 131 #[.pointer (some ⟨wb, 0, none⟩), .pointer (some ⟨b, o, none⟩), .agg #[.int .i8 x.k, .slice xa x.ks.length xc, .int .i8 y.k, .slice ya y.ks.length yc, .int .i8 z.k, .slice za z.ks.length zc]] w (GetsTy S (gradual.flat t x y z) w) := by
  unfold flatKind at hkind
  simp only [Bool.or_eq_true, beq_iff_eq] at hkind
  rcases hkind with h | h | h | h | h | h | h | h | h | h
  · exact flat6_c t B b o s wb x y z S xa ya za xc yc zc w hwd hat hB hS hBS hx hy hz hrx h
  · exact flat8_c t B b o s wb x y z S xa ya za xc yc zc w hwd hat hB hS hBS hx hy hz hrx h
  · exact flat9_c t B b o s wb x y z S xa ya za xc yc zc w hwd hat hB hS hBS hx hy hz hrx h
  · exact flat10_c t B b o s wb x y z S xa ya za xc yc zc w hwd hat hB hS hBS hx hy hz hrx h
  · exact flat11_c t B b o s wb x y z S xa ya za xc yc zc w hwd hat hB hS hBS hx hy hz hrx h
  · exact flat12_c t B b o s wb x y z S xa ya za xc yc zc w hwd hat hB hS hBS hx hy hz hrx (hrt (by rw [h]; rfl)) h
  · exact flat13_c t B b o s wb x y z S xa ya za xc yc zc w hwd hat hB hS hBS hx hy hz hrx (hrt (by rw [h]; rfl)) h
  · exact flat15_c t B b o s wb x y z S xa ya za xc yc zc w hwd hat hB hS hBS hx hy hz hrx h
  · exact flat16_c t B b o s wb x y z S xa ya za xc yc zc w hwd hat hB hS hBS hx hy hz hrx h
  · exact flat17_c t B b o s wb x y z S xa ya za xc yc zc w hwd hat hB hS hBS hx hy hz hrx h
end Go.Proofs.Ytaoodchjggimcaa
