/- Parts of proofs about package rules and what it stands on: contracts of functions, and plain laws. -/
import Derived.Test.YtaoodchjggimcaaBl1
import Derived.Test.YtaoodchjggimcaaBa2
import Derived.Test.YtaoodchjggimcaaBa3
import Derived.Test.YtaoodchjggimcaaBl0

/- The walk of terms.same: two copies of one term. -/
set_option linter.unusedVariables false
set_option linter.unusedSimpArgs false
namespace Go.Proofs.Ytaoodchjggimcaa
open Go.RowKit

set_option maxRecDepth 100000 in
set_option maxHeartbeats 4000000 in
theorem same_P6 (N : Nat) (ih : ∀ (t t' : RTm) (B b o b' o' : Nat) (s s' : TmSh) (w : World), t.nodes ≤ N → RTm.At w B b o s t → RTm.At w B b' o' s' t' → t.right = true → t.Twin t' → B ≤ w.heap.size → Calls Try.prog 60 #[.pointer (some ⟨b, o, none⟩), .pointer (some ⟨b', o', none⟩)] w fun e w' => e = .returned (.bool true) ∧ Below w.heap.size w w')
    (t t' : RTm) (B b o b' o' : Nat) (s s' : TmSh) (w : World) (hN : t.nodes ≤ N + 1) (hat : RTm.At w B b o s t) (hat' : RTm.At w B b' o' s' t') (hr : t.right = true) (htw : t.Twin t') (hB : B ≤ w.heap.size) (hnm : hasName t.k = true) (hag : hasArg t.k = true) (hnu : hasNum t.k = false) (hfr : hasFrom t.k = false) (hto : hasTo t.k = false) (hlb : hasLabel t.k = false) (hop : hasOp t.k = false) :
    Calls Try.prog 60 #[.pointer (some ⟨b, o, none⟩), .pointer (some ⟨b', o', none⟩)] w fun e w' => e = .returned (.bool true) ∧ Below w.heap.size w w' := by
  have hlen := RTm.right_small hr
  have Hr := Lib.hid hr
  have HL := Lib.hid (RTm.TwinL.length htw.eq.2.2.2.2.2.2.2.2)
  have E0 := Lib.hid htw.eq.1
  have E1 := Lib.hid (htw.eq.2.1 hnm)
  have E2 := Lib.hid (htw.eq.2.2.2.1 hag)
  have k0 := hat.c0
  go_enter Try.func60, Try.ntmps60
  go_wp2_with fail
  refine (of_any t.k _).mono ?_
  unfold shapeV
  simp only [hnm, hag, hnu, hfr, hto, hlb, hop]
  rintro e w2 ⟨rfl, hb2⟩
  have hs2 := hb2.size
  have hat2 := hat.below hb2 hB
  have hat2' := hat'.below hb2 hB
  have hlt2 : b < w2.heap.size := by have := hat.lt; omega
  have hlt2' : b' < w2.heap.size := by have := hat'.lt; omega
  clear hat2 hat2'
  go_upto_region 2 with fail
  generalize hW : World.alloc w2 _ = w3
  have hb3 : Below w.heap.size w w3 := by rw [← hW]; exact hb2.trans ((below_new' w2 _).mono hs2)
  have z1 : w3.cell? ⟨w2.heap.size, 1, none⟩ = some (.bool true) := by rw [← hW]; simp [go_sem]
  have z2 : w3.cell? ⟨w2.heap.size, 2, none⟩ = some (.bool true) := by rw [← hW]; simp [go_sem]
  have z3 : w3.cell? ⟨w2.heap.size, 3, none⟩ = some (.bool false) := by rw [← hW]; simp [go_sem]
  have z4 : w3.cell? ⟨w2.heap.size, 4, none⟩ = some (.bool false) := by rw [← hW]; simp [go_sem]
  have z5 : w3.cell? ⟨w2.heap.size, 5, none⟩ = some (.bool false) := by rw [← hW]; simp [go_sem]
  have z6 : w3.cell? ⟨w2.heap.size, 6, none⟩ = some (.bool false) := by rw [← hW]; simp [go_sem]
  have z7 : w3.cell? ⟨w2.heap.size, 7, none⟩ = some (.bool false) := by rw [← hW]; simp [go_sem]
  clear hW hlt2 hlt2' k0
  have hs3 := hb3.size
  have hat3 := hat.below hb3 hB
  have hat3' := hat'.below hb3 hB
  have k0 := hat3.c0
  have m0 := hat3'.c0
  rw [E0.out] at m0
  have k1 := hat3.c1
  have m1 := hat3'.c1
  rw [E1.out] at m1
  have k2 := hat3.c2
  have m2 := hat3'.c2
  rw [E2.out] at m2
  clear hat3 hat3'
  go_wp2_with fail
  simp only [List.append_eq, List.cons_append, List.nil_append]
  go_big_quiet (fail)
  have hbq : Below w3.heap.size w3 (w3.drewN nq) := by (repeat (first | assumption | exact Below.refl _ _ | apply below_drewN | apply Below.drew | (refine Below.alloc ?_ (by first | omega | (simp; done) | (simp; omega)) _) | (refine Below.setCell ?_ (by first | omega | (simp; done) | (simp; omega)) _)))
  generalize hwq : World.drewN w3 nq = w3q at *
  have hb3q : Below w.heap.size w w3q := hb3.trans (hbq.mono hs3)
  have z4q := cell_kept hbq z4
  have z5q := cell_kept hbq z5
  have hs3q := hb3q.size
  have hat3 := hat.below hb3q hB
  have hat3' := hat'.below hb3q hB
  clear hwq hbq hb3 hs3 z1 z2 z3 z4 z5 z6 z7 k0 m0 k1 m1 k2 m2
  clear hnm hag hnu hfr hto hlb hop
  go_wp2_with fail
  go_quiet (fail)
  have hb8 : Below w3q.heap.size w3q (w3q.drewN nq) := by (repeat (first | assumption | exact Below.refl _ _ | apply below_drewN | apply Below.drew | (refine Below.alloc ?_ (by first | omega | (simp; done) | (simp; omega)) _) | (refine Below.setCell ?_ (by first | omega | (simp; done) | (simp; omega)) _)))
  generalize hw9 : World.drewN w3q nq = w9 at *
  clear hw9 hat3 hat3' z4q z5q
  have hb9 : Below w.heap.size w w9 := hb3q.trans (hb8.mono hs3q)
  clear hb8
  have hat9 := hat.below hb9 hB
  have c10 := hat9.c10
  clear hat9
  go_wp2_with fail
  go_loopw [124] (fun i wr => ∃ j : Nat, j ≤ t.ks.length ∧ i = .int .i64 j ∧ Below w.heap.size w wr) (fun i _ => t.ks.length - (intOf i).toNat)
  case atStart => exact ⟨0, by omega, rfl, hb9⟩
  case round =>
    obtain ⟨j, hj, rfl, hb0⟩ := hrel
    by_cases hlt : j < t.ks.length
    · have hk := List.getElem?_eq_getElem hlt
      generalize hkid : t.ks[j] = kid at hk
      have hr1 := hat.below hb0 hB
      have hr1' := hat'.below hb0 hB
      obtain ⟨kid', hk', hkt⟩ := RTm.TwinL.get htw.eq.2.2.2.2.2.2.2.2 hk
      have HKT := Lib.hid hkt
      obtain ⟨kb, ko, ks, hke, hkat⟩ := hr1.inn.kid hk
      obtain ⟨kb', ko', ks', hke', hkat'⟩ := hr1'.inn.kid hk'
      have hnk := RTm.kid_nodes hk
      have hkr := Lib.hid (RTm.right_kid Hr.out hk)
      have q1 := hr1.c10
      have q2 := hr1'.c10
      rw [hke] at q1
      rw [hke', HL.out] at q2
      have hbs := hb0.size
      have hcall := Lib.hid fun (W : World) (hW : Below wr.heap.size wr W) => ih kid kid' B kb (ko + j * 11) kb' (ko' + j * 11) ks ks' W (by omega) (hkat.below hW (by omega)) (hkat'.below hW (by omega)) hkr.out HKT.out (by have := hW.size; omega)
      clear hk hkid hke hke' hr1 hr1' hkat hkat' hkt hk'
      go_wp2_with fail
      go_region_held3 (fun w' => w'.cell? ⟨b, o + 10, none⟩ = some (.slice (some ⟨kb, ko, none⟩) t.ks.length s.kc) ∧ w'.cell? ⟨b', o' + 10, none⟩ = some (.slice (some ⟨kb', ko', none⟩) t.ks.length s'.kc))
        (first | exact ⟨q1, q2⟩ | exact ⟨cell_kept hb1 q1, cell_kept hb1 q2⟩)
        (first | (go_at_call 60; refine (hcall.out _ ?_).mono ?_; (repeat (first | assumption | exact Below.refl _ _ | apply below_drewN | apply Below.drew | (refine Below.alloc ?_ (by first | omega | (simp; done) | (simp; omega)) _) | (refine Below.setCell ?_ (by first | omega | (simp; done) | (simp; omega)) _))); rintro e w1 ⟨rfl, hb1⟩))
      have hb2 : Below w.heap.size w w1 := hb0.trans (Below.trans (Below.refl w.heap.size wr).drew (hb1.mono (by simp; omega)))
      go_wp2_with fail
      go_round
      case rel => exact ⟨j + 1, by omega, by go_num, hb2⟩
      case measure => simp [intOf]; omega
    · go_wp2_with fail
      go_ret
      exact ⟨rfl, hb0⟩

set_option maxRecDepth 100000 in
set_option maxHeartbeats 4000000 in
theorem same_P7 (N : Nat) (ih : ∀ (t t' : RTm) (B b o b' o' : Nat) (s s' : TmSh) (w : World), t.nodes ≤ N → RTm.At w B b o s t → RTm.At w B b' o' s' t' → t.right = true → t.Twin t' → B ≤ w.heap.size → Calls Try.prog 60 #[.pointer (some ⟨b, o, none⟩), .pointer (some ⟨b', o', none⟩)] w fun e w' => e = .returned (.bool true) ∧ Below w.heap.size w w')
    (t t' : RTm) (B b o b' o' : Nat) (s s' : TmSh) (w : World) (hN : t.nodes ≤ N + 1) (hat : RTm.At w B b o s t) (hat' : RTm.At w B b' o' s' t') (hr : t.right = true) (htw : t.Twin t') (hB : B ≤ w.heap.size) (hnm : hasName t.k = false) (hag : hasArg t.k = false) (hnu : hasNum t.k = false) (hfr : hasFrom t.k = false) (hto : hasTo t.k = false) (hlb : hasLabel t.k = false) (hop : hasOp t.k = true) :
    Calls Try.prog 60 #[.pointer (some ⟨b, o, none⟩), .pointer (some ⟨b', o', none⟩)] w fun e w' => e = .returned (.bool true) ∧ Below w.heap.size w w' := by
  have hlen := RTm.right_small hr
  have Hr := Lib.hid hr
  have HL := Lib.hid (RTm.TwinL.length htw.eq.2.2.2.2.2.2.2.2)
  have E0 := Lib.hid htw.eq.1
  have E1 := Lib.hid (htw.eq.2.2.1 hop)
  have k0 := hat.c0
  go_enter Try.func60, Try.ntmps60
  go_wp2_with fail
  refine (of_any t.k _).mono ?_
  unfold shapeV
  simp only [hnm, hag, hnu, hfr, hto, hlb, hop]
  rintro e w2 ⟨rfl, hb2⟩
  have hs2 := hb2.size
  have hat2 := hat.below hb2 hB
  have hat2' := hat'.below hb2 hB
  have hlt2 : b < w2.heap.size := by have := hat.lt; omega
  have hlt2' : b' < w2.heap.size := by have := hat'.lt; omega
  clear hat2 hat2'
  go_upto_region 2 with fail
  generalize hW : World.alloc w2 _ = w3
  have hb3 : Below w.heap.size w w3 := by rw [← hW]; exact hb2.trans ((below_new' w2 _).mono hs2)
  have z1 : w3.cell? ⟨w2.heap.size, 1, none⟩ = some (.bool false) := by rw [← hW]; simp [go_sem]
  have z2 : w3.cell? ⟨w2.heap.size, 2, none⟩ = some (.bool false) := by rw [← hW]; simp [go_sem]
  have z3 : w3.cell? ⟨w2.heap.size, 3, none⟩ = some (.bool false) := by rw [← hW]; simp [go_sem]
  have z4 : w3.cell? ⟨w2.heap.size, 4, none⟩ = some (.bool false) := by rw [← hW]; simp [go_sem]
  have z5 : w3.cell? ⟨w2.heap.size, 5, none⟩ = some (.bool false) := by rw [← hW]; simp [go_sem]
  have z6 : w3.cell? ⟨w2.heap.size, 6, none⟩ = some (.bool false) := by rw [← hW]; simp [go_sem]
  have z7 : w3.cell? ⟨w2.heap.size, 7, none⟩ = some (.bool true) := by rw [← hW]; simp [go_sem]
  clear hW hlt2 hlt2' k0
  have hs3 := hb3.size
  have hat3 := hat.below hb3 hB
  have hat3' := hat'.below hb3 hB
  have k0 := hat3.c0
  have m0 := hat3'.c0
  rw [E0.out] at m0
  have k1 := hat3.c1
  have m1 := hat3'.c1
  rw [E1.out] at m1
  clear hat3 hat3'
  go_wp2_with fail
  simp only [List.append_eq, List.cons_append, List.nil_append]
  go_big_quiet (fail)
  have hbq : Below w3.heap.size w3 (w3.drewN nq) := by (repeat (first | assumption | exact Below.refl _ _ | apply below_drewN | apply Below.drew | (refine Below.alloc ?_ (by first | omega | (simp; done) | (simp; omega)) _) | (refine Below.setCell ?_ (by first | omega | (simp; done) | (simp; omega)) _)))
  generalize hwq : World.drewN w3 nq = w3q at *
  have hb3q : Below w.heap.size w w3q := hb3.trans (hbq.mono hs3)
  have z4q := cell_kept hbq z4
  have z5q := cell_kept hbq z5
  have hs3q := hb3q.size
  have hat3 := hat.below hb3q hB
  have hat3' := hat'.below hb3q hB
  clear hwq hbq hb3 hs3 z1 z2 z3 z4 z5 z6 z7 k0 m0 k1 m1
  clear hnm hag hnu hfr hto hlb hop
  go_wp2_with fail
  go_quiet (fail)
  have hb8 : Below w3q.heap.size w3q (w3q.drewN nq) := by (repeat (first | assumption | exact Below.refl _ _ | apply below_drewN | apply Below.drew | (refine Below.alloc ?_ (by first | omega | (simp; done) | (simp; omega)) _) | (refine Below.setCell ?_ (by first | omega | (simp; done) | (simp; omega)) _)))
  generalize hw9 : World.drewN w3q nq = w9 at *
  clear hw9 hat3 hat3' z4q z5q
  have hb9 : Below w.heap.size w w9 := hb3q.trans (hb8.mono hs3q)
  clear hb8
  have hat9 := hat.below hb9 hB
  have c10 := hat9.c10
  clear hat9
  go_wp2_with fail
  go_loopw [124] (fun i wr => ∃ j : Nat, j ≤ t.ks.length ∧ i = .int .i64 j ∧ Below w.heap.size w wr) (fun i _ => t.ks.length - (intOf i).toNat)
  case atStart => exact ⟨0, by omega, rfl, hb9⟩
  case round =>
    obtain ⟨j, hj, rfl, hb0⟩ := hrel
    by_cases hlt : j < t.ks.length
    · have hk := List.getElem?_eq_getElem hlt
      generalize hkid : t.ks[j] = kid at hk
      have hr1 := hat.below hb0 hB
      have hr1' := hat'.below hb0 hB
      obtain ⟨kid', hk', hkt⟩ := RTm.TwinL.get htw.eq.2.2.2.2.2.2.2.2 hk
      have HKT := Lib.hid hkt
      obtain ⟨kb, ko, ks, hke, hkat⟩ := hr1.inn.kid hk
      obtain ⟨kb', ko', ks', hke', hkat'⟩ := hr1'.inn.kid hk'
      have hnk := RTm.kid_nodes hk
      have hkr := Lib.hid (RTm.right_kid Hr.out hk)
      have q1 := hr1.c10
      have q2 := hr1'.c10
      rw [hke] at q1
      rw [hke', HL.out] at q2
      have hbs := hb0.size
      have hcall := Lib.hid fun (W : World) (hW : Below wr.heap.size wr W) => ih kid kid' B kb (ko + j * 11) kb' (ko' + j * 11) ks ks' W (by omega) (hkat.below hW (by omega)) (hkat'.below hW (by omega)) hkr.out HKT.out (by have := hW.size; omega)
      clear hk hkid hke hke' hr1 hr1' hkat hkat' hkt hk'
      go_wp2_with fail
      go_region_held3 (fun w' => w'.cell? ⟨b, o + 10, none⟩ = some (.slice (some ⟨kb, ko, none⟩) t.ks.length s.kc) ∧ w'.cell? ⟨b', o' + 10, none⟩ = some (.slice (some ⟨kb', ko', none⟩) t.ks.length s'.kc))
        (first | exact ⟨q1, q2⟩ | exact ⟨cell_kept hb1 q1, cell_kept hb1 q2⟩)
        (first | (go_at_call 60; refine (hcall.out _ ?_).mono ?_; (repeat (first | assumption | exact Below.refl _ _ | apply below_drewN | apply Below.drew | (refine Below.alloc ?_ (by first | omega | (simp; done) | (simp; omega)) _) | (refine Below.setCell ?_ (by first | omega | (simp; done) | (simp; omega)) _))); rintro e w1 ⟨rfl, hb1⟩))
      have hb2 : Below w.heap.size w w1 := hb0.trans (Below.trans (Below.refl w.heap.size wr).drew (hb1.mono (by simp; omega)))
      go_wp2_with fail
      go_round
      case rel => exact ⟨j + 1, by omega, by go_num, hb2⟩
      case measure => simp [intOf]; omega
    · go_wp2_with fail
      go_ret
      exact ⟨rfl, hb0⟩

set_option maxRecDepth 100000 in
set_option maxHeartbeats 4000000 in
theorem same_P8 (N : Nat) (ih : ∀ (t t' : RTm) (B b o b' o' : Nat) (s s' : TmSh) (w : World), t.nodes ≤ N → RTm.At w B b o s t → RTm.At w B b' o' s' t' → t.right = true → t.Twin t' → B ≤ w.heap.size → Calls Try.prog 60 #[.pointer (some ⟨b, o, none⟩), .pointer (some ⟨b', o', none⟩)] w fun e w' => e = .returned (.bool true) ∧ Below w.heap.size w w')
    (t t' : RTm) (B b o b' o' : Nat) (s s' : TmSh) (w : World) (hN : t.nodes ≤ N + 1) (hat : RTm.At w B b o s t) (hat' : RTm.At w B b' o' s' t') (hr : t.right = true) (htw : t.Twin t') (hB : B ≤ w.heap.size) (hnm : hasName t.k = false) (hag : hasArg t.k = false) (hnu : hasNum t.k = false) (hfr : hasFrom t.k = true) (hto : hasTo t.k = true) (hlb : hasLabel t.k = true) (hop : hasOp t.k = false) :
    Calls Try.prog 60 #[.pointer (some ⟨b, o, none⟩), .pointer (some ⟨b', o', none⟩)] w fun e w' => e = .returned (.bool true) ∧ Below w.heap.size w w' := by
  have hlen := RTm.right_small hr
  have Hr := Lib.hid hr
  have HL := Lib.hid (RTm.TwinL.length htw.eq.2.2.2.2.2.2.2.2)
  have E0 := Lib.hid htw.eq.1
  have E8 := Lib.hid (htw.eq.2.2.2.2.2.1 hlb)
  have ET := Lib.hid (htw.eq.2.2.2.2.2.2.1 hfr)
  have EO := Lib.hid (htw.eq.2.2.2.2.2.2.2.1 hto)
  have k0 := hat.c0
  go_enter Try.func60, Try.ntmps60
  go_wp2_with fail
  refine (of_any t.k _).mono ?_
  unfold shapeV
  simp only [hnm, hag, hnu, hfr, hto, hlb, hop]
  rintro e w2 ⟨rfl, hb2⟩
  have hs2 := hb2.size
  have hat2 := hat.below hb2 hB
  have hat2' := hat'.below hb2 hB
  have hlt2 : b < w2.heap.size := by have := hat.lt; omega
  have hlt2' : b' < w2.heap.size := by have := hat'.lt; omega
  clear hat2 hat2'
  go_upto_region 2 with fail
  generalize hW : World.alloc w2 _ = w3
  have hb3 : Below w.heap.size w w3 := by rw [← hW]; exact hb2.trans ((below_new' w2 _).mono hs2)
  have z1 : w3.cell? ⟨w2.heap.size, 1, none⟩ = some (.bool false) := by rw [← hW]; simp [go_sem]
  have z2 : w3.cell? ⟨w2.heap.size, 2, none⟩ = some (.bool false) := by rw [← hW]; simp [go_sem]
  have z3 : w3.cell? ⟨w2.heap.size, 3, none⟩ = some (.bool false) := by rw [← hW]; simp [go_sem]
  have z4 : w3.cell? ⟨w2.heap.size, 4, none⟩ = some (.bool true) := by rw [← hW]; simp [go_sem]
  have z5 : w3.cell? ⟨w2.heap.size, 5, none⟩ = some (.bool true) := by rw [← hW]; simp [go_sem]
  have z6 : w3.cell? ⟨w2.heap.size, 6, none⟩ = some (.bool true) := by rw [← hW]; simp [go_sem]
  have z7 : w3.cell? ⟨w2.heap.size, 7, none⟩ = some (.bool false) := by rw [← hW]; simp [go_sem]
  clear hW hlt2 hlt2' k0
  have hs3 := hb3.size
  have hat3 := hat.below hb3 hB
  have hat3' := hat'.below hb3 hB
  have k0 := hat3.c0
  have m0 := hat3'.c0
  rw [E0.out] at m0
  have k8 := hat3.c8
  have m8 := hat3'.c8
  rw [E8.out] at m8
  clear hat3 hat3'
  go_wp2_with fail
  simp only [List.append_eq, List.cons_append, List.nil_append]
  go_big_quiet (fail)
  have hbq : Below w3.heap.size w3 (w3.drewN nq) := by (repeat (first | assumption | exact Below.refl _ _ | apply below_drewN | apply Below.drew | (refine Below.alloc ?_ (by first | omega | (simp; done) | (simp; omega)) _) | (refine Below.setCell ?_ (by first | omega | (simp; done) | (simp; omega)) _)))
  generalize hwq : World.drewN w3 nq = w3q at *
  have hb3q : Below w.heap.size w w3q := hb3.trans (hbq.mono hs3)
  have z4q := cell_kept hbq z4
  have z5q := cell_kept hbq z5
  have hs3q := hb3q.size
  have hat3 := hat.below hb3q hB
  have hat3' := hat'.below hb3q hB
  clear hwq hbq hb3 hs3 z1 z2 z3 z4 z5 z6 z7 k0 m0 k8 m8
  clear hnm hag hnu hlb hop
  have n4 := hat3'.c4
  rw [ET.out] at n4
  have n5 := hat3'.c5
  rw [ET.out] at n5
  have hyin : t.ty.In w3q B s'.ta := by have h := hat3'.inn.ty; rwa [ET.out] at h
  have hc1 := Lib.hid fun (W : World) (hW : Below w3q.heap.size w3q W) => (show Calls Try.prog 18 #[.agg #[.int .i8 t.ty.k, .slice s.ta t.ty.ks.length s.tc], .agg #[.int .i8 t.ty.k, .slice s'.ta t.ty.ks.length s'.tc]] W (fun e w' => e = .returned (.bool true) ∧ Below w3q.heap.size w3q w') from (tsame_any t.ty t.ty B s.ta s'.ta s.tc s'.tc W (hat3.below hW (by omega)).inn.ty (hyin.below hW (by omega)) (by have := hW.size; omega)).mono fun e w' h => And.intro (by rw [h.1, RTy.same_refl (RTm.right_tyok Hr.out hfr)]) (hW.trans (h.2.mono hW.size)))
  have n6 := hat3'.c6
  rw [EO.out] at n6
  have n7 := hat3'.c7
  rw [EO.out] at n7
  have hoin : t.to.In w3q B s'.oa := by have h := hat3'.inn.to; rwa [EO.out] at h
  have hc2 := Lib.hid fun (W : World) (hW : Below w3q.heap.size w3q W) => (show Calls Try.prog 18 #[.agg #[.int .i8 t.to.k, .slice s.oa t.to.ks.length s.oc], .agg #[.int .i8 t.to.k, .slice s'.oa t.to.ks.length s'.oc]] W (fun e w' => e = .returned (.bool true) ∧ Below w3q.heap.size w3q w') from (tsame_any t.to t.to B s.oa s'.oa s.oc s'.oc W (hat3.below hW (by omega)).inn.to (hoin.below hW (by omega)) (by have := hW.size; omega)).mono fun e w' h => And.intro (by rw [h.1, RTy.same_refl (RTm.right_took Hr.out hto)]) (hW.trans (h.2.mono hW.size)))
  have hkeep := Lib.hid fun (W : World) (hW : Below w3q.heap.size w3q W) => And.intro (cell_kept hW z4q) (And.intro (cell_kept hW z5q) (And.intro (cell_kept hW hat3.c4) (And.intro (cell_kept hW hat3.c5) (And.intro (cell_kept hW n4) (And.intro (cell_kept hW n5) (And.intro (cell_kept hW hat3.c6) (And.intro (cell_kept hW hat3.c7) (And.intro (cell_kept hW n6) (cell_kept hW n7)))))))))
  go_wp2_with fail
  go_region_held3 (fun v => v.cell? ⟨w2.heap.size, 4, none⟩ = some (.bool true) ∧ v.cell? ⟨w2.heap.size, 5, none⟩ = some (.bool true) ∧ v.cell? ⟨b, o + 4, none⟩ = some (.int .i8 t.ty.k) ∧ v.cell? ⟨b, o + 5, none⟩ = some (.slice s.ta t.ty.ks.length s.tc) ∧ v.cell? ⟨b', o' + 4, none⟩ = some (.int .i8 t.ty.k) ∧ v.cell? ⟨b', o' + 5, none⟩ = some (.slice s'.ta t.ty.ks.length s'.tc) ∧ v.cell? ⟨b, o + 6, none⟩ = some (.int .i8 t.to.k) ∧ v.cell? ⟨b, o + 7, none⟩ = some (.slice s.oa t.to.ks.length s.oc) ∧ v.cell? ⟨b', o' + 6, none⟩ = some (.int .i8 t.to.k) ∧ v.cell? ⟨b', o' + 7, none⟩ = some (.slice s'.oa t.to.ks.length s'.oc)) (first | (refine hkeep.out _ ?_; (repeat (first | assumption | exact Below.refl _ _ | apply below_drewN | apply Below.drew | (refine Below.alloc ?_ (by first | omega | (simp; done) | (simp; omega)) _) | (refine Below.setCell ?_ (by first | omega | (simp; done) | (simp; omega)) _))))) (first | (go_at_call_of 18 (Value.agg #[.int .i8 t.ty.k, .slice s.ta t.ty.ks.length s.tc] : Value); refine (hc1.out _ ?_).mono ?_; (repeat (first | assumption | exact Below.refl _ _ | apply below_drewN | apply Below.drew | (refine Below.alloc ?_ (by first | omega | (simp; done) | (simp; omega)) _) | (refine Below.setCell ?_ (by first | omega | (simp; done) | (simp; omega)) _))); rintro e w4 ⟨rfl, hb4⟩) | (go_at_call_of 18 (Value.agg #[.int .i8 t.to.k, .slice s.oa t.to.ks.length s.oc] : Value); refine (hc2.out _ ?_).mono ?_; (repeat (first | assumption | exact Below.refl _ _ | apply below_drewN | apply Below.drew | (refine Below.alloc ?_ (by first | omega | (simp; done) | (simp; omega)) _) | (refine Below.setCell ?_ (by first | omega | (simp; done) | (simp; omega)) _))); rintro e w5 ⟨rfl, hb5⟩))
  have hb8 : Below w3q.heap.size w3q w5 := hb5
  generalize hw9 : w5 = w9 at *
  clear hw9 hat3 hat3' z4q z5q n4 n5 hyin n6 n7 hoin
  have hb9 : Below w.heap.size w w9 := hb3q.trans (hb8.mono hs3q)
  clear hb8
  have hat9 := hat.below hb9 hB
  have c10 := hat9.c10
  clear hat9
  go_wp2_with fail
  go_loopw [124] (fun i wr => ∃ j : Nat, j ≤ t.ks.length ∧ i = .int .i64 j ∧ Below w.heap.size w wr) (fun i _ => t.ks.length - (intOf i).toNat)
  case atStart => exact ⟨0, by omega, rfl, hb9⟩
  case round =>
    obtain ⟨j, hj, rfl, hb0⟩ := hrel
    by_cases hlt : j < t.ks.length
    · have hk := List.getElem?_eq_getElem hlt
      generalize hkid : t.ks[j] = kid at hk
      have hr1 := hat.below hb0 hB
      have hr1' := hat'.below hb0 hB
      obtain ⟨kid', hk', hkt⟩ := RTm.TwinL.get htw.eq.2.2.2.2.2.2.2.2 hk
      have HKT := Lib.hid hkt
      obtain ⟨kb, ko, ks, hke, hkat⟩ := hr1.inn.kid hk
      obtain ⟨kb', ko', ks', hke', hkat'⟩ := hr1'.inn.kid hk'
      have hnk := RTm.kid_nodes hk
      have hkr := Lib.hid (RTm.right_kid Hr.out hk)
      have q1 := hr1.c10
      have q2 := hr1'.c10
      rw [hke] at q1
      rw [hke', HL.out] at q2
      have hbs := hb0.size
      have hcall := Lib.hid fun (W : World) (hW : Below wr.heap.size wr W) => ih kid kid' B kb (ko + j * 11) kb' (ko' + j * 11) ks ks' W (by omega) (hkat.below hW (by omega)) (hkat'.below hW (by omega)) hkr.out HKT.out (by have := hW.size; omega)
      clear hk hkid hke hke' hr1 hr1' hkat hkat' hkt hk'
      go_wp2_with fail
      go_region_held3 (fun w' => w'.cell? ⟨b, o + 10, none⟩ = some (.slice (some ⟨kb, ko, none⟩) t.ks.length s.kc) ∧ w'.cell? ⟨b', o' + 10, none⟩ = some (.slice (some ⟨kb', ko', none⟩) t.ks.length s'.kc))
        (first | exact ⟨q1, q2⟩ | exact ⟨cell_kept hb1 q1, cell_kept hb1 q2⟩)
        (first | (go_at_call 60; refine (hcall.out _ ?_).mono ?_; (repeat (first | assumption | exact Below.refl _ _ | apply below_drewN | apply Below.drew | (refine Below.alloc ?_ (by first | omega | (simp; done) | (simp; omega)) _) | (refine Below.setCell ?_ (by first | omega | (simp; done) | (simp; omega)) _))); rintro e w1 ⟨rfl, hb1⟩))
      have hb2 : Below w.heap.size w w1 := hb0.trans (Below.trans (Below.refl w.heap.size wr).drew (hb1.mono (by simp; omega)))
      go_wp2_with fail
      go_round
      case rel => exact ⟨j + 1, by omega, by go_num, hb2⟩
      case measure => simp [intOf]; omega
    · go_wp2_with fail
      go_ret
      exact ⟨rfl, hb0⟩
end Go.Proofs.Ytaoodchjggimcaa

/- The walk of terms.same: two copies of one term. -/
set_option linter.unusedVariables false
set_option linter.unusedSimpArgs false
namespace Go.Proofs.Ytaoodchjggimcaa
open Go.RowKit

theorem same_any (N : Nat) : ∀ (t t' : RTm) (B b o b' o' : Nat) (s s' : TmSh) (w : World), t.nodes ≤ N → RTm.At w B b o s t → RTm.At w B b' o' s' t' → t.right = true → t.Twin t' → B ≤ w.heap.size → Calls Try.prog 60 #[.pointer (some ⟨b, o, none⟩), .pointer (some ⟨b', o', none⟩)] w fun e w' => e = .returned (.bool true) ∧ Below w.heap.size w w' := by
  induction N with
  | zero => intro t t' B b o b' o' s s' w h; have := t.nodes_pos; omega
  | succ N ih =>
  intro t t' B b o b' o' s s' w hN hat hat' hr htw hB
  have hk := RTm.right_kind hr
  have hk : t.k = 0 ∨ t.k = 1 ∨ t.k = 2 ∨ t.k = 3 ∨ t.k = 4 ∨ t.k = 5 ∨ t.k = 6 ∨ t.k = 7 ∨ t.k = 8 ∨ t.k = 9 ∨ t.k = 10 ∨ t.k = 11 ∨ t.k = 12 ∨ t.k = 13 ∨ t.k = 14 ∨ t.k = 15 ∨ t.k = 16 ∨ t.k = 17 := by omega
  rcases hk with h | h | h | h | h | h | h | h | h | h | h | h | h | h | h | h | h | h
  · exact same_P0 N ih t t' B b o b' o' s s' w hN hat hat' hr htw hB (by rw [h]; rfl) (by rw [h]; rfl) (by rw [h]; rfl) (by rw [h]; rfl) (by rw [h]; rfl) (by rw [h]; rfl) (by rw [h]; rfl)
  · exact same_P1 N ih t t' B b o b' o' s s' w hN hat hat' hr htw hB (by rw [h]; rfl) (by rw [h]; rfl) (by rw [h]; rfl) (by rw [h]; rfl) (by rw [h]; rfl) (by rw [h]; rfl) (by rw [h]; rfl)
  · exact same_P2 N ih t t' B b o b' o' s s' w hN hat hat' hr htw hB (by rw [h]; rfl) (by rw [h]; rfl) (by rw [h]; rfl) (by rw [h]; rfl) (by rw [h]; rfl) (by rw [h]; rfl) (by rw [h]; rfl)
  · exact same_P2 N ih t t' B b o b' o' s s' w hN hat hat' hr htw hB (by rw [h]; rfl) (by rw [h]; rfl) (by rw [h]; rfl) (by rw [h]; rfl) (by rw [h]; rfl) (by rw [h]; rfl) (by rw [h]; rfl)
  · exact same_P3 N ih t t' B b o b' o' s s' w hN hat hat' hr htw hB (by rw [h]; rfl) (by rw [h]; rfl) (by rw [h]; rfl) (by rw [h]; rfl) (by rw [h]; rfl) (by rw [h]; rfl) (by rw [h]; rfl)
  · exact same_P4 N ih t t' B b o b' o' s s' w hN hat hat' hr htw hB (by rw [h]; rfl) (by rw [h]; rfl) (by rw [h]; rfl) (by rw [h]; rfl) (by rw [h]; rfl) (by rw [h]; rfl) (by rw [h]; rfl)
  · exact same_P2 N ih t t' B b o b' o' s s' w hN hat hat' hr htw hB (by rw [h]; rfl) (by rw [h]; rfl) (by rw [h]; rfl) (by rw [h]; rfl) (by rw [h]; rfl) (by rw [h]; rfl) (by rw [h]; rfl)
  · exact same_P3 N ih t t' B b o b' o' s s' w hN hat hat' hr htw hB (by rw [h]; rfl) (by rw [h]; rfl) (by rw [h]; rfl) (by rw [h]; rfl) (by rw [h]; rfl) (by rw [h]; rfl) (by rw [h]; rfl)
  · exact same_P2 N ih t t' B b o b' o' s s' w hN hat hat' hr htw hB (by rw [h]; rfl) (by rw [h]; rfl) (by rw [h]; rfl) (by rw [h]; rfl) (by rw [h]; rfl) (by rw [h]; rfl) (by rw [h]; rfl)
  · exact same_P2 N ih t t' B b o b' o' s s' w hN hat hat' hr htw hB (by rw [h]; rfl) (by rw [h]; rfl) (by rw [h]; rfl) (by rw [h]; rfl) (by rw [h]; rfl) (by rw [h]; rfl) (by rw [h]; rfl)
  · exact same_P2 N ih t t' B b o b' o' s s' w hN hat hat' hr htw hB (by rw [h]; rfl) (by rw [h]; rfl) (by rw [h]; rfl) (by rw [h]; rfl) (by rw [h]; rfl) (by rw [h]; rfl) (by rw [h]; rfl)
  · exact same_P2 N ih t t' B b o b' o' s s' w hN hat hat' hr htw hB (by rw [h]; rfl) (by rw [h]; rfl) (by rw [h]; rfl) (by rw [h]; rfl) (by rw [h]; rfl) (by rw [h]; rfl) (by rw [h]; rfl)
  · exact same_P5 N ih t t' B b o b' o' s s' w hN hat hat' hr htw hB (by rw [h]; rfl) (by rw [h]; rfl) (by rw [h]; rfl) (by rw [h]; rfl) (by rw [h]; rfl) (by rw [h]; rfl) (by rw [h]; rfl)
  · exact same_P5 N ih t t' B b o b' o' s s' w hN hat hat' hr htw hB (by rw [h]; rfl) (by rw [h]; rfl) (by rw [h]; rfl) (by rw [h]; rfl) (by rw [h]; rfl) (by rw [h]; rfl) (by rw [h]; rfl)
  · exact same_P6 N ih t t' B b o b' o' s s' w hN hat hat' hr htw hB (by rw [h]; rfl) (by rw [h]; rfl) (by rw [h]; rfl) (by rw [h]; rfl) (by rw [h]; rfl) (by rw [h]; rfl) (by rw [h]; rfl)
  · exact same_P7 N ih t t' B b o b' o' s s' w hN hat hat' hr htw hB (by rw [h]; rfl) (by rw [h]; rfl) (by rw [h]; rfl) (by rw [h]; rfl) (by rw [h]; rfl) (by rw [h]; rfl) (by rw [h]; rfl)
  · exact same_P5 N ih t t' B b o b' o' s s' w hN hat hat' hr htw hB (by rw [h]; rfl) (by rw [h]; rfl) (by rw [h]; rfl) (by rw [h]; rfl) (by rw [h]; rfl) (by rw [h]; rfl) (by rw [h]; rfl)
  · exact same_P8 N ih t t' B b o b' o' s s' w hN hat hat' hr htw hB (by rw [h]; rfl) (by rw [h]; rfl) (by rw [h]; rfl) (by rw [h]; rfl) (by rw [h]; rfl) (by rw [h]; rfl) (by rw [h]; rfl)
end Go.Proofs.Ytaoodchjggimcaa

/- The walks of terms.Same and order.Terms, where the answer is yes. -/
set_option linter.unusedVariables false
set_option linter.unusedSimpArgs false
namespace Go.Proofs.Ytaoodchjggimcaa
open Go.RowKit

theorem AtRow.term {w : World} {g B : Nat} {t : RTm} {s : TmSh} (h : AtRow w (g) (.int .i8 t.k) (.string t.name) (.string t.arg) (.int .i64 t.num) (.int .i8 t.ty.k) (.slice s.ta t.ty.ks.length s.tc) (.int .i8 t.to.k) (.slice s.oa t.to.ks.length s.oc) (.int .i64 t.label) (.int .i64 t.spot) (.slice s.ka t.ks.length s.kc)) (hg : g < B) (hin : t.In w B s) : RTm.At w B g 0 s t :=
  ⟨hg, h.c0, h.c1, h.c2, h.c3, h.c4, h.c5, h.c6, h.c7, h.c8, h.c9, h.c10, hin⟩
theorem RTm.right_of_check {t : RTm} (h : t.check = 0) : t.right = true := (RTm.ok_iff.1 (by unfold RTm.ok; rw [h]; rfl)).2.2
set_option maxRecDepth 100000 in
set_option maxHeartbeats 4000000 in
theorem Same_any (t t' : RTm) (B : Nat) (s s' : TmSh) (w : World) (hin : t.In w B s) (hin' : t'.In w B s') (hc : t.check = 0) (hc' : t'.check = 0) (htw : t.Twin t') (hB : B ≤ w.heap.size) :
    Calls Try.prog 27 #[t.v s, t'.v s'] w fun e w' => e = .returned (.bool true) ∧ Below w.heap.size w w' := by
  have hr := Lib.hid (RTm.right_of_check hc)
  have HC := Lib.hid hc
  have HC' := Lib.hid hc'
  clear hc hc'
  go_enter Try.func27, Try.ntmps27
  go_upto_region 1 with fail
  generalize hW : World.alloc (World.alloc w _) _ = w0
  have hb0 : Below w.heap.size w w0 := by rw [← hW]; (repeat (first | assumption | exact Below.refl _ _ | apply below_drewN | apply Below.drew | (refine Below.alloc ?_ (by first | omega | (simp; done) | (simp; omega)) _) | (refine Below.setCell ?_ (by first | omega | (simp; done) | (simp; omega)) _)))
  have hz0 : w0.heap.size = w.heap.size + 2 := by rw [← hW]; simp
  have A0 : AtRow w0 (w.heap.size) (.int .i8 t.k) (.string t.name) (.string t.arg) (.int .i64 t.num) (.int .i8 t.ty.k) (.slice s.ta t.ty.ks.length s.tc) (.int .i8 t.to.k) (.slice s.oa t.to.ks.length s.oc) (.int .i64 t.label) (.int .i64 t.spot) (.slice s.ka t.ks.length s.kc) := by rw [← hW]; exact { c0 := by simp [go_sem], f0 := by simp [go_sem], c1 := by simp [go_sem], f1 := by simp [go_sem], c2 := by simp [go_sem], f2 := by simp [go_sem], c3 := by simp [go_sem], f3 := by simp [go_sem], c4 := by simp [go_sem], f4 := by simp [go_sem], c5 := by simp [go_sem], f5 := by simp [go_sem], c6 := by simp [go_sem], f6 := by simp [go_sem], c7 := by simp [go_sem], f7 := by simp [go_sem], c8 := by simp [go_sem], f8 := by simp [go_sem], c9 := by simp [go_sem], f9 := by simp [go_sem], c10 := by simp [go_sem], f10 := by simp [go_sem] }
  have A1 : AtRow w0 (w.heap.size + 1) (.int .i8 t'.k) (.string t'.name) (.string t'.arg) (.int .i64 t'.num) (.int .i8 t'.ty.k) (.slice s'.ta t'.ty.ks.length s'.tc) (.int .i8 t'.to.k) (.slice s'.oa t'.to.ks.length s'.oc) (.int .i64 t'.label) (.int .i64 t'.spot) (.slice s'.ka t'.ks.length s'.kc) := by rw [← hW]; exact { c0 := by simp [go_sem], f0 := by simp [go_sem], c1 := by simp [go_sem], f1 := by simp [go_sem], c2 := by simp [go_sem], f2 := by simp [go_sem], c3 := by simp [go_sem], f3 := by simp [go_sem], c4 := by simp [go_sem], f4 := by simp [go_sem], c5 := by simp [go_sem], f5 := by simp [go_sem], c6 := by simp [go_sem], f6 := by simp [go_sem], c7 := by simp [go_sem], f7 := by simp [go_sem], c8 := by simp [go_sem], f8 := by simp [go_sem], c9 := by simp [go_sem], f9 := by simp [go_sem], c10 := by simp [go_sem], f10 := by simp [go_sem] }
  clear hW
  have c0 := A0.c0
  have c1 := A0.c1
  have c2 := A0.c2
  have c3 := A0.c3
  have c4 := A0.c4
  have c5 := A0.c5
  have c6 := A0.c6
  have c7 := A0.c7
  have c8 := A0.c8
  have c9 := A0.c9
  have c10 := A0.c10
  go_wp2_with fail
  refine (mcheck_any t B s w0 (hin.below hb0 hB) (by omega)).mono ?_
  rintro e w1 ⟨rfl, hb1⟩
  rw [HC.out]
  have hs1 := hb1.size
  have hb01 := hb0.trans (hb1.mono (by omega))
  have A0 := A0.on hb1 (by omega)
  have A1 := A1.on hb1 (by omega)
  clear c0 c1 c2 c3 c4 c5 c6 c7 c8 c9 c10
  have d0 := A1.c0
  have d1 := A1.c1
  have d2 := A1.c2
  have d3 := A1.c3
  have d4 := A1.c4
  have d5 := A1.c5
  have d6 := A1.c6
  have d7 := A1.c7
  have d8 := A1.c8
  have d9 := A1.c9
  have d10 := A1.c10
  go_wp2_with fail
  refine (mcheck_any t' B s' w1 (hin'.below hb01 hB) (by omega)).mono ?_
  rintro e w2 ⟨rfl, hb2⟩
  rw [HC'.out]
  have hs2 := hb2.size
  have hb02 := hb01.trans (hb2.mono (by omega))
  have A0 := A0.on hb2 (by omega)
  have A1 := A1.on hb2 (by omega)
  clear d0 d1 d2 d3 d4 d5 d6 d7 d8 d9 d10
  go_wp2_with fail
  refine (same_any t.nodes t t' (w.heap.size + 2) w.heap.size 0 (w.heap.size + 1) 0 s s' w2 (Nat.le_refl _) (A0.term (by omega) (RTm.InS.up (hin.below hb02 hB) fun b hb => by omega)) (A1.term (by omega) (RTm.InS.up (hin'.below hb02 hB) fun b hb => by omega)) hr.out htw (by omega)).mono ?_
  rintro e w3 ⟨rfl, hb3⟩
  go_wp2_with fail
  go_ret
  exact ⟨rfl, hb02.trans (hb3.mono (by omega))⟩
end Go.Proofs.Ytaoodchjggimcaa

/- The walk of order.Terms, where the answer is yes. -/
set_option linter.unusedVariables false
set_option linter.unusedSimpArgs false
namespace Go.Proofs.Ytaoodchjggimcaa
open Go.RowKit

set_option maxRecDepth 100000 in
set_option maxHeartbeats 4000000 in
theorem Terms_any (t u : RTm) (B : Nat) (s s' : TmSh) (w : World) (hin : t.In w B s) (hin' : u.In w B s') (hc : t.check = 0) (hc' : u.check = 0) (hn : t.has 17 = false) (hn' : u.has 17 = false) (hle : t.LeA u) (hoc : t.opened.check = 0) (hoc' : u.opened.check = 0) (htw : t.opened.Twin u.opened) (hB : B ≤ w.heap.size) :
    Calls Try.prog 20 #[t.v s, u.v s'] w fun e w' => e = .returned (.bool true) ∧ Below w.heap.size w w' := by
  have hr := Lib.hid (RTm.right_of_check hc)
  have hr' := Lib.hid (RTm.right_of_check hc')
  have HC := Lib.hid hc
  have HC' := Lib.hid hc'
  have HN := Lib.hid hn
  have HN' := Lib.hid hn'
  have HO := Lib.hid hoc
  have HO' := Lib.hid hoc'
  clear hc hc' hn hn' hoc hoc'
  go_enter Try.func20, Try.ntmps20
  go_upto_region 1 with fail
  generalize hW : World.alloc (World.alloc w _) _ = w0
  have hb0 : Below w.heap.size w w0 := by rw [← hW]; (repeat (first | assumption | exact Below.refl _ _ | apply below_drewN | apply Below.drew | (refine Below.alloc ?_ (by first | omega | (simp; done) | (simp; omega)) _) | (refine Below.setCell ?_ (by first | omega | (simp; done) | (simp; omega)) _)))
  have hz0 : w0.heap.size = w.heap.size + 2 := by rw [← hW]; simp
  have A0 : AtRow w0 (w.heap.size) (.int .i8 t.k) (.string t.name) (.string t.arg) (.int .i64 t.num) (.int .i8 t.ty.k) (.slice s.ta t.ty.ks.length s.tc) (.int .i8 t.to.k) (.slice s.oa t.to.ks.length s.oc) (.int .i64 t.label) (.int .i64 t.spot) (.slice s.ka t.ks.length s.kc) := by rw [← hW]; exact { c0 := by simp [go_sem], f0 := by simp [go_sem], c1 := by simp [go_sem], f1 := by simp [go_sem], c2 := by simp [go_sem], f2 := by simp [go_sem], c3 := by simp [go_sem], f3 := by simp [go_sem], c4 := by simp [go_sem], f4 := by simp [go_sem], c5 := by simp [go_sem], f5 := by simp [go_sem], c6 := by simp [go_sem], f6 := by simp [go_sem], c7 := by simp [go_sem], f7 := by simp [go_sem], c8 := by simp [go_sem], f8 := by simp [go_sem], c9 := by simp [go_sem], f9 := by simp [go_sem], c10 := by simp [go_sem], f10 := by simp [go_sem] }
  have A1 : AtRow w0 (w.heap.size + 1) (.int .i8 u.k) (.string u.name) (.string u.arg) (.int .i64 u.num) (.int .i8 u.ty.k) (.slice s'.ta u.ty.ks.length s'.tc) (.int .i8 u.to.k) (.slice s'.oa u.to.ks.length s'.oc) (.int .i64 u.label) (.int .i64 u.spot) (.slice s'.ka u.ks.length s'.kc) := by rw [← hW]; exact { c0 := by simp [go_sem], f0 := by simp [go_sem], c1 := by simp [go_sem], f1 := by simp [go_sem], c2 := by simp [go_sem], f2 := by simp [go_sem], c3 := by simp [go_sem], f3 := by simp [go_sem], c4 := by simp [go_sem], f4 := by simp [go_sem], c5 := by simp [go_sem], f5 := by simp [go_sem], c6 := by simp [go_sem], f6 := by simp [go_sem], c7 := by simp [go_sem], f7 := by simp [go_sem], c8 := by simp [go_sem], f8 := by simp [go_sem], c9 := by simp [go_sem], f9 := by simp [go_sem], c10 := by simp [go_sem], f10 := by simp [go_sem] }
  clear hW
  have c0 := A0.c0
  have c1 := A0.c1
  have c2 := A0.c2
  have c3 := A0.c3
  have c4 := A0.c4
  have c5 := A0.c5
  have c6 := A0.c6
  have c7 := A0.c7
  have c8 := A0.c8
  have c9 := A0.c9
  have c10 := A0.c10
  go_wp2_with fail
  refine (mcheck_any t B s w0 (hin.below hb0 hB) (by omega)).mono ?_
  rintro e w1 ⟨rfl, hb1⟩
  rw [HC.out]
  have hs1 := hb1.size
  have hb01 := hb0.trans (hb1.mono (by omega))
  have A0 := A0.on hb1 (by omega)
  have A1 := A1.on hb1 (by omega)
  clear c0 c1 c2 c3 c4 c5 c6 c7 c8 c9 c10
  have d0 := A1.c0
  have d1 := A1.c1
  have d2 := A1.c2
  have d3 := A1.c3
  have d4 := A1.c4
  have d5 := A1.c5
  have d6 := A1.c6
  have d7 := A1.c7
  have d8 := A1.c8
  have d9 := A1.c9
  have d10 := A1.c10
  go_wp2_with fail
  refine (mcheck_any u B s' w1 (hin'.below hb01 hB) (by omega)).mono ?_
  rintro e w2 ⟨rfl, hb2⟩
  rw [HC'.out]
  have hs2 := hb2.size
  have hb02 := hb01.trans (hb2.mono (by omega))
  have A0 := A0.on hb2 (by omega)
  have A1 := A1.on hb2 (by omega)
  clear d0 d1 d2 d3 d4 d5 d6 d7 d8 d9 d10
  have c0 := A0.c0
  have c1 := A0.c1
  have c2 := A0.c2
  have c3 := A0.c3
  have c4 := A0.c4
  have c5 := A0.c5
  have c6 := A0.c6
  have c7 := A0.c7
  have c8 := A0.c8
  have c9 := A0.c9
  have c10 := A0.c10
  go_wp2_with fail
  refine (opened_any t.nodes t B s w2 (Nat.le_refl _) (hin.below hb02 hB) hr.out HN.out (by omega)).mono ?_
  rintro e w3 ⟨s1, rfl, hin1, hb3⟩
  have hs3 := hb3.size
  have hb03 := hb02.trans (hb3.mono (by omega))
  have A0 := A0.on hb3 (by omega)
  have A1 := A1.on hb3 (by omega)
  generalize hX : t.opened = x at *
  clear c0 c1 c2 c3 c4 c5 c6 c7 c8 c9 c10
  go_upto_region 4 with fail
  generalize hW : World.alloc w3 _ = w4
  have hb4 : Below w3.heap.size w3 w4 := by rw [← hW]; (repeat (first | assumption | exact Below.refl _ _ | apply below_drewN | apply Below.drew | (refine Below.alloc ?_ (by first | omega | (simp; done) | (simp; omega)) _) | (refine Below.setCell ?_ (by first | omega | (simp; done) | (simp; omega)) _)))
  have hz4 : w4.heap.size = w3.heap.size + 1 := by rw [← hW]; simp
  have A2 : AtRow w4 (w3.heap.size) (.int .i8 x.k) (.string x.name) (.string x.arg) (.int .i64 x.num) (.int .i8 x.ty.k) (.slice s1.ta x.ty.ks.length s1.tc) (.int .i8 x.to.k) (.slice s1.oa x.to.ks.length s1.oc) (.int .i64 x.label) (.int .i64 x.spot) (.slice s1.ka x.ks.length s1.kc) := by
    rw [← hW]
    exact { c0 := by simp [go_sem], f0 := by simp [go_sem], c1 := by simp [go_sem], f1 := by simp [go_sem], c2 := by simp [go_sem], f2 := by simp [go_sem], c3 := by simp [go_sem], f3 := by simp [go_sem], c4 := by simp [go_sem], f4 := by simp [go_sem], c5 := by simp [go_sem], f5 := by simp [go_sem], c6 := by simp [go_sem], f6 := by simp [go_sem], c7 := by simp [go_sem], f7 := by simp [go_sem], c8 := by simp [go_sem], f8 := by simp [go_sem], c9 := by simp [go_sem], f9 := by simp [go_sem], c10 := by simp [go_sem], f10 := by simp [go_sem] }
  clear hW
  have hb04 := hb03.trans (hb4.mono (by omega))
  have A0 := A0.on hb4 (by omega)
  have A1 := A1.on hb4 (by omega)
  have hin1 : x.In w4 w4.heap.size s1 := RTm.InS.mono (fun b hb => by rcases hb with hb | hb <;> (show b < w4.heap.size; omega)) (fun b o hb => hb4.cell (p := ⟨b, o, none⟩) (by rcases hb with hb | hb <;> (show b < w3.heap.size; omega))) hin1
  have d0 := A1.c0
  have d1 := A1.c1
  have d2 := A1.c2
  have d3 := A1.c3
  have d4 := A1.c4
  have d5 := A1.c5
  have d6 := A1.c6
  have d7 := A1.c7
  have d8 := A1.c8
  have d9 := A1.c9
  have d10 := A1.c10
  go_wp2_with fail
  refine (opened_any u.nodes u B s' w4 (Nat.le_refl _) (hin'.below hb04 hB) hr'.out HN'.out (by omega)).mono ?_
  rintro e w5 ⟨s2, rfl, hin2, hb5⟩
  have hs5 := hb5.size
  have hb05 := hb04.trans (hb5.mono (by omega))
  have A0 := A0.on hb5 (by omega)
  have A1 := A1.on hb5 (by omega)
  have A2 := A2.on hb5 (by omega)
  generalize hY : u.opened = y at *
  clear d0 d1 d2 d3 d4 d5 d6 d7 d8 d9 d10
  go_upto_region 5 with fail
  generalize hW : World.alloc w5 _ = w6
  have hb6 : Below w5.heap.size w5 w6 := by rw [← hW]; (repeat (first | assumption | exact Below.refl _ _ | apply below_drewN | apply Below.drew | (refine Below.alloc ?_ (by first | omega | (simp; done) | (simp; omega)) _) | (refine Below.setCell ?_ (by first | omega | (simp; done) | (simp; omega)) _)))
  have hz6 : w6.heap.size = w5.heap.size + 1 := by rw [← hW]; simp
  have A3 : AtRow w6 (w5.heap.size) (.int .i8 y.k) (.string y.name) (.string y.arg) (.int .i64 y.num) (.int .i8 y.ty.k) (.slice s2.ta y.ty.ks.length s2.tc) (.int .i8 y.to.k) (.slice s2.oa y.to.ks.length s2.oc) (.int .i64 y.label) (.int .i64 y.spot) (.slice s2.ka y.ks.length s2.kc) := by
    rw [← hW]
    exact { c0 := by simp [go_sem], f0 := by simp [go_sem], c1 := by simp [go_sem], f1 := by simp [go_sem], c2 := by simp [go_sem], f2 := by simp [go_sem], c3 := by simp [go_sem], f3 := by simp [go_sem], c4 := by simp [go_sem], f4 := by simp [go_sem], c5 := by simp [go_sem], f5 := by simp [go_sem], c6 := by simp [go_sem], f6 := by simp [go_sem], c7 := by simp [go_sem], f7 := by simp [go_sem], c8 := by simp [go_sem], f8 := by simp [go_sem], c9 := by simp [go_sem], f9 := by simp [go_sem], c10 := by simp [go_sem], f10 := by simp [go_sem] }
  clear hW
  have hb06 := hb05.trans (hb6.mono (by omega))
  have hb46 := hb5.trans (hb6.mono (by omega))
  have A0 := A0.on hb6 (by omega)
  have A1 := A1.on hb6 (by omega)
  have A2 := A2.on hb6 (by omega)
  have hin2 : y.In w6 w6.heap.size s2 := RTm.InS.mono (fun b hb => by rcases hb with hb | hb <;> (show b < w6.heap.size; omega)) (fun b o hb => hb6.cell (p := ⟨b, o, none⟩) (by rcases hb with hb | hb <;> (show b < w5.heap.size; omega))) hin2
  have hin1 : x.In w6 w6.heap.size s1 := (hin1.below hb46 (Nat.le_refl _)).up (by omega)
  have c0 := A2.c0
  have c1 := A2.c1
  have c2 := A2.c2
  have c3 := A2.c3
  have c4 := A2.c4
  have c5 := A2.c5
  have c6 := A2.c6
  have c7 := A2.c7
  have c8 := A2.c8
  have c9 := A2.c9
  have c10 := A2.c10
  have d0 := A3.c0
  have d1 := A3.c1
  have d2 := A3.c2
  have d3 := A3.c3
  have d4 := A3.c4
  have d5 := A3.c5
  have d6 := A3.c6
  have d7 := A3.c7
  have d8 := A3.c8
  have d9 := A3.c9
  have d10 := A3.c10
  go_wp2_with fail
  refine (Same_any x y w6.heap.size s1 s2 w6 hin1 hin2 HO.out HO'.out htw (Nat.le_refl _)).mono ?_
  rintro e w7 ⟨rfl, hb7⟩
  have hs7 := hb7.size
  have hb07 := hb06.trans (hb7.mono (by omega))
  clear c0 c1 c2 c3 c4 c5 c6 c7 c8 c9 c10
  clear d0 d1 d2 d3 d4 d5 d6 d7 d8 d9 d10
  have A0 := A0.on hb7 (by omega)
  have A1 := A1.on hb7 (by omega)
  go_wp2_with fail
  refine (each_any t.nodes t u (w.heap.size + 2) w.heap.size 0 (w.heap.size + 1) 0 s s' w7 (Nat.le_refl _) (A0.term (by omega) (RTm.InS.up (hin.below hb07 hB) fun b hb => by omega)) (A1.term (by omega) (RTm.InS.up (hin'.below hb07 hB) fun b hb => by omega)) hr.out hr'.out hle (by omega)).mono ?_
  rintro e w8 ⟨rfl, hb8⟩
  go_wp2_with fail
  go_ret
  exact ⟨rfl, hb07.trans (hb8.mono (by omega))⟩
end Go.Proofs.Ytaoodchjggimcaa

/- Rows of bools and of numbers that come in. -/
set_option linter.unusedVariables false
set_option linter.unusedSimpArgs false
namespace Go.Proofs.Ytaoodchjggimcaa
open Go.RowKit Go.ChangeShapes Go.WideShapes
section
variable {H : Type} {enc : TypeId × Value → H}
theorem cellsB : Try.prog.cellsOf 4 = 1 := by kernel_rfl
theorem bytesB : Try.prog.bytesOf 4 = 1 := by kernel_rfl
theorem cellsBs : Try.prog.cellsOf 43 = 1 := by kernel_rfl
theorem open_bools_at {W : World} (n : Nat) (cs : List Value) (x : DataW H × List MemPlace) (h : DataW.trod enc Try.prog W 0 (fun _ => true) true n 43 cs = some x) (hl : Light 43 x.1) :
    ∃ (l : List Bool) (a : Option Addr) (c : Nat), cs = [.slice a l.length c] ∧ BoolsAt W W.heap.size a l := by
  obtain ⟨a, len, cap, p, D, rfl, rfl, hlen, hel⟩ := open_elems Try.underlying43 cellsB (by omega) h hl
  rw [bytesB] at hlen
  have hkid : ∀ i, ∃ v : Bool, i < len → ∃ b o, a = some ⟨b, o, none⟩ ∧ b < W.heap.size ∧ W.cell? ⟨b, o + i, none⟩ = some (.bool v) := by
    intro i
    by_cases hi : i < len
    · obtain ⟨b, o, cs', rfl, hcl, hcell, hb, ht, hlt⟩ := hel i hi
      obtain ⟨v, h1, h2⟩ := DataW.trod_bool Try.underlying4 ht
      subst h1
      refine ⟨v, fun _ => ⟨b, o, rfl, hb, ?_⟩⟩
      have h3 := hcell 0 (by omega)
      simpa using h3
    · exact ⟨false, fun h => absurd h hi⟩
  let f : Nat → Bool := fun i => Classical.choose (hkid i)
  have hfk := fun i => Classical.choose_spec (hkid i)
  refine ⟨(List.range len).map f, a, cap, by simp, by simp; omega, fun i hi => ?_⟩
  have hi : i < len := by simpa using hi
  obtain ⟨b, o, e, hb, hc⟩ := hfk i hi
  refine ⟨b, o, e, hb, ?_⟩
  rw [hc, List.getD_eq_getElem?_getD, List.getElem?_map, List.getElem?_range hi]
  rfl
end
end Go.Proofs.Ytaoodchjggimcaa
