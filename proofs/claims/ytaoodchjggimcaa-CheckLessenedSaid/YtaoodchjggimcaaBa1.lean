/- Parts of proofs about package rules and what it stands on: contracts of functions, and plain laws. -/
import Derived.Test.YtaoodchjggimcaaBa0
import Derived.WalkLawsBesides
import Derived.Deep.RegionLawGrows

/- The walks of package terms: counting nodes. -/
set_option linter.unusedVariables false
set_option linter.unusedSimpArgs false
namespace Go.Proofs.Ytaoodchjggimcaa
open Go.RowKit

theorem add_ok (cb : Nat) (n m : Int) (w : World) (hc : w.cell? ⟨cb, 0, none⟩ = some (.int .i64 n)) (hf : w.frozen? ⟨cb, 0, none⟩ = false) (hn : 0 ≤ n) (hm : 0 ≤ m) (hs : n + m ≤ 8192) :
    Calls Try.prog 136 #[.pointer (some ⟨cb, 0, none⟩), .int .i64 m] w fun e w' => e = .returned (.tuple #[]) ∧ w' = w.setCell ⟨cb, 0, none⟩ (.int .i64 (n + m)) := by
  go_enter Try.func136, Try.ntmps136
  go_wp2_with fail
  go_end0
  exact ⟨rfl, rfl⟩
theorem add_big (cb : Nat) (n m : Int) (w : World) (hc : w.cell? ⟨cb, 0, none⟩ = some (.int .i64 n)) (hf : w.frozen? ⟨cb, 0, none⟩ = false) (hn : 0 ≤ n) (hm : 0 ≤ m) (hm2 : m ≤ 8193) (hn2 : n ≤ 8192) (hs : 8192 < n + m) :
    Calls Try.prog 136 #[.pointer (some ⟨cb, 0, none⟩), .int .i64 m] w fun e w' => e = .panicked [{ v := .iface 122 (.agg #[]), recovered := false }] ∧ w' = w.setCell ⟨cb, 0, none⟩ (.int .i64 (n + m)) := by
  go_enter Try.func136, Try.ntmps136
  go_wp2_with fail
  exact ⟨rfl, rfl, rfl⟩

/-- The counter, and what lies below it. -/
structure Counter (cb : Nat) (w w' : World) (n : Int) : Prop where
  below : Below cb w w'
  cell : w'.cell? ⟨cb, 0, none⟩ = some (.int .i64 n)
  free : w'.frozen? ⟨cb, 0, none⟩ = false
theorem Counter.step {cb : Nat} {w w' w'' : World} {n : Int} (h : Counter cb w w' n) (hb : Below w'.heap.size w' w'') : Counter cb w w'' n := by
  have hlt : cb < w'.heap.size := World.block_lt_of_cell? w' _ h.cell
  exact ⟨h.below.trans (hb.mono (by omega)), cell_kept hb h.cell, frozen_kept hb hlt h.free⟩
theorem Counter.set {cb : Nat} {w w' : World} {n m : Int} (h : Counter cb w w' n) : Counter cb w (w'.setCell ⟨cb, 0, none⟩ (.int .i64 m)) m :=
  ⟨h.below.setCell (by simp) _, World.cell?_setCell_same _ _ _ h.cell, by simpa using h.free⟩

set_option maxHeartbeats 4000000 in
theorem term_ok (N : Nat) : ∀ (t : RTm) (B cb b o : Nat) (n : Int) (s : TmSh) (w : World), t.nodes ≤ N → RTm.At w B b o s t → B ≤ cb → cb < w.heap.size →
    w.cell? ⟨cb, 0, none⟩ = some (.int .i64 n) → w.frozen? ⟨cb, 0, none⟩ = false → 0 ≤ n → n + t.nodes ≤ 8192 →
    Calls Try.prog 84 #[.pointer (some ⟨cb, 0, none⟩), .pointer (some ⟨b, o, none⟩)] w fun e w' => e = .returned (.tuple #[]) ∧ Counter cb w w' (n + t.nodes) := by
  induction N with
  | zero => intro t B cb b o n s w h; have := t.nodes_pos; omega
  | succ N ih =>
  intro t B cb b o n s w hN hat hB hcb hc hf hn0 hn
  have hlen := hat.inn.fine.len
  have HN := Lib.hid t.nodes_eq
  have hnp := t.nodes_pos
  have HCt : Counter cb w w n := ⟨Below.refl _ _, hc, hf⟩
  go_enter Try.func84, Try.ntmps84
  go_wp2_with fail
  refine (add_ok cb n 1 _ hc hf (by omega) (by omega) (by omega)).mono ?_
  rintro e w1 ⟨rfl, rfl⟩
  have HC1 : Counter cb w (w.setCell ⟨cb, 0, none⟩ (.int .i64 (n + 1))) (n + 1) := HCt.set
  generalize hw1 : w.setCell ⟨cb, 0, none⟩ (.int .i64 (n + 1)) = w1 at *
  have hsz1 : w1.heap.size = w.heap.size := by rw [← hw1]; simp
  have hcb1 : cb < w1.heap.size := by omega
  clear hw1 hsz1 hc hf HCt
  have k0 := (hat.below HC1.below hB).c0
  go_wp2_with fail
  refine (of_any t.k _).mono ?_
  unfold shapeV
  rintro e w2 ⟨rfl, hb2⟩
  have HC2 := HC1.step hb2
  have hs2 := hb2.size
  clear k0
  have hshb : ∀ o : Obj, Below w2.heap.size w2 (w2.alloc o) := fun o => below_new _ _
  have HSB := Lib.hid hshb
  clear hshb
  have hcb2 := World.block_lt_of_cell? _ _ HC2.cell
  have hNe := HN.out
  by_cases hfr : hasFrom t.k = true
  · rw [hfr] at hNe
    by_cases hto : hasTo t.k = true
    · rw [hto] at hNe
      simp only [if_true] at hNe
      have hp1 := t.ty.nodes_pos
      have hp2 := t.to.nodes_pos
      have k4 := (hat.below HC2.below hB).c4
      have k5 := (hat.below HC2.below hB).c5
      have hbl2 : b < w2.heap.size := by have := hat.lt; omega
      go_wp2_with fail
      refine (tnodes_any t.ty B s.ta s.tc _ (hat.inn.ty.below (HC2.step (HSB.out _)).below hB) (by simp; omega)).mono ?_
      rintro e w3 ⟨rfl, hb3⟩
      have HC3 := (HC2.step (HSB.out _)).step hb3
      have hs3 := hb3.size
      rw [World.size_alloc] at hs3
      have hsh3 : w3.cell? ⟨w2.heap.size, 5, none⟩ = some (.bool (hasTo t.k)) := cell_kept hb3 (by simp [go_sem, hto])
      have kc3 := HC3.cell
      have kf3 := HC3.free
      clear k4 k5
      go_wp2_with fail
      refine (add_ok cb (n + 1) (min (t.ty.nodes : Int) 8193) _ kc3 kf3 (by omega) (by omega) (by omega)).mono ?_
      rintro e w3' ⟨rfl, rfl⟩
      have HC4 : Counter cb w (w3.setCell ⟨cb, 0, none⟩ (.int .i64 (n + 1 + min (t.ty.nodes : Int) 8193))) (n + 1 + min (t.ty.nodes : Int) 8193) := HC3.set
      have hsz4 : (w3.setCell ⟨cb, 0, none⟩ (.int .i64 (n + 1 + min (t.ty.nodes : Int) 8193))).heap.size = w3.heap.size := by simp
      have hsh4 : (w3.setCell ⟨cb, 0, none⟩ (.int .i64 (n + 1 + min (t.ty.nodes : Int) 8193))).cell? ⟨w2.heap.size, 5, none⟩ = some (.bool (hasTo t.k)) := (World.cell?_setCell_far _ _ _ _ (by show cb ≠ w2.heap.size; omega)).trans hsh3
      generalize w3.setCell ⟨cb, 0, none⟩ (.int .i64 (n + 1 + min (t.ty.nodes : Int) 8193)) = w4 at *
      have k6 := (hat.below HC4.below hB).c6
      have k7 := (hat.below HC4.below hB).c7
      go_wp2_with fail
      refine (tnodes_any t.to B s.oa s.oc _ (hat.inn.to.below HC4.below hB) (by omega)).mono ?_
      rintro e w5 ⟨rfl, hb5⟩
      have HC5 := HC4.step hb5
      have hs5 := hb5.size
      have hsh5 := cell_kept hb5 hsh4
      have kc5 := HC5.cell
      have kf5 := HC5.free
      clear k6 k7
      go_wp2_with fail
      refine (add_ok cb ((n + 1 + min (t.ty.nodes : Int) 8193)) (min (t.to.nodes : Int) 8193) _ kc5 kf5 (by omega) (by omega) (by omega)).mono ?_
      rintro e w5' ⟨rfl, rfl⟩
      have HC6 : Counter cb w (w5.setCell ⟨cb, 0, none⟩ (.int .i64 ((n + 1 + min (t.ty.nodes : Int) 8193) + min (t.to.nodes : Int) 8193))) ((n + 1 + min (t.ty.nodes : Int) 8193) + min (t.to.nodes : Int) 8193) := HC5.set
      have hsz6 : (w5.setCell ⟨cb, 0, none⟩ (.int .i64 ((n + 1 + min (t.ty.nodes : Int) 8193) + min (t.to.nodes : Int) 8193))).heap.size = w5.heap.size := by simp
      have hsh6 : (w5.setCell ⟨cb, 0, none⟩ (.int .i64 ((n + 1 + min (t.ty.nodes : Int) 8193) + min (t.to.nodes : Int) 8193))).cell? ⟨w2.heap.size, 5, none⟩ = some (.bool (hasTo t.k)) := (World.cell?_setCell_far _ _ _ _ (by show cb ≠ w2.heap.size; omega)).trans hsh5
      generalize w5.setCell ⟨cb, 0, none⟩ (.int .i64 ((n + 1 + min (t.ty.nodes : Int) 8193) + min (t.to.nodes : Int) 8193)) = w6 at *
      have kk := (hat.below HC6.below hB).c10
      go_wp2_with fail
      go_loopw [40] (fun i wr => ∃ j : Nat, j ≤ t.ks.length ∧ i = .int .i64 j ∧ ∃ m : Int, 0 ≤ m ∧ m + RTm.nodesL (t.ks.drop j) = n + t.nodes ∧ Counter cb w wr m) (fun i _ => t.ks.length - (intOf i).toNat)
      case atStart =>
        refine ⟨0, by omega, rfl, ((n + 1 + min (t.ty.nodes : Int) 8193) + min (t.to.nodes : Int) 8193), by omega, ?_, HC6⟩
        have h := HN.out
        rw [hfr, hto] at h
        simp only [if_true, Bool.false_eq_true, if_false] at h
        simp only [List.drop_zero]
        omega
      case round =>
        obtain ⟨j, hj, rfl, m, hm0, hinv, HCr⟩ := hrel
        by_cases hlt : j < t.ks.length
        · have hk := List.getElem?_eq_getElem hlt
          generalize hkid : t.ks[j] = kid at hk
          have HD := Lib.hid (RTm.nodesL_drop hk)
          have hd := RTm.nodesL_drop hk
          have hrt := hat.below HCr.below hB
          obtain ⟨kb, ko, ks', hka, hkat⟩ := hrt.kid hk
          have kc10 := hrt.c10
          rw [hka] at kc10
          have hnk := RTm.kid_nodes hk
          have kcr := HCr.cell
          have kfr := HCr.free
          have hcr := World.block_lt_of_cell? _ _ kcr
          clear hk hkid hka
          have hle : m + kid.nodes ≤ 8192 := by omega
          have HI := Lib.hid hinv
          clear hinv hd
          go_wp2_with fail
          refine (ih kid B cb kb (ko + j * 11) m ks' _ (by omega) hkat hB hcr kcr kfr (by omega) (by omega)).mono ?_
          rintro e w9 ⟨rfl, HC9⟩
          have HCn : Counter cb w w9 (m + kid.nodes) := ⟨HCr.below.trans HC9.below, HC9.cell, HC9.free⟩
          go_wp2_with fail
          go_round
          case rel =>
            refine ⟨j + 1, by omega, by go_num, m + kid.nodes, by omega, ?_, HCn⟩
            have h1 := HD.out
            have h2 := HI.out
            omega
          case measure => simp [intOf]; omega
        · have : j = t.ks.length := by omega
          subst this
          simp [RTm.nodesL] at hinv
          subst hinv
          go_wp2_with fail
          go_end0
          exact ⟨rfl, HCr⟩
    · have hto : hasTo t.k = false := by simpa using hto
      rw [hto] at hNe
      simp only [if_true, Bool.false_eq_true, if_false] at hNe
      have hp1 := t.ty.nodes_pos
      have k4 := (hat.below HC2.below hB).c4
      have k5 := (hat.below HC2.below hB).c5
      have hbl2 : b < w2.heap.size := by have := hat.lt; omega
      go_wp2_with fail
      refine (tnodes_any t.ty B s.ta s.tc _ (hat.inn.ty.below (HC2.step (HSB.out _)).below hB) (by simp; omega)).mono ?_
      rintro e w3 ⟨rfl, hb3⟩
      have HC3 := (HC2.step (HSB.out _)).step hb3
      have hs3 := hb3.size
      rw [World.size_alloc] at hs3
      have hsh3 : w3.cell? ⟨w2.heap.size, 5, none⟩ = some (.bool (hasTo t.k)) := cell_kept hb3 (by simp [go_sem, hto])
      have kc3 := HC3.cell
      have kf3 := HC3.free
      clear k4 k5
      go_wp2_with fail
      refine (add_ok cb (n + 1) (min (t.ty.nodes : Int) 8193) _ kc3 kf3 (by omega) (by omega) (by omega)).mono ?_
      rintro e w3' ⟨rfl, rfl⟩
      have HC4 : Counter cb w (w3.setCell ⟨cb, 0, none⟩ (.int .i64 (n + 1 + min (t.ty.nodes : Int) 8193))) (n + 1 + min (t.ty.nodes : Int) 8193) := HC3.set
      have hsz4 : (w3.setCell ⟨cb, 0, none⟩ (.int .i64 (n + 1 + min (t.ty.nodes : Int) 8193))).heap.size = w3.heap.size := by simp
      have hsh4 : (w3.setCell ⟨cb, 0, none⟩ (.int .i64 (n + 1 + min (t.ty.nodes : Int) 8193))).cell? ⟨w2.heap.size, 5, none⟩ = some (.bool (hasTo t.k)) := (World.cell?_setCell_far _ _ _ _ (by show cb ≠ w2.heap.size; omega)).trans hsh3
      generalize w3.setCell ⟨cb, 0, none⟩ (.int .i64 (n + 1 + min (t.ty.nodes : Int) 8193)) = w4 at *
      have kk := (hat.below HC4.below hB).c10
      go_wp2_with fail
      go_loopw [40] (fun i wr => ∃ j : Nat, j ≤ t.ks.length ∧ i = .int .i64 j ∧ ∃ m : Int, 0 ≤ m ∧ m + RTm.nodesL (t.ks.drop j) = n + t.nodes ∧ Counter cb w wr m) (fun i _ => t.ks.length - (intOf i).toNat)
      case atStart =>
        refine ⟨0, by omega, rfl, (n + 1 + min (t.ty.nodes : Int) 8193), by omega, ?_, HC4⟩
        have h := HN.out
        rw [hfr, hto] at h
        simp only [if_true, Bool.false_eq_true, if_false] at h
        simp only [List.drop_zero]
        omega
      case round =>
        obtain ⟨j, hj, rfl, m, hm0, hinv, HCr⟩ := hrel
        by_cases hlt : j < t.ks.length
        · have hk := List.getElem?_eq_getElem hlt
          generalize hkid : t.ks[j] = kid at hk
          have HD := Lib.hid (RTm.nodesL_drop hk)
          have hd := RTm.nodesL_drop hk
          have hrt := hat.below HCr.below hB
          obtain ⟨kb, ko, ks', hka, hkat⟩ := hrt.kid hk
          have kc10 := hrt.c10
          rw [hka] at kc10
          have hnk := RTm.kid_nodes hk
          have kcr := HCr.cell
          have kfr := HCr.free
          have hcr := World.block_lt_of_cell? _ _ kcr
          clear hk hkid hka
          have hle : m + kid.nodes ≤ 8192 := by omega
          have HI := Lib.hid hinv
          clear hinv hd
          go_wp2_with fail
          refine (ih kid B cb kb (ko + j * 11) m ks' _ (by omega) hkat hB hcr kcr kfr (by omega) (by omega)).mono ?_
          rintro e w9 ⟨rfl, HC9⟩
          have HCn : Counter cb w w9 (m + kid.nodes) := ⟨HCr.below.trans HC9.below, HC9.cell, HC9.free⟩
          go_wp2_with fail
          go_round
          case rel =>
            refine ⟨j + 1, by omega, by go_num, m + kid.nodes, by omega, ?_, HCn⟩
            have h1 := HD.out
            have h2 := HI.out
            omega
          case measure => simp [intOf]; omega
        · have : j = t.ks.length := by omega
          subst this
          simp [RTm.nodesL] at hinv
          subst hinv
          go_wp2_with fail
          go_end0
          exact ⟨rfl, HCr⟩
  · have hto : hasTo t.k = false := by
      cases h : hasTo t.k with
      | false => rfl
      | true =>
        exfalso; apply hfr
        unfold hasTo at h; unfold hasFrom
        simp at h ⊢; omega
    have hfr : hasFrom t.k = false := by simpa using hfr
    rw [hto, hfr] at hNe
    simp only [Bool.false_eq_true, if_false] at hNe
    have hbl2 : b < w2.heap.size := by have := hat.lt; omega
    have HC4 := HC2.step (HSB.out (.cells #[.int .i64 (kidsOf t.k), .bool (hasName t.k), .bool (hasArg t.k), .bool (hasNum t.k), .bool (hasFrom t.k), .bool (hasTo t.k), .bool (hasLabel t.k), .bool (hasOp t.k)] 127))
    have kk2 := (hat.below HC2.below hB).c10
    go_wp2_with fail
    go_loopw [40] (fun i wr => ∃ j : Nat, j ≤ t.ks.length ∧ i = .int .i64 j ∧ ∃ m : Int, 0 ≤ m ∧ m + RTm.nodesL (t.ks.drop j) = n + t.nodes ∧ Counter cb w wr m) (fun i _ => t.ks.length - (intOf i).toNat)
    case atStart =>
      refine ⟨0, by omega, rfl, n + 1, by omega, ?_, by rw [hfr, hto] at HC4; exact HC4⟩
      have h := HN.out
      rw [hfr, hto] at h
      simp only [if_true, Bool.false_eq_true, if_false] at h
      simp only [List.drop_zero]
      omega
    case round =>
      obtain ⟨j, hj, rfl, m, hm0, hinv, HCr⟩ := hrel
      by_cases hlt : j < t.ks.length
      · have hk := List.getElem?_eq_getElem hlt
        generalize hkid : t.ks[j] = kid at hk
        have HD := Lib.hid (RTm.nodesL_drop hk)
        have hd := RTm.nodesL_drop hk
        have hrt := hat.below HCr.below hB
        obtain ⟨kb, ko, ks', hka, hkat⟩ := hrt.kid hk
        have kc10 := hrt.c10
        rw [hka] at kc10
        have hnk := RTm.kid_nodes hk
        have kcr := HCr.cell
        have kfr := HCr.free
        have hcr := World.block_lt_of_cell? _ _ kcr
        clear hk hkid hka
        have hle : m + kid.nodes ≤ 8192 := by omega
        have HI := Lib.hid hinv
        clear hinv hd
        go_wp2_with fail
        refine (ih kid B cb kb (ko + j * 11) m ks' _ (by omega) hkat hB hcr kcr kfr (by omega) (by omega)).mono ?_
        rintro e w9 ⟨rfl, HC9⟩
        have HCn : Counter cb w w9 (m + kid.nodes) := ⟨HCr.below.trans HC9.below, HC9.cell, HC9.free⟩
        go_wp2_with fail
        go_round
        case rel =>
          refine ⟨j + 1, by omega, by go_num, m + kid.nodes, by omega, ?_, HCn⟩
          have h1 := HD.out
          have h2 := HI.out
          omega
        case measure => simp [intOf]; omega
      · have : j = t.ks.length := by omega
        subst this
        simp [RTm.nodesL] at hinv
        subst hinv
        go_wp2_with fail
        go_end0
        exact ⟨rfl, HCr⟩

set_option maxHeartbeats 4000000 in
theorem term_big (N : Nat) : ∀ (t : RTm) (B cb b o : Nat) (n : Int) (s : TmSh) (w : World), t.nodes ≤ N → RTm.At w B b o s t → B ≤ cb → cb < w.heap.size →
    w.cell? ⟨cb, 0, none⟩ = some (.int .i64 n) → w.frozen? ⟨cb, 0, none⟩ = false → 0 ≤ n → n ≤ 8192 → 8192 < n + t.nodes →
    Calls Try.prog 84 #[.pointer (some ⟨cb, 0, none⟩), .pointer (some ⟨b, o, none⟩)] w fun e w' => e = .panicked [{ v := .iface 122 (.agg #[]), recovered := false }] ∧ Below cb w w' := by
  induction N with
  | zero => intro t B cb b o n s w h; have := t.nodes_pos; omega
  | succ N ih =>
  intro t B cb b o n s w hN hat hB hcb hc hf hn0 hn1 hn
  have hlen := hat.inn.fine.len
  have HN := Lib.hid t.nodes_eq
  have hnp := t.nodes_pos
  have HCt : Counter cb w w n := ⟨Below.refl _ _, hc, hf⟩
  by_cases h8 : n = 8192
  · subst h8
    go_enter Try.func84, Try.ntmps84
    go_wp2_with fail
    refine (add_big cb 8192 1 _ hc hf (by omega) (by omega) (by omega) (by omega) (by omega)).mono ?_
    rintro e w1 ⟨rfl, rfl⟩
    go_wp2_with fail
    exact ⟨rfl, rfl, HCt.set.below⟩
  have h8' : n + 1 ≤ 8192 := by omega
  clear h8
  go_enter Try.func84, Try.ntmps84
  go_wp2_with fail
  refine (add_ok cb n 1 _ hc hf (by omega) (by omega) (by omega)).mono ?_
  rintro e w1 ⟨rfl, rfl⟩
  have HC1 : Counter cb w (w.setCell ⟨cb, 0, none⟩ (.int .i64 (n + 1))) (n + 1) := HCt.set
  generalize hw1 : w.setCell ⟨cb, 0, none⟩ (.int .i64 (n + 1)) = w1 at *
  have hsz1 : w1.heap.size = w.heap.size := by rw [← hw1]; simp
  have hcb1 : cb < w1.heap.size := by omega
  clear hw1 hsz1 hc hf HCt
  have k0 := (hat.below HC1.below hB).c0
  go_wp2_with fail
  refine (of_any t.k _).mono ?_
  unfold shapeV
  rintro e w2 ⟨rfl, hb2⟩
  have HC2 := HC1.step hb2
  have hs2 := hb2.size
  clear k0
  have hshb : ∀ o : Obj, Below w2.heap.size w2 (w2.alloc o) := fun o => below_new _ _
  have HSB := Lib.hid hshb
  clear hshb
  have hcb2 := World.block_lt_of_cell? _ _ HC2.cell
  have hNe := HN.out
  by_cases hfr : hasFrom t.k = true
  · rw [hfr] at hNe
    by_cases hto : hasTo t.k = true
    · rw [hto] at hNe
      simp only [if_true] at hNe
      have hp1 := t.ty.nodes_pos
      have hp2 := t.to.nodes_pos
      have k4 := (hat.below HC2.below hB).c4
      have k5 := (hat.below HC2.below hB).c5
      have hbl2 : b < w2.heap.size := by have := hat.lt; omega
      go_wp2_with fail
      refine (tnodes_any t.ty B s.ta s.tc _ (hat.inn.ty.below (HC2.step (HSB.out _)).below hB) (by simp; omega)).mono ?_
      rintro e w3 ⟨rfl, hb3⟩
      have HC3 := (HC2.step (HSB.out _)).step hb3
      have hs3 := hb3.size
      rw [World.size_alloc] at hs3
      have hsh3 : w3.cell? ⟨w2.heap.size, 5, none⟩ = some (.bool (hasTo t.k)) := cell_kept hb3 (by simp [go_sem, hto])
      have kc3 := HC3.cell
      have kf3 := HC3.free
      clear k4 k5
      go_wp2_with fail
      by_cases hle3 : n + 1 + min (t.ty.nodes : Int) 8193 ≤ 8192
      · skip
        refine (add_ok cb (n + 1) (min (t.ty.nodes : Int) 8193) _ kc3 kf3 (by omega) (by omega) (by omega)).mono ?_
        rintro e w3' ⟨rfl, rfl⟩
        have HC4 : Counter cb w (w3.setCell ⟨cb, 0, none⟩ (.int .i64 (n + 1 + min (t.ty.nodes : Int) 8193))) (n + 1 + min (t.ty.nodes : Int) 8193) := HC3.set
        have hsz4 : (w3.setCell ⟨cb, 0, none⟩ (.int .i64 (n + 1 + min (t.ty.nodes : Int) 8193))).heap.size = w3.heap.size := by simp
        have hsh4 : (w3.setCell ⟨cb, 0, none⟩ (.int .i64 (n + 1 + min (t.ty.nodes : Int) 8193))).cell? ⟨w2.heap.size, 5, none⟩ = some (.bool (hasTo t.k)) := (World.cell?_setCell_far _ _ _ _ (by show cb ≠ w2.heap.size; omega)).trans hsh3
        generalize w3.setCell ⟨cb, 0, none⟩ (.int .i64 (n + 1 + min (t.ty.nodes : Int) 8193)) = w4 at *
        have k6 := (hat.below HC4.below hB).c6
        have k7 := (hat.below HC4.below hB).c7
        go_wp2_with fail
        refine (tnodes_any t.to B s.oa s.oc _ (hat.inn.to.below HC4.below hB) (by omega)).mono ?_
        rintro e w5 ⟨rfl, hb5⟩
        have HC5 := HC4.step hb5
        have hs5 := hb5.size
        have hsh5 := cell_kept hb5 hsh4
        have kc5 := HC5.cell
        have kf5 := HC5.free
        clear k6 k7
        go_wp2_with fail
        by_cases hle5 : (n + 1 + min (t.ty.nodes : Int) 8193) + min (t.to.nodes : Int) 8193 ≤ 8192
        · skip
          refine (add_ok cb ((n + 1 + min (t.ty.nodes : Int) 8193)) (min (t.to.nodes : Int) 8193) _ kc5 kf5 (by omega) (by omega) (by omega)).mono ?_
          rintro e w5' ⟨rfl, rfl⟩
          have HC6 : Counter cb w (w5.setCell ⟨cb, 0, none⟩ (.int .i64 ((n + 1 + min (t.ty.nodes : Int) 8193) + min (t.to.nodes : Int) 8193))) ((n + 1 + min (t.ty.nodes : Int) 8193) + min (t.to.nodes : Int) 8193) := HC5.set
          have hsz6 : (w5.setCell ⟨cb, 0, none⟩ (.int .i64 ((n + 1 + min (t.ty.nodes : Int) 8193) + min (t.to.nodes : Int) 8193))).heap.size = w5.heap.size := by simp
          have hsh6 : (w5.setCell ⟨cb, 0, none⟩ (.int .i64 ((n + 1 + min (t.ty.nodes : Int) 8193) + min (t.to.nodes : Int) 8193))).cell? ⟨w2.heap.size, 5, none⟩ = some (.bool (hasTo t.k)) := (World.cell?_setCell_far _ _ _ _ (by show cb ≠ w2.heap.size; omega)).trans hsh5
          generalize w5.setCell ⟨cb, 0, none⟩ (.int .i64 ((n + 1 + min (t.ty.nodes : Int) 8193) + min (t.to.nodes : Int) 8193)) = w6 at *
          have kk := (hat.below HC6.below hB).c10
          go_wp2_with fail
          go_loopw [40] (fun i wr => ∃ j : Nat, j ≤ t.ks.length ∧ i = .int .i64 j ∧ ∃ m : Int, 0 ≤ m ∧ m ≤ 8192 ∧ m + RTm.nodesL (t.ks.drop j) = n + t.nodes ∧ Counter cb w wr m) (fun i _ => t.ks.length - (intOf i).toNat)
          case atStart =>
            refine ⟨0, by omega, rfl, ((n + 1 + min (t.ty.nodes : Int) 8193) + min (t.to.nodes : Int) 8193), by omega, by omega, ?_, HC6⟩
            have h := HN.out
            rw [hfr, hto] at h
            simp only [if_true, Bool.false_eq_true, if_false] at h
            simp only [List.drop_zero]
            omega
          case round =>
            obtain ⟨j, hj, rfl, m, hm0, hm1, hinv, HCr⟩ := hrel
            by_cases hlt : j < t.ks.length
            · have hk := List.getElem?_eq_getElem hlt
              generalize hkid : t.ks[j] = kid at hk
              have HD := Lib.hid (RTm.nodesL_drop hk)
              have hd := RTm.nodesL_drop hk
              have hrt := hat.below HCr.below hB
              obtain ⟨kb, ko, ks', hka, hkat⟩ := hrt.kid hk
              have kc10 := hrt.c10
              rw [hka] at kc10
              have hnk := RTm.kid_nodes hk
              have kcr := HCr.cell
              have kfr := HCr.free
              have hcr := World.block_lt_of_cell? _ _ kcr
              clear hk hkid hka
              have HI := Lib.hid hinv
              clear hinv hd
              by_cases hle : m + kid.nodes ≤ 8192
              · go_wp2_with fail
                refine (term_ok N kid B cb kb (ko + j * 11) m ks' _ (by omega) hkat hB hcr kcr kfr (by omega) (by omega)).mono ?_
                rintro e w9 ⟨rfl, HC9⟩
                have HCn : Counter cb w w9 (m + kid.nodes) := ⟨HCr.below.trans HC9.below, HC9.cell, HC9.free⟩
                go_wp2_with fail
                go_round
                case rel =>
                  refine ⟨j + 1, by omega, by go_num, m + kid.nodes, by omega, by omega, ?_, HCn⟩
                  have h1 := HD.out
                  have h2 := HI.out
                  omega
                case measure => simp [intOf]; omega
              · go_wp2_with fail
                refine (ih kid B cb kb (ko + j * 11) m ks' _ (by omega) hkat hB hcr kcr kfr (by omega) (by omega) (by omega)).mono ?_
                rintro e w9 ⟨rfl, hb9⟩
                go_wp2_with fail
                exact ⟨rfl, rfl, HCr.below.trans hb9⟩
            · have : j = t.ks.length := by omega
              subst this
              simp [RTm.nodesL] at hinv
              omega
        · refine (add_big cb ((n + 1 + min (t.ty.nodes : Int) 8193)) (min (t.to.nodes : Int) 8193) _ kc5 kf5 (by omega) (by omega) (by omega) (by omega) (by omega)).mono ?_
          rintro e w5' ⟨rfl, rfl⟩
          go_wp2_with fail
          exact ⟨rfl, rfl, HC5.set.below⟩
      · refine (add_big cb (n + 1) (min (t.ty.nodes : Int) 8193) _ kc3 kf3 (by omega) (by omega) (by omega) (by omega) (by omega)).mono ?_
        rintro e w3' ⟨rfl, rfl⟩
        go_wp2_with fail
        exact ⟨rfl, rfl, HC3.set.below⟩
    · have hto : hasTo t.k = false := by simpa using hto
      rw [hto] at hNe
      simp only [if_true, Bool.false_eq_true, if_false] at hNe
      have hp1 := t.ty.nodes_pos
      have k4 := (hat.below HC2.below hB).c4
      have k5 := (hat.below HC2.below hB).c5
      have hbl2 : b < w2.heap.size := by have := hat.lt; omega
      go_wp2_with fail
      refine (tnodes_any t.ty B s.ta s.tc _ (hat.inn.ty.below (HC2.step (HSB.out _)).below hB) (by simp; omega)).mono ?_
      rintro e w3 ⟨rfl, hb3⟩
      have HC3 := (HC2.step (HSB.out _)).step hb3
      have hs3 := hb3.size
      rw [World.size_alloc] at hs3
      have hsh3 : w3.cell? ⟨w2.heap.size, 5, none⟩ = some (.bool (hasTo t.k)) := cell_kept hb3 (by simp [go_sem, hto])
      have kc3 := HC3.cell
      have kf3 := HC3.free
      clear k4 k5
      go_wp2_with fail
      by_cases hle3 : n + 1 + min (t.ty.nodes : Int) 8193 ≤ 8192
      · skip
        refine (add_ok cb (n + 1) (min (t.ty.nodes : Int) 8193) _ kc3 kf3 (by omega) (by omega) (by omega)).mono ?_
        rintro e w3' ⟨rfl, rfl⟩
        have HC4 : Counter cb w (w3.setCell ⟨cb, 0, none⟩ (.int .i64 (n + 1 + min (t.ty.nodes : Int) 8193))) (n + 1 + min (t.ty.nodes : Int) 8193) := HC3.set
        have hsz4 : (w3.setCell ⟨cb, 0, none⟩ (.int .i64 (n + 1 + min (t.ty.nodes : Int) 8193))).heap.size = w3.heap.size := by simp
        have hsh4 : (w3.setCell ⟨cb, 0, none⟩ (.int .i64 (n + 1 + min (t.ty.nodes : Int) 8193))).cell? ⟨w2.heap.size, 5, none⟩ = some (.bool (hasTo t.k)) := (World.cell?_setCell_far _ _ _ _ (by show cb ≠ w2.heap.size; omega)).trans hsh3
        generalize w3.setCell ⟨cb, 0, none⟩ (.int .i64 (n + 1 + min (t.ty.nodes : Int) 8193)) = w4 at *
        have kk := (hat.below HC4.below hB).c10
        go_wp2_with fail
        go_loopw [40] (fun i wr => ∃ j : Nat, j ≤ t.ks.length ∧ i = .int .i64 j ∧ ∃ m : Int, 0 ≤ m ∧ m ≤ 8192 ∧ m + RTm.nodesL (t.ks.drop j) = n + t.nodes ∧ Counter cb w wr m) (fun i _ => t.ks.length - (intOf i).toNat)
        case atStart =>
          refine ⟨0, by omega, rfl, (n + 1 + min (t.ty.nodes : Int) 8193), by omega, by omega, ?_, HC4⟩
          have h := HN.out
          rw [hfr, hto] at h
          simp only [if_true, Bool.false_eq_true, if_false] at h
          simp only [List.drop_zero]
          omega
        case round =>
          obtain ⟨j, hj, rfl, m, hm0, hm1, hinv, HCr⟩ := hrel
          by_cases hlt : j < t.ks.length
          · have hk := List.getElem?_eq_getElem hlt
            generalize hkid : t.ks[j] = kid at hk
            have HD := Lib.hid (RTm.nodesL_drop hk)
            have hd := RTm.nodesL_drop hk
            have hrt := hat.below HCr.below hB
            obtain ⟨kb, ko, ks', hka, hkat⟩ := hrt.kid hk
            have kc10 := hrt.c10
            rw [hka] at kc10
            have hnk := RTm.kid_nodes hk
            have kcr := HCr.cell
            have kfr := HCr.free
            have hcr := World.block_lt_of_cell? _ _ kcr
            clear hk hkid hka
            have HI := Lib.hid hinv
            clear hinv hd
            by_cases hle : m + kid.nodes ≤ 8192
            · go_wp2_with fail
              refine (term_ok N kid B cb kb (ko + j * 11) m ks' _ (by omega) hkat hB hcr kcr kfr (by omega) (by omega)).mono ?_
              rintro e w9 ⟨rfl, HC9⟩
              have HCn : Counter cb w w9 (m + kid.nodes) := ⟨HCr.below.trans HC9.below, HC9.cell, HC9.free⟩
              go_wp2_with fail
              go_round
              case rel =>
                refine ⟨j + 1, by omega, by go_num, m + kid.nodes, by omega, by omega, ?_, HCn⟩
                have h1 := HD.out
                have h2 := HI.out
                omega
              case measure => simp [intOf]; omega
            · go_wp2_with fail
              refine (ih kid B cb kb (ko + j * 11) m ks' _ (by omega) hkat hB hcr kcr kfr (by omega) (by omega) (by omega)).mono ?_
              rintro e w9 ⟨rfl, hb9⟩
              go_wp2_with fail
              exact ⟨rfl, rfl, HCr.below.trans hb9⟩
          · have : j = t.ks.length := by omega
            subst this
            simp [RTm.nodesL] at hinv
            omega
      · refine (add_big cb (n + 1) (min (t.ty.nodes : Int) 8193) _ kc3 kf3 (by omega) (by omega) (by omega) (by omega) (by omega)).mono ?_
        rintro e w3' ⟨rfl, rfl⟩
        go_wp2_with fail
        exact ⟨rfl, rfl, HC3.set.below⟩
  · have hto : hasTo t.k = false := by
      cases h : hasTo t.k with
      | false => rfl
      | true =>
        exfalso; apply hfr
        unfold hasTo at h; unfold hasFrom
        simp at h ⊢; omega
    have hfr : hasFrom t.k = false := by simpa using hfr
    rw [hto, hfr] at hNe
    simp only [Bool.false_eq_true, if_false] at hNe
    have hbl2 : b < w2.heap.size := by have := hat.lt; omega
    have HC4 := HC2.step (HSB.out (.cells #[.int .i64 (kidsOf t.k), .bool (hasName t.k), .bool (hasArg t.k), .bool (hasNum t.k), .bool (hasFrom t.k), .bool (hasTo t.k), .bool (hasLabel t.k), .bool (hasOp t.k)] 127))
    have kk2 := (hat.below HC2.below hB).c10
    go_wp2_with fail
    go_loopw [40] (fun i wr => ∃ j : Nat, j ≤ t.ks.length ∧ i = .int .i64 j ∧ ∃ m : Int, 0 ≤ m ∧ m ≤ 8192 ∧ m + RTm.nodesL (t.ks.drop j) = n + t.nodes ∧ Counter cb w wr m) (fun i _ => t.ks.length - (intOf i).toNat)
    case atStart =>
      refine ⟨0, by omega, rfl, n + 1, by omega, by omega, ?_, by rw [hfr, hto] at HC4; exact HC4⟩
      have h := HN.out
      rw [hfr, hto] at h
      simp only [if_true, Bool.false_eq_true, if_false] at h
      simp only [List.drop_zero]
      omega
    case round =>
      obtain ⟨j, hj, rfl, m, hm0, hm1, hinv, HCr⟩ := hrel
      by_cases hlt : j < t.ks.length
      · have hk := List.getElem?_eq_getElem hlt
        generalize hkid : t.ks[j] = kid at hk
        have HD := Lib.hid (RTm.nodesL_drop hk)
        have hd := RTm.nodesL_drop hk
        have hrt := hat.below HCr.below hB
        obtain ⟨kb, ko, ks', hka, hkat⟩ := hrt.kid hk
        have kc10 := hrt.c10
        rw [hka] at kc10
        have hnk := RTm.kid_nodes hk
        have kcr := HCr.cell
        have kfr := HCr.free
        have hcr := World.block_lt_of_cell? _ _ kcr
        clear hk hkid hka
        have HI := Lib.hid hinv
        clear hinv hd
        by_cases hle : m + kid.nodes ≤ 8192
        · go_wp2_with fail
          refine (term_ok N kid B cb kb (ko + j * 11) m ks' _ (by omega) hkat hB hcr kcr kfr (by omega) (by omega)).mono ?_
          rintro e w9 ⟨rfl, HC9⟩
          have HCn : Counter cb w w9 (m + kid.nodes) := ⟨HCr.below.trans HC9.below, HC9.cell, HC9.free⟩
          go_wp2_with fail
          go_round
          case rel =>
            refine ⟨j + 1, by omega, by go_num, m + kid.nodes, by omega, by omega, ?_, HCn⟩
            have h1 := HD.out
            have h2 := HI.out
            omega
          case measure => simp [intOf]; omega
        · go_wp2_with fail
          refine (ih kid B cb kb (ko + j * 11) m ks' _ (by omega) hkat hB hcr kcr kfr (by omega) (by omega) (by omega)).mono ?_
          rintro e w9 ⟨rfl, hb9⟩
          go_wp2_with fail
          exact ⟨rfl, rfl, HCr.below.trans hb9⟩
      · have : j = t.ks.length := by omega
        subst this
        simp [RTm.nodesL] at hinv
        omega
end Go.Proofs.Ytaoodchjggimcaa

/- The walks of package terms: Nodes and its deferred closure. -/
set_option linter.unusedVariables false
set_option linter.unusedSimpArgs false
namespace Go.Proofs.Ytaoodchjggimcaa
open Go.RowKit

theorem mnodesD_idle (p : Addr) (w : World) :
    CallsD Try.prog 83 #[.pointer (some p)] .returning w fun e u' w' => e = .returned (.tuple #[]) ∧ u' = .returning ∧ w' = w := by
  refine callsD_of_wpS Try.func83 rfl fun c₀ cs hu => ?_
  apply wpS_seq
  apply wpS_region
  simp [wpOpsS, go_sem, recoverD, hu, Try.ntmps83, Exit.thenS]
  refine wpS_of_wp ?_
  rw [show (#[Value.pointer (some p)] ++ ((Array.replicate 14 undef).setIfInBounds 3 Value.nilIface).setIfInBounds 0 Value.nilIface : Array Value) = #[Value.pointer (some p), Value.nilIface, undef, undef, Value.nilIface, undef, undef, undef, undef, undef, undef, undef, undef, undef, undef] from rfl]
  go_wp2_with fail
  cases c₀
  simp_all [bodyPostS, results, Try.results83]

theorem assert_big (w : World) : (Instr.typeAssert (.iface 122 (.agg #[])) 20 122 true).run Try.prog w = .ok (.tuple #[.agg #[], .bool true]) w := by kernel_rfl

theorem mnodesD_panic (b : Nat) (x : Int) (older : List PanicEntry) (w : World) (hc : w.cell? ⟨b, 0, none⟩ = some (.int .i64 x)) (hz : w.frozen? ⟨b, 0, none⟩ = false) :
    CallsD Try.prog 83 #[.pointer (some ⟨b, 0, none⟩)] (.panicking ({ v := .iface 122 (.agg #[]), recovered := false } :: older)) w fun e u' w' =>
      e = .returned (.tuple #[]) ∧ u' = .panicking ({ v := .iface 122 (.agg #[]), recovered := true } :: older) ∧ w' = (w.setCell ⟨b, 0, none⟩ (.int .i64 8193)).alloc (.cells #[] 122) := by
  have hlt : b < w.heap.size := World.block_lt_of_cell? w _ hc
  refine callsD_of_wpS Try.func83 rfl fun c₀ cs hu => ?_
  apply wpS_seq
  apply wpS_region
  simp [wpOpsS, go_sem, recoverD, hu, Try.ntmps83, Exit.thenS]
  refine wpS_of_wp ?_
  have HU := Lib.hid hu
  clear hu
  have hz' : (w.alloc (.cells #[] 122)).frozen? ⟨b, 0, none⟩ = false := frozen_kept (below_new _ _) hlt hz
  rw [show (#[Value.pointer (some ⟨b, 0, none⟩)] ++ ((Array.replicate 14 undef).setIfInBounds 3 (Value.iface 122 (Value.agg #[]))).setIfInBounds 0 (Value.iface 122 (Value.agg #[])) : Array Value) = #[Value.pointer (some ⟨b, 0, none⟩), Value.iface 122 (Value.agg #[]), undef, undef, Value.iface 122 (Value.agg #[]), undef, undef, undef, undef, undef, undef, undef, undef, undef, undef] from rfl]
  have hta := assert_big
  go_wp2_with fail
  simp_all [bodyPostS, results, Try.results83]


/-- A term by value, in the new block that it is laid in. -/
theorem RTm.At.boxed {w W : World} {B : Nat} {s : TmSh} {t : RTm} {E : TypeId} (h : t.In w B s) (hB : B ≤ w.heap.size) (hb : Below (w.heap.size + 1) (w.alloc (.cells #[.int .i8 t.k, .string t.name, .string t.arg, .int .i64 t.num, .int .i8 t.ty.k, .slice s.ta t.ty.ks.length s.tc, .int .i8 t.to.k, .slice s.oa t.to.ks.length s.oc, .int .i64 t.label, .int .i64 t.spot, .slice s.ka t.ks.length s.kc] E)) W) : RTm.At W (w.heap.size + 1) w.heap.size 0 s t := by
  have h1 : RTm.At (w.alloc (.cells #[.int .i8 t.k, .string t.name, .string t.arg, .int .i64 t.num, .int .i8 t.ty.k, .slice s.ta t.ty.ks.length s.tc, .int .i8 t.to.k, .slice s.oa t.to.ks.length s.oc, .int .i64 t.label, .int .i64 t.spot, .slice s.ka t.ks.length s.kc] E)) (w.heap.size + 1) w.heap.size 0 s t := by
    refine RTm.At.of (Nat.lt_succ_self _) (fun j v hj => ?_) ((h.below (below_new _ _) hB).up (by omega))
    rw [Nat.zero_add, World.cell?_alloc_new]
    simpa using hj
  exact h1.below hb (Nat.le_refl _)

theorem mnodes_any (t : RTm) (B : Nat) (s : TmSh) (w : World) (hin : t.In w B s) (hB : B ≤ w.heap.size) :
    Calls Try.prog 47 #[t.v s] w fun e w' => e = .returned (.int .i64 (min (t.nodes : Int) 8193)) ∧ Below w.heap.size w w' := by
  have hmf := @makeFunc_run Try.prog
  have hnp := t.nodes_pos
  by_cases hn : t.nodes ≤ 8192
  · have e1 : min (t.nodes : Int) 8193 = t.nodes := by omega
    have hn2 : (t.nodes : Int) ≤ 8192 := by omega
    clear hn
    go_enter_defers Try.func47, Try.ntmps47
    go_wp2_with fail
    refine (term_ok t.nodes t (w.heap.size + 1) (w.heap.size + 1 + 1) w.heap.size 0 0 s _ (Nat.le_refl _) (RTm.At.boxed hin hB (E := 28) (by (repeat (first | assumption | exact Below.refl _ _ | apply below_drewN | apply Below.drew | (refine Below.alloc ?_ (by first | omega | (simp; done) | (simp; omega)) _) | (refine Below.setCell ?_ (by first | omega | (simp; done) | (simp; omega)) _))))) (by omega) (by simp) (by simp [go_sem]) (by simp [go_sem]) (by omega) (by omega)).mono ?_
    rintro e w1 ⟨rfl, hb1, hc1, hf1⟩
    have q1 : w1.cell? ⟨w.heap.size + 1, 0, none⟩ = some (.int .i64 0) := by rw [(bcell hb1).1 _ _ (by omega)]; simp [go_sem]
    have q2 : w1.frozen? ⟨w.heap.size + 1, 0, none⟩ = false := by rw [(bcell hb1).2 _ _ (by omega)]; simp [go_sem]
    have hb0 : Below w.heap.size w w1 := Below.trans (by (repeat (first | assumption | exact Below.refl _ _ | apply below_drewN | apply Below.drew | (refine Below.alloc ?_ (by first | omega | (simp; done) | (simp; omega)) _) | (refine Below.setCell ?_ (by first | omega | (simp; done) | (simp; omega)) _)))) (hb1.mono (by omega))
    have hs1 := hb1.size
    rw [World.size_alloc, World.size_alloc, World.size_alloc] at hs1
    simp only [Int.zero_add] at hc1
    clear hb1
    go_wp2_with fail
    refine leaves_cons (f := 83) (args := #[.pointer (some ⟨w.heap.size + 1, 0, none⟩)]) (by simp) (by simp [go_sem]) ?_
    refine (mnodesD_idle ⟨w.heap.size + 1, 0, none⟩ _).mono ?_
    rintro e u' w'' ⟨rfl, rfl, rfl⟩
    simp [Leaves, settle, results, Try.results47, go_sem, q1]
    refine ⟨e1.symm, ?_⟩
    (repeat (first | assumption | exact Below.refl _ _ | apply below_drewN | apply Below.drew | (refine Below.alloc ?_ (by first | omega | (simp; done) | (simp; omega)) _) | (refine Below.setCell ?_ (by first | omega | (simp; done) | (simp; omega)) _)))
  · have e1 : min (t.nodes : Int) 8193 = 8193 := by omega
    have hn' : 8192 < (t.nodes : Int) := by omega
    clear hn
    go_enter_defers Try.func47, Try.ntmps47
    go_wp2_with fail
    refine (term_big t.nodes t (w.heap.size + 1) (w.heap.size + 1 + 1) w.heap.size 0 0 s _ (Nat.le_refl _) (RTm.At.boxed hin hB (E := 28) (by (repeat (first | assumption | exact Below.refl _ _ | apply below_drewN | apply Below.drew | (refine Below.alloc ?_ (by first | omega | (simp; done) | (simp; omega)) _) | (refine Below.setCell ?_ (by first | omega | (simp; done) | (simp; omega)) _))))) (by omega) (by simp) (by simp [go_sem]) (by simp [go_sem]) (by omega) (by omega) (by omega)).mono ?_
    rintro e w1 ⟨rfl, hb1⟩
    have q1 : w1.cell? ⟨w.heap.size + 1, 0, none⟩ = some (.int .i64 0) := by rw [(bcell hb1).1 _ _ (by omega)]; simp [go_sem]
    have q2 : w1.frozen? ⟨w.heap.size + 1, 0, none⟩ = false := by rw [(bcell hb1).2 _ _ (by omega)]; simp [go_sem]
    have hb0 : Below w.heap.size w w1 := Below.trans (by (repeat (first | assumption | exact Below.refl _ _ | apply below_drewN | apply Below.drew | (refine Below.alloc ?_ (by first | omega | (simp; done) | (simp; omega)) _) | (refine Below.setCell ?_ (by first | omega | (simp; done) | (simp; omega)) _)))) (hb1.mono (by omega))
    have hs1 := hb1.size
    rw [World.size_alloc, World.size_alloc, World.size_alloc] at hs1
    clear hb1
    go_wp2_with fail
    refine leaves_cons (f := 83) (args := #[.pointer (some ⟨w.heap.size + 1, 0, none⟩)]) (by simp) (by simp [go_sem]) ?_
    refine (mnodesD_panic (w.heap.size + 1) 0 [] _ q1 q2).mono ?_
    rintro e u' w'' ⟨rfl, rfl, rfl⟩
    have hlt : w.heap.size + 1 < w1.heap.size := by omega
    have q3 : ((w1.setCell ⟨w.heap.size + 1, 0, none⟩ (.int .i64 8193)).alloc (.cells #[] 122)).cell? ⟨w.heap.size + 1, 0, none⟩ = some (.int .i64 8193) := by
      rw [World.cell?_alloc_past _ _ _ (by simp; omega)]; exact World.cell?_setCell_same _ _ _ q1
    simp [Leaves, settle, results, Try.results47, go_sem, q3]
    refine ⟨e1.symm, ?_⟩
    (repeat (first | assumption | exact Below.refl _ _ | apply below_drewN | apply Below.drew | (refine Below.alloc ?_ (by first | omega | (simp; done) | (simp; omega)) _) | (refine Below.setCell ?_ (by first | omega | (simp; done) | (simp; omega)) _)))
end Go.Proofs.Ytaoodchjggimcaa

/- The walks of package terms: how deep; is there a kind. -/
set_option linter.unusedVariables false
set_option linter.unusedSimpArgs false
namespace Go.Proofs.Ytaoodchjggimcaa
open Go.RowKit

theorem dep_of {t : RTy} (h : t.nodes ≤ 8192) : t.dep = min (t.depth : Int) 201 := by unfold RTy.dep; rw [if_neg (by omega)]

set_option maxHeartbeats 4000000 in
theorem mdepth_any (N : Nat) : ∀ (t : RTm) (B b o : Nat) (l : Int) (s : TmSh) (w : World), t.nodes ≤ N → t.nodes ≤ 8192 → RTm.At w B b o s t → B ≤ w.heap.size → 1 ≤ l → l ≤ 201 →
    Calls Try.prog 85 #[.pointer (some ⟨b, o, none⟩), .int .i64 l] w fun e w' => e = .returned (.int .i64 (min (t.depth : Int) l)) ∧ Below w.heap.size w w' := by
  induction N with
  | zero => intro t B b o l s w h; have := t.nodes_pos; omega
  | succ N ih =>
  intro t B b o l s w hN hN2 hat hB hl1 hl2
  have hlen := hat.inn.fine.len
  have HD := Lib.hid t.depth_eq
  have hdp := t.depth_pos
  by_cases h : l = 1
  · have e : min (t.depth : Int) l = 1 := by omega
    subst h
    go_enter Try.func85, Try.ntmps85
    go_wp2_with fail
    go_ret
    exact ⟨ret_int e.symm, Below.refl _ _⟩
  have h1 : 1 < l := by omega
  have hl0 : (l == 1) = false := by simpa using h
  clear h
  have k0 := hat.c0
  have hNe := t.nodes_eq
  have HNK : Hid (∀ (j : Nat) (x : RTm), t.ks[j]? = some x → x.nodes < t.nodes) := fun j x h => RTm.kid_nodes h
  go_enter Try.func85, Try.ntmps85
  go_wp2_with fail
  refine (of_any t.k _).mono ?_
  unfold shapeV
  rintro e w2 ⟨rfl, hb2⟩
  have hs2 := hb2.size
  have hat2 := hat.below hb2 hB
  have hbl2 : b < w2.heap.size := by have := hat.lt; omega
  have HSB := Lib.hid (fun o : Obj => below_new w2 o)
  clear k0
  by_cases hfr : hasFrom t.k = true
  · rw [hfr] at hNe
    by_cases hto : hasTo t.k = true
    · rw [hto] at hNe
      simp only [if_true] at hNe
      have k4 := hat2.c4
      have k5 := hat2.c5
      go_wp2_with fail
      refine (tdepth_any t.ty B s.ta s.tc _ (hat.inn.ty.below (C := w.heap.size) (hb2.trans ((HSB.out _).mono hs2)) hB) (by simp; omega)).mono ?_
      rw [dep_of (by omega)]
      rintro e w3 ⟨rfl, hb3⟩
      have hb03 : Below w.heap.size w w3 := hb2.trans (((HSB.out _).mono hs2).trans (hb3.mono (by simp; omega)))
      have hs3 := hb3.size
      rw [World.size_alloc] at hs3
      have hsh3 : w3.cell? ⟨w2.heap.size, 5, none⟩ = some (.bool (hasTo t.k)) := cell_kept hb3 (by simp [go_sem, hto])
      clear k4 k5
      have k6 := (hat.below hb03 hB).c6
      have k7 := (hat.below hb03 hB).c7
      go_wp2_with fail
      refine (tdepth_any t.to B s.oa s.oc _ (hat.inn.to.below hb03 hB) (by omega)).mono ?_
      rw [dep_of (by omega)]
      rintro e w4 ⟨rfl, hb4⟩
      have hb04 := hb03.trans (hb4.mono (by omega))
      clear k6 k7
      by_cases hmx : min (t.ty.depth : Int) 201 < min (t.to.depth : Int) 201
      · skip
        have kk := (hat.below hb04 hB).c10
        go_wp2_with fail
        go_loopw [5, 40] (fun d i wr => ∃ j : Nat, j ≤ t.ks.length ∧ i = .int .i64 j ∧ ∃ x : Int, 0 ≤ x ∧ x ≤ 201 ∧ d = .int .i64 x ∧ max x (min (RTm.depthL (t.ks.drop j) : Int) (l - 1)) = max (min (t.to.depth : Int) 201) (min (RTm.depthL t.ks : Int) (l - 1)) ∧ Below w.heap.size w wr) (fun _ i _ => t.ks.length - (intOf i).toNat)
        case atStart => exact ⟨0, by omega, rfl, _, by omega, by omega, rfl, by simp, hb04⟩
        case round =>
          obtain ⟨j, hj, rfl, x, hx0, hx1, rfl, hinv, hbr⟩ := hrel
          by_cases hlt : j < t.ks.length
          · have hk := List.getElem?_eq_getElem hlt
            generalize hkid : t.ks[j] = kid at hk
            have HDD := Lib.hid (RTm.depthL_drop hk)
            have hrt := hat.below hbr hB
            obtain ⟨kb, ko, ks', hka, hkat⟩ := hrt.kid hk
            have kc10 := hrt.c10
            rw [hka] at kc10
            have hnk := HNK.out _ _ hk
            have hbs := hbr.size
            have HI := Lib.hid hinv
            clear hk hkid hka hinv
            go_wp2_with fail
            refine (ih kid B kb (ko + j * 11) (l - 1) ks' _ (by omega) (by omega) hkat (by omega) (by omega) (by omega)).mono ?_
            rintro e w9 ⟨rfl, hb9⟩
            go_wp2_with fail
            go_round
            case rel =>
              have hd := HDD.out
              have hi := HI.out
              refine ⟨j + 1, by omega, by go_num, _, ?_, ?_, rfl, ?_, hbr.trans (hb9.mono (by omega))⟩
              · split <;> omega
              · split <;> omega
              · rw [hd] at hi; rw [← hi]; split <;> omega
            case measure => simp [intOf]; omega
          · have : j = t.ks.length := by omega
            subst this
            simp [RTm.depthL] at hinv
            go_wp2_with fail
            all_goals go_ret
            all_goals
              refine ⟨ret_int ?_, hbr⟩
              have hd := HD.out
              rw [hfr, hto] at hd
              simp only [if_true, Bool.false_eq_true, if_false] at hd
              first | (split <;> omega) | omega
      · skip
        have kk := (hat.below hb04 hB).c10
        go_wp2_with fail
        go_loopw [5, 40] (fun d i wr => ∃ j : Nat, j ≤ t.ks.length ∧ i = .int .i64 j ∧ ∃ x : Int, 0 ≤ x ∧ x ≤ 201 ∧ d = .int .i64 x ∧ max x (min (RTm.depthL (t.ks.drop j) : Int) (l - 1)) = max (min (t.ty.depth : Int) 201) (min (RTm.depthL t.ks : Int) (l - 1)) ∧ Below w.heap.size w wr) (fun _ i _ => t.ks.length - (intOf i).toNat)
        case atStart => exact ⟨0, by omega, rfl, _, by omega, by omega, rfl, by simp, hb04⟩
        case round =>
          obtain ⟨j, hj, rfl, x, hx0, hx1, rfl, hinv, hbr⟩ := hrel
          by_cases hlt : j < t.ks.length
          · have hk := List.getElem?_eq_getElem hlt
            generalize hkid : t.ks[j] = kid at hk
            have HDD := Lib.hid (RTm.depthL_drop hk)
            have hrt := hat.below hbr hB
            obtain ⟨kb, ko, ks', hka, hkat⟩ := hrt.kid hk
            have kc10 := hrt.c10
            rw [hka] at kc10
            have hnk := HNK.out _ _ hk
            have hbs := hbr.size
            have HI := Lib.hid hinv
            clear hk hkid hka hinv
            go_wp2_with fail
            refine (ih kid B kb (ko + j * 11) (l - 1) ks' _ (by omega) (by omega) hkat (by omega) (by omega) (by omega)).mono ?_
            rintro e w9 ⟨rfl, hb9⟩
            go_wp2_with fail
            go_round
            case rel =>
              have hd := HDD.out
              have hi := HI.out
              refine ⟨j + 1, by omega, by go_num, _, ?_, ?_, rfl, ?_, hbr.trans (hb9.mono (by omega))⟩
              · split <;> omega
              · split <;> omega
              · rw [hd] at hi; rw [← hi]; split <;> omega
            case measure => simp [intOf]; omega
          · have : j = t.ks.length := by omega
            subst this
            simp [RTm.depthL] at hinv
            go_wp2_with fail
            all_goals go_ret
            all_goals
              refine ⟨ret_int ?_, hbr⟩
              have hd := HD.out
              rw [hfr, hto] at hd
              simp only [if_true, Bool.false_eq_true, if_false] at hd
              first | (split <;> omega) | omega
    · have hto : hasTo t.k = false := by simpa using hto
      rw [hto] at hNe
      simp only [if_true, Bool.false_eq_true, if_false] at hNe
      have k4 := hat2.c4
      have k5 := hat2.c5
      go_wp2_with fail
      refine (tdepth_any t.ty B s.ta s.tc _ (hat.inn.ty.below (C := w.heap.size) (hb2.trans ((HSB.out _).mono hs2)) hB) (by simp; omega)).mono ?_
      rw [dep_of (by omega)]
      rintro e w3 ⟨rfl, hb3⟩
      have hb03 : Below w.heap.size w w3 := hb2.trans (((HSB.out _).mono hs2).trans (hb3.mono (by simp; omega)))
      have hs3 := hb3.size
      rw [World.size_alloc] at hs3
      have hsh3 : w3.cell? ⟨w2.heap.size, 5, none⟩ = some (.bool (hasTo t.k)) := cell_kept hb3 (by simp [go_sem, hto])
      clear k4 k5
      have kk := (hat.below hb03 hB).c10
      go_wp2_with fail
      go_loopw [5, 40] (fun d i wr => ∃ j : Nat, j ≤ t.ks.length ∧ i = .int .i64 j ∧ ∃ x : Int, 0 ≤ x ∧ x ≤ 201 ∧ d = .int .i64 x ∧ max x (min (RTm.depthL (t.ks.drop j) : Int) (l - 1)) = max (min (t.ty.depth : Int) 201) (min (RTm.depthL t.ks : Int) (l - 1)) ∧ Below w.heap.size w wr) (fun _ i _ => t.ks.length - (intOf i).toNat)
      case atStart => exact ⟨0, by omega, rfl, _, by omega, by omega, rfl, by simp, hb03⟩
      case round =>
        obtain ⟨j, hj, rfl, x, hx0, hx1, rfl, hinv, hbr⟩ := hrel
        by_cases hlt : j < t.ks.length
        · have hk := List.getElem?_eq_getElem hlt
          generalize hkid : t.ks[j] = kid at hk
          have HDD := Lib.hid (RTm.depthL_drop hk)
          have hrt := hat.below hbr hB
          obtain ⟨kb, ko, ks', hka, hkat⟩ := hrt.kid hk
          have kc10 := hrt.c10
          rw [hka] at kc10
          have hnk := HNK.out _ _ hk
          have hbs := hbr.size
          have HI := Lib.hid hinv
          clear hk hkid hka hinv
          go_wp2_with fail
          refine (ih kid B kb (ko + j * 11) (l - 1) ks' _ (by omega) (by omega) hkat (by omega) (by omega) (by omega)).mono ?_
          rintro e w9 ⟨rfl, hb9⟩
          go_wp2_with fail
          go_round
          case rel =>
            have hd := HDD.out
            have hi := HI.out
            refine ⟨j + 1, by omega, by go_num, _, ?_, ?_, rfl, ?_, hbr.trans (hb9.mono (by omega))⟩
            · split <;> omega
            · split <;> omega
            · rw [hd] at hi; rw [← hi]; split <;> omega
          case measure => simp [intOf]; omega
        · have : j = t.ks.length := by omega
          subst this
          simp [RTm.depthL] at hinv
          go_wp2_with fail
          all_goals go_ret
          all_goals
            refine ⟨ret_int ?_, hbr⟩
            have hd := HD.out
            rw [hfr, hto] at hd
            simp only [if_true, Bool.false_eq_true, if_false] at hd
            first | (split <;> omega) | omega
  · have hto : hasTo t.k = false := by
      cases h : hasTo t.k with
      | false => rfl
      | true =>
        exfalso; apply hfr
        unfold hasTo at h; unfold hasFrom
        simp at h ⊢; omega
    have hfr : hasFrom t.k = false := by simpa using hfr
    rw [hto, hfr] at hNe
    simp only [Bool.false_eq_true, if_false] at hNe
    have hb22 : ∀ o : Obj, Below w.heap.size w (w2.alloc o) := fun o => hb2.trans ((HSB.out o).mono hs2)
    have HB22 := Lib.hid hb22
    clear hb22
    have kk2 := (hat.below hb2 hB).c10
    go_wp2_with fail
    go_loopw [5, 40] (fun d i wr => ∃ j : Nat, j ≤ t.ks.length ∧ i = .int .i64 j ∧ ∃ x : Int, 0 ≤ x ∧ x ≤ 201 ∧ d = .int .i64 x ∧ max x (min (RTm.depthL (t.ks.drop j) : Int) (l - 1)) = max (0) (min (RTm.depthL t.ks : Int) (l - 1)) ∧ Below w.heap.size w wr) (fun _ i _ => t.ks.length - (intOf i).toNat)
    case atStart => exact ⟨0, by omega, rfl, _, by omega, by omega, rfl, by simp, by rw [hfr, hto] at *; exact HB22.out _⟩
    case round =>
      obtain ⟨j, hj, rfl, x, hx0, hx1, rfl, hinv, hbr⟩ := hrel
      by_cases hlt : j < t.ks.length
      · have hk := List.getElem?_eq_getElem hlt
        generalize hkid : t.ks[j] = kid at hk
        have HDD := Lib.hid (RTm.depthL_drop hk)
        have hrt := hat.below hbr hB
        obtain ⟨kb, ko, ks', hka, hkat⟩ := hrt.kid hk
        have kc10 := hrt.c10
        rw [hka] at kc10
        have hnk := HNK.out _ _ hk
        have hbs := hbr.size
        have HI := Lib.hid hinv
        clear hk hkid hka hinv
        go_wp2_with fail
        refine (ih kid B kb (ko + j * 11) (l - 1) ks' _ (by omega) (by omega) hkat (by omega) (by omega) (by omega)).mono ?_
        rintro e w9 ⟨rfl, hb9⟩
        go_wp2_with fail
        go_round
        case rel =>
          have hd := HDD.out
          have hi := HI.out
          refine ⟨j + 1, by omega, by go_num, _, ?_, ?_, rfl, ?_, hbr.trans (hb9.mono (by omega))⟩
          · split <;> omega
          · split <;> omega
          · rw [hd] at hi; rw [← hi]; split <;> omega
        case measure => simp [intOf]; omega
      · have : j = t.ks.length := by omega
        subst this
        simp [RTm.depthL] at hinv
        go_wp2_with fail
        all_goals go_ret
        all_goals
          refine ⟨ret_int ?_, hbr⟩
          have hd := HD.out
          rw [hfr, hto] at hd
          simp only [if_true, Bool.false_eq_true, if_false] at hd
          first | (split <;> omega) | omega

theorem mDepth_any (t : RTm) (B : Nat) (s : TmSh) (w : World) (hin : t.In w B s) (hB : B ≤ w.heap.size) :
    Calls Try.prog 48 #[t.v s] w fun e w' => e = .returned (.int .i64 (if 8192 < t.nodes then 201 else min (t.depth : Int) 201)) ∧ Below w.heap.size w w' := by
  by_cases hn : t.nodes ≤ 8192
  · have e1 : min (t.nodes : Int) 8193 = t.nodes := by omega
    have hn2 : (t.nodes : Int) ≤ 8192 := by omega
    rw [if_neg (by omega)]
    go_enter Try.func48, Try.ntmps48
    go_wp2_with fail
    refine (mnodes_any t B s _ (hin.below (C := w.heap.size) (by (repeat (first | assumption | exact Below.refl _ _ | apply below_drewN | apply Below.drew | (refine Below.alloc ?_ (by first | omega | (simp; done) | (simp; omega)) _) | (refine Below.setCell ?_ (by first | omega | (simp; done) | (simp; omega)) _)))) hB) (by simp; omega)).mono ?_
    rw [e1]
    rintro e w1 ⟨rfl, hb1⟩
    have hat : RTm.At w1 (w.heap.size + 1) w.heap.size 0 s t := RTm.At.boxed hin hB (E := 28) (by simpa using hb1)
    have hb0 : Below w.heap.size w w1 := Below.trans (by (repeat (first | assumption | exact Below.refl _ _ | apply below_drewN | apply Below.drew | (refine Below.alloc ?_ (by first | omega | (simp; done) | (simp; omega)) _) | (refine Below.setCell ?_ (by first | omega | (simp; done) | (simp; omega)) _)))) (hb1.mono (by simp))
    have hs := hb1.size
    rw [World.size_alloc] at hs
    clear e1 hb1
    go_wp2_with fail
    refine (mdepth_any t.nodes t (w.heap.size + 1) w.heap.size 0 201 s _ (Nat.le_refl _) hn hat hs (by omega) (by omega)).mono ?_
    rintro e w2 ⟨rfl, hb2⟩
    go_wp2_with fail
    go_ret
    exact ⟨rfl, hb0.trans (hb2.mono (by omega))⟩
  · have e1 : min (t.nodes : Int) 8193 = 8193 := by omega
    rw [if_pos (by omega)]
    clear hn
    go_enter Try.func48, Try.ntmps48
    go_wp2_with fail
    refine (mnodes_any t B s _ (hin.below (C := w.heap.size) (by (repeat (first | assumption | exact Below.refl _ _ | apply below_drewN | apply Below.drew | (refine Below.alloc ?_ (by first | omega | (simp; done) | (simp; omega)) _) | (refine Below.setCell ?_ (by first | omega | (simp; done) | (simp; omega)) _)))) hB) (by simp; omega)).mono ?_
    rw [e1]
    rintro e w1 ⟨rfl, hb1⟩
    go_wp2_with fail
    go_ret
    exact ⟨rfl, Below.trans (by (repeat (first | assumption | exact Below.refl _ _ | apply below_drewN | apply Below.drew | (refine Below.alloc ?_ (by first | omega | (simp; done) | (simp; omega)) _) | (refine Below.setCell ?_ (by first | omega | (simp; done) | (simp; omega)) _)))) (hb1.mono (by simp))⟩

theorem has_any (N : Nat) : ∀ (t : RTm) (B b o : Nat) (k : Int) (s : TmSh) (w : World), t.nodes ≤ N → RTm.At w B b o s t → B ≤ w.heap.size →
    Calls Try.prog 74 #[.pointer (some ⟨b, o, none⟩), .int .i8 k] w fun e w' => e = .returned (.bool (t.has k)) ∧ w = w' := by
  induction N with
  | zero => intro t B b o k s w h; have := t.nodes_pos; omega
  | succ N ih =>
  intro t B b o k s w hN hat hB
  have hlen := hat.inn.fine.len
  have HE := Lib.hid (t.has_eq k)
  have k0 := hat.c0
  have k10 := hat.c10
  by_cases h : t.k = k
  · have e : t.has k = true := by rw [HE.out]; simp [h]
    have h' : (t.k == k) = true := by simp [h]
    clear h
    go_enter Try.func74, Try.ntmps74
    go_wp2_with fail
    go_ret
    exact ⟨ret_bool e.symm, rfl⟩
  have h' : (t.k == k) = false := by simp [h]
  have hE2 : t.has k = RTm.hasL k t.ks := by rw [HE.out, h']; rfl
  have HE2 := Lib.hid hE2
  clear h hE2
  go_enter Try.func74, Try.ntmps74
  go_wp2_with fail
  go_loop [17] (fun i => ∃ j : Nat, j ≤ t.ks.length ∧ i = .int .i64 j ∧ RTm.hasL k (t.ks.drop j) = RTm.hasL k t.ks) (fun i => t.ks.length - (intOf i).toNat)
  case atStart => exact ⟨0, by omega, rfl, by simp⟩
  case round =>
    obtain ⟨j, hj, rfl, hinv⟩ := hrel
    by_cases hlt : j < t.ks.length
    · have hk := List.getElem?_eq_getElem hlt
      generalize hkid : t.ks[j] = kid at hk
      have HDD := Lib.hid (RTm.hasL_drop (k := k) hk)
      obtain ⟨kb, ko, ks', hka, hkat⟩ := hat.kid hk
      have kc10 := k10
      rw [hka] at kc10
      have hnk := RTm.kid_nodes hk
      have HI := Lib.hid hinv
      clear hk hkid hka hinv k10
      go_wp2_with fail
      refine (ih kid B kb (ko + j * 11) k ks' _ (by omega) hkat hB).mono ?_
      by_cases hh : kid.has k = true
      · rw [hh]
        rintro e w9 ⟨rfl, rfl⟩
        have HH := Lib.hid hh
        clear hh
        go_wp2_with fail
        go_ret
        refine ⟨ret_bool ?_, rfl⟩
        have := HDD.out
        rw [HH.out, HI.out] at this
        rw [HE2.out, this]; simp
      · have hh' : kid.has k = false := by simpa using hh
        rw [hh']
        rintro e w9 ⟨rfl, rfl⟩
        have HH := Lib.hid hh'
        clear hh hh'
        go_wp2_with fail
        go_round
        case rel =>
          refine ⟨j + 1, by omega, by go_num, ?_⟩
          have := HDD.out
          rw [HH.out, HI.out] at this; simpa using this.symm
        case measure => simp [intOf]; omega
    · have : j = t.ks.length := by omega
      subst this
      go_wp2_with fail
      go_ret
      refine ⟨ret_bool ?_, rfl⟩
      simp [RTm.hasL] at hinv
      rw [HE2.out, ← hinv]
end Go.Proofs.Ytaoodchjggimcaa

/- The walks of package terms: what is right. -/
set_option linter.unusedVariables false
set_option linter.unusedSimpArgs false
namespace Go.Proofs.Ytaoodchjggimcaa
open Go.RowKit

set_option maxHeartbeats 4000000 in
theorem right_P1 (N : Nat) (ih : ∀ (t : RTm) (B b o : Nat) (s : TmSh) (w : World), t.nodes ≤ N → RTm.At w B b o s t → B ≤ w.heap.size → Calls Try.prog 49 #[.pointer (some ⟨b, o, none⟩)] w fun e w' => e = .returned (.bool t.right) ∧ Below w.heap.size w w')
    (t : RTm) (B b o : Nat) (s : TmSh) (w : World) (hN : t.nodes ≤ N + 1) (hat : RTm.At w B b o s t) (hB : B ≤ w.heap.size) (hkk : isKind t.k = true) (hnm : hasName t.k = false) (hag : hasArg t.k = false) (hfr : hasFrom t.k = false) (hto : hasTo t.k = false) (hlb : hasLabel t.k = false) (hop : hasOp t.k = false) :
    Calls Try.prog 49 #[.pointer (some ⟨b, o, none⟩)] w fun e w' => e = .returned (.bool t.right) ∧ Below w.heap.size w w' := by
  have hlen := hat.inn.fine.len
  have hlab := hat.inn.fine.label
  have HR := Lib.hid t.right_eq
  have HO : Hid (t.own = (isKind t.k && (decide (kidsOf t.k = t.ks.length) && ((!hasLabel t.k || labelB t.label) && ((!hasName t.k || nameB t.name) && ((!hasArg t.k || nameB t.arg) && ((!hasFrom t.k || t.ty.ok) && ((!hasTo t.k || t.to.ok) && (!hasOp t.k || opB t.name))))))))) := rfl
  have k0 := hat.c0
  go_enter Try.func49, Try.ntmps49
  go_wp2_with fail
  refine (of_any t.k _).mono ?_
  unfold shapeV
  rintro e w2 ⟨rfl, hb2⟩
  have hs2 := hb2.size
  have hat2 := hat.below hb2 hB
  have hbl2 : b < w2.heap.size := by have := hat.lt; omega
  have HSB := Lib.hid (fun o : Obj => below_new w2 o)
  have k10 := hat2.c10
  have k8 := hat2.c8
  clear k0
  go_wp2_with fail
  by_cases hkn : kidsOf t.k = t.ks.length
  rotate_left
  · have hkn' : (kidsOf t.k != (t.ks.length : Int)) = true := by simp [hkn]
    have e : t.right = false := by rw [HR.out, HO.out]; simp [hkn]
    have E := Lib.hid e
    clear e hkn
    go_quiet (fail)
    go_wp2_with fail
    go_ret
    exact ⟨ret_bool E.out.symm, hb2.trans (((HSB.out _).mono hs2).trans (below_drewN (Below.refl _ _) _))⟩
  have hkn' : (kidsOf t.k != (t.ks.length : Int)) = false := by simp [hkn]
  have HKN := Lib.hid hkn
  clear hkn
  go_quiet (fail)
  generalize hW3 : World.drewN _ nq = w3
  have hb3 : Below w.heap.size w w3 := by rw [← hW3]; exact hb2.trans (((HSB.out _).mono hs2).trans (below_drewN (Below.refl _ _) _))
  have hz3 : w3.heap.size = w2.heap.size + 1 := by rw [← hW3]; simp
  have z1 : w3.cell? ⟨w2.heap.size, 1, none⟩ = some (.bool false) := by rw [← hW3]; simp [go_sem]
  have z2 : w3.cell? ⟨w2.heap.size, 2, none⟩ = some (.bool false) := by rw [← hW3]; simp [go_sem]
  have z4 : w3.cell? ⟨w2.heap.size, 4, none⟩ = some (.bool false) := by rw [← hW3]; simp [go_sem]
  have z5 : w3.cell? ⟨w2.heap.size, 5, none⟩ = some (.bool false) := by rw [← hW3]; simp [go_sem]
  have z6 : w3.cell? ⟨w2.heap.size, 6, none⟩ = some (.bool false) := by rw [← hW3]; simp [go_sem]
  have z7 : w3.cell? ⟨w2.heap.size, 7, none⟩ = some (.bool false) := by rw [← hW3]; simp [go_sem]
  clear k10 k8 hbl2 hW3
  have hat3 := hat.below hb3 hB
  have hbs3 := hb3.size
  have hrest : t.right = RTm.rightL t.ks := by rw [HR.out, HO.out, hkk, hnm, hag, hfr, hto, hlb, hop, HKN.out]; simp
  have HREST := Lib.hid hrest
  clear hrest
  have kk := (hat.below hb3 hB).c10
  go_wp2_with fail
  go_loopw [108] (fun i wr => ∃ j : Nat, j ≤ t.ks.length ∧ i = .int .i64 j ∧ RTm.rightL (t.ks.drop j) = RTm.rightL t.ks ∧ Below w.heap.size w wr) (fun i _ => t.ks.length - (intOf i).toNat)
  case atStart => exact ⟨0, by omega, rfl, by simp, hb3⟩
  case round =>
    obtain ⟨j, hj, rfl, hinv, hbr⟩ := hrel
    by_cases hlt : j < t.ks.length
    · have hk := List.getElem?_eq_getElem hlt
      generalize hkid : t.ks[j] = kid at hk
      have HDD := Lib.hid (RTm.rightL_drop hk)
      have hrt := hat.below hbr hB
      obtain ⟨kb, ko, ks', hka, hkat⟩ := hrt.kid hk
      have kc10 := hrt.c10
      rw [hka] at kc10
      have hnk := RTm.kid_nodes hk
      have hbs := hbr.size
      have HI := Lib.hid hinv
      clear hk hkid hka hinv
      go_wp2_with fail
      refine (ih kid B kb (ko + j * 11) ks' _ (by omega) hkat (by omega)).mono ?_
      by_cases hh : kid.right = true
      · rw [hh]
        rintro e w9 ⟨rfl, hb9⟩
        have HH := Lib.hid hh
        clear hh
        go_wp2_with fail
        go_round
        case rel =>
          refine ⟨j + 1, by omega, by go_num, ?_, hbr.trans (hb9.mono (by omega))⟩
          have := HDD.out
          rw [HH.out, HI.out] at this; simpa using this.symm
        case measure => simp [intOf]; omega
      · have hh' : kid.right = false := by simpa using hh
        rw [hh']
        rintro e w9 ⟨rfl, hb9⟩
        have HH := Lib.hid hh'
        clear hh hh'
        go_wp2_with fail
        go_ret
        refine ⟨ret_bool ?_, hbr.trans (hb9.mono (by omega))⟩
        have := HDD.out
        rw [HH.out, HI.out] at this
        rw [HREST.out, this]; simp
    · have : j = t.ks.length := by omega
      subst this
      go_wp2_with fail
      go_ret
      refine ⟨ret_bool ?_, hbr⟩
      simp [RTm.rightL] at hinv
      rw [HREST.out, ← hinv]

set_option maxHeartbeats 4000000 in
theorem right_P0 (N : Nat) (ih : ∀ (t : RTm) (B b o : Nat) (s : TmSh) (w : World), t.nodes ≤ N → RTm.At w B b o s t → B ≤ w.heap.size → Calls Try.prog 49 #[.pointer (some ⟨b, o, none⟩)] w fun e w' => e = .returned (.bool t.right) ∧ Below w.heap.size w w')
    (t : RTm) (B b o : Nat) (s : TmSh) (w : World) (hN : t.nodes ≤ N + 1) (hat : RTm.At w B b o s t) (hB : B ≤ w.heap.size) (hkk : isKind t.k = true) (hnm : hasName t.k = true) (hag : hasArg t.k = false) (hfr : hasFrom t.k = false) (hto : hasTo t.k = false) (hlb : hasLabel t.k = false) (hop : hasOp t.k = false) :
    Calls Try.prog 49 #[.pointer (some ⟨b, o, none⟩)] w fun e w' => e = .returned (.bool t.right) ∧ Below w.heap.size w w' := by
  have hlen := hat.inn.fine.len
  have hlab := hat.inn.fine.label
  have HR := Lib.hid t.right_eq
  have HO : Hid (t.own = (isKind t.k && (decide (kidsOf t.k = t.ks.length) && ((!hasLabel t.k || labelB t.label) && ((!hasName t.k || nameB t.name) && ((!hasArg t.k || nameB t.arg) && ((!hasFrom t.k || t.ty.ok) && ((!hasTo t.k || t.to.ok) && (!hasOp t.k || opB t.name))))))))) := rfl
  have k0 := hat.c0
  go_enter Try.func49, Try.ntmps49
  go_wp2_with fail
  refine (of_any t.k _).mono ?_
  unfold shapeV
  rintro e w2 ⟨rfl, hb2⟩
  have hs2 := hb2.size
  have hat2 := hat.below hb2 hB
  have hbl2 : b < w2.heap.size := by have := hat.lt; omega
  have HSB := Lib.hid (fun o : Obj => below_new w2 o)
  have k10 := hat2.c10
  have k8 := hat2.c8
  clear k0
  go_wp2_with fail
  by_cases hkn : kidsOf t.k = t.ks.length
  rotate_left
  · have hkn' : (kidsOf t.k != (t.ks.length : Int)) = true := by simp [hkn]
    have e : t.right = false := by rw [HR.out, HO.out]; simp [hkn]
    have E := Lib.hid e
    clear e hkn
    go_quiet (fail)
    go_wp2_with fail
    go_ret
    exact ⟨ret_bool E.out.symm, hb2.trans (((HSB.out _).mono hs2).trans (below_drewN (Below.refl _ _) _))⟩
  have hkn' : (kidsOf t.k != (t.ks.length : Int)) = false := by simp [hkn]
  have HKN := Lib.hid hkn
  clear hkn
  go_quiet (fail)
  generalize hW3 : World.drewN _ nq = w3
  have hb3 : Below w.heap.size w w3 := by rw [← hW3]; exact hb2.trans (((HSB.out _).mono hs2).trans (below_drewN (Below.refl _ _) _))
  have hz3 : w3.heap.size = w2.heap.size + 1 := by rw [← hW3]; simp
  have z1 : w3.cell? ⟨w2.heap.size, 1, none⟩ = some (.bool true) := by rw [← hW3]; simp [go_sem]
  have z2 : w3.cell? ⟨w2.heap.size, 2, none⟩ = some (.bool false) := by rw [← hW3]; simp [go_sem]
  have z4 : w3.cell? ⟨w2.heap.size, 4, none⟩ = some (.bool false) := by rw [← hW3]; simp [go_sem]
  have z5 : w3.cell? ⟨w2.heap.size, 5, none⟩ = some (.bool false) := by rw [← hW3]; simp [go_sem]
  have z6 : w3.cell? ⟨w2.heap.size, 6, none⟩ = some (.bool false) := by rw [← hW3]; simp [go_sem]
  have z7 : w3.cell? ⟨w2.heap.size, 7, none⟩ = some (.bool false) := by rw [← hW3]; simp [go_sem]
  clear k10 k8 hbl2 hW3
  have hat3 := hat.below hb3 hB
  have hbs3 := hb3.size
  have kn3 := (hat.below hb3 hB).c1
  go_wp2_with fail
  refine (name_any t.name _ hat.inn.fine.name).mono ?_
  by_cases hs_name : nameB t.name = true
  rotate_left
  · have hs_name' : nameB t.name = false := by simpa using hs_name
    rw [hs_name']
    rintro e w4 ⟨rfl, hbn4⟩
    have e : t.right = false := by rw [HR.out, HO.out]; simp [hnm, hs_name']
    have E := Lib.hid e
    clear e
    go_wp2_with fail
    go_ret
    exact ⟨ret_bool E.out.symm, hb3.trans (hbn4.mono (by omega))⟩
  rw [hs_name]
  rintro e w4 ⟨rfl, hbn4⟩
  have hb4 := hb3.trans (hbn4.mono (by omega))
  have hbs4 := hb4.size
  have z1 := cell_kept hbn4 z1
  have z2 := cell_kept hbn4 z2
  have z4 := cell_kept hbn4 z4
  have z5 := cell_kept hbn4 z5
  have z6 := cell_kept hbn4 z6
  have z7 := cell_kept hbn4 z7
  have Hhs_name := Lib.hid hs_name
  clear hs_name kn3
  have hrest : t.right = RTm.rightL t.ks := by rw [HR.out, HO.out, hkk, hnm, hag, hfr, hto, hlb, hop, HKN.out, Hhs_name.out]; simp
  have HREST := Lib.hid hrest
  clear hrest
  have kk := (hat.below hb4 hB).c10
  go_wp2_with fail
  go_loopw [108] (fun i wr => ∃ j : Nat, j ≤ t.ks.length ∧ i = .int .i64 j ∧ RTm.rightL (t.ks.drop j) = RTm.rightL t.ks ∧ Below w.heap.size w wr) (fun i _ => t.ks.length - (intOf i).toNat)
  case atStart => exact ⟨0, by omega, rfl, by simp, hb4⟩
  case round =>
    obtain ⟨j, hj, rfl, hinv, hbr⟩ := hrel
    by_cases hlt : j < t.ks.length
    · have hk := List.getElem?_eq_getElem hlt
      generalize hkid : t.ks[j] = kid at hk
      have HDD := Lib.hid (RTm.rightL_drop hk)
      have hrt := hat.below hbr hB
      obtain ⟨kb, ko, ks', hka, hkat⟩ := hrt.kid hk
      have kc10 := hrt.c10
      rw [hka] at kc10
      have hnk := RTm.kid_nodes hk
      have hbs := hbr.size
      have HI := Lib.hid hinv
      clear hk hkid hka hinv
      go_wp2_with fail
      refine (ih kid B kb (ko + j * 11) ks' _ (by omega) hkat (by omega)).mono ?_
      by_cases hh : kid.right = true
      · rw [hh]
        rintro e w9 ⟨rfl, hb9⟩
        have HH := Lib.hid hh
        clear hh
        go_wp2_with fail
        go_round
        case rel =>
          refine ⟨j + 1, by omega, by go_num, ?_, hbr.trans (hb9.mono (by omega))⟩
          have := HDD.out
          rw [HH.out, HI.out] at this; simpa using this.symm
        case measure => simp [intOf]; omega
      · have hh' : kid.right = false := by simpa using hh
        rw [hh']
        rintro e w9 ⟨rfl, hb9⟩
        have HH := Lib.hid hh'
        clear hh hh'
        go_wp2_with fail
        go_ret
        refine ⟨ret_bool ?_, hbr.trans (hb9.mono (by omega))⟩
        have := HDD.out
        rw [HH.out, HI.out] at this
        rw [HREST.out, this]; simp
    · have : j = t.ks.length := by omega
      subst this
      go_wp2_with fail
      go_ret
      refine ⟨ret_bool ?_, hbr⟩
      simp [RTm.rightL] at hinv
      rw [HREST.out, ← hinv]

set_option maxHeartbeats 4000000 in
theorem right_P2 (N : Nat) (ih : ∀ (t : RTm) (B b o : Nat) (s : TmSh) (w : World), t.nodes ≤ N → RTm.At w B b o s t → B ≤ w.heap.size → Calls Try.prog 49 #[.pointer (some ⟨b, o, none⟩)] w fun e w' => e = .returned (.bool t.right) ∧ Below w.heap.size w w')
    (t : RTm) (B b o : Nat) (s : TmSh) (w : World) (hN : t.nodes ≤ N + 1) (hat : RTm.At w B b o s t) (hB : B ≤ w.heap.size) (hkk : isKind t.k = true) (hnm : hasName t.k = true) (hag : hasArg t.k = false) (hfr : hasFrom t.k = true) (hto : hasTo t.k = false) (hlb : hasLabel t.k = false) (hop : hasOp t.k = false) :
    Calls Try.prog 49 #[.pointer (some ⟨b, o, none⟩)] w fun e w' => e = .returned (.bool t.right) ∧ Below w.heap.size w w' := by
  have hlen := hat.inn.fine.len
  have hlab := hat.inn.fine.label
  have HR := Lib.hid t.right_eq
  have HO : Hid (t.own = (isKind t.k && (decide (kidsOf t.k = t.ks.length) && ((!hasLabel t.k || labelB t.label) && ((!hasName t.k || nameB t.name) && ((!hasArg t.k || nameB t.arg) && ((!hasFrom t.k || t.ty.ok) && ((!hasTo t.k || t.to.ok) && (!hasOp t.k || opB t.name))))))))) := rfl
  have k0 := hat.c0
  go_enter Try.func49, Try.ntmps49
  go_wp2_with fail
  refine (of_any t.k _).mono ?_
  unfold shapeV
  rintro e w2 ⟨rfl, hb2⟩
  have hs2 := hb2.size
  have hat2 := hat.below hb2 hB
  have hbl2 : b < w2.heap.size := by have := hat.lt; omega
  have HSB := Lib.hid (fun o : Obj => below_new w2 o)
  have k10 := hat2.c10
  have k8 := hat2.c8
  clear k0
  go_wp2_with fail
  by_cases hkn : kidsOf t.k = t.ks.length
  rotate_left
  · have hkn' : (kidsOf t.k != (t.ks.length : Int)) = true := by simp [hkn]
    have e : t.right = false := by rw [HR.out, HO.out]; simp [hkn]
    have E := Lib.hid e
    clear e hkn
    go_quiet (fail)
    go_wp2_with fail
    go_ret
    exact ⟨ret_bool E.out.symm, hb2.trans (((HSB.out _).mono hs2).trans (below_drewN (Below.refl _ _) _))⟩
  have hkn' : (kidsOf t.k != (t.ks.length : Int)) = false := by simp [hkn]
  have HKN := Lib.hid hkn
  clear hkn
  go_quiet (fail)
  generalize hW3 : World.drewN _ nq = w3
  have hb3 : Below w.heap.size w w3 := by rw [← hW3]; exact hb2.trans (((HSB.out _).mono hs2).trans (below_drewN (Below.refl _ _) _))
  have hz3 : w3.heap.size = w2.heap.size + 1 := by rw [← hW3]; simp
  have z1 : w3.cell? ⟨w2.heap.size, 1, none⟩ = some (.bool true) := by rw [← hW3]; simp [go_sem]
  have z2 : w3.cell? ⟨w2.heap.size, 2, none⟩ = some (.bool false) := by rw [← hW3]; simp [go_sem]
  have z4 : w3.cell? ⟨w2.heap.size, 4, none⟩ = some (.bool true) := by rw [← hW3]; simp [go_sem]
  have z5 : w3.cell? ⟨w2.heap.size, 5, none⟩ = some (.bool false) := by rw [← hW3]; simp [go_sem]
  have z6 : w3.cell? ⟨w2.heap.size, 6, none⟩ = some (.bool false) := by rw [← hW3]; simp [go_sem]
  have z7 : w3.cell? ⟨w2.heap.size, 7, none⟩ = some (.bool false) := by rw [← hW3]; simp [go_sem]
  clear k10 k8 hbl2 hW3
  have hat3 := hat.below hb3 hB
  have hbs3 := hb3.size
  have kn3 := (hat.below hb3 hB).c1
  go_wp2_with fail
  refine (name_any t.name _ hat.inn.fine.name).mono ?_
  by_cases hs_name : nameB t.name = true
  rotate_left
  · have hs_name' : nameB t.name = false := by simpa using hs_name
    rw [hs_name']
    rintro e w4 ⟨rfl, hbn4⟩
    have e : t.right = false := by rw [HR.out, HO.out]; simp [hnm, hs_name']
    have E := Lib.hid e
    clear e
    go_wp2_with fail
    go_ret
    exact ⟨ret_bool E.out.symm, hb3.trans (hbn4.mono (by omega))⟩
  rw [hs_name]
  rintro e w4 ⟨rfl, hbn4⟩
  have hb4 := hb3.trans (hbn4.mono (by omega))
  have hbs4 := hb4.size
  have z1 := cell_kept hbn4 z1
  have z2 := cell_kept hbn4 z2
  have z4 := cell_kept hbn4 z4
  have z5 := cell_kept hbn4 z5
  have z6 := cell_kept hbn4 z6
  have z7 := cell_kept hbn4 z7
  have Hhs_name := Lib.hid hs_name
  clear hs_name kn3
  have ka4 := (hat.below hb4 hB).c4
  have kb4 := (hat.below hb4 hB).c5
  go_wp2_with fail
  refine (tcheck_any t.ty B s.ta s.tc _ (hat.inn.ty.below hb4 hB) (by omega)).mono ?_
  by_cases ht_ty : t.ty.check = 0
  rotate_left
  · have ht_ty' : (t.ty.check != 0) = true := by simp [ht_ty]
    rintro e w5 ⟨rfl, hbn5⟩
    have e : t.right = false := by rw [HR.out, HO.out]; simp [hfr, RTy.ok, ht_ty]
    have E := Lib.hid e
    clear e ht_ty
    go_wp2_with fail
    go_ret
    exact ⟨ret_bool E.out.symm, hb4.trans (hbn5.mono (by omega))⟩
  have ht_ty' : (t.ty.check != 0) = false := by simp [ht_ty]
  rintro e w5 ⟨rfl, hbn5⟩
  have hb5 := hb4.trans (hbn5.mono (by omega))
  have hbs5 := hb5.size
  have z1 := cell_kept hbn5 z1
  have z2 := cell_kept hbn5 z2
  have z4 := cell_kept hbn5 z4
  have z5 := cell_kept hbn5 z5
  have z6 := cell_kept hbn5 z6
  have z7 := cell_kept hbn5 z7
  have Hht_ty : Hid (t.ty.ok = true) := by show t.ty.ok = true; simp [RTy.ok, ht_ty]
  clear ht_ty ka4 kb4
  have hrest : t.right = RTm.rightL t.ks := by rw [HR.out, HO.out, hkk, hnm, hag, hfr, hto, hlb, hop, HKN.out, Hhs_name.out, Hht_ty.out]; simp
  have HREST := Lib.hid hrest
  clear hrest
  have kk := (hat.below hb5 hB).c10
  go_wp2_with fail
  go_loopw [108] (fun i wr => ∃ j : Nat, j ≤ t.ks.length ∧ i = .int .i64 j ∧ RTm.rightL (t.ks.drop j) = RTm.rightL t.ks ∧ Below w.heap.size w wr) (fun i _ => t.ks.length - (intOf i).toNat)
  case atStart => exact ⟨0, by omega, rfl, by simp, hb5⟩
  case round =>
    obtain ⟨j, hj, rfl, hinv, hbr⟩ := hrel
    by_cases hlt : j < t.ks.length
    · have hk := List.getElem?_eq_getElem hlt
      generalize hkid : t.ks[j] = kid at hk
      have HDD := Lib.hid (RTm.rightL_drop hk)
      have hrt := hat.below hbr hB
      obtain ⟨kb, ko, ks', hka, hkat⟩ := hrt.kid hk
      have kc10 := hrt.c10
      rw [hka] at kc10
      have hnk := RTm.kid_nodes hk
      have hbs := hbr.size
      have HI := Lib.hid hinv
      clear hk hkid hka hinv
      go_wp2_with fail
      refine (ih kid B kb (ko + j * 11) ks' _ (by omega) hkat (by omega)).mono ?_
      by_cases hh : kid.right = true
      · rw [hh]
        rintro e w9 ⟨rfl, hb9⟩
        have HH := Lib.hid hh
        clear hh
        go_wp2_with fail
        go_round
        case rel =>
          refine ⟨j + 1, by omega, by go_num, ?_, hbr.trans (hb9.mono (by omega))⟩
          have := HDD.out
          rw [HH.out, HI.out] at this; simpa using this.symm
        case measure => simp [intOf]; omega
      · have hh' : kid.right = false := by simpa using hh
        rw [hh']
        rintro e w9 ⟨rfl, hb9⟩
        have HH := Lib.hid hh'
        clear hh hh'
        go_wp2_with fail
        go_ret
        refine ⟨ret_bool ?_, hbr.trans (hb9.mono (by omega))⟩
        have := HDD.out
        rw [HH.out, HI.out] at this
        rw [HREST.out, this]; simp
    · have : j = t.ks.length := by omega
      subst this
      go_wp2_with fail
      go_ret
      refine ⟨ret_bool ?_, hbr⟩
      simp [RTm.rightL] at hinv
      rw [HREST.out, ← hinv]

set_option maxHeartbeats 4000000 in
theorem right_P3 (N : Nat) (ih : ∀ (t : RTm) (B b o : Nat) (s : TmSh) (w : World), t.nodes ≤ N → RTm.At w B b o s t → B ≤ w.heap.size → Calls Try.prog 49 #[.pointer (some ⟨b, o, none⟩)] w fun e w' => e = .returned (.bool t.right) ∧ Below w.heap.size w w')
    (t : RTm) (B b o : Nat) (s : TmSh) (w : World) (hN : t.nodes ≤ N + 1) (hat : RTm.At w B b o s t) (hB : B ≤ w.heap.size) (hkk : isKind t.k = true) (hnm : hasName t.k = true) (hag : hasArg t.k = true) (hfr : hasFrom t.k = true) (hto : hasTo t.k = true) (hlb : hasLabel t.k = false) (hop : hasOp t.k = false) :
    Calls Try.prog 49 #[.pointer (some ⟨b, o, none⟩)] w fun e w' => e = .returned (.bool t.right) ∧ Below w.heap.size w w' := by
  have hlen := hat.inn.fine.len
  have hlab := hat.inn.fine.label
  have HR := Lib.hid t.right_eq
  have HO : Hid (t.own = (isKind t.k && (decide (kidsOf t.k = t.ks.length) && ((!hasLabel t.k || labelB t.label) && ((!hasName t.k || nameB t.name) && ((!hasArg t.k || nameB t.arg) && ((!hasFrom t.k || t.ty.ok) && ((!hasTo t.k || t.to.ok) && (!hasOp t.k || opB t.name))))))))) := rfl
  have k0 := hat.c0
  go_enter Try.func49, Try.ntmps49
  go_wp2_with fail
  refine (of_any t.k _).mono ?_
  unfold shapeV
  rintro e w2 ⟨rfl, hb2⟩
  have hs2 := hb2.size
  have hat2 := hat.below hb2 hB
  have hbl2 : b < w2.heap.size := by have := hat.lt; omega
  have HSB := Lib.hid (fun o : Obj => below_new w2 o)
  have k10 := hat2.c10
  have k8 := hat2.c8
  clear k0
  go_wp2_with fail
  by_cases hkn : kidsOf t.k = t.ks.length
  rotate_left
  · have hkn' : (kidsOf t.k != (t.ks.length : Int)) = true := by simp [hkn]
    have e : t.right = false := by rw [HR.out, HO.out]; simp [hkn]
    have E := Lib.hid e
    clear e hkn
    go_quiet (fail)
    go_wp2_with fail
    go_ret
    exact ⟨ret_bool E.out.symm, hb2.trans (((HSB.out _).mono hs2).trans (below_drewN (Below.refl _ _) _))⟩
  have hkn' : (kidsOf t.k != (t.ks.length : Int)) = false := by simp [hkn]
  have HKN := Lib.hid hkn
  clear hkn
  go_quiet (fail)
  generalize hW3 : World.drewN _ nq = w3
  have hb3 : Below w.heap.size w w3 := by rw [← hW3]; exact hb2.trans (((HSB.out _).mono hs2).trans (below_drewN (Below.refl _ _) _))
  have hz3 : w3.heap.size = w2.heap.size + 1 := by rw [← hW3]; simp
  have z1 : w3.cell? ⟨w2.heap.size, 1, none⟩ = some (.bool true) := by rw [← hW3]; simp [go_sem]
  have z2 : w3.cell? ⟨w2.heap.size, 2, none⟩ = some (.bool true) := by rw [← hW3]; simp [go_sem]
  have z4 : w3.cell? ⟨w2.heap.size, 4, none⟩ = some (.bool true) := by rw [← hW3]; simp [go_sem]
  have z5 : w3.cell? ⟨w2.heap.size, 5, none⟩ = some (.bool true) := by rw [← hW3]; simp [go_sem]
  have z6 : w3.cell? ⟨w2.heap.size, 6, none⟩ = some (.bool false) := by rw [← hW3]; simp [go_sem]
  have z7 : w3.cell? ⟨w2.heap.size, 7, none⟩ = some (.bool false) := by rw [← hW3]; simp [go_sem]
  clear k10 k8 hbl2 hW3
  have hat3 := hat.below hb3 hB
  have hbs3 := hb3.size
  have kn3 := (hat.below hb3 hB).c1
  go_wp2_with fail
  refine (name_any t.name _ hat.inn.fine.name).mono ?_
  by_cases hs_name : nameB t.name = true
  rotate_left
  · have hs_name' : nameB t.name = false := by simpa using hs_name
    rw [hs_name']
    rintro e w4 ⟨rfl, hbn4⟩
    have e : t.right = false := by rw [HR.out, HO.out]; simp [hnm, hs_name']
    have E := Lib.hid e
    clear e
    go_wp2_with fail
    go_ret
    exact ⟨ret_bool E.out.symm, hb3.trans (hbn4.mono (by omega))⟩
  rw [hs_name]
  rintro e w4 ⟨rfl, hbn4⟩
  have hb4 := hb3.trans (hbn4.mono (by omega))
  have hbs4 := hb4.size
  have z1 := cell_kept hbn4 z1
  have z2 := cell_kept hbn4 z2
  have z4 := cell_kept hbn4 z4
  have z5 := cell_kept hbn4 z5
  have z6 := cell_kept hbn4 z6
  have z7 := cell_kept hbn4 z7
  have Hhs_name := Lib.hid hs_name
  clear hs_name kn3
  have kn4 := (hat.below hb4 hB).c2
  go_wp2_with fail
  refine (name_any t.arg _ hat.inn.fine.arg).mono ?_
  by_cases hs_arg : nameB t.arg = true
  rotate_left
  · have hs_arg' : nameB t.arg = false := by simpa using hs_arg
    rw [hs_arg']
    rintro e w5 ⟨rfl, hbn5⟩
    have e : t.right = false := by rw [HR.out, HO.out]; simp [hag, hs_arg']
    have E := Lib.hid e
    clear e
    go_wp2_with fail
    go_ret
    exact ⟨ret_bool E.out.symm, hb4.trans (hbn5.mono (by omega))⟩
  rw [hs_arg]
  rintro e w5 ⟨rfl, hbn5⟩
  have hb5 := hb4.trans (hbn5.mono (by omega))
  have hbs5 := hb5.size
  have z1 := cell_kept hbn5 z1
  have z2 := cell_kept hbn5 z2
  have z4 := cell_kept hbn5 z4
  have z5 := cell_kept hbn5 z5
  have z6 := cell_kept hbn5 z6
  have z7 := cell_kept hbn5 z7
  have Hhs_arg := Lib.hid hs_arg
  clear hs_arg kn4
  have ka5 := (hat.below hb5 hB).c4
  have kb5 := (hat.below hb5 hB).c5
  go_wp2_with fail
  refine (tcheck_any t.ty B s.ta s.tc _ (hat.inn.ty.below hb5 hB) (by omega)).mono ?_
  by_cases ht_ty : t.ty.check = 0
  rotate_left
  · have ht_ty' : (t.ty.check != 0) = true := by simp [ht_ty]
    rintro e w6 ⟨rfl, hbn6⟩
    have e : t.right = false := by rw [HR.out, HO.out]; simp [hfr, RTy.ok, ht_ty]
    have E := Lib.hid e
    clear e ht_ty
    go_wp2_with fail
    go_ret
    exact ⟨ret_bool E.out.symm, hb5.trans (hbn6.mono (by omega))⟩
  have ht_ty' : (t.ty.check != 0) = false := by simp [ht_ty]
  rintro e w6 ⟨rfl, hbn6⟩
  have hb6 := hb5.trans (hbn6.mono (by omega))
  have hbs6 := hb6.size
  have z1 := cell_kept hbn6 z1
  have z2 := cell_kept hbn6 z2
  have z4 := cell_kept hbn6 z4
  have z5 := cell_kept hbn6 z5
  have z6 := cell_kept hbn6 z6
  have z7 := cell_kept hbn6 z7
  have Hht_ty : Hid (t.ty.ok = true) := by show t.ty.ok = true; simp [RTy.ok, ht_ty]
  clear ht_ty ka5 kb5
  have ka6 := (hat.below hb6 hB).c6
  have kb6 := (hat.below hb6 hB).c7
  go_wp2_with fail
  refine (tcheck_any t.to B s.oa s.oc _ (hat.inn.to.below hb6 hB) (by omega)).mono ?_
  by_cases ht_to : t.to.check = 0
  rotate_left
  · have ht_to' : (t.to.check != 0) = true := by simp [ht_to]
    rintro e w7 ⟨rfl, hbn7⟩
    have e : t.right = false := by rw [HR.out, HO.out]; simp [hto, RTy.ok, ht_to]
    have E := Lib.hid e
    clear e ht_to
    go_wp2_with fail
    go_ret
    exact ⟨ret_bool E.out.symm, hb6.trans (hbn7.mono (by omega))⟩
  have ht_to' : (t.to.check != 0) = false := by simp [ht_to]
  rintro e w7 ⟨rfl, hbn7⟩
  have hb7 := hb6.trans (hbn7.mono (by omega))
  have hbs7 := hb7.size
  have z1 := cell_kept hbn7 z1
  have z2 := cell_kept hbn7 z2
  have z4 := cell_kept hbn7 z4
  have z5 := cell_kept hbn7 z5
  have z6 := cell_kept hbn7 z6
  have z7 := cell_kept hbn7 z7
  have Hht_to : Hid (t.to.ok = true) := by show t.to.ok = true; simp [RTy.ok, ht_to]
  clear ht_to ka6 kb6
  have hrest : t.right = RTm.rightL t.ks := by rw [HR.out, HO.out, hkk, hnm, hag, hfr, hto, hlb, hop, HKN.out, Hhs_name.out, Hhs_arg.out, Hht_ty.out, Hht_to.out]; simp
  have HREST := Lib.hid hrest
  clear hrest
  have kk := (hat.below hb7 hB).c10
  go_wp2_with fail
  go_loopw [108] (fun i wr => ∃ j : Nat, j ≤ t.ks.length ∧ i = .int .i64 j ∧ RTm.rightL (t.ks.drop j) = RTm.rightL t.ks ∧ Below w.heap.size w wr) (fun i _ => t.ks.length - (intOf i).toNat)
  case atStart => exact ⟨0, by omega, rfl, by simp, hb7⟩
  case round =>
    obtain ⟨j, hj, rfl, hinv, hbr⟩ := hrel
    by_cases hlt : j < t.ks.length
    · have hk := List.getElem?_eq_getElem hlt
      generalize hkid : t.ks[j] = kid at hk
      have HDD := Lib.hid (RTm.rightL_drop hk)
      have hrt := hat.below hbr hB
      obtain ⟨kb, ko, ks', hka, hkat⟩ := hrt.kid hk
      have kc10 := hrt.c10
      rw [hka] at kc10
      have hnk := RTm.kid_nodes hk
      have hbs := hbr.size
      have HI := Lib.hid hinv
      clear hk hkid hka hinv
      go_wp2_with fail
      refine (ih kid B kb (ko + j * 11) ks' _ (by omega) hkat (by omega)).mono ?_
      by_cases hh : kid.right = true
      · rw [hh]
        rintro e w9 ⟨rfl, hb9⟩
        have HH := Lib.hid hh
        clear hh
        go_wp2_with fail
        go_round
        case rel =>
          refine ⟨j + 1, by omega, by go_num, ?_, hbr.trans (hb9.mono (by omega))⟩
          have := HDD.out
          rw [HH.out, HI.out] at this; simpa using this.symm
        case measure => simp [intOf]; omega
      · have hh' : kid.right = false := by simpa using hh
        rw [hh']
        rintro e w9 ⟨rfl, hb9⟩
        have HH := Lib.hid hh'
        clear hh hh'
        go_wp2_with fail
        go_ret
        refine ⟨ret_bool ?_, hbr.trans (hb9.mono (by omega))⟩
        have := HDD.out
        rw [HH.out, HI.out] at this
        rw [HREST.out, this]; simp
    · have : j = t.ks.length := by omega
      subst this
      go_wp2_with fail
      go_ret
      refine ⟨ret_bool ?_, hbr⟩
      simp [RTm.rightL] at hinv
      rw [HREST.out, ← hinv]

set_option maxHeartbeats 4000000 in
theorem right_P4 (N : Nat) (ih : ∀ (t : RTm) (B b o : Nat) (s : TmSh) (w : World), t.nodes ≤ N → RTm.At w B b o s t → B ≤ w.heap.size → Calls Try.prog 49 #[.pointer (some ⟨b, o, none⟩)] w fun e w' => e = .returned (.bool t.right) ∧ Below w.heap.size w w')
    (t : RTm) (B b o : Nat) (s : TmSh) (w : World) (hN : t.nodes ≤ N + 1) (hat : RTm.At w B b o s t) (hB : B ≤ w.heap.size) (hkk : isKind t.k = true) (hnm : hasName t.k = false) (hag : hasArg t.k = false) (hfr : hasFrom t.k = true) (hto : hasTo t.k = false) (hlb : hasLabel t.k = false) (hop : hasOp t.k = false) :
    Calls Try.prog 49 #[.pointer (some ⟨b, o, none⟩)] w fun e w' => e = .returned (.bool t.right) ∧ Below w.heap.size w w' := by
  have hlen := hat.inn.fine.len
  have hlab := hat.inn.fine.label
  have HR := Lib.hid t.right_eq
  have HO : Hid (t.own = (isKind t.k && (decide (kidsOf t.k = t.ks.length) && ((!hasLabel t.k || labelB t.label) && ((!hasName t.k || nameB t.name) && ((!hasArg t.k || nameB t.arg) && ((!hasFrom t.k || t.ty.ok) && ((!hasTo t.k || t.to.ok) && (!hasOp t.k || opB t.name))))))))) := rfl
  have k0 := hat.c0
  go_enter Try.func49, Try.ntmps49
  go_wp2_with fail
  refine (of_any t.k _).mono ?_
  unfold shapeV
  rintro e w2 ⟨rfl, hb2⟩
  have hs2 := hb2.size
  have hat2 := hat.below hb2 hB
  have hbl2 : b < w2.heap.size := by have := hat.lt; omega
  have HSB := Lib.hid (fun o : Obj => below_new w2 o)
  have k10 := hat2.c10
  have k8 := hat2.c8
  clear k0
  go_wp2_with fail
  by_cases hkn : kidsOf t.k = t.ks.length
  rotate_left
  · have hkn' : (kidsOf t.k != (t.ks.length : Int)) = true := by simp [hkn]
    have e : t.right = false := by rw [HR.out, HO.out]; simp [hkn]
    have E := Lib.hid e
    clear e hkn
    go_quiet (fail)
    go_wp2_with fail
    go_ret
    exact ⟨ret_bool E.out.symm, hb2.trans (((HSB.out _).mono hs2).trans (below_drewN (Below.refl _ _) _))⟩
  have hkn' : (kidsOf t.k != (t.ks.length : Int)) = false := by simp [hkn]
  have HKN := Lib.hid hkn
  clear hkn
  go_quiet (fail)
  generalize hW3 : World.drewN _ nq = w3
  have hb3 : Below w.heap.size w w3 := by rw [← hW3]; exact hb2.trans (((HSB.out _).mono hs2).trans (below_drewN (Below.refl _ _) _))
  have hz3 : w3.heap.size = w2.heap.size + 1 := by rw [← hW3]; simp
  have z1 : w3.cell? ⟨w2.heap.size, 1, none⟩ = some (.bool false) := by rw [← hW3]; simp [go_sem]
  have z2 : w3.cell? ⟨w2.heap.size, 2, none⟩ = some (.bool false) := by rw [← hW3]; simp [go_sem]
  have z4 : w3.cell? ⟨w2.heap.size, 4, none⟩ = some (.bool true) := by rw [← hW3]; simp [go_sem]
  have z5 : w3.cell? ⟨w2.heap.size, 5, none⟩ = some (.bool false) := by rw [← hW3]; simp [go_sem]
  have z6 : w3.cell? ⟨w2.heap.size, 6, none⟩ = some (.bool false) := by rw [← hW3]; simp [go_sem]
  have z7 : w3.cell? ⟨w2.heap.size, 7, none⟩ = some (.bool false) := by rw [← hW3]; simp [go_sem]
  clear k10 k8 hbl2 hW3
  have hat3 := hat.below hb3 hB
  have hbs3 := hb3.size
  have ka3 := (hat.below hb3 hB).c4
  have kb3 := (hat.below hb3 hB).c5
  go_wp2_with fail
  refine (tcheck_any t.ty B s.ta s.tc _ (hat.inn.ty.below hb3 hB) (by omega)).mono ?_
  by_cases ht_ty : t.ty.check = 0
  rotate_left
  · have ht_ty' : (t.ty.check != 0) = true := by simp [ht_ty]
    rintro e w4 ⟨rfl, hbn4⟩
    have e : t.right = false := by rw [HR.out, HO.out]; simp [hfr, RTy.ok, ht_ty]
    have E := Lib.hid e
    clear e ht_ty
    go_wp2_with fail
    go_ret
    exact ⟨ret_bool E.out.symm, hb3.trans (hbn4.mono (by omega))⟩
  have ht_ty' : (t.ty.check != 0) = false := by simp [ht_ty]
  rintro e w4 ⟨rfl, hbn4⟩
  have hb4 := hb3.trans (hbn4.mono (by omega))
  have hbs4 := hb4.size
  have z1 := cell_kept hbn4 z1
  have z2 := cell_kept hbn4 z2
  have z4 := cell_kept hbn4 z4
  have z5 := cell_kept hbn4 z5
  have z6 := cell_kept hbn4 z6
  have z7 := cell_kept hbn4 z7
  have Hht_ty : Hid (t.ty.ok = true) := by show t.ty.ok = true; simp [RTy.ok, ht_ty]
  clear ht_ty ka3 kb3
  have hrest : t.right = RTm.rightL t.ks := by rw [HR.out, HO.out, hkk, hnm, hag, hfr, hto, hlb, hop, HKN.out, Hht_ty.out]; simp
  have HREST := Lib.hid hrest
  clear hrest
  have kk := (hat.below hb4 hB).c10
  go_wp2_with fail
  go_loopw [108] (fun i wr => ∃ j : Nat, j ≤ t.ks.length ∧ i = .int .i64 j ∧ RTm.rightL (t.ks.drop j) = RTm.rightL t.ks ∧ Below w.heap.size w wr) (fun i _ => t.ks.length - (intOf i).toNat)
  case atStart => exact ⟨0, by omega, rfl, by simp, hb4⟩
  case round =>
    obtain ⟨j, hj, rfl, hinv, hbr⟩ := hrel
    by_cases hlt : j < t.ks.length
    · have hk := List.getElem?_eq_getElem hlt
      generalize hkid : t.ks[j] = kid at hk
      have HDD := Lib.hid (RTm.rightL_drop hk)
      have hrt := hat.below hbr hB
      obtain ⟨kb, ko, ks', hka, hkat⟩ := hrt.kid hk
      have kc10 := hrt.c10
      rw [hka] at kc10
      have hnk := RTm.kid_nodes hk
      have hbs := hbr.size
      have HI := Lib.hid hinv
      clear hk hkid hka hinv
      go_wp2_with fail
      refine (ih kid B kb (ko + j * 11) ks' _ (by omega) hkat (by omega)).mono ?_
      by_cases hh : kid.right = true
      · rw [hh]
        rintro e w9 ⟨rfl, hb9⟩
        have HH := Lib.hid hh
        clear hh
        go_wp2_with fail
        go_round
        case rel =>
          refine ⟨j + 1, by omega, by go_num, ?_, hbr.trans (hb9.mono (by omega))⟩
          have := HDD.out
          rw [HH.out, HI.out] at this; simpa using this.symm
        case measure => simp [intOf]; omega
      · have hh' : kid.right = false := by simpa using hh
        rw [hh']
        rintro e w9 ⟨rfl, hb9⟩
        have HH := Lib.hid hh'
        clear hh hh'
        go_wp2_with fail
        go_ret
        refine ⟨ret_bool ?_, hbr.trans (hb9.mono (by omega))⟩
        have := HDD.out
        rw [HH.out, HI.out] at this
        rw [HREST.out, this]; simp
    · have : j = t.ks.length := by omega
      subst this
      go_wp2_with fail
      go_ret
      refine ⟨ret_bool ?_, hbr⟩
      simp [RTm.rightL] at hinv
      rw [HREST.out, ← hinv]

set_option maxHeartbeats 4000000 in
theorem right_P5 (N : Nat) (ih : ∀ (t : RTm) (B b o : Nat) (s : TmSh) (w : World), t.nodes ≤ N → RTm.At w B b o s t → B ≤ w.heap.size → Calls Try.prog 49 #[.pointer (some ⟨b, o, none⟩)] w fun e w' => e = .returned (.bool t.right) ∧ Below w.heap.size w w')
    (t : RTm) (B b o : Nat) (s : TmSh) (w : World) (hN : t.nodes ≤ N + 1) (hat : RTm.At w B b o s t) (hB : B ≤ w.heap.size) (hkk : isKind t.k = true) (hnm : hasName t.k = true) (hag : hasArg t.k = true) (hfr : hasFrom t.k = false) (hto : hasTo t.k = false) (hlb : hasLabel t.k = false) (hop : hasOp t.k = false) :
    Calls Try.prog 49 #[.pointer (some ⟨b, o, none⟩)] w fun e w' => e = .returned (.bool t.right) ∧ Below w.heap.size w w' := by
  have hlen := hat.inn.fine.len
  have hlab := hat.inn.fine.label
  have HR := Lib.hid t.right_eq
  have HO : Hid (t.own = (isKind t.k && (decide (kidsOf t.k = t.ks.length) && ((!hasLabel t.k || labelB t.label) && ((!hasName t.k || nameB t.name) && ((!hasArg t.k || nameB t.arg) && ((!hasFrom t.k || t.ty.ok) && ((!hasTo t.k || t.to.ok) && (!hasOp t.k || opB t.name))))))))) := rfl
  have k0 := hat.c0
  go_enter Try.func49, Try.ntmps49
  go_wp2_with fail
  refine (of_any t.k _).mono ?_
  unfold shapeV
  rintro e w2 ⟨rfl, hb2⟩
  have hs2 := hb2.size
  have hat2 := hat.below hb2 hB
  have hbl2 : b < w2.heap.size := by have := hat.lt; omega
  have HSB := Lib.hid (fun o : Obj => below_new w2 o)
  have k10 := hat2.c10
  have k8 := hat2.c8
  clear k0
  go_wp2_with fail
  by_cases hkn : kidsOf t.k = t.ks.length
  rotate_left
  · have hkn' : (kidsOf t.k != (t.ks.length : Int)) = true := by simp [hkn]
    have e : t.right = false := by rw [HR.out, HO.out]; simp [hkn]
    have E := Lib.hid e
    clear e hkn
    go_quiet (fail)
    go_wp2_with fail
    go_ret
    exact ⟨ret_bool E.out.symm, hb2.trans (((HSB.out _).mono hs2).trans (below_drewN (Below.refl _ _) _))⟩
  have hkn' : (kidsOf t.k != (t.ks.length : Int)) = false := by simp [hkn]
  have HKN := Lib.hid hkn
  clear hkn
  go_quiet (fail)
  generalize hW3 : World.drewN _ nq = w3
  have hb3 : Below w.heap.size w w3 := by rw [← hW3]; exact hb2.trans (((HSB.out _).mono hs2).trans (below_drewN (Below.refl _ _) _))
  have hz3 : w3.heap.size = w2.heap.size + 1 := by rw [← hW3]; simp
  have z1 : w3.cell? ⟨w2.heap.size, 1, none⟩ = some (.bool true) := by rw [← hW3]; simp [go_sem]
  have z2 : w3.cell? ⟨w2.heap.size, 2, none⟩ = some (.bool true) := by rw [← hW3]; simp [go_sem]
  have z4 : w3.cell? ⟨w2.heap.size, 4, none⟩ = some (.bool false) := by rw [← hW3]; simp [go_sem]
  have z5 : w3.cell? ⟨w2.heap.size, 5, none⟩ = some (.bool false) := by rw [← hW3]; simp [go_sem]
  have z6 : w3.cell? ⟨w2.heap.size, 6, none⟩ = some (.bool false) := by rw [← hW3]; simp [go_sem]
  have z7 : w3.cell? ⟨w2.heap.size, 7, none⟩ = some (.bool false) := by rw [← hW3]; simp [go_sem]
  clear k10 k8 hbl2 hW3
  have hat3 := hat.below hb3 hB
  have hbs3 := hb3.size
  have kn3 := (hat.below hb3 hB).c1
  go_wp2_with fail
  refine (name_any t.name _ hat.inn.fine.name).mono ?_
  by_cases hs_name : nameB t.name = true
  rotate_left
  · have hs_name' : nameB t.name = false := by simpa using hs_name
    rw [hs_name']
    rintro e w4 ⟨rfl, hbn4⟩
    have e : t.right = false := by rw [HR.out, HO.out]; simp [hnm, hs_name']
    have E := Lib.hid e
    clear e
    go_wp2_with fail
    go_ret
    exact ⟨ret_bool E.out.symm, hb3.trans (hbn4.mono (by omega))⟩
  rw [hs_name]
  rintro e w4 ⟨rfl, hbn4⟩
  have hb4 := hb3.trans (hbn4.mono (by omega))
  have hbs4 := hb4.size
  have z1 := cell_kept hbn4 z1
  have z2 := cell_kept hbn4 z2
  have z4 := cell_kept hbn4 z4
  have z5 := cell_kept hbn4 z5
  have z6 := cell_kept hbn4 z6
  have z7 := cell_kept hbn4 z7
  have Hhs_name := Lib.hid hs_name
  clear hs_name kn3
  have kn4 := (hat.below hb4 hB).c2
  go_wp2_with fail
  refine (name_any t.arg _ hat.inn.fine.arg).mono ?_
  by_cases hs_arg : nameB t.arg = true
  rotate_left
  · have hs_arg' : nameB t.arg = false := by simpa using hs_arg
    rw [hs_arg']
    rintro e w5 ⟨rfl, hbn5⟩
    have e : t.right = false := by rw [HR.out, HO.out]; simp [hag, hs_arg']
    have E := Lib.hid e
    clear e
    go_wp2_with fail
    go_ret
    exact ⟨ret_bool E.out.symm, hb4.trans (hbn5.mono (by omega))⟩
  rw [hs_arg]
  rintro e w5 ⟨rfl, hbn5⟩
  have hb5 := hb4.trans (hbn5.mono (by omega))
  have hbs5 := hb5.size
  have z1 := cell_kept hbn5 z1
  have z2 := cell_kept hbn5 z2
  have z4 := cell_kept hbn5 z4
  have z5 := cell_kept hbn5 z5
  have z6 := cell_kept hbn5 z6
  have z7 := cell_kept hbn5 z7
  have Hhs_arg := Lib.hid hs_arg
  clear hs_arg kn4
  have hrest : t.right = RTm.rightL t.ks := by rw [HR.out, HO.out, hkk, hnm, hag, hfr, hto, hlb, hop, HKN.out, Hhs_name.out, Hhs_arg.out]; simp
  have HREST := Lib.hid hrest
  clear hrest
  have kk := (hat.below hb5 hB).c10
  go_wp2_with fail
  go_loopw [108] (fun i wr => ∃ j : Nat, j ≤ t.ks.length ∧ i = .int .i64 j ∧ RTm.rightL (t.ks.drop j) = RTm.rightL t.ks ∧ Below w.heap.size w wr) (fun i _ => t.ks.length - (intOf i).toNat)
  case atStart => exact ⟨0, by omega, rfl, by simp, hb5⟩
  case round =>
    obtain ⟨j, hj, rfl, hinv, hbr⟩ := hrel
    by_cases hlt : j < t.ks.length
    · have hk := List.getElem?_eq_getElem hlt
      generalize hkid : t.ks[j] = kid at hk
      have HDD := Lib.hid (RTm.rightL_drop hk)
      have hrt := hat.below hbr hB
      obtain ⟨kb, ko, ks', hka, hkat⟩ := hrt.kid hk
      have kc10 := hrt.c10
      rw [hka] at kc10
      have hnk := RTm.kid_nodes hk
      have hbs := hbr.size
      have HI := Lib.hid hinv
      clear hk hkid hka hinv
      go_wp2_with fail
      refine (ih kid B kb (ko + j * 11) ks' _ (by omega) hkat (by omega)).mono ?_
      by_cases hh : kid.right = true
      · rw [hh]
        rintro e w9 ⟨rfl, hb9⟩
        have HH := Lib.hid hh
        clear hh
        go_wp2_with fail
        go_round
        case rel =>
          refine ⟨j + 1, by omega, by go_num, ?_, hbr.trans (hb9.mono (by omega))⟩
          have := HDD.out
          rw [HH.out, HI.out] at this; simpa using this.symm
        case measure => simp [intOf]; omega
      · have hh' : kid.right = false := by simpa using hh
        rw [hh']
        rintro e w9 ⟨rfl, hb9⟩
        have HH := Lib.hid hh'
        clear hh hh'
        go_wp2_with fail
        go_ret
        refine ⟨ret_bool ?_, hbr.trans (hb9.mono (by omega))⟩
        have := HDD.out
        rw [HH.out, HI.out] at this
        rw [HREST.out, this]; simp
    · have : j = t.ks.length := by omega
      subst this
      go_wp2_with fail
      go_ret
      refine ⟨ret_bool ?_, hbr⟩
      simp [RTm.rightL] at hinv
      rw [HREST.out, ← hinv]

set_option maxHeartbeats 4000000 in
theorem right_P6 (N : Nat) (ih : ∀ (t : RTm) (B b o : Nat) (s : TmSh) (w : World), t.nodes ≤ N → RTm.At w B b o s t → B ≤ w.heap.size → Calls Try.prog 49 #[.pointer (some ⟨b, o, none⟩)] w fun e w' => e = .returned (.bool t.right) ∧ Below w.heap.size w w')
    (t : RTm) (B b o : Nat) (s : TmSh) (w : World) (hN : t.nodes ≤ N + 1) (hat : RTm.At w B b o s t) (hB : B ≤ w.heap.size) (hkk : isKind t.k = true) (hnm : hasName t.k = false) (hag : hasArg t.k = false) (hfr : hasFrom t.k = false) (hto : hasTo t.k = false) (hlb : hasLabel t.k = false) (hop : hasOp t.k = true) :
    Calls Try.prog 49 #[.pointer (some ⟨b, o, none⟩)] w fun e w' => e = .returned (.bool t.right) ∧ Below w.heap.size w w' := by
  have hlen := hat.inn.fine.len
  have hlab := hat.inn.fine.label
  have HR := Lib.hid t.right_eq
  have HO : Hid (t.own = (isKind t.k && (decide (kidsOf t.k = t.ks.length) && ((!hasLabel t.k || labelB t.label) && ((!hasName t.k || nameB t.name) && ((!hasArg t.k || nameB t.arg) && ((!hasFrom t.k || t.ty.ok) && ((!hasTo t.k || t.to.ok) && (!hasOp t.k || opB t.name))))))))) := rfl
  have k0 := hat.c0
  go_enter Try.func49, Try.ntmps49
  go_wp2_with fail
  refine (of_any t.k _).mono ?_
  unfold shapeV
  rintro e w2 ⟨rfl, hb2⟩
  have hs2 := hb2.size
  have hat2 := hat.below hb2 hB
  have hbl2 : b < w2.heap.size := by have := hat.lt; omega
  have HSB := Lib.hid (fun o : Obj => below_new w2 o)
  have k10 := hat2.c10
  have k8 := hat2.c8
  clear k0
  go_wp2_with fail
  by_cases hkn : kidsOf t.k = t.ks.length
  rotate_left
  · have hkn' : (kidsOf t.k != (t.ks.length : Int)) = true := by simp [hkn]
    have e : t.right = false := by rw [HR.out, HO.out]; simp [hkn]
    have E := Lib.hid e
    clear e hkn
    go_quiet (fail)
    go_wp2_with fail
    go_ret
    exact ⟨ret_bool E.out.symm, hb2.trans (((HSB.out _).mono hs2).trans (below_drewN (Below.refl _ _) _))⟩
  have hkn' : (kidsOf t.k != (t.ks.length : Int)) = false := by simp [hkn]
  have HKN := Lib.hid hkn
  clear hkn
  go_quiet (fail)
  generalize hW3 : World.drewN _ nq = w3
  have hb3 : Below w.heap.size w w3 := by rw [← hW3]; exact hb2.trans (((HSB.out _).mono hs2).trans (below_drewN (Below.refl _ _) _))
  have hz3 : w3.heap.size = w2.heap.size + 1 := by rw [← hW3]; simp
  have z1 : w3.cell? ⟨w2.heap.size, 1, none⟩ = some (.bool false) := by rw [← hW3]; simp [go_sem]
  have z2 : w3.cell? ⟨w2.heap.size, 2, none⟩ = some (.bool false) := by rw [← hW3]; simp [go_sem]
  have z4 : w3.cell? ⟨w2.heap.size, 4, none⟩ = some (.bool false) := by rw [← hW3]; simp [go_sem]
  have z5 : w3.cell? ⟨w2.heap.size, 5, none⟩ = some (.bool false) := by rw [← hW3]; simp [go_sem]
  have z6 : w3.cell? ⟨w2.heap.size, 6, none⟩ = some (.bool false) := by rw [← hW3]; simp [go_sem]
  have z7 : w3.cell? ⟨w2.heap.size, 7, none⟩ = some (.bool true) := by rw [← hW3]; simp [go_sem]
  clear k10 k8 hbl2 hW3
  have hat3 := hat.below hb3 hB
  have hbs3 := hb3.size
  
  have kn := (hat.below hb3 hB).c1
  have kk := (hat.below hb3 hB).c10
  by_cases ho0 : t.name.toList = [43]
  · have hrest : t.right = RTm.rightL t.ks := by rw [HR.out, HO.out, hkk, hnm, hag, hfr, hto, hlb, hop, HKN.out]; simp [opB, ho0]
    have HREST := Lib.hid hrest
    clear hrest
    go_wp2_with fail
    go_loopw [108] (fun i wr => ∃ j : Nat, j ≤ t.ks.length ∧ i = .int .i64 j ∧ RTm.rightL (t.ks.drop j) = RTm.rightL t.ks ∧ Below w.heap.size w wr) (fun i _ => t.ks.length - (intOf i).toNat)
    case atStart => exact ⟨0, by omega, rfl, by simp, hb3⟩
    case round =>
      obtain ⟨j, hj, rfl, hinv, hbr⟩ := hrel
      by_cases hlt : j < t.ks.length
      · have hk := List.getElem?_eq_getElem hlt
        generalize hkid : t.ks[j] = kid at hk
        have HDD := Lib.hid (RTm.rightL_drop hk)
        have hrt := hat.below hbr hB
        obtain ⟨kb, ko, ks', hka, hkat⟩ := hrt.kid hk
        have kc10 := hrt.c10
        rw [hka] at kc10
        have hnk := RTm.kid_nodes hk
        have hbs := hbr.size
        have HI := Lib.hid hinv
        clear hk hkid hka hinv
        go_wp2_with fail
        refine (ih kid B kb (ko + j * 11) ks' _ (by omega) hkat (by omega)).mono ?_
        by_cases hh : kid.right = true
        · rw [hh]
          rintro e w9 ⟨rfl, hb9⟩
          have HH := Lib.hid hh
          clear hh
          go_wp2_with fail
          go_round
          case rel =>
            refine ⟨j + 1, by omega, by go_num, ?_, hbr.trans (hb9.mono (by omega))⟩
            have := HDD.out
            rw [HH.out, HI.out] at this; simpa using this.symm
          case measure => simp [intOf]; omega
        · have hh' : kid.right = false := by simpa using hh
          rw [hh']
          rintro e w9 ⟨rfl, hb9⟩
          have HH := Lib.hid hh'
          clear hh hh'
          go_wp2_with fail
          go_ret
          refine ⟨ret_bool ?_, hbr.trans (hb9.mono (by omega))⟩
          have := HDD.out
          rw [HH.out, HI.out] at this
          rw [HREST.out, this]; simp
      · have : j = t.ks.length := by omega
        subst this
        go_wp2_with fail
        go_ret
        refine ⟨ret_bool ?_, hbr⟩
        simp [RTm.rightL] at hinv
        rw [HREST.out, ← hinv]
  have hg0 : (t.name.toList == [43]) = false := by simpa using ho0
  by_cases ho1 : t.name.toList = [45]
  · have hrest : t.right = RTm.rightL t.ks := by rw [HR.out, HO.out, hkk, hnm, hag, hfr, hto, hlb, hop, HKN.out]; simp [opB, ho1]
    have HREST := Lib.hid hrest
    clear hrest
    go_wp2_with fail
    go_loopw [108] (fun i wr => ∃ j : Nat, j ≤ t.ks.length ∧ i = .int .i64 j ∧ RTm.rightL (t.ks.drop j) = RTm.rightL t.ks ∧ Below w.heap.size w wr) (fun i _ => t.ks.length - (intOf i).toNat)
    case atStart => exact ⟨0, by omega, rfl, by simp, hb3⟩
    case round =>
      obtain ⟨j, hj, rfl, hinv, hbr⟩ := hrel
      by_cases hlt : j < t.ks.length
      · have hk := List.getElem?_eq_getElem hlt
        generalize hkid : t.ks[j] = kid at hk
        have HDD := Lib.hid (RTm.rightL_drop hk)
        have hrt := hat.below hbr hB
        obtain ⟨kb, ko, ks', hka, hkat⟩ := hrt.kid hk
        have kc10 := hrt.c10
        rw [hka] at kc10
        have hnk := RTm.kid_nodes hk
        have hbs := hbr.size
        have HI := Lib.hid hinv
        clear hk hkid hka hinv
        go_wp2_with fail
        refine (ih kid B kb (ko + j * 11) ks' _ (by omega) hkat (by omega)).mono ?_
        by_cases hh : kid.right = true
        · rw [hh]
          rintro e w9 ⟨rfl, hb9⟩
          have HH := Lib.hid hh
          clear hh
          go_wp2_with fail
          go_round
          case rel =>
            refine ⟨j + 1, by omega, by go_num, ?_, hbr.trans (hb9.mono (by omega))⟩
            have := HDD.out
            rw [HH.out, HI.out] at this; simpa using this.symm
          case measure => simp [intOf]; omega
        · have hh' : kid.right = false := by simpa using hh
          rw [hh']
          rintro e w9 ⟨rfl, hb9⟩
          have HH := Lib.hid hh'
          clear hh hh'
          go_wp2_with fail
          go_ret
          refine ⟨ret_bool ?_, hbr.trans (hb9.mono (by omega))⟩
          have := HDD.out
          rw [HH.out, HI.out] at this
          rw [HREST.out, this]; simp
      · have : j = t.ks.length := by omega
        subst this
        go_wp2_with fail
        go_ret
        refine ⟨ret_bool ?_, hbr⟩
        simp [RTm.rightL] at hinv
        rw [HREST.out, ← hinv]
  have hg1 : (t.name.toList == [45]) = false := by simpa using ho1
  by_cases ho2 : t.name.toList = [42]
  · have hrest : t.right = RTm.rightL t.ks := by rw [HR.out, HO.out, hkk, hnm, hag, hfr, hto, hlb, hop, HKN.out]; simp [opB, ho2]
    have HREST := Lib.hid hrest
    clear hrest
    go_wp2_with fail
    go_loopw [108] (fun i wr => ∃ j : Nat, j ≤ t.ks.length ∧ i = .int .i64 j ∧ RTm.rightL (t.ks.drop j) = RTm.rightL t.ks ∧ Below w.heap.size w wr) (fun i _ => t.ks.length - (intOf i).toNat)
    case atStart => exact ⟨0, by omega, rfl, by simp, hb3⟩
    case round =>
      obtain ⟨j, hj, rfl, hinv, hbr⟩ := hrel
      by_cases hlt : j < t.ks.length
      · have hk := List.getElem?_eq_getElem hlt
        generalize hkid : t.ks[j] = kid at hk
        have HDD := Lib.hid (RTm.rightL_drop hk)
        have hrt := hat.below hbr hB
        obtain ⟨kb, ko, ks', hka, hkat⟩ := hrt.kid hk
        have kc10 := hrt.c10
        rw [hka] at kc10
        have hnk := RTm.kid_nodes hk
        have hbs := hbr.size
        have HI := Lib.hid hinv
        clear hk hkid hka hinv
        go_wp2_with fail
        refine (ih kid B kb (ko + j * 11) ks' _ (by omega) hkat (by omega)).mono ?_
        by_cases hh : kid.right = true
        · rw [hh]
          rintro e w9 ⟨rfl, hb9⟩
          have HH := Lib.hid hh
          clear hh
          go_wp2_with fail
          go_round
          case rel =>
            refine ⟨j + 1, by omega, by go_num, ?_, hbr.trans (hb9.mono (by omega))⟩
            have := HDD.out
            rw [HH.out, HI.out] at this; simpa using this.symm
          case measure => simp [intOf]; omega
        · have hh' : kid.right = false := by simpa using hh
          rw [hh']
          rintro e w9 ⟨rfl, hb9⟩
          have HH := Lib.hid hh'
          clear hh hh'
          go_wp2_with fail
          go_ret
          refine ⟨ret_bool ?_, hbr.trans (hb9.mono (by omega))⟩
          have := HDD.out
          rw [HH.out, HI.out] at this
          rw [HREST.out, this]; simp
      · have : j = t.ks.length := by omega
        subst this
        go_wp2_with fail
        go_ret
        refine ⟨ret_bool ?_, hbr⟩
        simp [RTm.rightL] at hinv
        rw [HREST.out, ← hinv]
  have hg2 : (t.name.toList == [42]) = false := by simpa using ho2
  by_cases ho3 : t.name.toList = [47]
  · have hrest : t.right = RTm.rightL t.ks := by rw [HR.out, HO.out, hkk, hnm, hag, hfr, hto, hlb, hop, HKN.out]; simp [opB, ho3]
    have HREST := Lib.hid hrest
    clear hrest
    go_wp2_with fail
    go_loopw [108] (fun i wr => ∃ j : Nat, j ≤ t.ks.length ∧ i = .int .i64 j ∧ RTm.rightL (t.ks.drop j) = RTm.rightL t.ks ∧ Below w.heap.size w wr) (fun i _ => t.ks.length - (intOf i).toNat)
    case atStart => exact ⟨0, by omega, rfl, by simp, hb3⟩
    case round =>
      obtain ⟨j, hj, rfl, hinv, hbr⟩ := hrel
      by_cases hlt : j < t.ks.length
      · have hk := List.getElem?_eq_getElem hlt
        generalize hkid : t.ks[j] = kid at hk
        have HDD := Lib.hid (RTm.rightL_drop hk)
        have hrt := hat.below hbr hB
        obtain ⟨kb, ko, ks', hka, hkat⟩ := hrt.kid hk
        have kc10 := hrt.c10
        rw [hka] at kc10
        have hnk := RTm.kid_nodes hk
        have hbs := hbr.size
        have HI := Lib.hid hinv
        clear hk hkid hka hinv
        go_wp2_with fail
        refine (ih kid B kb (ko + j * 11) ks' _ (by omega) hkat (by omega)).mono ?_
        by_cases hh : kid.right = true
        · rw [hh]
          rintro e w9 ⟨rfl, hb9⟩
          have HH := Lib.hid hh
          clear hh
          go_wp2_with fail
          go_round
          case rel =>
            refine ⟨j + 1, by omega, by go_num, ?_, hbr.trans (hb9.mono (by omega))⟩
            have := HDD.out
            rw [HH.out, HI.out] at this; simpa using this.symm
          case measure => simp [intOf]; omega
        · have hh' : kid.right = false := by simpa using hh
          rw [hh']
          rintro e w9 ⟨rfl, hb9⟩
          have HH := Lib.hid hh'
          clear hh hh'
          go_wp2_with fail
          go_ret
          refine ⟨ret_bool ?_, hbr.trans (hb9.mono (by omega))⟩
          have := HDD.out
          rw [HH.out, HI.out] at this
          rw [HREST.out, this]; simp
      · have : j = t.ks.length := by omega
        subst this
        go_wp2_with fail
        go_ret
        refine ⟨ret_bool ?_, hbr⟩
        simp [RTm.rightL] at hinv
        rw [HREST.out, ← hinv]
  have hg3 : (t.name.toList == [47]) = false := by simpa using ho3
  by_cases ho4 : t.name.toList = [60]
  · have hrest : t.right = RTm.rightL t.ks := by rw [HR.out, HO.out, hkk, hnm, hag, hfr, hto, hlb, hop, HKN.out]; simp [opB, ho4]
    have HREST := Lib.hid hrest
    clear hrest
    go_wp2_with fail
    go_loopw [108] (fun i wr => ∃ j : Nat, j ≤ t.ks.length ∧ i = .int .i64 j ∧ RTm.rightL (t.ks.drop j) = RTm.rightL t.ks ∧ Below w.heap.size w wr) (fun i _ => t.ks.length - (intOf i).toNat)
    case atStart => exact ⟨0, by omega, rfl, by simp, hb3⟩
    case round =>
      obtain ⟨j, hj, rfl, hinv, hbr⟩ := hrel
      by_cases hlt : j < t.ks.length
      · have hk := List.getElem?_eq_getElem hlt
        generalize hkid : t.ks[j] = kid at hk
        have HDD := Lib.hid (RTm.rightL_drop hk)
        have hrt := hat.below hbr hB
        obtain ⟨kb, ko, ks', hka, hkat⟩ := hrt.kid hk
        have kc10 := hrt.c10
        rw [hka] at kc10
        have hnk := RTm.kid_nodes hk
        have hbs := hbr.size
        have HI := Lib.hid hinv
        clear hk hkid hka hinv
        go_wp2_with fail
        refine (ih kid B kb (ko + j * 11) ks' _ (by omega) hkat (by omega)).mono ?_
        by_cases hh : kid.right = true
        · rw [hh]
          rintro e w9 ⟨rfl, hb9⟩
          have HH := Lib.hid hh
          clear hh
          go_wp2_with fail
          go_round
          case rel =>
            refine ⟨j + 1, by omega, by go_num, ?_, hbr.trans (hb9.mono (by omega))⟩
            have := HDD.out
            rw [HH.out, HI.out] at this; simpa using this.symm
          case measure => simp [intOf]; omega
        · have hh' : kid.right = false := by simpa using hh
          rw [hh']
          rintro e w9 ⟨rfl, hb9⟩
          have HH := Lib.hid hh'
          clear hh hh'
          go_wp2_with fail
          go_ret
          refine ⟨ret_bool ?_, hbr.trans (hb9.mono (by omega))⟩
          have := HDD.out
          rw [HH.out, HI.out] at this
          rw [HREST.out, this]; simp
      · have : j = t.ks.length := by omega
        subst this
        go_wp2_with fail
        go_ret
        refine ⟨ret_bool ?_, hbr⟩
        simp [RTm.rightL] at hinv
        rw [HREST.out, ← hinv]
  have hg4 : (t.name.toList == [60]) = false := by simpa using ho4
  by_cases ho5 : t.name.toList = [61]
  · have hrest : t.right = RTm.rightL t.ks := by rw [HR.out, HO.out, hkk, hnm, hag, hfr, hto, hlb, hop, HKN.out]; simp [opB, ho5]
    have HREST := Lib.hid hrest
    clear hrest
    go_wp2_with fail
    go_loopw [108] (fun i wr => ∃ j : Nat, j ≤ t.ks.length ∧ i = .int .i64 j ∧ RTm.rightL (t.ks.drop j) = RTm.rightL t.ks ∧ Below w.heap.size w wr) (fun i _ => t.ks.length - (intOf i).toNat)
    case atStart => exact ⟨0, by omega, rfl, by simp, hb3⟩
    case round =>
      obtain ⟨j, hj, rfl, hinv, hbr⟩ := hrel
      by_cases hlt : j < t.ks.length
      · have hk := List.getElem?_eq_getElem hlt
        generalize hkid : t.ks[j] = kid at hk
        have HDD := Lib.hid (RTm.rightL_drop hk)
        have hrt := hat.below hbr hB
        obtain ⟨kb, ko, ks', hka, hkat⟩ := hrt.kid hk
        have kc10 := hrt.c10
        rw [hka] at kc10
        have hnk := RTm.kid_nodes hk
        have hbs := hbr.size
        have HI := Lib.hid hinv
        clear hk hkid hka hinv
        go_wp2_with fail
        refine (ih kid B kb (ko + j * 11) ks' _ (by omega) hkat (by omega)).mono ?_
        by_cases hh : kid.right = true
        · rw [hh]
          rintro e w9 ⟨rfl, hb9⟩
          have HH := Lib.hid hh
          clear hh
          go_wp2_with fail
          go_round
          case rel =>
            refine ⟨j + 1, by omega, by go_num, ?_, hbr.trans (hb9.mono (by omega))⟩
            have := HDD.out
            rw [HH.out, HI.out] at this; simpa using this.symm
          case measure => simp [intOf]; omega
        · have hh' : kid.right = false := by simpa using hh
          rw [hh']
          rintro e w9 ⟨rfl, hb9⟩
          have HH := Lib.hid hh'
          clear hh hh'
          go_wp2_with fail
          go_ret
          refine ⟨ret_bool ?_, hbr.trans (hb9.mono (by omega))⟩
          have := HDD.out
          rw [HH.out, HI.out] at this
          rw [HREST.out, this]; simp
      · have : j = t.ks.length := by omega
        subst this
        go_wp2_with fail
        go_ret
        refine ⟨ret_bool ?_, hbr⟩
        simp [RTm.rightL] at hinv
        rw [HREST.out, ← hinv]
  have hg5 : (t.name.toList == [61]) = false := by simpa using ho5
  have e : t.right = false := by rw [HR.out, HO.out]; simp [hop, opB, ho0, ho1, ho2, ho3, ho4, ho5]
  have E := Lib.hid e
  clear e ho0 ho1 ho2 ho3 ho4 ho5
  go_wp2_with fail
  go_ret
  exact ⟨ret_bool E.out.symm, hb3⟩

set_option maxHeartbeats 4000000 in
theorem right_P7 (N : Nat) (ih : ∀ (t : RTm) (B b o : Nat) (s : TmSh) (w : World), t.nodes ≤ N → RTm.At w B b o s t → B ≤ w.heap.size → Calls Try.prog 49 #[.pointer (some ⟨b, o, none⟩)] w fun e w' => e = .returned (.bool t.right) ∧ Below w.heap.size w w')
    (t : RTm) (B b o : Nat) (s : TmSh) (w : World) (hN : t.nodes ≤ N + 1) (hat : RTm.At w B b o s t) (hB : B ≤ w.heap.size) (hkk : isKind t.k = true) (hnm : hasName t.k = false) (hag : hasArg t.k = false) (hfr : hasFrom t.k = true) (hto : hasTo t.k = true) (hlb : hasLabel t.k = true) (hop : hasOp t.k = false) :
    Calls Try.prog 49 #[.pointer (some ⟨b, o, none⟩)] w fun e w' => e = .returned (.bool t.right) ∧ Below w.heap.size w w' := by
  have hlen := hat.inn.fine.len
  have hlab := hat.inn.fine.label
  have HR := Lib.hid t.right_eq
  have HO : Hid (t.own = (isKind t.k && (decide (kidsOf t.k = t.ks.length) && ((!hasLabel t.k || labelB t.label) && ((!hasName t.k || nameB t.name) && ((!hasArg t.k || nameB t.arg) && ((!hasFrom t.k || t.ty.ok) && ((!hasTo t.k || t.to.ok) && (!hasOp t.k || opB t.name))))))))) := rfl
  have k0 := hat.c0
  go_enter Try.func49, Try.ntmps49
  go_wp2_with fail
  refine (of_any t.k _).mono ?_
  unfold shapeV
  rintro e w2 ⟨rfl, hb2⟩
  have hs2 := hb2.size
  have hat2 := hat.below hb2 hB
  have hbl2 : b < w2.heap.size := by have := hat.lt; omega
  have HSB := Lib.hid (fun o : Obj => below_new w2 o)
  have k10 := hat2.c10
  have k8 := hat2.c8
  clear k0
  go_wp2_with fail
  by_cases hkn : kidsOf t.k = t.ks.length
  rotate_left
  · have hkn' : (kidsOf t.k != (t.ks.length : Int)) = true := by simp [hkn]
    have e : t.right = false := by rw [HR.out, HO.out]; simp [hkn]
    have E := Lib.hid e
    clear e hkn
    go_quiet (fail)
    go_wp2_with fail
    go_ret
    exact ⟨ret_bool E.out.symm, hb2.trans (((HSB.out _).mono hs2).trans (below_drewN (Below.refl _ _) _))⟩
  have hkn' : (kidsOf t.k != (t.ks.length : Int)) = false := by simp [hkn]
  have HKN := Lib.hid hkn
  clear hkn
  go_quiet (fail)
  generalize hW3 : World.drewN _ nq = w3
  have hb3 : Below w.heap.size w w3 := by rw [← hW3]; exact hb2.trans (((HSB.out _).mono hs2).trans (below_drewN (Below.refl _ _) _))
  have hz3 : w3.heap.size = w2.heap.size + 1 := by rw [← hW3]; simp
  have z1 : w3.cell? ⟨w2.heap.size, 1, none⟩ = some (.bool false) := by rw [← hW3]; simp [go_sem]
  have z2 : w3.cell? ⟨w2.heap.size, 2, none⟩ = some (.bool false) := by rw [← hW3]; simp [go_sem]
  have z4 : w3.cell? ⟨w2.heap.size, 4, none⟩ = some (.bool true) := by rw [← hW3]; simp [go_sem]
  have z5 : w3.cell? ⟨w2.heap.size, 5, none⟩ = some (.bool true) := by rw [← hW3]; simp [go_sem]
  have z6 : w3.cell? ⟨w2.heap.size, 6, none⟩ = some (.bool true) := by rw [← hW3]; simp [go_sem]
  have z7 : w3.cell? ⟨w2.heap.size, 7, none⟩ = some (.bool false) := by rw [← hW3]; simp [go_sem]
  clear k10 k8 hbl2 hW3
  have hat3 := hat.below hb3 hB
  have hbs3 := hb3.size
  have k8 := hat3.c8
  by_cases hl : labelB t.label = true
  rotate_left
  · have e : t.right = false := by rw [HR.out, HO.out]; simp [hlb, hl]
    have E := Lib.hid e
    unfold labelB at hl
    clear e
    by_cases g0 : t.label = 0
    · have g0' : (t.label == 0) = true := by simp [g0]
      clear hl g0
      go_wp2_with fail
      go_ret
      exact ⟨ret_bool E.out.symm, hb3⟩
    have g0' : (t.label == 0) = false := by simp [g0]
    by_cases g1 : t.label < -2147483648
    · clear hl g0
      go_wp2_with fail
      go_ret
      exact ⟨ret_bool E.out.symm, hb3⟩
    have g2 : 2147483648 < t.label := by
      rw [g0'] at hl
      simp at hl
      omega
    clear hl g0
    go_wp2_with fail
    go_ret
    exact ⟨ret_bool E.out.symm, hb3⟩
  have g0' : (t.label == 0) = false := by
    unfold labelB at hl; cases h : (t.label == 0) with
    | false => rfl
    | true => rw [h] at hl; simp at hl
  have g1 : -2147483648 ≤ t.label ∧ t.label ≤ 2147483648 := by
    unfold labelB at hl; rw [g0'] at hl; simpa using hl
  have g1a := g1.1
  have g1b := g1.2
  have HLB := Lib.hid hl
  clear hl g1
  have ka3 := (hat.below hb3 hB).c4
  have kb3 := (hat.below hb3 hB).c5
  go_wp2_with fail
  refine (tcheck_any t.ty B s.ta s.tc _ (hat.inn.ty.below hb3 hB) (by omega)).mono ?_
  by_cases ht_ty : t.ty.check = 0
  rotate_left
  · have ht_ty' : (t.ty.check != 0) = true := by simp [ht_ty]
    rintro e w4 ⟨rfl, hbn4⟩
    have e : t.right = false := by rw [HR.out, HO.out]; simp [hfr, RTy.ok, ht_ty]
    have E := Lib.hid e
    clear e ht_ty
    go_wp2_with fail
    go_ret
    exact ⟨ret_bool E.out.symm, hb3.trans (hbn4.mono (by omega))⟩
  have ht_ty' : (t.ty.check != 0) = false := by simp [ht_ty]
  rintro e w4 ⟨rfl, hbn4⟩
  have hb4 := hb3.trans (hbn4.mono (by omega))
  have hbs4 := hb4.size
  have z1 := cell_kept hbn4 z1
  have z2 := cell_kept hbn4 z2
  have z4 := cell_kept hbn4 z4
  have z5 := cell_kept hbn4 z5
  have z6 := cell_kept hbn4 z6
  have z7 := cell_kept hbn4 z7
  have Hht_ty : Hid (t.ty.ok = true) := by show t.ty.ok = true; simp [RTy.ok, ht_ty]
  clear ht_ty ka3 kb3
  have ka4 := (hat.below hb4 hB).c6
  have kb4 := (hat.below hb4 hB).c7
  go_wp2_with fail
  refine (tcheck_any t.to B s.oa s.oc _ (hat.inn.to.below hb4 hB) (by omega)).mono ?_
  by_cases ht_to : t.to.check = 0
  rotate_left
  · have ht_to' : (t.to.check != 0) = true := by simp [ht_to]
    rintro e w5 ⟨rfl, hbn5⟩
    have e : t.right = false := by rw [HR.out, HO.out]; simp [hto, RTy.ok, ht_to]
    have E := Lib.hid e
    clear e ht_to
    go_wp2_with fail
    go_ret
    exact ⟨ret_bool E.out.symm, hb4.trans (hbn5.mono (by omega))⟩
  have ht_to' : (t.to.check != 0) = false := by simp [ht_to]
  rintro e w5 ⟨rfl, hbn5⟩
  have hb5 := hb4.trans (hbn5.mono (by omega))
  have hbs5 := hb5.size
  have z1 := cell_kept hbn5 z1
  have z2 := cell_kept hbn5 z2
  have z4 := cell_kept hbn5 z4
  have z5 := cell_kept hbn5 z5
  have z6 := cell_kept hbn5 z6
  have z7 := cell_kept hbn5 z7
  have Hht_to : Hid (t.to.ok = true) := by show t.to.ok = true; simp [RTy.ok, ht_to]
  clear ht_to ka4 kb4
  have hrest : t.right = RTm.rightL t.ks := by rw [HR.out, HO.out, hkk, hnm, hag, hfr, hto, hlb, hop, HKN.out, HLB.out, Hht_ty.out, Hht_to.out]; simp
  have HREST := Lib.hid hrest
  clear hrest
  have kk := (hat.below hb5 hB).c10
  go_wp2_with fail
  go_loopw [108] (fun i wr => ∃ j : Nat, j ≤ t.ks.length ∧ i = .int .i64 j ∧ RTm.rightL (t.ks.drop j) = RTm.rightL t.ks ∧ Below w.heap.size w wr) (fun i _ => t.ks.length - (intOf i).toNat)
  case atStart => exact ⟨0, by omega, rfl, by simp, hb5⟩
  case round =>
    obtain ⟨j, hj, rfl, hinv, hbr⟩ := hrel
    by_cases hlt : j < t.ks.length
    · have hk := List.getElem?_eq_getElem hlt
      generalize hkid : t.ks[j] = kid at hk
      have HDD := Lib.hid (RTm.rightL_drop hk)
      have hrt := hat.below hbr hB
      obtain ⟨kb, ko, ks', hka, hkat⟩ := hrt.kid hk
      have kc10 := hrt.c10
      rw [hka] at kc10
      have hnk := RTm.kid_nodes hk
      have hbs := hbr.size
      have HI := Lib.hid hinv
      clear hk hkid hka hinv
      go_wp2_with fail
      refine (ih kid B kb (ko + j * 11) ks' _ (by omega) hkat (by omega)).mono ?_
      by_cases hh : kid.right = true
      · rw [hh]
        rintro e w9 ⟨rfl, hb9⟩
        have HH := Lib.hid hh
        clear hh
        go_wp2_with fail
        go_round
        case rel =>
          refine ⟨j + 1, by omega, by go_num, ?_, hbr.trans (hb9.mono (by omega))⟩
          have := HDD.out
          rw [HH.out, HI.out] at this; simpa using this.symm
        case measure => simp [intOf]; omega
      · have hh' : kid.right = false := by simpa using hh
        rw [hh']
        rintro e w9 ⟨rfl, hb9⟩
        have HH := Lib.hid hh'
        clear hh hh'
        go_wp2_with fail
        go_ret
        refine ⟨ret_bool ?_, hbr.trans (hb9.mono (by omega))⟩
        have := HDD.out
        rw [HH.out, HI.out] at this
        rw [HREST.out, this]; simp
    · have : j = t.ks.length := by omega
      subst this
      go_wp2_with fail
      go_ret
      refine ⟨ret_bool ?_, hbr⟩
      simp [RTm.rightL] at hinv
      rw [HREST.out, ← hinv]

theorem mright_any (N : Nat) : ∀ (t : RTm) (B b o : Nat) (s : TmSh) (w : World), t.nodes ≤ N → RTm.At w B b o s t → B ≤ w.heap.size → Calls Try.prog 49 #[.pointer (some ⟨b, o, none⟩)] w fun e w' => e = .returned (.bool t.right) ∧ Below w.heap.size w w' := by
  induction N with
  | zero => intro t B b o s w h; have := t.nodes_pos; omega
  | succ N ih =>
  intro t B b o s w hN hat hB
  by_cases hkk : isKind t.k = true
  · have hk : 0 ≤ t.k ∧ t.k ≤ 17 := by unfold isKind at hkk; simpa using hkk
    have hk : t.k = 0 ∨ t.k = 1 ∨ t.k = 2 ∨ t.k = 3 ∨ t.k = 4 ∨ t.k = 5 ∨ t.k = 6 ∨ t.k = 7 ∨ t.k = 8 ∨ t.k = 9 ∨ t.k = 10 ∨ t.k = 11 ∨ t.k = 12 ∨ t.k = 13 ∨ t.k = 14 ∨ t.k = 15 ∨ t.k = 16 ∨ t.k = 17 := by omega
    rcases hk with h | h | h | h | h | h | h | h | h | h | h | h | h | h | h | h | h | h
    · exact right_P0 N ih t B b o s w hN hat hB hkk (by rw [h]; rfl) (by rw [h]; rfl) (by rw [h]; rfl) (by rw [h]; rfl) (by rw [h]; rfl) (by rw [h]; rfl)
    · exact right_P1 N ih t B b o s w hN hat hB hkk (by rw [h]; rfl) (by rw [h]; rfl) (by rw [h]; rfl) (by rw [h]; rfl) (by rw [h]; rfl) (by rw [h]; rfl)
    · exact right_P1 N ih t B b o s w hN hat hB hkk (by rw [h]; rfl) (by rw [h]; rfl) (by rw [h]; rfl) (by rw [h]; rfl) (by rw [h]; rfl) (by rw [h]; rfl)
    · exact right_P1 N ih t B b o s w hN hat hB hkk (by rw [h]; rfl) (by rw [h]; rfl) (by rw [h]; rfl) (by rw [h]; rfl) (by rw [h]; rfl) (by rw [h]; rfl)
    · exact right_P2 N ih t B b o s w hN hat hB hkk (by rw [h]; rfl) (by rw [h]; rfl) (by rw [h]; rfl) (by rw [h]; rfl) (by rw [h]; rfl) (by rw [h]; rfl)
    · exact right_P3 N ih t B b o s w hN hat hB hkk (by rw [h]; rfl) (by rw [h]; rfl) (by rw [h]; rfl) (by rw [h]; rfl) (by rw [h]; rfl) (by rw [h]; rfl)
    · exact right_P1 N ih t B b o s w hN hat hB hkk (by rw [h]; rfl) (by rw [h]; rfl) (by rw [h]; rfl) (by rw [h]; rfl) (by rw [h]; rfl) (by rw [h]; rfl)
    · exact right_P2 N ih t B b o s w hN hat hB hkk (by rw [h]; rfl) (by rw [h]; rfl) (by rw [h]; rfl) (by rw [h]; rfl) (by rw [h]; rfl) (by rw [h]; rfl)
    · exact right_P1 N ih t B b o s w hN hat hB hkk (by rw [h]; rfl) (by rw [h]; rfl) (by rw [h]; rfl) (by rw [h]; rfl) (by rw [h]; rfl) (by rw [h]; rfl)
    · exact right_P1 N ih t B b o s w hN hat hB hkk (by rw [h]; rfl) (by rw [h]; rfl) (by rw [h]; rfl) (by rw [h]; rfl) (by rw [h]; rfl) (by rw [h]; rfl)
    · exact right_P1 N ih t B b o s w hN hat hB hkk (by rw [h]; rfl) (by rw [h]; rfl) (by rw [h]; rfl) (by rw [h]; rfl) (by rw [h]; rfl) (by rw [h]; rfl)
    · exact right_P1 N ih t B b o s w hN hat hB hkk (by rw [h]; rfl) (by rw [h]; rfl) (by rw [h]; rfl) (by rw [h]; rfl) (by rw [h]; rfl) (by rw [h]; rfl)
    · exact right_P4 N ih t B b o s w hN hat hB hkk (by rw [h]; rfl) (by rw [h]; rfl) (by rw [h]; rfl) (by rw [h]; rfl) (by rw [h]; rfl) (by rw [h]; rfl)
    · exact right_P4 N ih t B b o s w hN hat hB hkk (by rw [h]; rfl) (by rw [h]; rfl) (by rw [h]; rfl) (by rw [h]; rfl) (by rw [h]; rfl) (by rw [h]; rfl)
    · exact right_P5 N ih t B b o s w hN hat hB hkk (by rw [h]; rfl) (by rw [h]; rfl) (by rw [h]; rfl) (by rw [h]; rfl) (by rw [h]; rfl) (by rw [h]; rfl)
    · exact right_P6 N ih t B b o s w hN hat hB hkk (by rw [h]; rfl) (by rw [h]; rfl) (by rw [h]; rfl) (by rw [h]; rfl) (by rw [h]; rfl) (by rw [h]; rfl)
    · exact right_P4 N ih t B b o s w hN hat hB hkk (by rw [h]; rfl) (by rw [h]; rfl) (by rw [h]; rfl) (by rw [h]; rfl) (by rw [h]; rfl) (by rw [h]; rfl)
    · exact right_P7 N ih t B b o s w hN hat hB hkk (by rw [h]; rfl) (by rw [h]; rfl) (by rw [h]; rfl) (by rw [h]; rfl) (by rw [h]; rfl) (by rw [h]; rfl)
  · have hkk' : isKind t.k = false := by simpa using hkk
    have e : t.right = false := by rw [RTm.right_eq]; unfold RTm.own; rw [hkk']; rfl
    have k0 := hat.c0
    go_enter Try.func49, Try.ntmps49
    go_wp2_with fail
    refine (of_any t.k _).mono ?_
    rw [hkk']
    unfold shapeV
    rintro e w2 ⟨rfl, hb2⟩
    go_wp2_with fail
    go_ret
    exact ⟨ret_bool e.symm, hb2.trans ((below_new _ _).mono hb2.size)⟩

theorem mcheck_any (t : RTm) (B : Nat) (s : TmSh) (w : World) (hin : t.In w B s) (hB : B ≤ w.heap.size) :
    Calls Try.prog 16 #[t.v s] w fun e w' => e = .returned (.int .i64 t.check) ∧ Below w.heap.size w w' := by
  by_cases hn : t.nodes ≤ 8192
  · have e1 : min (t.nodes : Int) 8193 = t.nodes := by omega
    have hn2 : (t.nodes : Int) ≤ 8192 := by omega
    by_cases hd : t.depth ≤ 200
    · have e3 : (if 8192 < t.nodes then (201 : Int) else min (t.depth : Int) 201) = t.depth := by rw [if_neg (by omega)]; omega
      have E : Hid (t.check = if t.right then 0 else 30) := by show t.check = _; unfold RTm.check; rw [if_neg (by omega), if_neg (by omega)]
      have hd2 : (t.depth : Int) ≤ 200 := by omega
      have E3 := Lib.hid e3
      clear hn hd e3
      go_enter Try.func16, Try.ntmps16
      go_wp2_with fail
      refine (mnodes_any t B s _ (hin.below (C := w.heap.size) (by (repeat (first | assumption | exact Below.refl _ _ | apply below_drewN | apply Below.drew | (refine Below.alloc ?_ (by first | omega | (simp; done) | (simp; omega)) _) | (refine Below.setCell ?_ (by first | omega | (simp; done) | (simp; omega)) _)))) hB) (by simp; omega)).mono ?_
      rw [e1]
      rintro e w1 ⟨rfl, hb1⟩
      have hat : RTm.At w1 (w.heap.size + 1) w.heap.size 0 s t := RTm.At.boxed hin hB (E := 28) (by simpa using hb1)
      have hb0 : Below w.heap.size w w1 := Below.trans (by (repeat (first | assumption | exact Below.refl _ _ | apply below_drewN | apply Below.drew | (refine Below.alloc ?_ (by first | omega | (simp; done) | (simp; omega)) _) | (refine Below.setCell ?_ (by first | omega | (simp; done) | (simp; omega)) _)))) (hb1.mono (by simp))
      have hs := hb1.size
      rw [World.size_alloc] at hs
      obtain ⟨-, h0, h1, h2, h3, h4, h5, h6, h7, h8, h9, h10, -⟩ := id hat
      simp only [Nat.zero_add] at h0 h1 h2 h3 h4 h5 h6 h7 h8 h9 h10
      clear e1 hb1
      go_wp2_with fail
      refine (mDepth_any t B s _ (hin.below hb0 hB) (by omega)).mono ?_
      rw [E3.out]
      rintro e w2 ⟨rfl, hb2⟩
      have hat2 := hat.below hb2 hs
      have hb02 := hb0.trans (hb2.mono (by omega))
      have hs2 := hb2.size
      clear h0 h1 h2 h3 h4 h5 h6 h7 h8 h9 h10
      go_wp2_with fail
      refine (mright_any t.nodes t (w.heap.size + 1) w.heap.size 0 s _ (Nat.le_refl _) hat2 (by omega)).mono ?_
      by_cases hr : t.right = true
      · rw [hr]
        rintro e w3 ⟨rfl, hb3⟩
        go_wp2_with fail
        go_ret
        exact ⟨ret_int (by rw [E.out, hr]; rfl), hb02.trans (hb3.mono (by omega))⟩
      · have hr' : t.right = false := by simpa using hr
        rw [hr']
        rintro e w3 ⟨rfl, hb3⟩
        clear hr
        go_wp2_with fail
        go_ret
        exact ⟨ret_int (by rw [E.out, hr']; rfl), hb02.trans (hb3.mono (by omega))⟩
    · have e3 : (if 8192 < t.nodes then (201 : Int) else min (t.depth : Int) 201) = 201 := by rw [if_neg (by omega)]; omega
      have E : t.check = 31 := by unfold RTm.check; rw [if_neg (by omega), if_pos (by omega)]
      have E3 := Lib.hid e3
      clear hn hd e3
      go_enter Try.func16, Try.ntmps16
      go_wp2_with fail
      refine (mnodes_any t B s _ (hin.below (C := w.heap.size) (by (repeat (first | assumption | exact Below.refl _ _ | apply below_drewN | apply Below.drew | (refine Below.alloc ?_ (by first | omega | (simp; done) | (simp; omega)) _) | (refine Below.setCell ?_ (by first | omega | (simp; done) | (simp; omega)) _)))) hB) (by simp; omega)).mono ?_
      rw [e1]
      rintro e w1 ⟨rfl, hb1⟩
      have hat : RTm.At w1 (w.heap.size + 1) w.heap.size 0 s t := RTm.At.boxed hin hB (E := 28) (by simpa using hb1)
      have hb0 : Below w.heap.size w w1 := Below.trans (by (repeat (first | assumption | exact Below.refl _ _ | apply below_drewN | apply Below.drew | (refine Below.alloc ?_ (by first | omega | (simp; done) | (simp; omega)) _) | (refine Below.setCell ?_ (by first | omega | (simp; done) | (simp; omega)) _)))) (hb1.mono (by simp))
      have hs := hb1.size
      rw [World.size_alloc] at hs
      obtain ⟨-, h0, h1, h2, h3, h4, h5, h6, h7, h8, h9, h10, -⟩ := hat
      simp only [Nat.zero_add] at h0 h1 h2 h3 h4 h5 h6 h7 h8 h9 h10
      clear e1 hb1
      go_wp2_with fail
      refine (mDepth_any t B s _ (hin.below hb0 hB) (by omega)).mono ?_
      rw [E3.out]
      rintro e w2 ⟨rfl, hb2⟩
      go_wp2_with fail
      go_ret
      exact ⟨ret_int E.symm, hb0.trans (hb2.mono (by omega))⟩
  · have e1 : min (t.nodes : Int) 8193 = 8193 := by omega
    have E : t.check = 32 := by unfold RTm.check; rw [if_pos (by omega)]
    clear hn
    go_enter Try.func16, Try.ntmps16
    go_wp2_with fail
    refine (mnodes_any t B s _ (hin.below (C := w.heap.size) (by (repeat (first | assumption | exact Below.refl _ _ | apply below_drewN | apply Below.drew | (refine Below.alloc ?_ (by first | omega | (simp; done) | (simp; omega)) _) | (refine Below.setCell ?_ (by first | omega | (simp; done) | (simp; omega)) _)))) hB) (by simp; omega)).mono ?_
    rw [e1]
    rintro e w1 ⟨rfl, hb1⟩
    go_wp2_with fail
    go_ret
    exact ⟨ret_int E.symm, Below.trans (by (repeat (first | assumption | exact Below.refl _ _ | apply below_drewN | apply Below.drew | (refine Below.alloc ?_ (by first | omega | (simp; done) | (simp; omega)) _) | (refine Below.setCell ?_ (by first | omega | (simp; done) | (simp; omega)) _)))) (hb1.mono (by simp))⟩
end Go.Proofs.Ytaoodchjggimcaa

/- The walks of package rules: giving up, and what is small. -/
set_option linter.unusedVariables false
set_option linter.unusedSimpArgs false
namespace Go.Proofs.Ytaoodchjggimcaa
open Go.RowKit

/-- A call gives up with a fault: a new pointer to it. -/
def FaultAt (w : World) (b : Nat) (f : Flt) : Prop :=
  w.cell? ⟨b, 0, none⟩ = some (.int .i64 f.code) ∧ w.cell? ⟨b, 1, none⟩ = some (.int .i64 f.at_) ∧ w.cell? ⟨b, 2, none⟩ = some (.string f.word)
def Fails (f : Flt) (w : World) (e : Ending) (w' : World) : Prop :=
  ∃ b, e = .panicked [{ v := .iface 91 (.pointer (some ⟨b, 0, none⟩)), recovered := false }] ∧ w.heap.size ≤ b ∧ b < w'.heap.size ∧ FaultAt w' b f ∧ Below w.heap.size w w'
theorem Fails.mono {f : Flt} {w w1 : World} {e : Ending} {w' : World} (h : Fails f w1 e w') (hb : Below w.heap.size w w1) : Fails f w e w' := by
  obtain ⟨b, he, h1, h2, h3, h4⟩ := h
  have := hb.size
  exact ⟨b, he, by omega, h2, h3, hb.trans (h4.mono (by omega))⟩

set_option maxHeartbeats 1000000 in
theorem fail_any (t : RTm) (B b o : Nat) (s : TmSh) (c : Int) (wd : ByteArray) (w : World) (hat : RTm.At w B b o s t) (hB : B ≤ w.heap.size) :
    Calls Try.prog 122 #[.pointer (some ⟨b, o, none⟩), .int .i64 c, .string wd] w (Fails ⟨c, t.spot, wd⟩ w) := by
  have k9 := hat.c9
  have hlt := hat.lt
  have hbl : b < w.heap.size := by omega
  go_enter Try.func122, Try.ntmps122
  go_wp2_with fail
  refine ⟨rfl, w.heap.size, rfl, by omega, by simp, ⟨by simp [go_sem], by simp [go_sem], by simp [go_sem]⟩, ?_⟩
  (repeat (first | assumption | exact Below.refl _ _ | apply below_drewN | apply Below.drew | (refine Below.alloc ?_ (by first | omega | (simp; done) | (simp; omega)) _) | (refine Below.setCell ?_ (by first | omega | (simp; done) | (simp; omega)) _)))

set_option maxHeartbeats 1000000 in
theorem want_no (t : RTm) (B b o : Nat) (s : TmSh) (c : Int) (w : World) (hat : RTm.At w B b o s t) (hB : B ≤ w.heap.size) :
    Calls Try.prog 127 #[.pointer (some ⟨b, o, none⟩), .bool false, .int .i64 c] w (Fails ⟨c, t.spot, ⟨#[]⟩⟩ w) := by
  go_enter Try.func127, Try.ntmps127
  go_wp2_with fail
  refine (fail_any t B b o s c _ w hat hB).mono ?_
  rintro e w1 ⟨b1, rfl, h1, h2, h3, h4⟩
  go_wp2_with fail
  exact ⟨rfl, b1, rfl, h1, h2, h3, h4⟩
set_option maxHeartbeats 1000000 in
theorem want_yes (b o : Nat) (c : Int) (w : World) :
    Calls Try.prog 127 #[.pointer (some ⟨b, o, none⟩), .bool true, .int .i64 c] w (fun e w' => e = .returned (.tuple #[]) ∧ w = w') := by
  go_enter Try.func127, Try.ntmps127
  go_wp2_with fail
  go_end0
  exact ⟨rfl, rfl⟩

/-- Blocks of S, and those that were made between two worlds. -/
def More (S : Nat → Prop) (w w' : World) (b : Nat) : Prop := S b ∨ (w.heap.size ≤ b ∧ b < w'.heap.size)
/-- A result that is a type, at hand in w': its kids lie in blocks of S, or in new ones. -/
def GetsTy (S : Nat → Prop) (r : Except Flt RTy) (w : World) (e : Ending) (w' : World) : Prop :=
  match r with
  | .ok t => ∃ a c, e = .returned (.agg #[.int .i8 t.k, .slice a t.ks.length c]) ∧ t.InS w' (More S w w') a ∧ Below w.heap.size w w'
  | .error f => Fails f w e w'

set_option maxHeartbeats 2000000 in
theorem small_any (t : RTm) (B b o : Nat) (s : TmSh) (y : RTy) (a : Option Addr) (c : Nat) (w : World) (hat : RTm.At w B b o s t) (hB : B ≤ w.heap.size) (S : Nat → Prop) (hS : ∀ b, S b → b < w.heap.size) (hinS : y.InS w S a) :
    Calls Try.prog 128 #[.pointer (some ⟨b, o, none⟩), .agg #[.int .i8 y.k, .slice a y.ks.length c]] w (GetsTy S (small t y) w) := by
  have hin : y.In w w.heap.size a := hinS.up hS
  have q0 : ∀ (A B : Obj), Below w.heap.size w ((w.alloc A).alloc B) := fun A B => by (repeat (first | assumption | exact Below.refl _ _ | apply below_drewN | apply Below.drew | (refine Below.alloc ?_ (by first | omega | (simp; done) | (simp; omega)) _) | (refine Below.setCell ?_ (by first | omega | (simp; done) | (simp; omega)) _)))
  have qs : ∀ (A B : Obj), ((w.alloc A).alloc B).heap.size = w.heap.size + 1 + 1 := fun A B => by simp
  have Q0 := Lib.hid q0
  have QS := Lib.hid qs
  clear q0 qs
  go_enter Try.func128, Try.ntmps128
  go_wp2_with fail
  refine (tnodes_any y w.heap.size a c _ (hin.below (Q0.out _ _) (Nat.le_refl _)) (by rw [QS.out]; omega)).mono ?_
  rintro e w1 ⟨rfl, hb1⟩
  have hb0 : Below w.heap.size w w1 := Below.trans (Q0.out _ _) (hb1.mono (by rw [QS.out]; omega))
  have hs := hb1.size
  rw [QS.out] at hs
  have q1 : w1.cell? ⟨w.heap.size, 0, none⟩ = some (.int .i8 y.k) := cell_kept hb1 (by simp [go_sem])
  have q2 : w1.cell? ⟨w.heap.size, 1, none⟩ = some (.slice a y.ks.length c) := cell_kept hb1 (by simp [go_sem])
  have q3 : w1.cell? ⟨w.heap.size + 1, 0, none⟩ = some (.int .i8 0) := cell_kept hb1 (by simp [go_sem])
  have q4 : w1.cell? ⟨w.heap.size + 1, 1, none⟩ = some (.slice none 0 0) := cell_kept hb1 (by simp [go_sem])
  have f3 : w1.frozen? ⟨w.heap.size + 1, 0, none⟩ = false := frozen_kept hb1 (by rw [QS.out]; omega) (by simp [go_sem])
  have f4 : w1.frozen? ⟨w.heap.size + 1, 1, none⟩ = false := frozen_kept hb1 (by rw [QS.out]; omega) (by simp [go_sem])
  have HS : Hid (small t y = if 8192 < y.nodes then fault t 32 else if 200 < y.depth then fault t 31 else .ok y) := rfl
  by_cases h1 : y.nodes ≤ 8192
  · have h1' : (decide (min (y.nodes : Int) 8193 ≤ 8192)) = true := by simp; omega
    have hd : y.dep = min (y.depth : Int) 201 := by unfold RTy.dep; rw [if_neg (by omega)]
    by_cases h2 : y.depth ≤ 200
    · have h2' : (decide (y.dep ≤ 200)) = true := by rw [hd]; simp; omega
      have E : Hid (small t y = .ok y) := by show small t y = _; rw [HS.out, if_neg (by omega), if_neg (by omega)]
      clear h1 hd h2
      go_wp2_with fail
      refine (want_yes b o _ _).mono ?_
      rintro e _ ⟨rfl, rfl⟩
      go_wp2_with fail
      refine (tdepth_any y w.heap.size a c _ (hin.below hb0 (Nat.le_refl _)) (by omega)).mono ?_
      rintro e w2 ⟨rfl, hb2⟩
      have q1 := cell_kept hb2 q1
      have q2 := cell_kept hb2 q2
      have q3 := cell_kept hb2 q3
      have q4 := cell_kept hb2 q4
      have f3 := frozen_kept hb2 (by omega) f3
      have f4 := frozen_kept hb2 (by omega) f4
      have hs2 := hb2.size
      go_wp2_with fail
      refine (want_yes b o _ _).mono ?_
      rintro e _ ⟨rfl, rfl⟩
      go_wp2_with fail
      refine bodyPost_ret (v := .agg #[.int .i8 y.k, .slice a y.ks.length c]) (by simp [results, Try.results128, go_sem, q3, q4]) rfl ?_
      rw [E.out]
      have hb3 : Below w.heap.size w w2 := hb0.trans (hb2.mono (by omega))
      refine ⟨a, c, rfl, RTy.InS.up (RTy.InS.below (C := w.heap.size) hinS ?_ hS) fun b hb => .inl hb, ?_⟩
      · (repeat (first | assumption | exact Below.refl _ _ | apply below_drewN | apply Below.drew | (refine Below.alloc ?_ (by first | omega | (simp; done) | (simp; omega)) _) | (refine Below.setCell ?_ (by first | omega | (simp; done) | (simp; omega)) _)))
      · (repeat (first | assumption | exact Below.refl _ _ | apply below_drewN | apply Below.drew | (refine Below.alloc ?_ (by first | omega | (simp; done) | (simp; omega)) _) | (refine Below.setCell ?_ (by first | omega | (simp; done) | (simp; omega)) _)))
    · have h2' : (decide (y.dep ≤ 200)) = false := by rw [hd]; simp; omega
      have E : Hid (small t y = fault t 31) := by show small t y = _; rw [HS.out, if_neg (by omega), if_pos (by omega)]
      clear h1 hd h2
      go_wp2_with fail
      refine (want_yes b o _ _).mono ?_
      rintro e _ ⟨rfl, rfl⟩
      go_wp2_with fail
      refine (tdepth_any y w.heap.size a c _ (hin.below hb0 (Nat.le_refl _)) (by omega)).mono ?_
      rintro e w2 ⟨rfl, hb2⟩
      have hs2 := hb2.size
      have hb3 : Below w.heap.size w w2 := hb0.trans (hb2.mono (by omega))
      go_wp2_with fail
      refine (want_no t B b o s 31 _ (hat.below hb3 hB) (by omega)).mono ?_
      rintro e w3 ⟨b1, rfl, h1, h2, h3, h4⟩
      go_wp2_with fail
      refine ⟨rfl, ?_⟩
      rw [E.out]
      exact Fails.mono (w1 := w2) ⟨b1, rfl, h1, h2, h3, h4⟩ hb3
  · have h1' : (decide (min (y.nodes : Int) 8193 ≤ 8192)) = false := by simp; omega
    have E : Hid (small t y = fault t 32) := by show small t y = _; rw [HS.out, if_pos (by omega)]
    clear h1
    go_wp2_with fail
    refine (want_no t B b o s 32 _ (hat.below hb0 hB) (by omega)).mono ?_
    rintro e w3 ⟨b1, rfl, h1, h2, h3, h4⟩
    go_wp2_with fail
    refine ⟨rfl, ?_⟩
    rw [E.out]
    exact Fails.mono (w1 := w1) ⟨b1, rfl, h1, h2, h3, h4⟩ hb0
end Go.Proofs.Ytaoodchjggimcaa

/- Rows of bounds: what is around. -/
set_option linter.unusedVariables false
set_option linter.unusedSimpArgs false
namespace Go.Proofs.Ytaoodchjggimcaa
open Go.RowKit

theorem Env.find_append (x : ByteArray) : ∀ (l : Env) (n : ByteArray) (y : RTy), Env.find x (l ++ [(n, y)]) = if n.toList == x.toList then some y else Env.find x l
  | [], n, y => by simp [Env.find]
  | (m, z) :: l, n, y => by
    rw [List.cons_append, Env.find, Env.find_append x l n y, Env.find]
    by_cases h : (n.toList == x.toList) = true
    · simp [h]
    · simp [h]
theorem Env.find_take (x : ByteArray) {l : Env} {j : Nat} {n : ByteArray} {y : RTy} (h : l[j]? = some (n, y)) : Env.find x (l.take (j + 1)) = if n.toList == x.toList then some y else Env.find x (l.take j) := by
  rw [List.take_add_one, h]
  exact Env.find_append x _ n y

/-- The cells of a row of bounds. -/
def EnvCells (w : World) (S : Nat → Prop) : Env → List Value → Prop
  | [], cs => cs = []
  | (n, y) :: l, cs => ∃ a c r, cs = .string n :: .int .i8 y.k :: .slice a y.ks.length c :: r ∧ y.InS w S a ∧ EnvCells w S l r
theorem EnvCells.length {w : World} {S : Nat → Prop} : ∀ {l : Env} {cs : List Value}, EnvCells w S l cs → cs.length = l.length * 3
  | [], cs, h => by unfold EnvCells at h; subst h; rfl
  | (n, y) :: l, cs, h => by
    obtain ⟨a, c, r, rfl, h1, h2⟩ := h
    have := EnvCells.length h2
    simp [this]; omega
theorem EnvCells.push {w : World} {S : Nat → Prop} {n : ByteArray} {y : RTy} {a : Option Addr} {c : Nat} (hy : y.InS w S a) : ∀ {l : Env} {cs : List Value}, EnvCells w S l cs → EnvCells w S (l ++ [(n, y)]) (cs ++ [.string n, .int .i8 y.k, .slice a y.ks.length c])
  | [], cs, h => by unfold EnvCells at h; subst h; exact ⟨a, c, [], rfl, hy, rfl⟩
  | (m, z) :: l, cs, h => by
    obtain ⟨a', c', r, rfl, h1, h2⟩ := h
    exact ⟨a', c', _, rfl, h1, EnvCells.push hy h2⟩
theorem EnvCells.below {w w' : World} {S : Nat → Prop} {C : Nat} (hb : Below C w w') (hBC : ∀ b, S b → b < C) : ∀ {l : Env} {cs : List Value}, EnvCells w S l cs → EnvCells w' S l cs
  | [], cs, h => h
  | (m, z) :: l, cs, h => by
    obtain ⟨a', c', r, rfl, h1, h2⟩ := h
    exact ⟨a', c', r, rfl, h1.below hb hBC, EnvCells.below hb hBC h2⟩
theorem EnvCells.up {w : World} {S S' : Nat → Prop} (hB : ∀ b, S b → S' b) : ∀ {l : Env} {cs : List Value}, EnvCells w S l cs → EnvCells w S' l cs
  | [], cs, h => h
  | (m, z) :: l, cs, h => by
    obtain ⟨a', c', r, rfl, h1, h2⟩ := h
    exact ⟨a', c', r, rfl, h1.up hB, EnvCells.up hB h2⟩
theorem EnvCells.get {w : World} {S : Nat → Prop} {n : ByteArray} {y : RTy} : ∀ {l : Env} {cs : List Value}, EnvCells w S l cs → ∀ {j : Nat}, l[j]? = some (n, y) →
    ∃ a c, cs[j * 3]? = some (.string n) ∧ cs[j * 3 + 1]? = some (.int .i8 y.k) ∧ cs[j * 3 + 2]? = some (.slice a y.ks.length c) ∧ y.InS w S a
  | [], cs, h, j, hj => by simp at hj
  | (m, z) :: l, cs, h, j, hj => by
    obtain ⟨a', c', r, rfl, h1, h2⟩ := h
    cases j with
    | zero => simp at hj; obtain ⟨rfl, rfl⟩ := hj; exact ⟨a', c', rfl, rfl, rfl, h1⟩
    | succ j =>
      obtain ⟨a, c, e1, e2, e3, e4⟩ := EnvCells.get h2 (j := j) (by simpa using hj)
      refine ⟨a, c, ?_, ?_, ?_, e4⟩
      · rw [show (j + 1) * 3 = j * 3 + 1 + 1 + 1 by omega]; simpa using e1
      · rw [show (j + 1) * 3 + 1 = j * 3 + 1 + 1 + 1 + 1 by omega]; simpa using e2
      · rw [show (j + 1) * 3 + 2 = j * 3 + 2 + 1 + 1 + 1 by omega]; simpa using e3
theorem EnvCells.one {w : World} {S : Nat → Prop} : ∀ {l : Env} {cs : List Value}, EnvCells w S l cs → ∀ u ∈ cs, u.oneCell' = true
  | [], cs, h, u, hu => by unfold EnvCells at h; subst h; simp at hu
  | (m, z) :: l, cs, h, u, hu => by
    obtain ⟨a', c', r, rfl, h1, h2⟩ := h
    simp only [List.mem_cons] at hu
    rcases hu with rfl | rfl | rfl | hu
    · rfl
    · rfl
    · rfl
    · exact EnvCells.one h2 u hu
/-- What is around, at hand: a row of bounds in an old block; its types' kids lie in S. -/
def EnvAt (w : World) (C : Nat) (S : Nat → Prop) (a : Option Addr) (c : Nat) (l : Env) : Prop :=
  (a = none ∧ c = 0 ∧ l = []) ∨ ∃ b cs, a = some ⟨b, 0, none⟩ ∧ b < C ∧ 0 < l.length ∧ l.length ≤ c ∧ EnvCells w S l cs ∧ ∀ j u, cs[j]? = some u → w.cell? ⟨b, j, none⟩ = some u
theorem EnvAt.nil (w : World) (C : Nat) (S : Nat → Prop) : EnvAt w C S none 0 [] := .inl ⟨rfl, rfl, rfl⟩
theorem EnvAt.below {w w' : World} {B C : Nat} {S : Nat → Prop} {a : Option Addr} {c : Nat} {l : Env} (h : EnvAt w B S a c l) (hb : Below C w w') (hBC : B ≤ C) (hS : ∀ b, S b → b < C) : EnvAt w' B S a c l := by
  rcases h with h | ⟨b, cs, h1, h2, h3, h4, h5, h6⟩
  · exact .inl h
  · exact .inr ⟨b, cs, h1, h2, h3, h4, h5.below hb hS, fun j u hj => (hb.cell (p := ⟨b, j, none⟩) (by show b < C; omega)).trans (h6 j u hj)⟩
theorem EnvAt.up {w : World} {B B' : Nat} {S S' : Nat → Prop} {a : Option Addr} {c : Nat} {l : Env} (h : EnvAt w B S a c l) (hB : B ≤ B') (hS : ∀ b, S b → S' b) : EnvAt w B' S' a c l := by
  rcases h with h | ⟨b, cs, h1, h2, h3, h4, h5, h6⟩
  · exact .inl h
  · exact .inr ⟨b, cs, h1, by omega, h3, h4, h5.up hS, h6⟩
theorem EnvAt.get {w : World} {B : Nat} {S : Nat → Prop} {a : Option Addr} {c : Nat} {l : Env} (h : EnvAt w B S a c l) {j : Nat} {n : ByteArray} {y : RTy} (hj : l[j]? = some (n, y)) :
    ∃ b ya yc, a = some ⟨b, 0, none⟩ ∧ b < B ∧ w.cell? ⟨b, j * 3, none⟩ = some (.string n) ∧ w.cell? ⟨b, j * 3 + 1, none⟩ = some (.int .i8 y.k) ∧ w.cell? ⟨b, j * 3 + 2, none⟩ = some (.slice ya y.ks.length yc) ∧ y.InS w S ya := by
  rcases h with ⟨rfl, rfl, rfl⟩ | ⟨b, cs, h1, h2, h3, h4, h5, h6⟩
  · simp at hj
  · obtain ⟨ya, yc, e1, e2, e3, e4⟩ := h5.get hj
    exact ⟨b, ya, yc, h1, h2, h6 _ _ e1, h6 _ _ e2, h6 _ _ e3, e4⟩
theorem EnvAt.slots {w : World} {B : Nat} {S : Nat → Prop} {a : Option Addr} {c : Nat} {l : Env} (h : EnvAt w B S a c l) : l.length ≤ c := by
  rcases h with ⟨rfl, rfl, rfl⟩ | ⟨b, cs, h1, h2, h3, h4, h5, h6⟩
  · simp
  · exact h4
theorem RTy.in_two {w : World} {S : Nat → Prop} {g : Nat} {k : Int} {x y : RTy} {xa ya : Option Addr} {xc yc : Nat} (hk : RTy.Kind8 k) (hg : S g) (hx : x.InS w S xa) (hy : y.InS w S ya)
    (c0 : w.cell? ⟨g, 0, none⟩ = some (.int .i8 x.k)) (c1 : w.cell? ⟨g, 1, none⟩ = some (.slice xa x.ks.length xc)) (c2 : w.cell? ⟨g, 2, none⟩ = some (.int .i8 y.k)) (c3 : w.cell? ⟨g, 3, none⟩ = some (.slice ya y.ks.length yc)) :
    (RTy.mk k [x, y]).InS w S (some ⟨g, 0, none⟩) := by
  unfold RTy.InS RTy.InsS RTy.InsS RTy.InsS
  exact ⟨hk, by simp [lenMax], ⟨g, 0, xa, xc, rfl, hg, by simpa using c0, by simpa using c1, hx⟩, ⟨g, 0, ya, yc, rfl, hg, by simpa using c2, by simpa using c3, hy⟩, trivial⟩
end Go.Proofs.Ytaoodchjggimcaa
