/- Parts of proofs about package rules and what it stands on: contracts of functions, and plain laws. -/
import Derived.Test.YtaoodchjggimcaaBa2
import Derived.Test.YtaoodchjggimcaaBa0
import Derived.Test.YtaoodchjggimcaaBa3
import Derived.IntWalk
import Derived.Deep.DeepCutAuto
import Derived.Test.YtaoodchjggimcaaBa1
import Derived.Deep.CutBlock

/- Plain laws of the order of types: what is less precise is no greater, and agrees, and meets, as the more precise does. -/
set_option linter.unusedVariables false
set_option linter.unusedSimpArgs false
namespace Go.Proofs.Ytaoodchjggimcaa

mutual
theorem RTy.le_refl : ∀ t : RTy, t.le t = true
  | .mk k ks => by rw [RTy.le_eq]; simp [RTy.k, RTy.ks, RTy.leL_refl ks]
theorem RTy.leL_refl : ∀ ts : List RTy, RTy.leL ts ts = true
  | [] => by simp [RTy.leL]
  | t :: ts => by simp [RTy.leL, RTy.le_refl t, RTy.leL_refl ts]
end
theorem RTy.le_of_unk {t u : RTy} (h : t.k = 0) : t.le u = true := by rw [RTy.le_eq]; simp [h]
theorem RTy.unk_le (u : RTy) : RTy.unk.le u = true := RTy.le_of_unk rfl
theorem RTy.le_inv {t u : RTy} (h : t.le u = true) (h0 : ¬ t.k = 0) : t.k = u.k ∧ RTy.leL t.ks u.ks = true := by
  rw [RTy.le_eq] at h
  simpa [h0] using h
theorem RTy.le_mk {k k' : Int} {ks ks' : List RTy} (h : k = k') (hl : RTy.leL ks ks' = true) : (RTy.mk k ks).le (.mk k' ks') = true := by
  rw [RTy.le_eq]; simp [RTy.k, RTy.ks, h, hl]
mutual
theorem RTy.le_nodes : ∀ {t u : RTy}, t.le u = true → t.right = true → t.nodes ≤ u.nodes
  | .mk k ks, u, h, hr => by
    by_cases h0 : k = 0
    · have : ks = [] := RTy.kids_none hr (.inl (by simp [RTy.k, h0]))
      subst this
      have := u.nodes_pos
      simp [RTy.nodes, RTy.nodesL]; omega
    · have h1 := RTy.le_inv h h0
      have := RTy.leL_nodes h1.2 (RTy.right_kids hr)
      rw [RTy.nodes_eq u, RTy.nodes_eq (.mk k ks)]; omega
theorem RTy.leL_nodes : ∀ {ts us : List RTy}, RTy.leL ts us = true → RTy.rightL ts = true → RTy.nodesL ts ≤ RTy.nodesL us
  | [], us, _, _ => by simp [RTy.nodesL]
  | _ :: _, [], h, _ => by simp [RTy.leL] at h
  | t :: ts, u :: us, h, hr => by
    simp only [RTy.leL, RTy.rightL, Bool.and_eq_true] at h hr
    have h1 := RTy.le_nodes h.1 hr.1
    have h2 := RTy.leL_nodes h.2 hr.2
    simp only [RTy.nodesL]; omega
end
mutual
theorem RTy.le_depth : ∀ {t u : RTy}, t.le u = true → t.right = true → t.depth ≤ u.depth
  | .mk k ks, u, h, hr => by
    by_cases h0 : k = 0
    · have : ks = [] := RTy.kids_none hr (.inl (by simp [RTy.k, h0]))
      subst this
      have := u.depth_pos
      simp [RTy.depth, RTy.depthL]; omega
    · have h1 := RTy.le_inv h h0
      have := RTy.leL_depth h1.2 (RTy.right_kids hr)
      rw [RTy.depth_eq u, RTy.depth_eq (.mk k ks)]; omega
theorem RTy.leL_depth : ∀ {ts us : List RTy}, RTy.leL ts us = true → RTy.rightL ts = true → RTy.depthL ts ≤ RTy.depthL us
  | [], us, _, _ => by simp [RTy.depthL]
  | _ :: _, [], h, _ => by simp [RTy.leL] at h
  | t :: ts, u :: us, h, hr => by
    simp only [RTy.leL, RTy.rightL, Bool.and_eq_true] at h hr
    have h1 := RTy.le_depth h.1 hr.1
    have h2 := RTy.leL_depth h.2 hr.2
    simp only [RTy.depthL]; omega
end
theorem RTy.le_ok {t u : RTy} (h : t.le u = true) (hr : t.right = true) (hu : u.ok = true) : t.ok = true := by
  have hu := RTy.ok_iff.1 hu
  have h1 := RTy.le_nodes h hr
  have h2 := RTy.le_depth h hr
  exact RTy.ok_iff.2 ⟨by omega, by omega, hr⟩
mutual
theorem RTy.le_trans : ∀ {t u v : RTy}, t.le u = true → u.le v = true → t.le v = true
  | .mk k ks, u, v, h, h' => by
    by_cases h0 : k = 0
    · exact RTy.le_of_unk h0
    · have h1 := RTy.le_inv h h0
      have h2 := RTy.le_inv h' (by rw [← h1.1]; exact h0)
      rw [RTy.le_eq]
      simp only [h1.1, h2.1, decide_true, Bool.true_and]
      rw [RTy.leL_trans h1.2 h2.2, Bool.or_true]
theorem RTy.leL_trans : ∀ {ts us vs : List RTy}, RTy.leL ts us = true → RTy.leL us vs = true → RTy.leL ts vs = true
  | [], _, _, _, _ => by simp [RTy.leL]
  | _ :: _, [], _, h, _ => by simp [RTy.leL] at h
  | _ :: _, _ :: _, [], _, h => by simp [RTy.leL] at h
  | t :: ts, u :: us, v :: vs, h, h' => by
    simp only [RTy.leL, Bool.and_eq_true] at h h' ⊢
    exact ⟨RTy.le_trans h.1 h'.1, RTy.leL_trans h.2 h'.2⟩
end
theorem RTy.right_lens {t u : RTy} (h : t.right = true) (h' : u.right = true) (hk : t.k = u.k) : t.ks.length = u.ks.length := by
  have h1 := RTy.right_len h
  have h2 := RTy.right_len h'
  rw [hk] at h1
  omega
mutual
theorem RTy.lev_mono : ∀ {x x' y y' : RTy}, x'.le x = true → y'.le y = true → y.right = true → y'.right = true → x.lev y = true → x'.lev y' = true
  | x, .mk k ks, y, y', hx, hy, hr, hr', hl => by
    by_cases h0 : k = 0
    · rw [RTy.lev_eq]; simp [RTy.k, h0]
    · by_cases h0' : y'.k = 0
      · rw [RTy.lev_eq]; simp [h0']
      · have h1 := RTy.le_inv hx h0
        have h2 := RTy.le_inv hy h0'
        have e1 : x.k = k := h1.1.symm
        rw [RTy.lev_eq] at hl
        simp only [e1, h0, h2.1 ▸ h0', decide_false, Bool.false_or, Bool.and_eq_true, decide_eq_true_eq] at hl
        rw [RTy.lev_eq]
        have e2 : k = y'.k := by rw [h2.1]; exact hl.1
        have := RTy.levL_mono h1.2 h2.2 (RTy.right_lens hr' hr h2.1) (RTy.right_kids hr) (RTy.right_kids hr') hl.2
        simp only [RTy.ks] at this
        simp [RTy.k, RTy.ks, h0, h0', e2, this]
termination_by structural _ x' => x'
theorem RTy.levL_mono : ∀ {xs xs' ys ys' : List RTy}, RTy.leL xs' xs = true → RTy.leL ys' ys = true → ys'.length = ys.length → RTy.rightL ys = true → RTy.rightL ys' = true → RTy.levL xs ys = true → RTy.levL xs' ys' = true
  | _, [], _, _, _, _, _, _, _, _ => by simp [RTy.levL]
  | [], _ :: _, _, _, h, _, _, _, _, _ => by simp [RTy.leL] at h
  | _ :: _, _ :: _, [], _, _, _, _, _, _, h => by simp [RTy.levL] at h
  | _ :: _, _ :: _, _ :: _, [], _, _, h, _, _, _ => by simp at h
  | x :: xs, x' :: xs', y :: ys, y' :: ys', h1, h2, h3, h4, h5, h6 => by
    simp only [RTy.leL, RTy.levL, RTy.rightL, Bool.and_eq_true] at h1 h2 h4 h5 h6 ⊢
    exact ⟨RTy.lev_mono h1.1 h2.1 h4.1 h5.1 h6.1, RTy.levL_mono h1.2 h2.2 (by simpa using h3) h4.2 h5.2 h6.2⟩
termination_by structural _ xs' => xs'
end
theorem RTy.agree_inv {x y : RTy} (h : x.agree y = true) : x.ok = true ∧ y.ok = true ∧ x.lev y = true := by
  unfold RTy.agree at h; simpa using h
theorem RTy.agree_mono {x x' y y' : RTy} (hx : x'.le x = true) (hy : y'.le y = true) (rx : x'.right = true) (ry : y'.right = true) (h : x.agree y = true) : x'.agree y' = true := by
  have h := RTy.agree_inv h
  unfold RTy.agree
  rw [RTy.le_ok hx rx h.1, RTy.le_ok hy ry h.2.1, RTy.lev_mono hx hy (RTy.ok_right h.2.1) ry h.2.2]; rfl
mutual
theorem RTy.le_meet1 : ∀ {x y : RTy}, x.lev y = true → x.le (x.meet y) = true
  | .mk k ks, .mk k' ks', h => by
    by_cases h0 : k = 0
    · exact RTy.le_of_unk h0
    · by_cases h0' : k' = 0
      · rw [RTy.meet_unk2 (t := _) (by exact h0) (by exact h0')]; exact RTy.le_refl _
      · rw [RTy.meet_both (by exact h0) (by exact h0')]
        rw [RTy.lev_eq] at h
        simp only [RTy.k, RTy.ks, h0, h0', decide_false, Bool.false_or, Bool.and_eq_true, decide_eq_true_eq] at h
        exact RTy.le_mk rfl (RTy.leL_meet1 h.2)
theorem RTy.leL_meet1 : ∀ {xs ys : List RTy}, RTy.levL xs ys = true → RTy.leL xs (RTy.meetL xs ys) = true
  | [], _, _ => by simp [RTy.leL]
  | _ :: _, [], h => by simp [RTy.levL] at h
  | x :: xs, y :: ys, h => by
    simp only [RTy.levL, RTy.meetL, RTy.leL, Bool.and_eq_true] at h ⊢
    exact ⟨RTy.le_meet1 h.1, RTy.leL_meet1 h.2⟩
end
mutual
theorem RTy.le_meet2 : ∀ {x y : RTy}, x.lev y = true → x.right = true → y.right = true → y.le (x.meet y) = true
  | .mk k ks, .mk k' ks', h, hr, hr' => by
    by_cases h0 : k = 0
    · rw [RTy.meet_unk1 (by exact h0)]; exact RTy.le_refl _
    · by_cases h0' : k' = 0
      · exact RTy.le_of_unk h0'
      · rw [RTy.meet_both (by exact h0) (by exact h0')]
        rw [RTy.lev_eq] at h
        simp only [RTy.k, RTy.ks, h0, h0', decide_false, Bool.false_or, Bool.and_eq_true, decide_eq_true_eq] at h
        have h1 : k = k' := of_decide_eq_true h.1
        exact RTy.le_mk h1.symm (RTy.leL_meet2 h.2 (RTy.right_kids hr) (RTy.right_kids hr') (RTy.right_lens hr hr' h1))
theorem RTy.leL_meet2 : ∀ {xs ys : List RTy}, RTy.levL xs ys = true → RTy.rightL xs = true → RTy.rightL ys = true → xs.length = ys.length → RTy.leL ys (RTy.meetL xs ys) = true
  | _, [], _, _, _, _ => by simp [RTy.leL]
  | [], _ :: _, _, _, _, h => by simp at h
  | x :: xs, y :: ys, h, hr, hr', hn => by
    simp only [RTy.levL, RTy.meetL, RTy.leL, RTy.rightL, Bool.and_eq_true] at h hr hr' ⊢
    exact ⟨RTy.le_meet2 h.1 hr.1 hr'.1, RTy.leL_meet2 h.2 hr.2 hr'.2 (by simpa using hn)⟩
end
mutual
theorem RTy.meet_mono : ∀ {x x' y y' : RTy}, x'.le x = true → y'.le y = true → x.lev y = true → x.right = true → y.right = true → (x'.meet y').le (x.meet y) = true
  | x, .mk k ks, y, y', hx, hy, hl, hr, hr' => by
    by_cases h0 : k = 0
    · rw [RTy.meet_unk1 (by exact h0)]; exact RTy.le_trans hy (RTy.le_meet2 hl hr hr')
    · by_cases h0' : y'.k = 0
      · rw [RTy.meet_unk2 (t := _) (by exact h0) (by exact h0')]; exact RTy.le_trans hx (RTy.le_meet1 hl)
      · have h1 := RTy.le_inv hx h0
        have h2 := RTy.le_inv hy h0'
        have n1 : ¬ x.k = 0 := by rw [← h1.1]; exact h0
        have n2 : ¬ y.k = 0 := by rw [← h2.1]; exact h0'
        rw [RTy.meet_both (by exact h0) (by exact h0'), RTy.meet_both n1 n2]
        rw [RTy.lev_eq] at hl
        simp only [n1, n2, decide_false, Bool.false_or, Bool.and_eq_true, decide_eq_true_eq] at hl
        exact RTy.le_mk h1.1 (RTy.meetL_mono h1.2 h2.2 hl.2 (RTy.right_kids hr) (RTy.right_kids hr'))
termination_by structural _ x' => x'
theorem RTy.meetL_mono : ∀ {xs xs' ys ys' : List RTy}, RTy.leL xs' xs = true → RTy.leL ys' ys = true → RTy.levL xs ys = true → RTy.rightL xs = true → RTy.rightL ys = true → RTy.leL (RTy.meetL xs' ys') (RTy.meetL xs ys) = true
  | _, [], _, _, _, _, _, _, _ => by simp [RTy.meetL, RTy.leL]
  | _, _ :: _, _, [], _, _, _, _, _ => by simp [RTy.meetL, RTy.leL]
  | [], _ :: _, _, _ :: _, h, _, _, _, _ => by simp [RTy.leL] at h
  | _ :: _, _ :: _, [], _ :: _, _, h, _, _, _ => by simp [RTy.leL] at h
  | x :: xs, x' :: xs', y :: ys, y' :: ys', h1, h2, h3, h4, h5 => by
    simp only [RTy.leL, RTy.levL, RTy.meetL, RTy.rightL, Bool.and_eq_true] at h1 h2 h3 h4 h5 ⊢
    exact ⟨RTy.meet_mono h1.1 h2.1 h3.1 h4.1 h5.1, RTy.meetL_mono h1.2 h2.2 h3.2 h4.2 h5.2⟩
termination_by structural _ xs' => xs'
end
theorem RTy.leL_getD : ∀ {ts us : List RTy}, RTy.leL ts us = true → ∀ i, (ts.getD i RTy.unk).le (us.getD i RTy.unk) = true
  | [], _, _, i => by simp; exact RTy.unk_le _
  | _ :: _, [], h, _ => by simp [RTy.leL] at h
  | t :: ts, u :: us, h, 0 => by simp only [RTy.leL, Bool.and_eq_true] at h; simpa using h.1
  | t :: ts, u :: us, h, i + 1 => by simp only [RTy.leL, Bool.and_eq_true] at h; simpa using RTy.leL_getD h.2 i
theorem RTy.as_mono {k : Int} {x x' : RTy} (hx : x'.le x = true) (rx : x'.right = true) (h : (RTy.as k x).2.2 = true) :
    (RTy.as k x').2.2 = true ∧ (RTy.as k x').1.le (RTy.as k x).1 = true ∧ (RTy.as k x').2.1.le (RTy.as k x).2.1 = true := by
  unfold RTy.as at h ⊢
  by_cases hok : x.ok = false
  · rw [if_pos hok] at h; cases h
  have hok1 : x.ok = true := by simpa using hok
  have hok' : ¬ x'.ok = false := by rw [RTy.le_ok hx rx hok1]; simp
  rw [if_neg hok] at h
  rw [if_neg hok, if_neg hok']
  by_cases h0 : x'.k = 0
  · rw [if_pos h0]
    exact ⟨rfl, RTy.unk_le _, RTy.unk_le _⟩
  · have h1 := RTy.le_inv hx h0
    have n1 : ¬ x.k = 0 := by rw [← h1.1]; exact h0
    rw [if_neg n1] at h
    rw [if_neg h0, if_neg n1, h1.1]
    by_cases hk : x.k = k
    · rw [if_pos hk, if_pos hk]
      exact ⟨rfl, RTy.leL_getD h1.2 0, RTy.leL_getD h1.2 1⟩
    · rw [if_neg hk] at h; cases h
end Go.Proofs.Ytaoodchjggimcaa

/- Plain laws of the rules: the types they tell are right and not too great; a term with less precise annotations is taken at a type that is no more precise. -/
set_option linter.unusedVariables false
set_option linter.unusedSimpArgs false
namespace Go.Proofs.Ytaoodchjggimcaa

theorem small_inv {t : RTm} {a b : RTy} (h : small t a = .ok b) : b = a ∧ a.nodes ≤ 8192 ∧ a.depth ≤ 200 := by
  unfold small fault at h
  split at h
  · cases h
  · split at h
    · cases h
    · cases h; exact ⟨rfl, by omega, by omega⟩
theorem small_of (t : RTm) {a : RTy} (hn : a.nodes ≤ 8192) (hd : a.depth ≤ 200) : small t a = .ok a := by
  unfold small
  rw [if_neg (by omega), if_neg (by omega)]
theorem RTy.ok_of {a : RTy} (hr : a.right = true) (hn : a.nodes ≤ 8192) (hd : a.depth ≤ 200) : a.ok = true := RTy.ok_iff.2 ⟨hn, hd, hr⟩
theorem RTy.unk_ok : RTy.unk.ok = true := by decide
theorem RTy.int_ok : RTy.int.ok = true := by decide
theorem RTy.bool_ok : RTy.bool.ok = true := by decide

/-- An environment of types that are ones. -/
def Env.oks (l : Env) : Prop := ∀ p ∈ l, p.2.ok = true
theorem Env.oks_find {l : Env} (h : l.oks) {x : ByteArray} {a : RTy} (hf : l.find x = some a) : a.ok = true := by
  induction l with
  | nil => cases hf
  | cons p l ih =>
    obtain ⟨n, y⟩ := p
    unfold Env.find at hf
    split at hf
    · rename_i b hb
      cases hf
      exact ih (fun q hq => h q (List.mem_cons_of_mem _ hq)) hb
    · split at hf
      · cases hf; exact h (n, a) (by simp)
      · cases hf
theorem Env.oks_more {l : Env} (h : l.oks) {n : ByteArray} {y : RTy} (hy : y.ok = true) : Env.oks (l ++ [(n, y)]) := by
  intro p hp
  simp only [List.mem_append, List.mem_singleton] at hp
  rcases hp with hp | rfl
  · exact h p hp
  · exact hy
theorem Env.oks_right {l : Env} (h : l.oks) : l.right := fun p hp => RTy.ok_right (h p hp)

/-- A mode whose parts of types are types. -/
structure Mode.Sound (M : Mode) : Prop where
  good : M.Good
  parts : ∀ (k : Int) (y : RTy), 3 ≤ k → k ≤ 5 → y.ok = true → (M.parts k y).1.ok = true ∧ (M.parts k y).2.1.ok = true
theorem RTy.kid_depth {t : RTy} {j : Nat} {x : RTy} (h : t.ks[j]? = some x) : x.depth < t.depth := by
  rw [RTy.depth_eq t]
  have key : ∀ (ks : List RTy) (j : Nat), ks[j]? = some x → x.depth ≤ RTy.depthL ks := by
    intro ks
    induction ks with
    | nil => intro j h; simp at h
    | cons u us ih =>
      intro j h
      simp only [RTy.depthL]
      cases j with
      | zero => simp at h; subst h; omega
      | succ j => have := ih j (by simpa using h); omega
  have := key _ _ h
  omega
theorem RTy.ok_getD {t : RTy} (h : t.ok = true) (i : Nat) : (t.ks.getD i RTy.unk).ok = true := by
  rw [List.getD_eq_getElem?_getD]
  cases hx : t.ks[i]? with
  | none => exact RTy.unk_ok
  | some x =>
    have h := RTy.ok_iff.1 h
    have h1 := RTy.kid_nodes hx
    have h2 := RTy.kid_depth hx
    exact RTy.ok_iff.2 ⟨by simp only [Option.getD_some]; omega, by simp only [Option.getD_some]; omega, RTy.right_kid h.2.2 hx⟩
theorem gradual_sound : gradual.Sound := by
  refine ⟨gradual_good, fun k y h3 h5 hr => ?_⟩
  show (RTy.as k y).1.ok = true ∧ (RTy.as k y).2.1.ok = true
  unfold RTy.as
  split
  · exact ⟨RTy.unk_ok, RTy.unk_ok⟩
  · split
    · exact ⟨RTy.unk_ok, RTy.unk_ok⟩
    · split
      · exact ⟨RTy.ok_getD hr 0, RTy.ok_getD hr 1⟩
      · exact ⟨RTy.unk_ok, RTy.unk_ok⟩
theorem RTy.just_ok {k : Int} {y : RTy} (hr : y.ok = true) : (RTy.just k y).1.ok = true ∧ (RTy.just k y).2.1.ok = true := by
  unfold RTy.just
  split
  · exact ⟨RTy.ok_getD hr 0, RTy.ok_getD hr 1⟩
  · exact ⟨RTy.unk_ok, RTy.unk_ok⟩
theorem kernel_sound : kernelM.Sound := ⟨kernel_good, fun _ _ _ _ hr => RTy.just_ok hr⟩
theorem static_sound : staticM.Sound := ⟨static_good, fun _ _ _ _ hr => RTy.just_ok hr⟩

theorem RTm.ok_ty {t : RTm} (h : t.right = true) (hf : hasFrom t.k = true) : t.ty.ok = true := by
  have := RTm.right_own h
  unfold RTm.own at this
  simp only [hf, Bool.not_true, Bool.false_or, Bool.and_eq_true] at this
  exact this.2.2.2.2.2.1
theorem RTm.ok_to {t : RTm} (h : t.right = true) (hf : hasTo t.k = true) : t.to.ok = true := by
  have := RTm.right_own h
  unfold RTm.own at this
  simp only [hf, Bool.not_true, Bool.false_or, Bool.and_eq_true] at this
  exact this.2.2.2.2.2.2.1
theorem Mode.asE_inv {M : Mode} {t : RTm} {k : Int} {a l r : RTy} (h : M.asE t k a = .ok (l, r)) : (M.parts k a).2.2 = true ∧ l = (M.parts k a).1 ∧ r = (M.parts k a).2.1 := by
  unfold Mode.asE fault at h
  split at h
  · rename_i hp
    cases h; exact ⟨hp, rfl, rfl⟩
  · cases h
theorem two_ok {t : RTm} {k : Int} {x y a : RTy} (h3 : 3 ≤ k) (h5 : k ≤ 5) (hx : x.right = true) (hy : y.right = true) (h : two t k x y = .ok a) : a.ok = true := by
  have h := small_inv h
  rw [h.1]
  exact RTy.ok_of (RTy.right_two h3 h5 hx hy) h.2.1 h.2.2
theorem Mode.meetE_inv {M : Mode} {t : RTm} {x y a : RTy} (h : M.meetE t x y = .ok a) : (M.meet x y).2 = true ∧ small t (M.meet x y).1 = .ok a := by
  unfold Mode.meetE fault at h
  split at h
  · rename_i hm; exact ⟨hm, h⟩
  · cases h
theorem Mode.meetE_okk {M : Mode} (hM : M.Good) {t : RTm} {x y a : RTy} (hx : x.right = true) (hy : y.right = true) (h : M.meetE t x y = .ok a) : a.ok = true := by
  have h := small_inv (Mode.meetE_inv h).2
  rw [h.1]
  exact RTy.ok_of (hM.meet _ _ hx hy) h.2.1 h.2.2
theorem Mode.flat_ok {M : Mode} (hM : M.Sound) {t : RTm} {x y z a : RTy} (hx : x.ok = true) (hy : y.ok = true) (hz : z.ok = true) (ht : hasFrom t.k = true → t.ty.ok = true) (hto : hasTo t.k = true → t.to.ok = true)
    (h : M.flat t x y z = .ok a) : a.ok = true := by
  unfold Mode.flat at h
  by_cases hk : t.k = 6
  · rw [if_pos hk] at h
    split at h
    · cases h
    · rename_i l r hp
      obtain ⟨h1, rfl, rfl⟩ := Mode.asE_inv hp
      split at h
      · cases h; exact (hM.parts 3 x (by omega) (by omega) hx).2
      · cases h
  rw [if_neg hk] at h
  clear hk
  by_cases hk : t.k = 8
  · rw [if_pos hk] at h
    split at h
    · exact Mode.meetE_okk hM.good (RTy.ok_right hy) (RTy.ok_right hz) h
    · cases h
  rw [if_neg hk] at h
  clear hk
  by_cases hk : t.k = 9
  · rw [if_pos hk] at h
    exact two_ok (by omega) (by omega) (RTy.ok_right hx) (RTy.ok_right hy) h
  rw [if_neg hk] at h
  clear hk
  by_cases hk : t.k = 10
  · rw [if_pos hk] at h
    split at h
    · cases h
    · rename_i l r hp
      obtain ⟨h1, rfl, rfl⟩ := Mode.asE_inv hp
      cases h; exact (hM.parts 4 x (by omega) (by omega) hx).1
  rw [if_neg hk] at h
  clear hk
  by_cases hk : t.k = 11
  · rw [if_pos hk] at h
    split at h
    · cases h
    · rename_i l r hp
      obtain ⟨h1, rfl, rfl⟩ := Mode.asE_inv hp
      cases h; exact (hM.parts 4 x (by omega) (by omega) hx).2
  rw [if_neg hk] at h
  clear hk
  by_cases hk : t.k = 12
  · rw [if_pos hk] at h
    have ho := ht (by rw [hk]; rfl)
    split at h
    · cases h
    · rename_i l r hp
      obtain ⟨h1, rfl, rfl⟩ := Mode.asE_inv hp
      have hp2 := hM.parts 5 t.ty (by omega) (by omega) ho
      split at h
      · exact two_ok (by omega) (by omega) (RTy.ok_right hp2.1) (RTy.ok_right hp2.2) h
      · cases h
  rw [if_neg hk] at h
  clear hk
  by_cases hk : t.k = 13
  · rw [if_pos hk] at h
    have ho := ht (by rw [hk]; rfl)
    split at h
    · cases h
    · rename_i l r hp
      obtain ⟨h1, rfl, rfl⟩ := Mode.asE_inv hp
      have hp2 := hM.parts 5 t.ty (by omega) (by omega) ho
      split at h
      · exact two_ok (by omega) (by omega) (RTy.ok_right hp2.1) (RTy.ok_right hp2.2) h
      · cases h
  rw [if_neg hk] at h
  clear hk
  by_cases hk : t.k = 16
  · rw [if_pos hk] at h
    split at h
    · cases h; exact ht (by rw [hk]; rfl)
    · cases h
  rw [if_neg hk] at h
  clear hk
  by_cases hk : t.k = 17
  · rw [if_pos hk] at h
    split at h
    · cases h; exact hto (by rw [hk]; rfl)
    · cases h
  rw [if_neg hk] at h
  clear hk
  split at h
  · cases h
    split
    · exact RTy.bool_ok
    · exact RTy.int_ok
  · cases h
theorem RTm.kid_nodes' {t : RTm} {i : Nat} (hi : i < t.ks.length) : (t.kid i).nodes < t.nodes := RTm.kid_nodes (RTm.kid_get hi)
theorem RTm.kid_depth {t : RTm} {j : Nat} {x : RTm} (h : t.ks[j]? = some x) : x.depth < t.depth := by
  rw [RTm.depth_eq t]
  have key : ∀ (ks : List RTm) (j : Nat), ks[j]? = some x → x.depth ≤ RTm.depthL ks := by
    intro ks
    induction ks with
    | nil => intro j h; simp at h
    | cons u us ih =>
      intro j h
      simp only [RTm.depthL]
      cases j with
      | zero => simp at h; subst h; omega
      | succ j => have := ih j (by simpa using h); omega
  have := key _ _ h
  omega
theorem RTm.kid_ok {t : RTm} (h : t.ok = true) {i : Nat} (hi : i < t.ks.length) : (t.kid i).ok = true := by
  have h := RTm.ok_iff.1 h
  have h1 := RTm.kid_nodes' hi
  have h2 := RTm.kid_depth (RTm.kid_get hi)
  exact RTm.ok_iff.2 ⟨by omega, by omega, RTm.kid_right h.2.2 hi⟩
theorem RTm.own_ok {t : RTm} (h : t.ok = true) (hk : t.k = 5) : (RTy.mk 3 [t.ty, t.to]).ok = true := by
  have h := RTm.ok_iff.1 h
  have h1 := RTm.nodes_eq t
  have h2 := RTm.depth_eq t
  have hf : hasFrom t.k = true := by rw [hk]; rfl
  have ho : hasTo t.k = true := by rw [hk]; rfl
  rw [if_pos hf, if_pos ho] at h1 h2
  refine RTy.ok_of (RTy.right_two (by omega) (by omega) (RTm.right_ty h.2.2 hf) (RTm.right_to h.2.2 ho)) ?_ ?_
  · simp only [RTy.nodes, RTy.nodesL]; omega
  · simp only [RTy.depth, RTy.depthL]; omega
theorem Mode.rules_ok {M : Mode} (hM : M.Sound) : ∀ (n : Nat) (l : Env) (t : RTm) (a : RTy), l.oks → t.ok = true → M.rules n l t = .ok a → a.ok = true := by
  intro n
  induction n with
  | zero => intro l t a _ _ h; unfold Mode.rules fault at h; cases h
  | succ n ih =>
    intro l t a hl hok h
    have ht := (RTm.ok_iff.1 hok).2.2
    have hlen := RTm.right_len ht
    unfold Mode.rules at h
    by_cases hk : t.k = 0
    · rw [if_pos hk] at h
      split at h
      · rename_i y hy
        cases h
        exact Env.oks_find hl hy
      · cases h
    rw [if_neg hk] at h
    have n0 := hk
    clear hk
    by_cases hk : t.k = 1
    · rw [if_pos hk] at h; cases h; exact RTy.int_ok
    rw [if_neg hk] at h
    have n1 := hk
    clear hk
    by_cases hk : t.k = 2 ∨ t.k = 3
    · rw [if_pos hk] at h; cases h; exact RTy.bool_ok
    rw [if_neg hk] at h
    have n2 := hk
    clear hk
    by_cases hk : t.k = 4
    · rw [if_pos hk] at h
      have hty := RTm.ok_ty ht (by rw [hk]; rfl)
      have h1 : t.ks.length = 1 := by rw [hk] at hlen; unfold kidsOf at hlen; simp at hlen; omega
      split at h
      · cases h
      · rename_i b hb
        exact two_ok (by omega) (by omega) (RTy.ok_right hty) (RTy.ok_right (ih _ _ _ (Env.oks_more hl hty) (RTm.kid_ok hok (by omega)) hb)) h
    rw [if_neg hk] at h
    clear hk
    by_cases hk : t.k = 5
    · rw [if_pos hk] at h
      have how := RTm.own_ok hok hk
      split at h
      · cases h
      · split at h
        · rw [(small_inv h).1]; exact how
        · cases h
    rw [if_neg hk] at h
    clear hk
    by_cases hk : t.k = 7
    · rw [if_pos hk] at h
      have hty := RTm.ok_ty ht (by rw [hk]; rfl)
      have h1 : t.ks.length = 2 := by rw [hk] at hlen; unfold kidsOf at hlen; simp at hlen; omega
      split at h
      · cases h
      · split at h
        · exact ih _ _ _ (Env.oks_more hl hty) (RTm.kid_ok hok (by omega)) h
        · cases h
    rw [if_neg hk] at h
    clear hk
    by_cases hk : t.k = 14
    · rw [if_pos hk] at h
      have h1 : t.ks.length = 3 := by rw [hk] at hlen; unfold kidsOf at hlen; simp at hlen; omega
      split at h
      · cases h
      · rename_i y hy
        split at h
        · cases h
        · rename_i p q hp
          have hp2 := hM.parts 5 y (by omega) (by omega) (ih _ _ _ hl (RTm.kid_ok hok (by omega)) hy)
          obtain ⟨h1, rfl, rfl⟩ := Mode.asE_inv hp
          split at h
          · cases h
          · rename_i b hb
            split at h
            · cases h
            · rename_i c hc
              exact Mode.meetE_okk hM.good (RTy.ok_right (ih _ _ _ (Env.oks_more hl hp2.1) (RTm.kid_ok hok (by omega)) hb)) (RTy.ok_right (ih _ _ _ (Env.oks_more hl hp2.2) (RTm.kid_ok hok (by omega)) hc)) h
    rw [if_neg hk] at h
    clear hk
    have hty : hasFrom t.k = true → t.ty.ok = true := RTm.ok_ty ht
    have hto : hasTo t.k = true → t.to.ok = true := RTm.ok_to ht
    by_cases h1 : kidsOf t.k = 1
    · rw [if_pos h1] at h
      split at h
      · cases h
      · rename_i x hx
        exact Mode.flat_ok hM (ih _ _ _ hl (RTm.kid_ok hok (by omega)) hx) RTy.unk_ok RTy.unk_ok hty hto h
    rw [if_neg h1] at h
    by_cases h2 : kidsOf t.k = 2
    · rw [if_pos h2] at h
      split at h
      · cases h
      · rename_i x hx
        split at h
        · cases h
        · rename_i y hy
          exact Mode.flat_ok hM (ih _ _ _ hl (RTm.kid_ok hok (by omega)) hx) (ih _ _ _ hl (RTm.kid_ok hok (by omega)) hy) RTy.unk_ok hty hto h
    rw [if_neg h2] at h
    split at h
    · cases h
    · rename_i x hx
      split at h
      · cases h
      · rename_i y hy
        split at h
        · cases h
        · rename_i z hz
          have hkk := RTm.right_kind ht
          have h3 : kidsOf t.k = 3 := by
            rcases kids_some hkk.1 hkk.2 n0 n1 n2 with h | h | h
            · exact absurd h h1
            · exact absurd h h2
            · exact h
          exact Mode.flat_ok hM (ih _ _ _ hl (RTm.kid_ok hok (by omega)) hx) (ih _ _ _ hl (RTm.kid_ok hok (by omega)) hy) (ih _ _ _ hl (RTm.kid_ok hok (by omega)) hz) hty hto h

/- Two terms of one build, the first's annotations less precise than the second's. -/
mutual
def RTm.Le : RTm → RTm → Prop
  | .mk k nm ag nu ty tz lb sp ks, u => u.k = k ∧ u.name = nm ∧ u.arg = ag ∧ u.num = nu ∧ u.label = lb ∧ u.spot = sp ∧ (hasFrom k = true → ty.right = true ∧ ty.le u.ty = true) ∧ (hasTo k = true → tz.right = true ∧ tz.le u.to = true) ∧ RTm.LeL ks u.ks
def RTm.LeL : List RTm → List RTm → Prop
  | [], us => us = []
  | t :: ts, us => ∃ v vs, us = v :: vs ∧ t.Le v ∧ RTm.LeL ts vs
end
theorem RTm.Le.eq {t u : RTm} (h : t.Le u) : u.k = t.k ∧ u.name = t.name ∧ u.arg = t.arg ∧ u.num = t.num ∧ u.label = t.label ∧ u.spot = t.spot ∧ (hasFrom t.k = true → t.ty.right = true ∧ t.ty.le u.ty = true) ∧ (hasTo t.k = true → t.to.right = true ∧ t.to.le u.to = true) ∧ RTm.LeL t.ks u.ks := by
  cases t; rw [RTm.Le] at h; exact h
theorem RTm.LeL.length : ∀ {ts us : List RTm}, RTm.LeL ts us → ts.length = us.length
  | [], us, h => by rw [RTm.LeL] at h; simp [h]
  | t :: ts, us, h => by
    rw [RTm.LeL] at h
    obtain ⟨v, vs, rfl, h1, h2⟩ := h
    simp [RTm.LeL.length h2]
theorem RTm.LeL.kid : ∀ {ts us : List RTm}, RTm.LeL ts us → ∀ {i : Nat}, i < ts.length → (ts.getD i RTm.zero).Le (us.getD i RTm.zero)
  | [], us, h, i, hi => by simp at hi
  | t :: ts, us, h, 0, hi => by
    rw [RTm.LeL] at h
    obtain ⟨v, vs, rfl, h1, h2⟩ := h
    simpa using h1
  | t :: ts, us, h, i + 1, hi => by
    rw [RTm.LeL] at h
    obtain ⟨v, vs, rfl, h1, h2⟩ := h
    simpa using RTm.LeL.kid h2 (i := i) (by simpa using hi)
mutual
theorem RTm.Le.nodes : ∀ {t u : RTm}, t.Le u → t.nodes ≤ u.nodes
  | .mk k nm ag nu ty tz lb sp ks, u, h => by
    rw [RTm.Le] at h
    obtain ⟨e, _, _, _, _, _, h1, h2, h3⟩ := h
    have := RTm.LeL.nodes h3
    rw [RTm.nodes_eq u, RTm.nodes, e]
    have a1 : (if hasFrom k then ty.nodes else 0) ≤ (if hasFrom k then u.ty.nodes else 0) := by
      split
      · rename_i hf; exact RTy.le_nodes (h1 hf).2 (h1 hf).1
      · omega
    have a2 : (if hasTo k then tz.nodes else 0) ≤ (if hasTo k then u.to.nodes else 0) := by
      split
      · rename_i hf; exact RTy.le_nodes (h2 hf).2 (h2 hf).1
      · omega
    omega
theorem RTm.LeL.nodes : ∀ {ts us : List RTm}, RTm.LeL ts us → RTm.nodesL ts ≤ RTm.nodesL us
  | [], us, h => by simp [RTm.nodesL]
  | t :: ts, us, h => by
    rw [RTm.LeL] at h
    obtain ⟨v, vs, rfl, h1, h2⟩ := h
    have := RTm.Le.nodes h1
    have := RTm.LeL.nodes h2
    simp only [RTm.nodesL]; omega
end
mutual
theorem RTm.Le.depth : ∀ {t u : RTm}, t.Le u → t.depth ≤ u.depth
  | .mk k nm ag nu ty tz lb sp ks, u, h => by
    rw [RTm.Le] at h
    obtain ⟨e, _, _, _, _, _, h1, h2, h3⟩ := h
    have := RTm.LeL.depth h3
    rw [RTm.depth_eq u, RTm.depth, e]
    have a1 : (if hasFrom k then ty.depth else 0) ≤ (if hasFrom k then u.ty.depth else 0) := by
      split
      · rename_i hf; exact RTy.le_depth (h1 hf).2 (h1 hf).1
      · omega
    have a2 : (if hasTo k then tz.depth else 0) ≤ (if hasTo k then u.to.depth else 0) := by
      split
      · rename_i hf; exact RTy.le_depth (h2 hf).2 (h2 hf).1
      · omega
    omega
theorem RTm.LeL.depth : ∀ {ts us : List RTm}, RTm.LeL ts us → RTm.depthL ts ≤ RTm.depthL us
  | [], us, h => by simp [RTm.depthL]
  | t :: ts, us, h => by
    rw [RTm.LeL] at h
    obtain ⟨v, vs, rfl, h1, h2⟩ := h
    have := RTm.Le.depth h1
    have := RTm.LeL.depth h2
    simp only [RTm.depthL]; omega
end
mutual
theorem RTm.Le.right : ∀ {t u : RTm}, t.Le u → u.right = true → t.right = true
  | .mk k nm ag nu ty tz lb sp ks, u, h, hr => by
    have hty := fun hf => RTm.ok_ty hr hf
    have hto := fun hf => RTm.ok_to hr hf
    rw [RTm.Le] at h
    obtain ⟨e, e1, e2, e3, e4, e5, h1, h2, h3⟩ := h
    rw [e] at hty hto
    have hks := RTm.LeL.right h3 (RTm.right_kids hr)
    have hlen := RTm.LeL.length h3
    have ho := RTm.right_own hr
    unfold RTm.own at ho
    rw [RTm.right]
    unfold RTm.own
    rw [e, e1, e2, e4, ← hlen] at ho
    simp only [Bool.and_eq_true] at ho ⊢
    simp only [RTm.k, RTm.name, RTm.arg, RTm.ty, RTm.to, RTm.label, RTm.ks]
    refine ⟨⟨ho.1, ho.2.1, ho.2.2.1, ho.2.2.2.1, ho.2.2.2.2.1, ?_, ?_, ho.2.2.2.2.2.2.2⟩, hks⟩
    · by_cases hf : hasFrom k = true
      · rw [RTy.le_ok (h1 hf).2 (h1 hf).1 (hty hf)]; simp
      · simp [hf]
    · by_cases hf : hasTo k = true
      · rw [RTy.le_ok (h2 hf).2 (h2 hf).1 (hto hf)]; simp
      · simp [hf]
theorem RTm.LeL.right : ∀ {ts us : List RTm}, RTm.LeL ts us → RTm.rightL us = true → RTm.rightL ts = true
  | [], us, h, _ => by simp [RTm.rightL]
  | t :: ts, us, h, hr => by
    rw [RTm.LeL] at h
    obtain ⟨v, vs, rfl, h1, h2⟩ := h
    simp only [RTm.rightL, Bool.and_eq_true] at hr ⊢
    exact ⟨RTm.Le.right h1 hr.1, RTm.LeL.right h2 hr.2⟩
end
theorem RTm.Le.ok {t u : RTm} (h : t.Le u) (hu : u.ok = true) : t.ok = true := by
  have hu := RTm.ok_iff.1 hu
  have h1 := h.nodes
  have h2 := h.depth
  exact RTm.ok_iff.2 ⟨by omega, by omega, h.right hu.2.2⟩
mutual
theorem RTm.Le.has (x : Int) : ∀ {t u : RTm}, t.Le u → t.has x = u.has x
  | .mk k nm ag nu ty tz lb sp ks, u, h => by
    rw [RTm.Le] at h
    rw [RTm.has, RTm.has_eq u, h.1, RTm.LeL.has x h.2.2.2.2.2.2.2.2]
theorem RTm.LeL.has (x : Int) : ∀ {ts us : List RTm}, RTm.LeL ts us → RTm.hasL x ts = RTm.hasL x us
  | [], us, h => by rw [RTm.LeL] at h; simp [h, RTm.hasL]
  | t :: ts, us, h => by
    rw [RTm.LeL] at h
    obtain ⟨v, vs, rfl, h1, h2⟩ := h
    simp only [RTm.hasL, RTm.Le.has x h1, RTm.LeL.has x h2]
end

/-- Two environments, the first's types less precise. -/
def Env.Le : Env → Env → Prop
  | [], l => l = []
  | (n, a) :: r, l => ∃ b s, l = (n, b) :: s ∧ a.le b = true ∧ Env.Le r s
theorem Env.Le.more : ∀ {l' l : Env}, Env.Le l' l → ∀ {n : ByteArray} {a b : RTy}, a.le b = true → Env.Le (l' ++ [(n, a)]) (l ++ [(n, b)])
  | [], l, h, n, a, b, hab => by rw [Env.Le] at h; subst h; exact ⟨b, [], rfl, hab, rfl⟩
  | (m, x) :: r, l, h, n, a, b, hab => by
    rw [Env.Le] at h
    obtain ⟨y, s, rfl, h1, h2⟩ := h
    exact ⟨y, s ++ [(n, b)], rfl, h1, Env.Le.more h2 hab⟩
theorem Env.Le.find : ∀ {l' l : Env}, Env.Le l' l → ∀ {x : ByteArray}, (∀ b, l.find x = some b → ∃ a, l'.find x = some a ∧ a.le b = true) ∧ (l.find x = none → l'.find x = none)
  | [], l, h, x => by rw [Env.Le] at h; subst h; exact ⟨fun b hb => by simp [Env.find] at hb, fun _ => rfl⟩
  | (m, y) :: r, l, h, x => by
    rw [Env.Le] at h
    obtain ⟨z, s, rfl, h1, h2⟩ := h
    obtain ⟨i1, i2⟩ := Env.Le.find h2 (x := x)
    rw [Env.find, Env.find]
    cases hs : Env.find x s with
    | some b0 =>
      obtain ⟨a0, e, hle⟩ := i1 b0 hs
      rw [e]
      exact And.intro (fun b hb => (by cases hb; exact ⟨a0, rfl, hle⟩)) (fun hn => (by cases hn))
    | none =>
      rw [i2 hs]
      dsimp only
      split
      · exact And.intro (fun b hb => (by cases hb; exact ⟨y, rfl, h1⟩)) (fun hn => (by cases hn))
      · exact And.intro (fun b hb => (by cases hb)) (fun _ => rfl)

theorem asE_mono {t t' : RTm} {k : Int} {a a' l r : RTy} (h3 : 3 ≤ k) (h5 : k ≤ 5) (hle : a'.le a = true) (hr : a'.right = true) (h : gradual.asE t k a = .ok (l, r)) :
    ∃ l' r', gradual.asE t' k a' = .ok (l', r') ∧ l'.le l = true ∧ r'.le r = true ∧ l'.right = true ∧ r'.right = true := by
  obtain ⟨h1, rfl, rfl⟩ := Mode.asE_inv h
  have h2 := RTy.as_mono hle hr h1
  have h6 := gradual_good.parts k a' h3 h5 hr
  refine ⟨_, _, ?_, h2.2.1, h2.2.2, h6⟩
  unfold Mode.asE
  rw [if_pos (show (gradual.parts k a').2.2 = true from h2.1)]
  rfl
theorem small_mono {t t' : RTm} {a a' b : RTy} (hle : a'.le a = true) (hr : a'.right = true) (h : small t a = .ok b) : ∃ b', small t' a' = .ok b' ∧ b'.le b = true := by
  obtain ⟨rfl, h1, h2⟩ := small_inv h
  have h3 := RTy.le_nodes hle hr
  have h4 := RTy.le_depth hle hr
  exact ⟨a', small_of t' (by omega) (by omega), hle⟩
theorem RTy.two_le {k : Int} {x y x' y' : RTy} (hx : x'.le x = true) (hy : y'.le y = true) : (RTy.mk k [x', y']).le (.mk k [x, y]) = true :=
  RTy.le_mk rfl (by simp [RTy.leL, hx, hy])
theorem two_mono {t t' : RTm} {k : Int} {x y x' y' b : RTy} (h3 : 3 ≤ k) (h5 : k ≤ 5) (hx : x'.le x = true) (hy : y'.le y = true) (rx : x'.right = true) (ry : y'.right = true) (h : two t k x y = .ok b) : ∃ b', two t' k x' y' = .ok b' ∧ b'.le b = true :=
  small_mono (RTy.two_le hx hy) (RTy.right_two h3 h5 rx ry) h
theorem meetE_mono {t t' : RTm} {x y x' y' b : RTy} (hx : x'.le x = true) (hy : y'.le y = true) (rx' : x'.right = true) (ry' : y'.right = true) (h : gradual.meetE t x y = .ok b) : ∃ b', gradual.meetE t' x' y' = .ok b' ∧ b'.le b = true := by
  obtain ⟨h1, h2⟩ := Mode.meetE_inv h
  have ha : x.agree y = true := by
    by_cases ha : x.agree y = true
    · exact ha
    · have : (if x.agree y then (x.meet y, true) else (RTy.unk, false)).2 = true := h1
      rw [if_neg ha] at this; cases this
  have h2 : small t (if x.agree y then (x.meet y, true) else (RTy.unk, false)).1 = .ok b := h2
  rw [if_pos ha] at h2
  have hi := RTy.agree_inv ha
  have ha' := RTy.agree_mono hx hy rx' ry' ha
  have hi' := RTy.agree_inv ha'
  obtain ⟨b', e, hle⟩ := small_mono (t' := t') (RTy.meet_mono hx hy hi.2.2 (RTy.ok_right hi.1) (RTy.ok_right hi.2.1)) (RTy.meet_right rx' ry' hi'.2.2) h2
  refine ⟨b', ?_, hle⟩
  have e0 : gradual.meet x' y' = (x'.meet y', true) := by show (if x'.agree y' then (x'.meet y', true) else (RTy.unk, false)) = _; rw [if_pos ha']
  unfold Mode.meetE
  rw [e0, if_pos rfl]
  exact e
theorem agrees_mono {x x' y y' : RTy} (hx : x'.le x = true) (hy : y'.le y = true) (rx : x'.right = true) (ry : y'.right = true) (h : gradual.agrees x y = true) : gradual.agrees x' y' = true := RTy.agree_mono hx hy rx ry h
theorem flat_mono {t t' : RTm} {x y z x' y' z' a : RTy} (hn : ¬ t.k = 17) (hk : t.k = t'.k) (hnm : t.name = t'.name) (hf : hasFrom t'.k = true → t'.ty.right = true ∧ t'.ty.le t.ty = true)
    (hx : x'.le x = true) (hy : y'.le y = true) (hz : z'.le z = true) (rx : x'.right = true) (ry : y'.right = true) (rz : z'.right = true)
    (h : gradual.flat t x y z = .ok a) : ∃ b, gradual.flat t' x' y' z' = .ok b ∧ b.le a = true := by
  unfold Mode.flat at h ⊢
  rw [← hk] at hf ⊢
  by_cases hk : t.k = 6
  · rw [if_pos hk] at h ⊢
    split at h
    · cases h
    · rename_i l r hp
      obtain ⟨l', r', e, h1, h2, h3, h4⟩ := asE_mono (t' := t') (by omega) (by omega) hx rx hp
      split at h
      · rename_i hg
        cases h
        rw [e]
        dsimp only
        rw [if_pos (agrees_mono hy h1 ry h3 hg)]
        exact ⟨_, rfl, h2⟩
      · cases h
  rw [if_neg hk] at h ⊢
  clear hk
  by_cases hk : t.k = 8
  · rw [if_pos hk] at h ⊢
    split at h
    · rename_i hg
      rw [if_pos (agrees_mono hx (RTy.le_refl _) rx RTy.right_bool hg)]
      exact meetE_mono hy hz ry rz h
    · cases h
  rw [if_neg hk] at h ⊢
  clear hk
  by_cases hk : t.k = 9
  · rw [if_pos hk] at h ⊢
    exact two_mono (by omega) (by omega) hx hy rx ry h
  rw [if_neg hk] at h ⊢
  clear hk
  by_cases hk : t.k = 10
  · rw [if_pos hk] at h ⊢
    split at h
    · cases h
    · rename_i l r hp
      obtain ⟨l', r', e, h1, h2, h3, h4⟩ := asE_mono (t' := t') (by omega) (by omega) hx rx hp
      cases h
      rw [e]
      exact ⟨_, rfl, h1⟩
  rw [if_neg hk] at h ⊢
  clear hk
  by_cases hk : t.k = 11
  · rw [if_pos hk] at h ⊢
    split at h
    · cases h
    · rename_i l r hp
      obtain ⟨l', r', e, h1, h2, h3, h4⟩ := asE_mono (t' := t') (by omega) (by omega) hx rx hp
      cases h
      rw [e]
      exact ⟨_, rfl, h2⟩
  rw [if_neg hk] at h ⊢
  clear hk
  by_cases hk : t.k = 12
  · rw [if_pos hk] at h ⊢
    have ho := hf (by rw [hk]; rfl)
    split at h
    · cases h
    · rename_i l r hp
      obtain ⟨l', r', e, h1, h2, h3, h4⟩ := asE_mono (t' := t') (by omega) (by omega) ho.2 ho.1 hp
      split at h
      · rename_i hg
        rw [e]
        dsimp only
        rw [if_pos (agrees_mono hx h1 rx h3 hg)]
        exact two_mono (by omega) (by omega) h1 h2 h3 h4 h
      · cases h
  rw [if_neg hk] at h ⊢
  clear hk
  by_cases hk : t.k = 13
  · rw [if_pos hk] at h ⊢
    have ho := hf (by rw [hk]; rfl)
    split at h
    · cases h
    · rename_i l r hp
      obtain ⟨l', r', e, h1, h2, h3, h4⟩ := asE_mono (t' := t') (by omega) (by omega) ho.2 ho.1 hp
      split at h
      · rename_i hg
        rw [e]
        dsimp only
        rw [if_pos (agrees_mono hx h2 rx h4 hg)]
        exact two_mono (by omega) (by omega) h1 h2 h3 h4 h
      · cases h
  rw [if_neg hk] at h ⊢
  clear hk
  by_cases hk : t.k = 16
  · rw [if_pos hk] at h ⊢
    have ho := hf (by rw [hk]; rfl)
    split at h
    · rename_i hg
      cases h
      rw [if_pos (agrees_mono hx ho.2 rx ho.1 hg)]
      exact ⟨_, rfl, ho.2⟩
    · cases h
  rw [if_neg hk] at h ⊢
  clear hk
  rw [if_neg hn] at h ⊢
  split at h
  · rename_i hg
    simp only [Bool.and_eq_true] at hg
    cases h
    rw [if_pos (by rw [agrees_mono hx (RTy.le_refl _) rx RTy.right_int hg.1, agrees_mono hy (RTy.le_refl _) ry RTy.right_int hg.2]; rfl), hnm]
    exact ⟨_, rfl, RTy.le_refl _⟩
  · cases h
theorem RTm.Le.kid {t u : RTm} (h : t.Le u) {i : Nat} (hi : i < t.ks.length) : (t.kid i).Le (u.kid i) := RTm.LeL.kid h.eq.2.2.2.2.2.2.2.2 hi
theorem RTm.has_kid {t : RTm} {k : Int} (h : t.has k = false) {i : Nat} (hi : i < t.ks.length) : (t.kid i).has k = false := by
  rw [RTm.has_eq, Bool.or_eq_false_iff] at h
  have key : ∀ (ks : List RTm) (j : Nat) (x : RTm), RTm.hasL k ks = false → ks[j]? = some x → x.has k = false := by
    intro ks
    induction ks with
    | nil => intro j x _ hj; simp at hj
    | cons u us ih =>
      intro j x hn hj
      rw [RTm.hasL, Bool.or_eq_false_iff] at hn
      cases j with
      | zero => simp at hj; subst hj; exact hn.1
      | succ j => exact ih j x hn.2 (by simpa using hj)
  exact key _ _ _ h.2 (RTm.kid_get hi)
theorem rules_mono : ∀ (n : Nat) (l l' : Env) (t t' : RTm) (a : RTy), l'.Le l → l'.right → t'.Le t → t.right = true → t.has 17 = false → gradual.rules n l t = .ok a → ∃ b, gradual.rules n l' t' = .ok b ∧ b.le a = true := by
  intro n
  induction n with
  | zero => intro l l' t t' a _ _ _ _ _ h; unfold Mode.rules fault at h; cases h
  | succ n ih0 =>
    intro l l' t t' a hl hlr hle ht hc h
    have ht' := hle.right ht
    obtain ⟨ek, enm, earg, _, _, _, hfrom, hto, hks⟩ := hle.eq
    have hlen := RTm.right_len ht
    have hlen' := RTm.LeL.length hks
    have n17 : ¬ t.k = 17 := by
      rw [RTm.has_eq, Bool.or_eq_false_iff] at hc
      simpa using hc.1
    have ih : ∀ (i : Nat), i < t.ks.length → ∀ (m m' : Env) (b : RTy), m'.Le m → m'.right → gradual.rules n m (t.kid i) = .ok b → ∃ c, gradual.rules n m' (t'.kid i) = .ok c ∧ c.le b = true ∧ c.right = true := by
      intro i hi m m' b h1 h2 h3
      obtain ⟨c, e, hc⟩ := ih0 m m' (t.kid i) (t'.kid i) b h1 h2 (hle.kid (by omega)) (RTm.kid_right ht hi) (RTm.has_kid hc hi) h3
      exact ⟨c, e, hc, Mode.rules_right gradual_good n m' _ c h2 (RTm.kid_right ht' (by omega)) e⟩
    unfold Mode.rules at h ⊢
    rw [← ek] at hfrom hto ⊢
    rw [← enm]
    rw [← earg]
    by_cases hk : t.k = 0
    · rw [if_pos hk] at h ⊢
      split at h
      · rename_i y hy
        cases h
        obtain ⟨c, e, hc⟩ := (Env.Le.find hl).1 _ hy
        rw [e]
        exact ⟨_, rfl, hc⟩
      · cases h
    rw [if_neg hk] at h ⊢
    have n0 := hk
    clear hk
    by_cases hk : t.k = 1
    · rw [if_pos hk] at h ⊢; cases h; exact ⟨_, rfl, RTy.le_refl _⟩
    rw [if_neg hk] at h ⊢
    have n1 := hk
    clear hk
    by_cases hk : t.k = 2 ∨ t.k = 3
    · rw [if_pos hk] at h ⊢; cases h; exact ⟨_, rfl, RTy.le_refl _⟩
    rw [if_neg hk] at h ⊢
    have n2 := hk
    clear hk
    by_cases hk : t.k = 4
    · rw [if_pos hk] at h ⊢
      have hty := hfrom (by rw [hk]; rfl)
      have h1 : t.ks.length = 1 := by rw [hk] at hlen; unfold kidsOf at hlen; simp at hlen; omega
      split at h
      · cases h
      · rename_i b hb
        obtain ⟨c, e, hc, rc⟩ := ih 0 (by omega) _ _ _ (hl.more hty.2) (Env.right_more hlr hty.1) hb
        rw [e]
        exact two_mono (by omega) (by omega) hty.2 hc hty.1 rc h
    rw [if_neg hk] at h ⊢
    clear hk
    by_cases hk : t.k = 5
    · rw [if_pos hk] at h ⊢
      have hty := hfrom (by rw [hk]; rfl)
      have htoo := hto (by rw [hk]; rfl)
      have h1 : t.ks.length = 1 := by rw [hk] at hlen; unfold kidsOf at hlen; simp at hlen; omega
      have how := RTy.two_le (k := 3) hty.2 htoo.2
      have hor := RTy.right_two (k := 3) (by omega) (by omega) hty.1 htoo.1
      split at h
      · cases h
      · rename_i b hb
        obtain ⟨c, e, hc, rc⟩ := ih 0 (by omega) _ _ _ ((hl.more how).more hty.2) (Env.right_more (Env.right_more hlr hor) hty.1) hb
        split at h
        · rename_i hg
          rw [e]
          dsimp only
          rw [if_pos (agrees_mono hc htoo.2 rc htoo.1 hg)]
          exact small_mono how hor h
        · cases h
    rw [if_neg hk] at h ⊢
    clear hk
    by_cases hk : t.k = 7
    · rw [if_pos hk] at h ⊢
      have hty := hfrom (by rw [hk]; rfl)
      have h1 : t.ks.length = 2 := by rw [hk] at hlen; unfold kidsOf at hlen; simp at hlen; omega
      split at h
      · cases h
      · rename_i b hb
        obtain ⟨c, e, hc, rc⟩ := ih 0 (by omega) _ _ _ hl hlr hb
        split at h
        · rename_i hg
          rw [e]
          dsimp only
          rw [if_pos (agrees_mono hc hty.2 rc hty.1 hg)]
          obtain ⟨d, e', hd, _⟩ := ih 1 (by omega) _ _ _ (hl.more hty.2) (Env.right_more hlr hty.1) h
          exact ⟨d, e', hd⟩
        · cases h
    rw [if_neg hk] at h ⊢
    clear hk
    by_cases hk : t.k = 14
    · rw [if_pos hk] at h ⊢
      have h1 : t.ks.length = 3 := by rw [hk] at hlen; unfold kidsOf at hlen; simp at hlen; omega
      split at h
      · cases h
      · rename_i y hy
        obtain ⟨y', ey, hy', ry⟩ := ih 0 (by omega) _ _ _ hl hlr hy
        split at h
        · cases h
        · rename_i p q hp
          obtain ⟨p', q', ep, hpp, hqq, rp, rq⟩ := asE_mono (t' := t') (by omega) (by omega) hy' ry hp
          split at h
          · cases h
          · rename_i b hb
            obtain ⟨b', eb, hb', rb⟩ := ih 1 (by omega) _ _ _ (hl.more hpp) (Env.right_more hlr rp) hb
            split at h
            · cases h
            · rename_i c hc
              obtain ⟨c', ec, hc', rc⟩ := ih 2 (by omega) _ _ _ (hl.more hqq) (Env.right_more hlr rq) hc
              rw [ey]
              dsimp only
              rw [ep]
              dsimp only
              rw [eb]
              dsimp only
              rw [ec]
              exact meetE_mono hb' hc' rb rc h
    rw [if_neg hk] at h ⊢
    clear hk
    have hff : hasFrom t'.k = true → t'.ty.right = true ∧ t'.ty.le t.ty = true := by rw [← ek]; exact hfrom
    by_cases h1 : kidsOf t.k = 1
    · rw [if_pos h1] at h ⊢
      split at h
      · cases h
      · rename_i x hx
        obtain ⟨x', ex, hx', rx⟩ := ih 0 (by omega) _ _ _ hl hlr hx
        rw [ex]
        exact flat_mono n17 ek enm hff hx' (RTy.le_refl _) (RTy.le_refl _) rx RTy.right_unk RTy.right_unk h
    rw [if_neg h1] at h ⊢
    by_cases h2 : kidsOf t.k = 2
    · rw [if_pos h2] at h ⊢
      split at h
      · cases h
      · rename_i x hx
        obtain ⟨x', ex, hx', rx⟩ := ih 0 (by omega) _ _ _ hl hlr hx
        split at h
        · cases h
        · rename_i y hy
          obtain ⟨y', ey, hy', ry⟩ := ih 1 (by omega) _ _ _ hl hlr hy
          rw [ex]
          dsimp only
          rw [ey]
          exact flat_mono n17 ek enm hff hx' hy' (RTy.le_refl _) rx ry RTy.right_unk h
    rw [if_neg h2] at h ⊢
    split at h
    · cases h
    · rename_i x hx
      have hkk := RTm.right_kind ht
      have h3 : kidsOf t.k = 3 := by
        rcases kids_some hkk.1 hkk.2 n0 n1 n2 with h | h | h
        · exact absurd h h1
        · exact absurd h h2
        · exact h
      obtain ⟨x', ex, hx', rx⟩ := ih 0 (by omega) _ _ _ hl hlr hx
      split at h
      · cases h
      · rename_i y hy
        obtain ⟨y', ey, hy', ry⟩ := ih 1 (by omega) _ _ _ hl hlr hy
        split at h
        · cases h
        · rename_i z hz
          obtain ⟨z', ez, hz', rz⟩ := ih 2 (by omega) _ _ _ hl hlr hz
          rw [ex]
          dsimp only
          rw [ey]
          dsimp only
          rw [ez]
          exact flat_mono n17 ek enm hff hx' hy' hz' rx ry rz h
theorem type_mono {t t' : RTm} {a : RTy} (hle : t'.Le t) (h : gradual.type t 17 = .ok a) : ∃ b, gradual.type t' 17 = .ok b ∧ b.less a = true := by
  obtain ⟨hc, hn, hr⟩ := Mode.type_ok_inv h
  have hok : t.ok = true := by unfold RTm.ok; rw [hc]; rfl
  have hok' := hle.ok hok
  have hc' : t'.check = 0 := by unfold RTm.ok at hok'; simpa using hok'
  have hn' : t'.has 17 = false := by rw [hle.has]; exact hn
  have ht := (RTm.ok_iff.1 hok).2.2
  obtain ⟨b, e, hb⟩ := rules_mono t.nodes [] [] t t' a rfl (fun p hp => by cases hp) hle ht hn hr
  rw [Mode.rules_fuel gradual t.nodes t'.nodes [] t' (hle.right ht) hle.nodes (Nat.le_refl _)] at e
  refine ⟨b, ?_, ?_⟩
  · rw [Mode.type_ok hc' hn']; exact e
  · unfold RTy.less
    rw [Mode.rules_ok gradual_sound _ [] t a (fun p hp => by cases hp) hok hr, Mode.rules_ok gradual_sound _ [] t' b (fun p hp => by cases hp) hok' e, hb]; rfl
end Go.Proofs.Ytaoodchjggimcaa

/- Plain laws: a term of which annotations are made less precise is less precise. -/
set_option linter.unusedVariables false
set_option linter.unusedSimpArgs false
namespace Go.Proofs.Ytaoodchjggimcaa

mutual
theorem RTy.lessen_le (l : List Bool) : ∀ (t : RTy) (n : Nat), (t.lessen l n).1.le t = true
  | .mk k ks, n => by
    rw [RTy.lessen]
    split
    · exact RTy.unk_le _
    · exact RTy.le_mk rfl (RTy.lessenL_le l ks (n + 1))
theorem RTy.lessenL_le (l : List Bool) : ∀ (ts : List RTy) (n : Nat), RTy.leL (RTy.lessenL l ts n).1 ts = true
  | [], n => by simp [RTy.lessenL, RTy.leL]
  | t :: ts, n => by simp only [RTy.lessenL, RTy.leL, RTy.lessen_le l t, RTy.lessenL_le l ts, Bool.and_self]
end
mutual
theorem RTy.lessen_right (l : List Bool) : ∀ (t : RTy) (n : Nat), t.right = true → (t.lessen l n).1.right = true
  | .mk k ks, n, h => by
    rw [RTy.lessen]
    split
    · exact RTy.right_unk
    · rw [RTy.right_eq] at h ⊢
      simp only [RTy.k, RTy.ks, Bool.and_eq_true, decide_eq_true_eq] at h ⊢
      have h1 : partsOf k = ks.length := of_decide_eq_true h.1
      exact ⟨decide_eq_true (show partsOf k = ((RTy.lessenL l ks (n + 1)).1.length : Int) by rw [RTy.lessenL_length]; exact h1), RTy.lessenL_right l ks (n + 1) h.2⟩
theorem RTy.lessenL_right (l : List Bool) : ∀ (ts : List RTy) (n : Nat), RTy.rightL ts = true → RTy.rightL (RTy.lessenL l ts n).1 = true
  | [], n, _ => by simp [RTy.lessenL, RTy.rightL]
  | t :: ts, n, h => by
    simp only [RTy.rightL, RTy.lessenL, Bool.and_eq_true] at h ⊢
    exact ⟨RTy.lessen_right l t n h.1, RTy.lessenL_right l ts _ h.2⟩
end
theorem RTm.Le.of {t u : RTm} (h1 : u.k = t.k) (h2 : u.name = t.name) (h3 : u.arg = t.arg) (h4 : u.num = t.num) (h5 : u.label = t.label) (h6 : u.spot = t.spot)
    (h7 : hasFrom t.k = true → t.ty.right = true ∧ t.ty.le u.ty = true) (h8 : hasTo t.k = true → t.to.right = true ∧ t.to.le u.to = true) (h9 : RTm.LeL t.ks u.ks) : t.Le u := by
  cases t; rw [RTm.Le]; exact ⟨h1, h2, h3, h4, h5, h6, h7, h8, h9⟩
mutual
theorem RTm.lessen_le (l : List Bool) : ∀ (t : RTm) (n : Nat), t.right = true → (t.lessen l n).1.Le t
  | .mk k nm ag nu ty tz lb sp ks, n, hr => by
    have hty := fun hf => RTm.right_ty hr hf
    have hto := fun hf => RTm.right_to hr hf
    have hks := RTm.right_kids hr
    simp only [RTm.k, RTm.ty, RTm.to, RTm.ks] at hty hto hks
    rw [RTm.lessen]
    refine RTm.Le.of rfl rfl rfl rfl rfl rfl ?_ ?_ ?_
    · intro hf
      simp only [RTm.k, RTm.ty] at hf ⊢
      split
      · exact ⟨RTy.lessen_right l _ _ (hty hf), RTy.lessen_le l _ _⟩
      · exact ⟨hty hf, RTy.le_refl _⟩
    · intro hf
      simp only [RTm.k, RTm.to] at hf ⊢
      by_cases ha : annTo k = true
      · rw [if_pos ha]
        exact ⟨RTy.lessen_right l _ _ (hto hf), RTy.lessen_le l _ _⟩
      · rw [if_neg ha]
        exact ⟨hto hf, RTy.le_refl _⟩
    · simp only [RTm.ks]
      exact RTm.lessenL_le l ks _ hks
theorem RTm.lessenL_le (l : List Bool) : ∀ (ts : List RTm) (n : Nat), RTm.rightL ts = true → RTm.LeL (RTm.lessenL l ts n).1 ts
  | [], n, _ => by simp [RTm.lessenL, RTm.LeL]
  | t :: ts, n, h => by
    simp only [RTm.rightL, Bool.and_eq_true] at h
    simp only [RTm.lessenL]
    rw [RTm.LeL]
    exact ⟨t, ts, rfl, RTm.lessen_le l t n h.1, RTm.lessenL_le l ts _ h.2⟩
end
end Go.Proofs.Ytaoodchjggimcaa

/- The walk of the law's lessen: a type of which some nodes are made unknown. -/
set_option linter.unusedVariables false
set_option linter.unusedSimpArgs false
namespace Go.Proofs.Ytaoodchjggimcaa
open Go.RowKit

/-- A row of bools that came in. -/
def BoolsAt (w : World) (B : Nat) (a : Option Addr) (l : List Bool) : Prop :=
  l.length ≤ 140737488355328 ∧ ∀ i, i < l.length → ∃ b o, a = some ⟨b, o, none⟩ ∧ b < B ∧ w.cell? ⟨b, o + i, none⟩ = some (.bool (l.getD i false))
theorem BoolsAt.below {w w' : World} {B C : Nat} {a : Option Addr} {l : List Bool} (h : BoolsAt w B a l) (hb : Below C w w') (hBC : B ≤ C) : BoolsAt w' B a l := by
  refine ⟨h.1, fun i hi => ?_⟩
  obtain ⟨b, o, e, hlt, hc⟩ := h.2 i hi
  exact ⟨b, o, e, hlt, (hb.cell (p := ⟨b, o + i, none⟩) (by show b < C; omega)).trans hc⟩
def LessPost (l : List Bool) (t : RTy) (n : Nat) (w : World) (e : Ending) (w' : World) : Prop :=
  ∃ a c, e = .returned (.tuple #[.agg #[.int .i8 (t.lessen l n).1.k, .slice a (t.lessen l n).1.ks.length c], .int .i64 ((t.lessen l n).2 : Nat)]) ∧ (t.lessen l n).1.InS w' (fun b => w.heap.size ≤ b ∧ b < w'.heap.size) a ∧ Below w.heap.size w w'

set_option maxRecDepth 100000 in
set_option maxHeartbeats 4000000 in
theorem lessen_yes (l : List Bool) (la : Option Addr) (lc : Nat) (t : RTy) (n B : Nat) (a : Option Addr) (c : Nat) (w : World) (hl : BoolsAt w B la l) (hB : B ≤ w.heap.size) (hn : n ≤ 20000) (h : lessB l n = true) :
    Calls Try.prog 52 #[.agg #[.int .i8 t.k, .slice a t.ks.length c], .slice la l.length lc, .int .i64 n] w (LessPost l t n w) := by
  have hlen := hl.1
  unfold lessB at h
  simp only [Bool.and_eq_true, decide_eq_true_eq] at h
  obtain ⟨h0, h1⟩ := h
  have hm : n % l.length < l.length := Nat.mod_lt _ h0
  obtain ⟨b, o, rfl, hlt, hc⟩ := hl.2 _ hm
  rw [h1] at hc
  have hbl : b < w.heap.size := by omega
  have hbl1 : b < w.heap.size + 1 := by omega
  have hE : Hid (t.lessen l n = (RTy.unk, n + 1)) := by
    show _ = _
    rw [RTy.lessen_eq, if_pos]
    unfold lessB; rw [h1, decide_eq_true h0]; rfl
  have hi0 : (0 : Int) < (l.length : Int) := by omega
  have hi1 : 0 ≤ (n : Int) % (l.length : Int) := Int.emod_nonneg _ (by omega)
  have hi2 : (n : Int) % (l.length : Int) < (l.length : Int) := Int.emod_lt_of_pos _ (by omega)
  have hi3 : ((n : Int) % (l.length : Int)).toNat = n % l.length := by rw [show (n : Int) % (l.length : Int) = ((n % l.length : Nat) : Int) from rfl, Int.toNat_natCast]
  clear h1
  go_enter Try.func52, Try.ntmps52
  go_wp2_with fail
  refine bodyPost_ret (v := .tuple #[.agg #[.int .i8 0, .slice none 0 0], .int .i64 ((n : Int) + 1)]) (by simp [results, Try.results52, go_sem]) rfl ?_
  unfold LessPost
  rw [hE.out]
  refine ⟨none, 0, rfl, ?_, ?_⟩
  · unfold RTy.unk RTy.InS RTy.InsS; exact ⟨⟨by omega, by omega⟩, by simp [lenMax], trivial⟩
  · (repeat (first | assumption | exact Below.refl _ _ | apply below_drewN | apply Below.drew | (refine Below.alloc ?_ (by first | omega | (simp; done) | (simp; omega)) _) | (refine Below.setCell ?_ (by first | omega | (simp; done) | (simp; omega)) _)))

set_option maxRecDepth 100000 in
set_option maxHeartbeats 4000000 in
theorem lessen_no (N : Nat) (l : List Bool) (la : Option Addr) (lc : Nat) (ih : ∀ (t : RTy) (n B : Nat) (a : Option Addr) (c : Nat) (w : World), t.nodes ≤ N → t.In w B a → BoolsAt w B la l → t.right = true → B ≤ w.heap.size → n + t.nodes ≤ 20000 →
      Calls Try.prog 52 #[.agg #[.int .i8 t.k, .slice a t.ks.length c], .slice la l.length lc, .int .i64 n] w (LessPost l t n w))
    (t : RTy) (n B : Nat) (a : Option Addr) (c : Nat) (w : World) (hN : t.nodes ≤ N + 1) (hin : t.In w B a) (hl : BoolsAt w B la l) (hrt : t.right = true) (hB : B ≤ w.heap.size) (hn : n + t.nodes ≤ 20000) (h : lessB l n = false) :
    Calls Try.prog 52 #[.agg #[.int .i8 t.k, .slice a t.ks.length c], .slice la l.length lc, .int .i64 n] w (LessPost l t n w) := by
  have hlen := RTy.right_small hrt
  have hlenl := hl.1
  have hE : Hid (t.lessen l n = (.mk t.k (RTy.lessenL l t.ks (n + 1)).1, (RTy.lessenL l t.ks (n + 1)).2)) := by
    show _ = _
    rw [RTy.lessen_eq, if_neg (by rw [h]; simp)]
  have hne := Lib.hid t.nodes_eq
  obtain ⟨i0, hi, hz0, hz1, hz2⟩ := info_parts infoTy
  have HI := Lib.hid (And.intro hi (And.intro hz0 (And.intro hz1 hz2)))
  clear hi hz0 hz1 hz2
  have hkd := hin.kind
  have HR := Lib.hid hrt
  have HB := Lib.hid h
  clear hrt h
  by_cases h0 : 0 < l.length
  · have hm : n % l.length < l.length := Nat.mod_lt _ h0
    obtain ⟨b, o, rfl, hlt, hc⟩ := hl.2 _ hm
    have hlv : l.getD (n % l.length) false = false := by
      have h := HB.out
      unfold lessB at h
      rw [decide_eq_true h0] at h
      simpa using h
    rw [hlv] at hc
    have hbl : b < w.heap.size := by omega
    have hbl1 : b < w.heap.size + 1 := by omega
    have hi0 : (0 : Int) < (l.length : Int) := by omega
    have hi1 : 0 ≤ (n : Int) % (l.length : Int) := Int.emod_nonneg _ (by omega)
    have hi2 : (n : Int) % (l.length : Int) < (l.length : Int) := Int.emod_lt_of_pos _ (by omega)
    have hi3 : ((n : Int) % (l.length : Int)).toNat = n % l.length := by rw [show (n : Int) % (l.length : Int) = ((n % l.length : Nat) : Int) from rfl, Int.toNat_natCast]
    clear hlv
    go_enter Try.func52, Try.ntmps52
    go_wp2_with fail
    go_loopw [2, 35] (fun s2 i wr => ∃ j : Nat, j ≤ t.ks.length ∧ i = .int .i64 j ∧ s2 = .int .i64 ((RTy.lessenL l (t.ks.take j) (n + 1)).2 : Nat) ∧ ∃ v cs, OwnTys wr (w.heap.size + 3) 25 (fun b => w.heap.size + 3 ≤ b ∧ b < wr.heap.size) v (RTy.lessenL l (t.ks.take j) (n + 1)).1 cs ∧
        wr.cell? ⟨w.heap.size + 1, 0, none⟩ = some (.int .i8 0) ∧ wr.cell? ⟨w.heap.size + 1, 1, none⟩ = some (.slice none 0 0) ∧ wr.cell? ⟨w.heap.size + 2, 0, none⟩ = some (.int .i8 t.k) ∧ wr.cell? ⟨w.heap.size + 2, 1, none⟩ = some v ∧
        wr.frozen? ⟨w.heap.size + 1, 0, none⟩ = false ∧ wr.frozen? ⟨w.heap.size + 1, 1, none⟩ = false ∧ wr.frozen? ⟨w.heap.size + 2, 1, none⟩ = false ∧ w.heap.size + 3 ≤ wr.heap.size ∧ Below w.heap.size w wr) (fun _ i _ => t.ks.length - (intOf i).toNat)
    case atStart => exact ⟨0, by omega, rfl, rfl, .slice none 0 0, [], by simpa [RTy.lessenL] using OwnTys.nil _ _ _ _, by simp [go_sem], by simp [go_sem], by simp [go_sem], by simp [go_sem], by simp [go_sem], by simp [go_sem], by simp [go_sem], by simp, by (repeat (first | assumption | exact Below.refl _ _ | apply below_drewN | apply Below.drew | (refine Below.alloc ?_ (by first | omega | (simp; done) | (simp; omega)) _) | (refine Below.setCell ?_ (by first | omega | (simp; done) | (simp; omega)) _)))⟩
    case round =>
      obtain ⟨j, hj, rfl, rfl, v, cs, hown, m0, m1, m2, m3, f0, f1, f2, hs2, hb0⟩ := hrel
      by_cases hlt : j < t.ks.length
      · have hk := List.getElem?_eq_getElem hlt
        generalize hkid : t.ks[j] = kid at hk
        have HT := Lib.hid (show t.ks.take (j + 1) = t.ks.take j ++ [kid] by rw [List.take_add_one, hk]; rfl)
        obtain ⟨kb, ko, ka, kc, rfl, hbB, hd1, hd2, hkin⟩ := (hin.below hb0 hB).kid hk
        have hnk := RTy.kid_nodes hk
        have hkr := Lib.hid (RTy.right_kid HR.out hk)
        have hcnt := RTy.lessenL_count l (t.ks.take j) (n + 1)
        have hnt := RTy.nodesL_take hk
        have hnn := hne.out
        have hkl2 : (RTy.lessenL l (t.ks.take j) (n + 1)).1.length = j := by rw [RTy.lessenL_length, List.length_take]; omega
        have HL := Lib.hid hkl2
        clear hk hkid hkl2
        generalize hNN : (RTy.lessenL l (t.ks.take j) (n + 1)).2 = nn at *
        have HNN := Lib.hid hNN
        have hkn : nn + kid.nodes ≤ 20000 := by omega
        clear hNN hnn
        obtain ⟨va, vc, rfl, hva⟩ := hown.shape
        rw [HL.out] at m3 hown
        have hbs := hb0.size
        go_wp2_with fail
        generalize hW : World.alloc (World.alloc wr _) _ = wq
        have hbq : Below wr.heap.size wr wq := by rw [← hW]; (repeat (first | assumption | exact Below.refl _ _ | apply below_drewN | apply Below.drew | (refine Below.alloc ?_ (by first | omega | (simp; done) | (simp; omega)) _) | (refine Below.setCell ?_ (by first | omega | (simp; done) | (simp; omega)) _)))
        have hzq : wq.heap.size = wr.heap.size + 1 + 1 := by rw [← hW]; simp
        have c0 : wq.cell? ⟨wr.heap.size + 1, 0, none⟩ = some (.int .i8 0) := by rw [← hW]; simp [go_sem]
        have c1 : wq.cell? ⟨wr.heap.size + 1, 1, none⟩ = some (.slice none 0 0) := by rw [← hW]; simp [go_sem]
        have g0 : wq.frozen? ⟨wr.heap.size + 1, 0, none⟩ = false := by rw [← hW]; simp [go_sem]
        have g1 : wq.frozen? ⟨wr.heap.size + 1, 1, none⟩ = false := by rw [← hW]; simp [go_sem]
        clear hW hd1 hd2
        have hb0q := hb0.trans (hbq.mono hbs)
        refine (ih kid nn B ka kc wq (by omega) (hkin.below hbq (by omega)) (hl.below hb0q hB) hkr.out (by omega) hkn).mono ?_
        rintro e w1 ⟨xa, xc, rfl, hx, hb1⟩
        generalize hX : kid.lessen l nn = X at *
        obtain ⟨x, nx⟩ := X
        have HX := Lib.hid hX
        clear hX
        simp only at hx ⊢
        have hs1 := hb1.size
        have c0 := cell_kept hb1 c0
        have c1 := cell_kept hb1 c1
        have g0 := frozen_kept hb1 (by omega) g0
        have g1 := frozen_kept hb1 (by omega) g1
        go_upto_region 10 with fail
        generalize hW : World.setCell (World.setCell w1 _ _) _ _ = w2
        have hzw : w2.heap.size = w1.heap.size := by rw [← hW]; simp
        have hb2 : Below wr.heap.size wr w2 := by
          rw [← hW]
          have h := hbq.trans (hb1.mono (by omega))
          (repeat (first | assumption | exact Below.refl _ _ | apply below_drewN | apply Below.drew | (refine Below.alloc ?_ (by first | omega | (simp; done) | (simp; omega)) _) | (refine Below.setCell ?_ (by first | omega | (simp; done) | (simp; omega)) _)))
        have d0 : w2.cell? ⟨wr.heap.size + 1, 0, none⟩ = some (.int .i8 x.k) := by rw [← hW]; simp [go_sem, c0, c1, g0, g1]
        have d1 : w2.cell? ⟨wr.heap.size + 1, 1, none⟩ = some (.slice xa x.ks.length xc) := by rw [← hW]; simp [go_sem, c0, c1, g0, g1]
        have hx2 : x.InS w2 (fun b => wr.heap.size ≤ b ∧ b < w2.heap.size) xa := by
          refine hx.mono (fun b hb => ⟨by omega, by omega⟩) fun b o hb => ?_
          rw [← hW]
          exact (World.cell?_setCell_far _ _ _ _ (by show wr.heap.size + 1 ≠ b; omega)).trans (World.cell?_setCell_far _ _ _ _ (by show wr.heap.size + 1 ≠ b; omega))
        clear hW c0 c1 g0 g1
        have m0 := cell_kept hb2 m0
        have m1 := cell_kept hb2 m1
        have m2 := cell_kept hb2 m2
        have m3 := cell_kept hb2 m3
        have f0 := frozen_kept hb2 (by omega) f0
        have f1 := frozen_kept hb2 (by omega) f1
        have f2 := frozen_kept hb2 (by omega) f2
        have hl1 : w.heap.size + 1 < w2.heap.size := by omega
        have hl2 : w.heap.size + 2 < w2.heap.size := by omega
        have hl3 : wr.heap.size + 1 < w2.heap.size := by omega
        have hsz2 := hb2.size
        clear hzw hzq
        have far1 : Hid (∀ x : Nat, x < w.heap.size + 3 → some x ≠ (Value.slice va j vc).ownBlock) := fun x hx he => absurd (hown.own.lt x he.symm).1 (by omega)
        have hown1 : Hid (∀ o : Obj, (w2.alloc o).ownsRow (w.heap.size + 3) 25 2 (.slice va j vc) j cs) := fun o => by
          have h := hown.own
          rw [HL.out] at h
          exact (World.ownsRow.alloc (h.kept (w' := w2) (row := none) ⟨hb2.os, hb2.tape, hb2.output, hb2.size, fun k hk _ => hb2.block k hk⟩ (by cases Value.ownBlock (Value.slice va j vc) <;> simp)) o)
        go_wp2_with (at_builtin; (refine wpList_append_lies _ rfl _ _ 23 rfl (w.heap.size + 3) 25 i0 _ 2 32 Try.underlying23 HI.out.1 HI.out.2.1 HI.out.2.2.1 HI.out.2.2.2 rfl (by omega) (.slice va j vc) j cs rfl (hown1.out _) ⟨w2.heap.size, 0, none⟩ 1 1 [.int .i8 x.k, .slice xa x.ks.length xc] rfl rfl (World.news_of_block (cs := #[.int .i8 x.k, .slice xa x.ks.length xc]) (t := 25) (fr := (0, 0)) (heap_alloc_new w2 _)) (by simp [Value.oneCell']) (by omega) (by unfold maxLen; omega) (by omega) (by rw [World.size_alloc]; omega) (w2.heap.size + 1) (by rw [World.size_alloc]) ?_; intro g cap w3 hown2 hgrow hat hlt2; have m3 := (hgrow.cell_far _ (by rw [World.size_alloc]; show w.heap.size + 2 < _; omega) (far1.out _ (Nat.lt_succ_self _))).trans (cell_kept (below_new _ _) m3); have f2 := (hgrow.frozen_far _ (by rw [World.size_alloc]; show w.heap.size + 2 < _; omega) (far1.out _ (Nat.lt_succ_self _))).trans (frozen_kept (below_new _ _) (by omega) f2)))
        have hpush := hown.step hb2 hs2 hx2 (by rw [HL.out]) hown2 hgrow hat
        have hfar := hown.far hb2 hs2 hgrow
        have hne : g ≠ w.heap.size + 2 := by
          have := hpush.own.lt g rfl
          omega
        have hsz3 := hfar.size
        have hsnoc := RTy.lessenL_snoc l kid (t.ks.take j) (n + 1)
        rw [HNN.out, HX.out, ← HT.out] at hsnoc
        have e1 : (RTy.lessenL l (t.ks.take (j + 1)) (n + 1)).1 = (RTy.lessenL l (t.ks.take j) (n + 1)).1 ++ [x] := by rw [hsnoc]
        have e2 : (RTy.lessenL l (t.ks.take (j + 1)) (n + 1)).2 = nx := by rw [hsnoc]
        refine ⟨⟨j + 1, by omega, by go_num, by rw [e2], .slice (some ⟨g, 0, none⟩) (j + 1) cap, cs ++ [.int .i8 x.k, .slice xa x.ks.length xc], ?_, ?_, ?_, ?_, ?_, ?_, ?_, ?_, ?_, ?_⟩, by simp [intOf]; omega⟩
        rotate_left
        · rw [World.cell?_setCell_far _ _ _ _ (by simp), (bcell hfar).1 _ _ (by omega), ← (bcell hb2).1 _ _ (by omega)]; exact m0
        · rw [World.cell?_setCell_far _ _ _ _ (by simp), (bcell hfar).1 _ _ (by omega), ← (bcell hb2).1 _ _ (by omega)]; exact m1
        · rw [World.cell?_setCell_other _ _ _ _ (by simp), (bcell hfar).1 _ _ (by omega), ← (bcell hb2).1 _ _ (by omega)]; exact m2
        · exact World.cell?_setCell_same _ _ _ m3
        · simp [go_sem]; rw [(bcell hfar).2 _ _ (by omega), ← (bcell hb2).2 _ _ (by omega)]; exact f0
        · simp [go_sem]; rw [(bcell hfar).2 _ _ (by omega), ← (bcell hb2).2 _ _ (by omega)]; exact f1
        · simp [go_sem]; exact f2
        · simp; omega
        · exact (hb0.trans (hfar.mono (by omega))).setCell (by simp; omega) _
        · rw [e1]
          refine hpush.kept (fun x hx => ?_) (fun b hb => ⟨hb.1, by simpa using hb.2⟩) fun b o hb => ?_
          · have hx' : g = x := by simpa [Value.ownBlock] using hx
            subst hx'
            exact Below.heap_setCell _ _ _ _ hne
          · exact World.cell?_setCell_far _ _ _ _ (by have := hb.1; show w.heap.size + 2 ≠ b; omega)
      · have : j = t.ks.length := by omega
        subst this
        rw [List.take_length] at hown
        have hel : (RTy.lessenL l t.ks (n + 1)).1.length = t.ks.length := RTy.lessenL_length l t.ks (n + 1)
        have HEL := Lib.hid hel
        clear hel
        obtain ⟨va, vc, rfl, hva⟩ := hown.shape
        obtain ⟨va', vc', hve, hin2⟩ := hown.inS (k := t.k) hkd (by rw [HEL.out]; unfold lenMax; omega) (fun b => w.heap.size + 3 ≤ b ∧ b < wr.heap.size) (fun b hb => hb) (fun b hb => by have := hown.own.lt b hb; omega)
        simp only [Value.slice.injEq, true_and] at hve
        obtain ⟨rfl, rfl⟩ := hve
        rw [List.take_length]
        go_wp2_with fail
        refine bodyPost_ret (v := .tuple #[.agg #[.int .i8 t.k, .slice va (RTy.lessenL l t.ks (n + 1)).1.length vc], .int .i64 ((RTy.lessenL l t.ks (n + 1)).2 : Nat)]) (by simp [results, Try.results52, go_sem, m0, m1]) rfl ?_
        unfold LessPost
        rw [hE.out]
        refine ⟨va, vc, rfl, ?_, ?_⟩
        · exact hin2.mono (fun b hb => ⟨by omega, by simp; omega⟩) fun b o hb => (World.cell?_setCell_far _ _ _ _ (by have := hb.1; show w.heap.size + 1 ≠ b; omega)).trans (World.cell?_setCell_far _ _ _ _ (by have := hb.1; show w.heap.size + 1 ≠ b; omega))
        · (repeat (first | assumption | exact Below.refl _ _ | apply below_drewN | apply Below.drew | (refine Below.alloc ?_ (by first | omega | (simp; done) | (simp; omega)) _) | (refine Below.setCell ?_ (by first | omega | (simp; done) | (simp; omega)) _)))
  · go_enter Try.func52, Try.ntmps52
    go_wp2_with fail
    go_loopw [2, 35] (fun s2 i wr => ∃ j : Nat, j ≤ t.ks.length ∧ i = .int .i64 j ∧ s2 = .int .i64 ((RTy.lessenL l (t.ks.take j) (n + 1)).2 : Nat) ∧ ∃ v cs, OwnTys wr (w.heap.size + 3) 25 (fun b => w.heap.size + 3 ≤ b ∧ b < wr.heap.size) v (RTy.lessenL l (t.ks.take j) (n + 1)).1 cs ∧
        wr.cell? ⟨w.heap.size + 1, 0, none⟩ = some (.int .i8 0) ∧ wr.cell? ⟨w.heap.size + 1, 1, none⟩ = some (.slice none 0 0) ∧ wr.cell? ⟨w.heap.size + 2, 0, none⟩ = some (.int .i8 t.k) ∧ wr.cell? ⟨w.heap.size + 2, 1, none⟩ = some v ∧
        wr.frozen? ⟨w.heap.size + 1, 0, none⟩ = false ∧ wr.frozen? ⟨w.heap.size + 1, 1, none⟩ = false ∧ wr.frozen? ⟨w.heap.size + 2, 1, none⟩ = false ∧ w.heap.size + 3 ≤ wr.heap.size ∧ Below w.heap.size w wr) (fun _ i _ => t.ks.length - (intOf i).toNat)
    case atStart => exact ⟨0, by omega, rfl, rfl, .slice none 0 0, [], by simpa [RTy.lessenL] using OwnTys.nil _ _ _ _, by simp [go_sem], by simp [go_sem], by simp [go_sem], by simp [go_sem], by simp [go_sem], by simp [go_sem], by simp [go_sem], by simp, by (repeat (first | assumption | exact Below.refl _ _ | apply below_drewN | apply Below.drew | (refine Below.alloc ?_ (by first | omega | (simp; done) | (simp; omega)) _) | (refine Below.setCell ?_ (by first | omega | (simp; done) | (simp; omega)) _)))⟩
    case round =>
      obtain ⟨j, hj, rfl, rfl, v, cs, hown, m0, m1, m2, m3, f0, f1, f2, hs2, hb0⟩ := hrel
      by_cases hlt : j < t.ks.length
      · have hk := List.getElem?_eq_getElem hlt
        generalize hkid : t.ks[j] = kid at hk
        have HT := Lib.hid (show t.ks.take (j + 1) = t.ks.take j ++ [kid] by rw [List.take_add_one, hk]; rfl)
        obtain ⟨kb, ko, ka, kc, rfl, hbB, hd1, hd2, hkin⟩ := (hin.below hb0 hB).kid hk
        have hnk := RTy.kid_nodes hk
        have hkr := Lib.hid (RTy.right_kid HR.out hk)
        have hcnt := RTy.lessenL_count l (t.ks.take j) (n + 1)
        have hnt := RTy.nodesL_take hk
        have hnn := hne.out
        have hkl2 : (RTy.lessenL l (t.ks.take j) (n + 1)).1.length = j := by rw [RTy.lessenL_length, List.length_take]; omega
        have HL := Lib.hid hkl2
        clear hk hkid hkl2
        generalize hNN : (RTy.lessenL l (t.ks.take j) (n + 1)).2 = nn at *
        have HNN := Lib.hid hNN
        have hkn : nn + kid.nodes ≤ 20000 := by omega
        clear hNN hnn
        obtain ⟨va, vc, rfl, hva⟩ := hown.shape
        rw [HL.out] at m3 hown
        have hbs := hb0.size
        go_wp2_with fail
        generalize hW : World.alloc (World.alloc wr _) _ = wq
        have hbq : Below wr.heap.size wr wq := by rw [← hW]; (repeat (first | assumption | exact Below.refl _ _ | apply below_drewN | apply Below.drew | (refine Below.alloc ?_ (by first | omega | (simp; done) | (simp; omega)) _) | (refine Below.setCell ?_ (by first | omega | (simp; done) | (simp; omega)) _)))
        have hzq : wq.heap.size = wr.heap.size + 1 + 1 := by rw [← hW]; simp
        have c0 : wq.cell? ⟨wr.heap.size + 1, 0, none⟩ = some (.int .i8 0) := by rw [← hW]; simp [go_sem]
        have c1 : wq.cell? ⟨wr.heap.size + 1, 1, none⟩ = some (.slice none 0 0) := by rw [← hW]; simp [go_sem]
        have g0 : wq.frozen? ⟨wr.heap.size + 1, 0, none⟩ = false := by rw [← hW]; simp [go_sem]
        have g1 : wq.frozen? ⟨wr.heap.size + 1, 1, none⟩ = false := by rw [← hW]; simp [go_sem]
        clear hW hd1 hd2
        have hb0q := hb0.trans (hbq.mono hbs)
        refine (ih kid nn B ka kc wq (by omega) (hkin.below hbq (by omega)) (hl.below hb0q hB) hkr.out (by omega) hkn).mono ?_
        rintro e w1 ⟨xa, xc, rfl, hx, hb1⟩
        generalize hX : kid.lessen l nn = X at *
        obtain ⟨x, nx⟩ := X
        have HX := Lib.hid hX
        clear hX
        simp only at hx ⊢
        have hs1 := hb1.size
        have c0 := cell_kept hb1 c0
        have c1 := cell_kept hb1 c1
        have g0 := frozen_kept hb1 (by omega) g0
        have g1 := frozen_kept hb1 (by omega) g1
        go_upto_region 10 with fail
        generalize hW : World.setCell (World.setCell w1 _ _) _ _ = w2
        have hzw : w2.heap.size = w1.heap.size := by rw [← hW]; simp
        have hb2 : Below wr.heap.size wr w2 := by
          rw [← hW]
          have h := hbq.trans (hb1.mono (by omega))
          (repeat (first | assumption | exact Below.refl _ _ | apply below_drewN | apply Below.drew | (refine Below.alloc ?_ (by first | omega | (simp; done) | (simp; omega)) _) | (refine Below.setCell ?_ (by first | omega | (simp; done) | (simp; omega)) _)))
        have d0 : w2.cell? ⟨wr.heap.size + 1, 0, none⟩ = some (.int .i8 x.k) := by rw [← hW]; simp [go_sem, c0, c1, g0, g1]
        have d1 : w2.cell? ⟨wr.heap.size + 1, 1, none⟩ = some (.slice xa x.ks.length xc) := by rw [← hW]; simp [go_sem, c0, c1, g0, g1]
        have hx2 : x.InS w2 (fun b => wr.heap.size ≤ b ∧ b < w2.heap.size) xa := by
          refine hx.mono (fun b hb => ⟨by omega, by omega⟩) fun b o hb => ?_
          rw [← hW]
          exact (World.cell?_setCell_far _ _ _ _ (by show wr.heap.size + 1 ≠ b; omega)).trans (World.cell?_setCell_far _ _ _ _ (by show wr.heap.size + 1 ≠ b; omega))
        clear hW c0 c1 g0 g1
        have m0 := cell_kept hb2 m0
        have m1 := cell_kept hb2 m1
        have m2 := cell_kept hb2 m2
        have m3 := cell_kept hb2 m3
        have f0 := frozen_kept hb2 (by omega) f0
        have f1 := frozen_kept hb2 (by omega) f1
        have f2 := frozen_kept hb2 (by omega) f2
        have hl1 : w.heap.size + 1 < w2.heap.size := by omega
        have hl2 : w.heap.size + 2 < w2.heap.size := by omega
        have hl3 : wr.heap.size + 1 < w2.heap.size := by omega
        have hsz2 := hb2.size
        clear hzw hzq
        have far1 : Hid (∀ x : Nat, x < w.heap.size + 3 → some x ≠ (Value.slice va j vc).ownBlock) := fun x hx he => absurd (hown.own.lt x he.symm).1 (by omega)
        have hown1 : Hid (∀ o : Obj, (w2.alloc o).ownsRow (w.heap.size + 3) 25 2 (.slice va j vc) j cs) := fun o => by
          have h := hown.own
          rw [HL.out] at h
          exact (World.ownsRow.alloc (h.kept (w' := w2) (row := none) ⟨hb2.os, hb2.tape, hb2.output, hb2.size, fun k hk _ => hb2.block k hk⟩ (by cases Value.ownBlock (Value.slice va j vc) <;> simp)) o)
        go_wp2_with (at_builtin; (refine wpList_append_lies _ rfl _ _ 23 rfl (w.heap.size + 3) 25 i0 _ 2 32 Try.underlying23 HI.out.1 HI.out.2.1 HI.out.2.2.1 HI.out.2.2.2 rfl (by omega) (.slice va j vc) j cs rfl (hown1.out _) ⟨w2.heap.size, 0, none⟩ 1 1 [.int .i8 x.k, .slice xa x.ks.length xc] rfl rfl (World.news_of_block (cs := #[.int .i8 x.k, .slice xa x.ks.length xc]) (t := 25) (fr := (0, 0)) (heap_alloc_new w2 _)) (by simp [Value.oneCell']) (by omega) (by unfold maxLen; omega) (by omega) (by rw [World.size_alloc]; omega) (w2.heap.size + 1) (by rw [World.size_alloc]) ?_; intro g cap w3 hown2 hgrow hat hlt2; have m3 := (hgrow.cell_far _ (by rw [World.size_alloc]; show w.heap.size + 2 < _; omega) (far1.out _ (Nat.lt_succ_self _))).trans (cell_kept (below_new _ _) m3); have f2 := (hgrow.frozen_far _ (by rw [World.size_alloc]; show w.heap.size + 2 < _; omega) (far1.out _ (Nat.lt_succ_self _))).trans (frozen_kept (below_new _ _) (by omega) f2)))
        have hpush := hown.step hb2 hs2 hx2 (by rw [HL.out]) hown2 hgrow hat
        have hfar := hown.far hb2 hs2 hgrow
        have hne : g ≠ w.heap.size + 2 := by
          have := hpush.own.lt g rfl
          omega
        have hsz3 := hfar.size
        have hsnoc := RTy.lessenL_snoc l kid (t.ks.take j) (n + 1)
        rw [HNN.out, HX.out, ← HT.out] at hsnoc
        have e1 : (RTy.lessenL l (t.ks.take (j + 1)) (n + 1)).1 = (RTy.lessenL l (t.ks.take j) (n + 1)).1 ++ [x] := by rw [hsnoc]
        have e2 : (RTy.lessenL l (t.ks.take (j + 1)) (n + 1)).2 = nx := by rw [hsnoc]
        refine ⟨⟨j + 1, by omega, by go_num, by rw [e2], .slice (some ⟨g, 0, none⟩) (j + 1) cap, cs ++ [.int .i8 x.k, .slice xa x.ks.length xc], ?_, ?_, ?_, ?_, ?_, ?_, ?_, ?_, ?_, ?_⟩, by simp [intOf]; omega⟩
        rotate_left
        · rw [World.cell?_setCell_far _ _ _ _ (by simp), (bcell hfar).1 _ _ (by omega), ← (bcell hb2).1 _ _ (by omega)]; exact m0
        · rw [World.cell?_setCell_far _ _ _ _ (by simp), (bcell hfar).1 _ _ (by omega), ← (bcell hb2).1 _ _ (by omega)]; exact m1
        · rw [World.cell?_setCell_other _ _ _ _ (by simp), (bcell hfar).1 _ _ (by omega), ← (bcell hb2).1 _ _ (by omega)]; exact m2
        · exact World.cell?_setCell_same _ _ _ m3
        · simp [go_sem]; rw [(bcell hfar).2 _ _ (by omega), ← (bcell hb2).2 _ _ (by omega)]; exact f0
        · simp [go_sem]; rw [(bcell hfar).2 _ _ (by omega), ← (bcell hb2).2 _ _ (by omega)]; exact f1
        · simp [go_sem]; exact f2
        · simp; omega
        · exact (hb0.trans (hfar.mono (by omega))).setCell (by simp; omega) _
        · rw [e1]
          refine hpush.kept (fun x hx => ?_) (fun b hb => ⟨hb.1, by simpa using hb.2⟩) fun b o hb => ?_
          · have hx' : g = x := by simpa [Value.ownBlock] using hx
            subst hx'
            exact Below.heap_setCell _ _ _ _ hne
          · exact World.cell?_setCell_far _ _ _ _ (by have := hb.1; show w.heap.size + 2 ≠ b; omega)
      · have : j = t.ks.length := by omega
        subst this
        rw [List.take_length] at hown
        have hel : (RTy.lessenL l t.ks (n + 1)).1.length = t.ks.length := RTy.lessenL_length l t.ks (n + 1)
        have HEL := Lib.hid hel
        clear hel
        obtain ⟨va, vc, rfl, hva⟩ := hown.shape
        obtain ⟨va', vc', hve, hin2⟩ := hown.inS (k := t.k) hkd (by rw [HEL.out]; unfold lenMax; omega) (fun b => w.heap.size + 3 ≤ b ∧ b < wr.heap.size) (fun b hb => hb) (fun b hb => by have := hown.own.lt b hb; omega)
        simp only [Value.slice.injEq, true_and] at hve
        obtain ⟨rfl, rfl⟩ := hve
        rw [List.take_length]
        go_wp2_with fail
        refine bodyPost_ret (v := .tuple #[.agg #[.int .i8 t.k, .slice va (RTy.lessenL l t.ks (n + 1)).1.length vc], .int .i64 ((RTy.lessenL l t.ks (n + 1)).2 : Nat)]) (by simp [results, Try.results52, go_sem, m0, m1]) rfl ?_
        unfold LessPost
        rw [hE.out]
        refine ⟨va, vc, rfl, ?_, ?_⟩
        · exact hin2.mono (fun b hb => ⟨by omega, by simp; omega⟩) fun b o hb => (World.cell?_setCell_far _ _ _ _ (by have := hb.1; show w.heap.size + 1 ≠ b; omega)).trans (World.cell?_setCell_far _ _ _ _ (by have := hb.1; show w.heap.size + 1 ≠ b; omega))
        · (repeat (first | assumption | exact Below.refl _ _ | apply below_drewN | apply Below.drew | (refine Below.alloc ?_ (by first | omega | (simp; done) | (simp; omega)) _) | (refine Below.setCell ?_ (by first | omega | (simp; done) | (simp; omega)) _)))

theorem lessen_any (l : List Bool) (la : Option Addr) (lc : Nat) (N : Nat) : ∀ (t : RTy) (n B : Nat) (a : Option Addr) (c : Nat) (w : World), t.nodes ≤ N → t.In w B a → BoolsAt w B la l → t.right = true → B ≤ w.heap.size → n + t.nodes ≤ 20000 →
      Calls Try.prog 52 #[.agg #[.int .i8 t.k, .slice a t.ks.length c], .slice la l.length lc, .int .i64 n] w (LessPost l t n w) := by
  induction N with
  | zero => intro t n B a c w h; have := t.nodes_pos; omega
  | succ N ih =>
    intro t n B a c w hN hin hl hr hB hn
    cases h : lessB l n with
    | true => exact lessen_yes l la lc t n B a c w hl hB (by omega) h
    | false => exact lessen_no N l la lc ih t n B a c w hN hin hl hr hB hn h
end Go.Proofs.Ytaoodchjggimcaa

/- Rows of terms that a call has made itself. -/
namespace Go.Proofs.Ytaoodchjggimcaa
open Go.RowKit

def TmCells (w : World) (S : Nat → Prop) : List RTm → List Value → Prop
  | [], cs => cs = []
  | t :: ts, cs => ∃ s r, cs = t.cells s ++ r ∧ t.InS w S s ∧ TmCells w S ts r
theorem TmCells.push {w : World} {S : Nat → Prop} {t : RTm} {s : TmSh} (ht : t.InS w S s) : ∀ {ts : List RTm} {cs : List Value}, TmCells w S ts cs → TmCells w S (ts ++ [t]) (cs ++ t.cells s)
  | [], cs, h => by
    unfold TmCells at h; subst h
    exact ⟨s, [], by simp, ht, rfl⟩
  | x :: ts, cs, h => by
    obtain ⟨s', r, rfl, h1, h2⟩ := h
    exact ⟨s', r ++ t.cells s, by rw [List.append_assoc], h1, TmCells.push ht h2⟩
theorem TmCells.mono {w w' : World} {S S' : Nat → Prop} (hS : ∀ b, S b → S' b) (hw : ∀ b o, S b → w'.cell? ⟨b, o, none⟩ = w.cell? ⟨b, o, none⟩) : ∀ {ts : List RTm} {cs : List Value}, TmCells w S ts cs → TmCells w' S' ts cs
  | [], cs, h => h
  | x :: ts, cs, h => by
    obtain ⟨s', r, rfl, h1, h2⟩ := h
    exact ⟨s', r, rfl, h1.mono hS hw, TmCells.mono hS hw h2⟩
theorem RTm.cells_length (t : RTm) (s : TmSh) : (t.cells s).length = 11 := rfl
theorem TmCells.get {w : World} {S : Nat → Prop} {t : RTm} : ∀ {ts : List RTm} {cs : List Value}, TmCells w S ts cs → ∀ {j : Nat}, ts[j]? = some t → ∃ s, (∀ i v, (t.cells s)[i]? = some v → cs[j * 11 + i]? = some v) ∧ t.InS w S s
  | [], cs, h, j, hj => by simp at hj
  | x :: ts, cs, h, j, hj => by
    obtain ⟨s', r, rfl, h1, h2⟩ := h
    cases j with
    | zero =>
      simp at hj; subst hj
      refine ⟨s', fun i v hi => ?_, h1⟩
      have hlt := (List.getElem?_eq_some_iff.1 hi).1
      rw [Nat.zero_mul, Nat.zero_add, List.getElem?_append_left hlt]; exact hi
    | succ j =>
      obtain ⟨s, e1, e2⟩ := TmCells.get h2 (j := j) (by simpa using hj)
      refine ⟨s, fun i v hi => ?_, e2⟩
      rw [List.getElem?_append_right (by rw [RTm.cells_length]; omega), RTm.cells_length, show (j + 1) * 11 + i - 11 = j * 11 + i by omega]
      exact e1 i v hi
theorem RTm.cells_one (t : RTm) (s : TmSh) : ∀ u ∈ t.cells s, u.oneCell' = true := by
  intro u hu
  simp only [List.mem_cons, List.not_mem_nil, or_false] at hu
  rcases hu with rfl | rfl | rfl | rfl | rfl | rfl | rfl | rfl | rfl | rfl | rfl <;> rfl

/-- v is a slice of the call's own, from block base on: it holds the terms ts, whose kids lie in S, apart from v's own row. -/
structure OwnTms (w : World) (base : Nat) (E : TypeId) (S : Nat → Prop) (v : Value) (ts : List RTm) (cs : List Value) : Prop where
  own : w.ownsRow base E 11 v ts.length cs
  cells : TmCells w (fun b => S b ∧ some b ≠ v.ownBlock) ts cs

theorem OwnTms.nil (w : World) (base : Nat) (E : TypeId) (S : Nat → Prop) : OwnTms w base E S (.slice none 0 0) [] [] :=
  ⟨World.ownsRow_nil _ _ _ _, rfl⟩
theorem OwnTms.kept {w w' : World} {base : Nat} {E : TypeId} {S S' : Nat → Prop} {v : Value} {ts : List RTm} {cs : List Value} (h : OwnTms w base E S v ts cs)
    (hrow : ∀ g, v.ownBlock = some g → w'.heap[g]? = w.heap[g]?) (hS : ∀ b, S b → S' b) (hw : ∀ b o, S b → w'.cell? ⟨b, o, none⟩ = w.cell? ⟨b, o, none⟩) : OwnTms w' base E S' v ts cs := by
  refine ⟨⟨h.own.1, ?_⟩, h.cells.mono (fun b hb => ⟨hS b hb.1, hb.2⟩) fun b o hb => hw b o hb.1⟩
  rcases h.own.2 with h2 | ⟨g, cap, cur, hv, hg, hh, r⟩
  · exact .inl h2
  · exact .inr ⟨g, cap, cur, hv, hg, by rw [hrow g (by rw [hv]; rfl)]; exact hh, r⟩
theorem OwnTms.shape {w : World} {base : Nat} {E : TypeId} {S : Nat → Prop} {v : Value} {ts : List RTm} {cs : List Value} (h : OwnTms w base E S v ts cs) : ∃ a c, v = .slice a ts.length c ∧ (∀ b, (∃ o, a = some ⟨b, o, none⟩) → base ≤ b ∧ b < w.heap.size) := by
  rcases h.own.2 with ⟨h1, h2⟩ | ⟨g, cap, cur, hv, hg, hh, r⟩
  · exact ⟨none, 0, by rw [h1, h2], by rintro b ⟨o, ho⟩; cases ho⟩
  · refine ⟨_, cap, hv, ?_⟩
    rintro b ⟨o, ho⟩
    simp only [Option.some.injEq, Addr.mk.injEq] at ho
    obtain ⟨rfl, -, -⟩ := ho
    exact ⟨hg, (Array.getElem?_eq_some_iff.1 hh).1⟩
/-- At last: the row of kids. -/
theorem OwnTms.insS {w : World} {base : Nat} {E : TypeId} {S : Nat → Prop} {v : Value} {ts : List RTm} {cs : List Value} (h : OwnTms w base E S v ts cs) (S' : Nat → Prop)
    (hS : ∀ b, S b → S' b) (hg : ∀ b, v.ownBlock = some b → S' b) : ∃ a c, v = .slice a ts.length c ∧ RTm.InsS w S' a 0 ts := by
  rcases h.own.2 with ⟨h1, h2⟩ | ⟨g, cap, cur, hv, hgb, hh, r⟩
  · refine ⟨none, 0, by rw [h1, h2], ?_⟩
    have : ts = [] := List.eq_nil_of_length_eq_zero h2
    subst this
    unfold RTm.InsS
    trivial
  · refine ⟨_, cap, hv, RTm.InsS.mk (hg g (by rw [hv]; rfl)) fun j t ht => ?_⟩
    obtain ⟨s, e1, e3⟩ := h.cells.get ht
    have hcell := h.own.cells (g := g) (by rw [hv]; rfl)
    have add0 : ∀ n, (⟨g, 0, none⟩ : Addr).add n = ⟨g, n, none⟩ := fun n => by unfold Addr.add; split <;> simp_all
    refine ⟨s, fun i v hi => ?_, e3.up fun b hb => hS b hb.1⟩
    have := hcell _ _ (e1 i v hi)
    rw [add0] at this
    rw [Nat.zero_add, Nat.zero_add]; exact this
theorem OwnTms.push {w w' : World} {base : Nat} {E : TypeId} {S S' : Nat → Prop} {v v' : Value} {ts : List RTm} {cs : List Value} {t : RTm} {s : TmSh} (h : OwnTms w base E S v ts cs)
    (hown : w'.ownsRow base E 11 v' (ts.length + 1) (cs ++ t.cells s)) (hg : w.grownBy w' v.ownBlock)
    (hS : ∀ b, S b → b < w.heap.size ∧ S' b) {St : Nat → Prop} (ht : t.InS w St s) (hSt : ∀ b, St b → b < w.heap.size ∧ S' b ∧ some b ≠ v.ownBlock) (hv : v'.ownBlock = v.ownBlock ∨ ∀ b, v'.ownBlock = some b → w.heap.size ≤ b) :
    OwnTms w' base E S' v' (ts ++ [t]) (cs ++ t.cells s) := by
  have hne : ∀ b, b < w.heap.size → some b ≠ v.ownBlock → some b ≠ v'.ownBlock := by
    intro b hb hn e
    rcases hv with hv | hv
    · exact hn (e.trans hv)
    · have := hv b e.symm; omega
  refine ⟨by simpa using hown, ?_⟩
  refine TmCells.push (ht.mono (fun b hb => ⟨(hSt b hb).2.1, hne b (hSt b hb).1 (hSt b hb).2.2⟩) fun b o hb => ?_) (h.cells.mono (fun b hb => ⟨(hS b hb.1).2, hne b (hS b hb.1).1 hb.2⟩) fun b o hb => ?_)
  · exact hg.cell_far ⟨b, o, none⟩ (hSt b hb).1 (hSt b hb).2.2
  · exact hg.cell_far ⟨b, o, none⟩ (hS b hb.1).1 hb.2
/-- Old memory of which is said S0, and what was made from base on. -/
def OldNew (S0 : Nat → Prop) (base : Nat) (w : World) (b : Nat) : Prop := S0 b ∨ (base ≤ b ∧ b < w.heap.size)
/-- A round: a callee has made t (wr to w1), a block was laid, and append's law led on to w2. -/
theorem OwnTms.step {wr w1 w2 : World} {base : Nat} {E : TypeId} {S0 : Nat → Prop} {v : Value} {ts : List RTm} {cs : List Value} {t : RTm} {s : TmSh} {g n cap : Nat} {o : Obj}
    (h0 : ∀ b, S0 b → b < base) (h : OwnTms wr base E (OldNew S0 base wr) v ts cs) (hb1 : Below wr.heap.size wr w1) (hbase : base ≤ wr.heap.size)
    (ht : t.InS w1 (OldNew S0 wr.heap.size w1) s) (hn : ts.length + 1 = n)
    (hown : w2.ownsRow base E 11 (.slice (some ⟨g, 0, none⟩) n cap) n (cs ++ t.cells s)) (hg : (w1.alloc o).grownBy w2 v.ownBlock)
    (hat : v.ownBlock = some g ∨ g = w1.heap.size + 1) : OwnTms w2 base E (OldNew S0 base w2) (.slice (some ⟨g, 0, none⟩) n cap) (ts ++ [t]) (cs ++ t.cells s) := by
  subst hn
  have hsz := hb1.size
  have hs2 := hg.size
  rw [World.size_alloc] at hs2
  have hvlt : ∀ b, v.ownBlock = some b → base ≤ b ∧ b < wr.heap.size := fun b hb => h.own.lt b hb
  have h1 : OwnTms (w1.alloc o) base E (OldNew S0 base wr) v ts cs := by
    refine h.kept (fun x hx => ?_) (fun b hb => hb) fun b oo hb => ?_
    · have := (hvlt x hx).2
      exact (Below.heap_alloc _ _ _ (by omega)).trans (hb1.block x this)
    · have hlt : b < wr.heap.size := by
        rcases hb with hb | hb
        · have := h0 b hb; omega
        · exact hb.2
      exact ((below_new' w1 o).cell (p := ⟨b, oo, none⟩) (by show b < w1.heap.size; omega)).trans (hb1.cell (p := ⟨b, oo, none⟩) hlt)
  have ht1 : t.InS (w1.alloc o) (OldNew S0 wr.heap.size w1) s := ht.below (below_new' w1 o) fun b hb => by
    rcases hb with hb | hb
    · have := h0 b hb; omega
    · exact hb.2
  refine h1.push hown hg (fun b hb => ?_) ht1 (fun b hb => ?_) ?_
  · rw [World.size_alloc]
    rcases hb with hb | hb
    · have := h0 b hb; exact ⟨by omega, .inl hb⟩
    · exact ⟨by omega, .inr ⟨hb.1, by omega⟩⟩
  · rw [World.size_alloc]
    rcases hb with hb | hb
    · have := h0 b hb
      exact ⟨by omega, .inl hb, fun e => by have := (hvlt b e.symm).1; omega⟩
    · exact ⟨by omega, .inr ⟨by omega, by omega⟩, fun e => by have := (hvlt b e.symm).2; omega⟩
  · rcases hat with hat | hat
    · exact .inl hat.symm
    · refine .inr fun b hb => ?_
      rw [World.size_alloc]
      have : g = b := by simpa [Value.ownBlock] using hb
      omega
theorem OwnTms.far {wr w1 w2 : World} {base : Nat} {E : TypeId} {S : Nat → Prop} {v : Value} {ts : List RTm} {cs : List Value} {o : Obj}
    (h : OwnTms wr base E S v ts cs) (hb1 : Below wr.heap.size wr w1) (hbase : base ≤ wr.heap.size) (hg : (w1.alloc o).grownBy w2 v.ownBlock) : Below base wr w2 := by
  have hsz := hb1.size
  have hs2 := hg.size
  rw [World.size_alloc] at hs2
  refine ⟨hg.os.trans hb1.os, hg.tape.trans hb1.tape, hg.output.trans hb1.output, by omega, fun k hk => ?_⟩
  refine (hg.block k (by rw [World.size_alloc]; omega) fun e => ?_).trans ((Below.heap_alloc _ _ _ (by omega)).trans (hb1.block k (by omega)))
  have := (h.own.lt k e.symm).1
  omega
end Go.Proofs.Ytaoodchjggimcaa

/- The walk of the law's Lessened: a term of which annotations are made less precise. -/
set_option linter.unusedVariables false
set_option linter.unusedSimpArgs false
namespace Go.Proofs.Ytaoodchjggimcaa
open Go.RowKit

theorem OldNew.lt {S0 : Nat → Prop} {base : Nat} {w : World} (h : ∀ b, S0 b → b < w.heap.size) : ∀ b, OldNew S0 base w b → b < w.heap.size := by
  rintro b (hb | hb)
  · exact h b hb
  · exact hb.2
theorem OldNew.up {S0 : Nat → Prop} {base base' : Nat} {w w' : World} (hb : base ≤ base') (h : w.heap.size ≤ w'.heap.size) : ∀ b, OldNew S0 base' w b → OldNew S0 base w' b := by
  rintro b (h1 | h1)
  · exact .inl h1
  · exact .inr (by omega)
/-- A block that begins with these eleven cells. -/
structure AtRow (w : World) (g : Nat) (v0 v1 v2 v3 v4 v5 v6 v7 v8 v9 v10 : Value) : Prop where
  c0 : w.cell? ⟨g, 0, none⟩ = some v0
  f0 : w.frozen? ⟨g, 0, none⟩ = false
  c1 : w.cell? ⟨g, 1, none⟩ = some v1
  f1 : w.frozen? ⟨g, 1, none⟩ = false
  c2 : w.cell? ⟨g, 2, none⟩ = some v2
  f2 : w.frozen? ⟨g, 2, none⟩ = false
  c3 : w.cell? ⟨g, 3, none⟩ = some v3
  f3 : w.frozen? ⟨g, 3, none⟩ = false
  c4 : w.cell? ⟨g, 4, none⟩ = some v4
  f4 : w.frozen? ⟨g, 4, none⟩ = false
  c5 : w.cell? ⟨g, 5, none⟩ = some v5
  f5 : w.frozen? ⟨g, 5, none⟩ = false
  c6 : w.cell? ⟨g, 6, none⟩ = some v6
  f6 : w.frozen? ⟨g, 6, none⟩ = false
  c7 : w.cell? ⟨g, 7, none⟩ = some v7
  f7 : w.frozen? ⟨g, 7, none⟩ = false
  c8 : w.cell? ⟨g, 8, none⟩ = some v8
  f8 : w.frozen? ⟨g, 8, none⟩ = false
  c9 : w.cell? ⟨g, 9, none⟩ = some v9
  f9 : w.frozen? ⟨g, 9, none⟩ = false
  c10 : w.cell? ⟨g, 10, none⟩ = some v10
  f10 : w.frozen? ⟨g, 10, none⟩ = false
theorem AtRow.on {w w' : World} {g : Nat} {v0 v1 v2 v3 v4 v5 v6 v7 v8 v9 v10 : Value} (h : AtRow w g v0 v1 v2 v3 v4 v5 v6 v7 v8 v9 v10) (hb : Below w.heap.size w w') (hg : g < w.heap.size) : AtRow w' g v0 v1 v2 v3 v4 v5 v6 v7 v8 v9 v10 :=
  { c0 := cell_kept hb h.c0, f0 := frozen_kept hb (by omega) h.f0, c1 := cell_kept hb h.c1, f1 := frozen_kept hb (by omega) h.f1, c2 := cell_kept hb h.c2, f2 := frozen_kept hb (by omega) h.f2, c3 := cell_kept hb h.c3, f3 := frozen_kept hb (by omega) h.f3, c4 := cell_kept hb h.c4, f4 := frozen_kept hb (by omega) h.f4, c5 := cell_kept hb h.c5, f5 := frozen_kept hb (by omega) h.f5, c6 := cell_kept hb h.c6, f6 := frozen_kept hb (by omega) h.f6, c7 := cell_kept hb h.c7, f7 := frozen_kept hb (by omega) h.f7, c8 := cell_kept hb h.c8, f8 := frozen_kept hb (by omega) h.f8, c9 := cell_kept hb h.c9, f9 := frozen_kept hb (by omega) h.f9, c10 := cell_kept hb h.c10, f10 := frozen_kept hb (by omega) h.f10 }
set_option maxHeartbeats 2000000 in
theorem AtRow.store {w : World} {g : Nat} {u0 u1 u2 u3 u4 u5 u6 u7 u8 u9 u10 v0 v1 v2 v3 v4 v5 v6 v7 v8 v9 v10 : Value} (h : AtRow w g u0 u1 u2 u3 u4 u5 u6 u7 u8 u9 u10) : AtRow ((((((((((((w).setCell ⟨g, 0, none⟩ v0).setCell ⟨g, 1, none⟩ v1).setCell ⟨g, 2, none⟩ v2).setCell ⟨g, 3, none⟩ v3).setCell ⟨g, 4, none⟩ v4).setCell ⟨g, 5, none⟩ v5).setCell ⟨g, 6, none⟩ v6).setCell ⟨g, 7, none⟩ v7).setCell ⟨g, 8, none⟩ v8).setCell ⟨g, 9, none⟩ v9).setCell ⟨g, 10, none⟩ v10) g v0 v1 v2 v3 v4 v5 v6 v7 v8 v9 v10 := by
  obtain ⟨c0, f0, c1, f1, c2, f2, c3, f3, c4, f4, c5, f5, c6, f6, c7, f7, c8, f8, c9, f9, c10, f10⟩ := h
  exact { c0 := by simp [go_sem, c0, f0, c1, f1, c2, f2, c3, f3, c4, f4, c5, f5, c6, f6, c7, f7, c8, f8, c9, f9, c10, f10], f0 := by simp [go_sem, c0, f0, c1, f1, c2, f2, c3, f3, c4, f4, c5, f5, c6, f6, c7, f7, c8, f8, c9, f9, c10, f10], c1 := by simp [go_sem, c0, f0, c1, f1, c2, f2, c3, f3, c4, f4, c5, f5, c6, f6, c7, f7, c8, f8, c9, f9, c10, f10], f1 := by simp [go_sem, c0, f0, c1, f1, c2, f2, c3, f3, c4, f4, c5, f5, c6, f6, c7, f7, c8, f8, c9, f9, c10, f10], c2 := by simp [go_sem, c0, f0, c1, f1, c2, f2, c3, f3, c4, f4, c5, f5, c6, f6, c7, f7, c8, f8, c9, f9, c10, f10], f2 := by simp [go_sem, c0, f0, c1, f1, c2, f2, c3, f3, c4, f4, c5, f5, c6, f6, c7, f7, c8, f8, c9, f9, c10, f10], c3 := by simp [go_sem, c0, f0, c1, f1, c2, f2, c3, f3, c4, f4, c5, f5, c6, f6, c7, f7, c8, f8, c9, f9, c10, f10], f3 := by simp [go_sem, c0, f0, c1, f1, c2, f2, c3, f3, c4, f4, c5, f5, c6, f6, c7, f7, c8, f8, c9, f9, c10, f10], c4 := by simp [go_sem, c0, f0, c1, f1, c2, f2, c3, f3, c4, f4, c5, f5, c6, f6, c7, f7, c8, f8, c9, f9, c10, f10], f4 := by simp [go_sem, c0, f0, c1, f1, c2, f2, c3, f3, c4, f4, c5, f5, c6, f6, c7, f7, c8, f8, c9, f9, c10, f10], c5 := by simp [go_sem, c0, f0, c1, f1, c2, f2, c3, f3, c4, f4, c5, f5, c6, f6, c7, f7, c8, f8, c9, f9, c10, f10], f5 := by simp [go_sem, c0, f0, c1, f1, c2, f2, c3, f3, c4, f4, c5, f5, c6, f6, c7, f7, c8, f8, c9, f9, c10, f10], c6 := by simp [go_sem, c0, f0, c1, f1, c2, f2, c3, f3, c4, f4, c5, f5, c6, f6, c7, f7, c8, f8, c9, f9, c10, f10], f6 := by simp [go_sem, c0, f0, c1, f1, c2, f2, c3, f3, c4, f4, c5, f5, c6, f6, c7, f7, c8, f8, c9, f9, c10, f10], c7 := by simp [go_sem, c0, f0, c1, f1, c2, f2, c3, f3, c4, f4, c5, f5, c6, f6, c7, f7, c8, f8, c9, f9, c10, f10], f7 := by simp [go_sem, c0, f0, c1, f1, c2, f2, c3, f3, c4, f4, c5, f5, c6, f6, c7, f7, c8, f8, c9, f9, c10, f10], c8 := by simp [go_sem, c0, f0, c1, f1, c2, f2, c3, f3, c4, f4, c5, f5, c6, f6, c7, f7, c8, f8, c9, f9, c10, f10], f8 := by simp [go_sem, c0, f0, c1, f1, c2, f2, c3, f3, c4, f4, c5, f5, c6, f6, c7, f7, c8, f8, c9, f9, c10, f10], c9 := by simp [go_sem, c0, f0, c1, f1, c2, f2, c3, f3, c4, f4, c5, f5, c6, f6, c7, f7, c8, f8, c9, f9, c10, f10], f9 := by simp [go_sem, c0, f0, c1, f1, c2, f2, c3, f3, c4, f4, c5, f5, c6, f6, c7, f7, c8, f8, c9, f9, c10, f10], c10 := by simp [go_sem, c0, f0, c1, f1, c2, f2, c3, f3, c4, f4, c5, f5, c6, f6, c7, f7, c8, f8, c9, f9, c10, f10], f10 := by simp [go_sem, c0, f0, c1, f1, c2, f2, c3, f3, c4, f4, c5, f5, c6, f6, c7, f7, c8, f8, c9, f9, c10, f10] }
set_option maxHeartbeats 2000000 in
theorem AtRow.store_below {w w0 : World} {g base : Nat} {v0 v1 v2 v3 v4 v5 v6 v7 v8 v9 v10 : Value} (h : Below base w0 w) (hg : base ≤ g) : Below base w0 ((((((((((((w).setCell ⟨g, 0, none⟩ v0).setCell ⟨g, 1, none⟩ v1).setCell ⟨g, 2, none⟩ v2).setCell ⟨g, 3, none⟩ v3).setCell ⟨g, 4, none⟩ v4).setCell ⟨g, 5, none⟩ v5).setCell ⟨g, 6, none⟩ v6).setCell ⟨g, 7, none⟩ v7).setCell ⟨g, 8, none⟩ v8).setCell ⟨g, 9, none⟩ v9).setCell ⟨g, 10, none⟩ v10) := by
  exact (Below.setCell (Below.setCell (Below.setCell (Below.setCell (Below.setCell (Below.setCell (Below.setCell (Below.setCell (Below.setCell (Below.setCell (Below.setCell h (by exact hg) _) (by exact hg) _) (by exact hg) _) (by exact hg) _) (by exact hg) _) (by exact hg) _) (by exact hg) _) (by exact hg) _) (by exact hg) _) (by exact hg) _) (by exact hg) _)
theorem AtRow.store_far {w : World} {g b o : Nat} {v0 v1 v2 v3 v4 v5 v6 v7 v8 v9 v10 : Value} (h : g ≠ b) : ((((((((((((w).setCell ⟨g, 0, none⟩ v0).setCell ⟨g, 1, none⟩ v1).setCell ⟨g, 2, none⟩ v2).setCell ⟨g, 3, none⟩ v3).setCell ⟨g, 4, none⟩ v4).setCell ⟨g, 5, none⟩ v5).setCell ⟨g, 6, none⟩ v6).setCell ⟨g, 7, none⟩ v7).setCell ⟨g, 8, none⟩ v8).setCell ⟨g, 9, none⟩ v9).setCell ⟨g, 10, none⟩ v10).cell? ⟨b, o, none⟩ = w.cell? ⟨b, o, none⟩ := by
  repeat rw [World.cell?_setCell_far _ _ _ _ (by show g ≠ b; exact h)]
theorem AtRow.frozen_far {w : World} {g k : Nat} {p : Addr} {u : Value} (hp : p.block ≠ g) : (w.setCell p u).frozen? ⟨g, k, none⟩ = w.frozen? ⟨g, k, none⟩ := by
  simp [go_sem]
theorem AtRow.far {w : World} {g : Nat} {p : Addr} {u : Value} {v0 v1 v2 v3 v4 v5 v6 v7 v8 v9 v10 : Value} (h : AtRow w g v0 v1 v2 v3 v4 v5 v6 v7 v8 v9 v10) (hp : p.block ≠ g) : AtRow (w.setCell p u) g v0 v1 v2 v3 v4 v5 v6 v7 v8 v9 v10 :=
  { c0 := (World.cell?_setCell_far _ _ _ _ (by exact hp)).trans h.c0, f0 := (AtRow.frozen_far hp).trans h.f0, c1 := (World.cell?_setCell_far _ _ _ _ (by exact hp)).trans h.c1, f1 := (AtRow.frozen_far hp).trans h.f1, c2 := (World.cell?_setCell_far _ _ _ _ (by exact hp)).trans h.c2, f2 := (AtRow.frozen_far hp).trans h.f2, c3 := (World.cell?_setCell_far _ _ _ _ (by exact hp)).trans h.c3, f3 := (AtRow.frozen_far hp).trans h.f3, c4 := (World.cell?_setCell_far _ _ _ _ (by exact hp)).trans h.c4, f4 := (AtRow.frozen_far hp).trans h.f4, c5 := (World.cell?_setCell_far _ _ _ _ (by exact hp)).trans h.c5, f5 := (AtRow.frozen_far hp).trans h.f5, c6 := (World.cell?_setCell_far _ _ _ _ (by exact hp)).trans h.c6, f6 := (AtRow.frozen_far hp).trans h.f6, c7 := (World.cell?_setCell_far _ _ _ _ (by exact hp)).trans h.c7, f7 := (AtRow.frozen_far hp).trans h.f7, c8 := (World.cell?_setCell_far _ _ _ _ (by exact hp)).trans h.c8, f8 := (AtRow.frozen_far hp).trans h.f8, c9 := (World.cell?_setCell_far _ _ _ _ (by exact hp)).trans h.c9, f9 := (AtRow.frozen_far hp).trans h.f9, c10 := (World.cell?_setCell_far _ _ _ _ (by exact hp)).trans h.c10, f10 := (AtRow.frozen_far hp).trans h.f10 }
theorem AtRow.store_size {w : World} {g : Nat} {v0 v1 v2 v3 v4 v5 v6 v7 v8 v9 v10 : Value} : ((((((((((((w).setCell ⟨g, 0, none⟩ v0).setCell ⟨g, 1, none⟩ v1).setCell ⟨g, 2, none⟩ v2).setCell ⟨g, 3, none⟩ v3).setCell ⟨g, 4, none⟩ v4).setCell ⟨g, 5, none⟩ v5).setCell ⟨g, 6, none⟩ v6).setCell ⟨g, 7, none⟩ v7).setCell ⟨g, 8, none⟩ v8).setCell ⟨g, 9, none⟩ v9).setCell ⟨g, 10, none⟩ v10).heap.size = w.heap.size := by simp
/-- The term under way, in its box, and the result's cells. -/
structure LessBox (w wx : World) (B : Nat) (t : RTm) (y z : RTy) (s : TmSh) : Prop where
  c0 : wx.cell? ⟨w.heap.size, 0, none⟩ = some (.int .i8 t.k)
  c1 : wx.cell? ⟨w.heap.size, 1, none⟩ = some (.string t.name)
  c2 : wx.cell? ⟨w.heap.size, 2, none⟩ = some (.string t.arg)
  c3 : wx.cell? ⟨w.heap.size, 3, none⟩ = some (.int .i64 t.num)
  c4 : wx.cell? ⟨w.heap.size, 4, none⟩ = some (.int .i8 y.k)
  c5 : wx.cell? ⟨w.heap.size, 5, none⟩ = some (.slice s.ta y.ks.length s.tc)
  c6 : wx.cell? ⟨w.heap.size, 6, none⟩ = some (.int .i8 z.k)
  c7 : wx.cell? ⟨w.heap.size, 7, none⟩ = some (.slice s.oa z.ks.length s.oc)
  c8 : wx.cell? ⟨w.heap.size, 8, none⟩ = some (.int .i64 t.label)
  c9 : wx.cell? ⟨w.heap.size, 9, none⟩ = some (.int .i64 t.spot)
  c10 : wx.cell? ⟨w.heap.size, 10, none⟩ = some (.slice s.ka t.ks.length s.kc)
  b4 : wx.frozen? ⟨w.heap.size, 4, none⟩ = false
  b5 : wx.frozen? ⟨w.heap.size, 5, none⟩ = false
  b6 : wx.frozen? ⟨w.heap.size, 6, none⟩ = false
  b7 : wx.frozen? ⟨w.heap.size, 7, none⟩ = false
  b10 : wx.frozen? ⟨w.heap.size, 10, none⟩ = false
  r0 : wx.cell? ⟨w.heap.size + 1, 0, none⟩ = some (.int .i8 0)
  f0 : wx.frozen? ⟨w.heap.size + 1, 0, none⟩ = false
  r1 : wx.cell? ⟨w.heap.size + 1, 1, none⟩ = some (.string ⟨#[]⟩)
  f1 : wx.frozen? ⟨w.heap.size + 1, 1, none⟩ = false
  r2 : wx.cell? ⟨w.heap.size + 1, 2, none⟩ = some (.string ⟨#[]⟩)
  f2 : wx.frozen? ⟨w.heap.size + 1, 2, none⟩ = false
  r3 : wx.cell? ⟨w.heap.size + 1, 3, none⟩ = some (.int .i64 0)
  f3 : wx.frozen? ⟨w.heap.size + 1, 3, none⟩ = false
  r4 : wx.cell? ⟨w.heap.size + 1, 4, none⟩ = some (.int .i8 0)
  f4 : wx.frozen? ⟨w.heap.size + 1, 4, none⟩ = false
  r5 : wx.cell? ⟨w.heap.size + 1, 5, none⟩ = some (.slice none 0 0)
  f5 : wx.frozen? ⟨w.heap.size + 1, 5, none⟩ = false
  r6 : wx.cell? ⟨w.heap.size + 1, 6, none⟩ = some (.int .i8 0)
  f6 : wx.frozen? ⟨w.heap.size + 1, 6, none⟩ = false
  r7 : wx.cell? ⟨w.heap.size + 1, 7, none⟩ = some (.slice none 0 0)
  f7 : wx.frozen? ⟨w.heap.size + 1, 7, none⟩ = false
  r8 : wx.cell? ⟨w.heap.size + 1, 8, none⟩ = some (.int .i64 0)
  f8 : wx.frozen? ⟨w.heap.size + 1, 8, none⟩ = false
  r9 : wx.cell? ⟨w.heap.size + 1, 9, none⟩ = some (.int .i64 0)
  f9 : wx.frozen? ⟨w.heap.size + 1, 9, none⟩ = false
  r10 : wx.cell? ⟨w.heap.size + 1, 10, none⟩ = some (.slice none 0 0)
  f10 : wx.frozen? ⟨w.heap.size + 1, 10, none⟩ = false
  iny : y.InS wx (OldNew (fun b => b < B) (w.heap.size + 2) wx) s.ta
  inz : z.InS wx (OldNew (fun b => b < B) (w.heap.size + 2) wx) s.oa
  lt : w.heap.size + 2 ≤ wx.heap.size
  below : Below w.heap.size w wx
theorem LessBox.on {w wx wx' : World} {B : Nat} {t : RTm} {y z : RTy} {s : TmSh} (h : LessBox w wx B t y z s) (hB : B ≤ w.heap.size) (hb : Below wx.heap.size wx wx') : LessBox w wx' B t y z s := by
  have hlt := h.lt
  have hs := hb.size
  have h1 : ∀ b, OldNew (fun b => b < B) (w.heap.size + 2) wx b → b < wx.heap.size := OldNew.lt fun b hb => by omega
  exact { c0 := cell_kept hb h.c0, c1 := cell_kept hb h.c1, c2 := cell_kept hb h.c2, c3 := cell_kept hb h.c3, c4 := cell_kept hb h.c4, c5 := cell_kept hb h.c5, c6 := cell_kept hb h.c6, c7 := cell_kept hb h.c7, c8 := cell_kept hb h.c8, c9 := cell_kept hb h.c9, c10 := cell_kept hb h.c10, b4 := frozen_kept hb (by omega) h.b4, b5 := frozen_kept hb (by omega) h.b5, b6 := frozen_kept hb (by omega) h.b6, b7 := frozen_kept hb (by omega) h.b7, b10 := frozen_kept hb (by omega) h.b10, r0 := cell_kept hb h.r0, f0 := frozen_kept hb (by omega) h.f0, r1 := cell_kept hb h.r1, f1 := frozen_kept hb (by omega) h.f1, r2 := cell_kept hb h.r2, f2 := frozen_kept hb (by omega) h.f2, r3 := cell_kept hb h.r3, f3 := frozen_kept hb (by omega) h.f3, r4 := cell_kept hb h.r4, f4 := frozen_kept hb (by omega) h.f4, r5 := cell_kept hb h.r5, f5 := frozen_kept hb (by omega) h.f5, r6 := cell_kept hb h.r6, f6 := frozen_kept hb (by omega) h.f6, r7 := cell_kept hb h.r7, f7 := frozen_kept hb (by omega) h.f7, r8 := cell_kept hb h.r8, f8 := frozen_kept hb (by omega) h.f8, r9 := cell_kept hb h.r9, f9 := frozen_kept hb (by omega) h.f9, r10 := cell_kept hb h.r10, f10 := frozen_kept hb (by omega) h.f10, iny := (h.iny.below hb h1).up (OldNew.up (Nat.le_refl _) hs), inz := (h.inz.below hb h1).up (OldNew.up (Nat.le_refl _) hs), lt := by omega, below := h.below.trans (hb.mono h.below.size) }
theorem LessBox.setTy {w wx : World} {B : Nat} {t : RTm} {y z u : RTy} {s : TmSh} {a : Option Addr} {c : Nat} (h : LessBox w wx B t y z s) (hB : B ≤ w.heap.size) (hu : u.InS wx (OldNew (fun b => b < B) (w.heap.size + 2) wx) a) : LessBox w ((wx.setCell ⟨w.heap.size, 4, none⟩ (.int .i8 u.k)).setCell ⟨w.heap.size, 5, none⟩ (.slice a u.ks.length c)) B t u z { s with ta := a, tc := c } := by
  have hS : ∀ b, OldNew (fun b => b < B) (w.heap.size + 2) wx b → OldNew (fun b => b < B) (w.heap.size + 2) ((wx.setCell ⟨w.heap.size, 4, none⟩ (.int .i8 u.k)).setCell ⟨w.heap.size, 5, none⟩ (.slice a u.ks.length c)) b := by
    rintro b (hb | hb)
    · exact .inl hb
    · exact .inr (by simpa using hb)
  have hC : ∀ b o, OldNew (fun b => b < B) (w.heap.size + 2) wx b → ((wx.setCell ⟨w.heap.size, 4, none⟩ (.int .i8 u.k)).setCell ⟨w.heap.size, 5, none⟩ (.slice a u.ks.length c)).cell? ⟨b, o, none⟩ = wx.cell? ⟨b, o, none⟩ := by
    intro b o hb
    have hne : w.heap.size ≠ b := by
      rcases hb with hb | hb <;> omega
    exact (World.cell?_setCell_far _ _ _ _ (by show w.heap.size ≠ b; exact hne)).trans (World.cell?_setCell_far _ _ _ _ (by show w.heap.size ≠ b; exact hne))
  have hbel := h.below
  have hlt := h.lt
  exact { c0 := by simp [go_sem, h.c4, h.c5, h.b4, h.b5, h.c0], c1 := by simp [go_sem, h.c4, h.c5, h.b4, h.b5, h.c1], c2 := by simp [go_sem, h.c4, h.c5, h.b4, h.b5, h.c2], c3 := by simp [go_sem, h.c4, h.c5, h.b4, h.b5, h.c3], c4 := by simp [go_sem, h.c4, h.c5, h.b4, h.b5, h.c4], c5 := by simp [go_sem, h.c4, h.c5, h.b4, h.b5, h.c5], c6 := by simp [go_sem, h.c4, h.c5, h.b4, h.b5, h.c6], c7 := by simp [go_sem, h.c4, h.c5, h.b4, h.b5, h.c7], c8 := by simp [go_sem, h.c4, h.c5, h.b4, h.b5, h.c8], c9 := by simp [go_sem, h.c4, h.c5, h.b4, h.b5, h.c9], c10 := by simp [go_sem, h.c4, h.c5, h.b4, h.b5, h.c10], b4 := by simp [go_sem, h.c4, h.c5, h.b4, h.b5, h.b4], b5 := by simp [go_sem, h.c4, h.c5, h.b4, h.b5, h.b5], b6 := by simp [go_sem, h.c4, h.c5, h.b4, h.b5, h.b6], b7 := by simp [go_sem, h.c4, h.c5, h.b4, h.b5, h.b7], b10 := by simp [go_sem, h.c4, h.c5, h.b4, h.b5, h.b10], r0 := by simp [go_sem, h.c4, h.c5, h.b4, h.b5, h.r0], f0 := by simp [go_sem, h.c4, h.c5, h.b4, h.b5, h.f0], r1 := by simp [go_sem, h.c4, h.c5, h.b4, h.b5, h.r1], f1 := by simp [go_sem, h.c4, h.c5, h.b4, h.b5, h.f1], r2 := by simp [go_sem, h.c4, h.c5, h.b4, h.b5, h.r2], f2 := by simp [go_sem, h.c4, h.c5, h.b4, h.b5, h.f2], r3 := by simp [go_sem, h.c4, h.c5, h.b4, h.b5, h.r3], f3 := by simp [go_sem, h.c4, h.c5, h.b4, h.b5, h.f3], r4 := by simp [go_sem, h.c4, h.c5, h.b4, h.b5, h.r4], f4 := by simp [go_sem, h.c4, h.c5, h.b4, h.b5, h.f4], r5 := by simp [go_sem, h.c4, h.c5, h.b4, h.b5, h.r5], f5 := by simp [go_sem, h.c4, h.c5, h.b4, h.b5, h.f5], r6 := by simp [go_sem, h.c4, h.c5, h.b4, h.b5, h.r6], f6 := by simp [go_sem, h.c4, h.c5, h.b4, h.b5, h.f6], r7 := by simp [go_sem, h.c4, h.c5, h.b4, h.b5, h.r7], f7 := by simp [go_sem, h.c4, h.c5, h.b4, h.b5, h.f7], r8 := by simp [go_sem, h.c4, h.c5, h.b4, h.b5, h.r8], f8 := by simp [go_sem, h.c4, h.c5, h.b4, h.b5, h.f8], r9 := by simp [go_sem, h.c4, h.c5, h.b4, h.b5, h.r9], f9 := by simp [go_sem, h.c4, h.c5, h.b4, h.b5, h.f9], r10 := by simp [go_sem, h.c4, h.c5, h.b4, h.b5, h.r10], f10 := by simp [go_sem, h.c4, h.c5, h.b4, h.b5, h.f10], iny := hu.mono hS hC, inz := h.inz.mono hS hC, lt := by simpa using h.lt, below := by (repeat (first | assumption | exact Below.refl _ _ | apply below_drewN | apply Below.drew | (refine Below.alloc ?_ (by first | omega | (simp; done) | (simp; omega)) _) | (refine Below.setCell ?_ (by first | omega | (simp; done) | (simp; omega)) _))) }
theorem LessBox.setTo {w wx : World} {B : Nat} {t : RTm} {y z u : RTy} {s : TmSh} {a : Option Addr} {c : Nat} (h : LessBox w wx B t y z s) (hB : B ≤ w.heap.size) (hu : u.InS wx (OldNew (fun b => b < B) (w.heap.size + 2) wx) a) : LessBox w ((wx.setCell ⟨w.heap.size, 6, none⟩ (.int .i8 u.k)).setCell ⟨w.heap.size, 7, none⟩ (.slice a u.ks.length c)) B t y u { s with oa := a, oc := c } := by
  have hS : ∀ b, OldNew (fun b => b < B) (w.heap.size + 2) wx b → OldNew (fun b => b < B) (w.heap.size + 2) ((wx.setCell ⟨w.heap.size, 6, none⟩ (.int .i8 u.k)).setCell ⟨w.heap.size, 7, none⟩ (.slice a u.ks.length c)) b := by
    rintro b (hb | hb)
    · exact .inl hb
    · exact .inr (by simpa using hb)
  have hC : ∀ b o, OldNew (fun b => b < B) (w.heap.size + 2) wx b → ((wx.setCell ⟨w.heap.size, 6, none⟩ (.int .i8 u.k)).setCell ⟨w.heap.size, 7, none⟩ (.slice a u.ks.length c)).cell? ⟨b, o, none⟩ = wx.cell? ⟨b, o, none⟩ := by
    intro b o hb
    have hne : w.heap.size ≠ b := by
      rcases hb with hb | hb <;> omega
    exact (World.cell?_setCell_far _ _ _ _ (by show w.heap.size ≠ b; exact hne)).trans (World.cell?_setCell_far _ _ _ _ (by show w.heap.size ≠ b; exact hne))
  have hbel := h.below
  have hlt := h.lt
  exact { c0 := by simp [go_sem, h.c6, h.c7, h.b6, h.b7, h.c0], c1 := by simp [go_sem, h.c6, h.c7, h.b6, h.b7, h.c1], c2 := by simp [go_sem, h.c6, h.c7, h.b6, h.b7, h.c2], c3 := by simp [go_sem, h.c6, h.c7, h.b6, h.b7, h.c3], c4 := by simp [go_sem, h.c6, h.c7, h.b6, h.b7, h.c4], c5 := by simp [go_sem, h.c6, h.c7, h.b6, h.b7, h.c5], c6 := by simp [go_sem, h.c6, h.c7, h.b6, h.b7, h.c6], c7 := by simp [go_sem, h.c6, h.c7, h.b6, h.b7, h.c7], c8 := by simp [go_sem, h.c6, h.c7, h.b6, h.b7, h.c8], c9 := by simp [go_sem, h.c6, h.c7, h.b6, h.b7, h.c9], c10 := by simp [go_sem, h.c6, h.c7, h.b6, h.b7, h.c10], b4 := by simp [go_sem, h.c6, h.c7, h.b6, h.b7, h.b4], b5 := by simp [go_sem, h.c6, h.c7, h.b6, h.b7, h.b5], b6 := by simp [go_sem, h.c6, h.c7, h.b6, h.b7, h.b6], b7 := by simp [go_sem, h.c6, h.c7, h.b6, h.b7, h.b7], b10 := by simp [go_sem, h.c6, h.c7, h.b6, h.b7, h.b10], r0 := by simp [go_sem, h.c6, h.c7, h.b6, h.b7, h.r0], f0 := by simp [go_sem, h.c6, h.c7, h.b6, h.b7, h.f0], r1 := by simp [go_sem, h.c6, h.c7, h.b6, h.b7, h.r1], f1 := by simp [go_sem, h.c6, h.c7, h.b6, h.b7, h.f1], r2 := by simp [go_sem, h.c6, h.c7, h.b6, h.b7, h.r2], f2 := by simp [go_sem, h.c6, h.c7, h.b6, h.b7, h.f2], r3 := by simp [go_sem, h.c6, h.c7, h.b6, h.b7, h.r3], f3 := by simp [go_sem, h.c6, h.c7, h.b6, h.b7, h.f3], r4 := by simp [go_sem, h.c6, h.c7, h.b6, h.b7, h.r4], f4 := by simp [go_sem, h.c6, h.c7, h.b6, h.b7, h.f4], r5 := by simp [go_sem, h.c6, h.c7, h.b6, h.b7, h.r5], f5 := by simp [go_sem, h.c6, h.c7, h.b6, h.b7, h.f5], r6 := by simp [go_sem, h.c6, h.c7, h.b6, h.b7, h.r6], f6 := by simp [go_sem, h.c6, h.c7, h.b6, h.b7, h.f6], r7 := by simp [go_sem, h.c6, h.c7, h.b6, h.b7, h.r7], f7 := by simp [go_sem, h.c6, h.c7, h.b6, h.b7, h.f7], r8 := by simp [go_sem, h.c6, h.c7, h.b6, h.b7, h.r8], f8 := by simp [go_sem, h.c6, h.c7, h.b6, h.b7, h.f8], r9 := by simp [go_sem, h.c6, h.c7, h.b6, h.b7, h.r9], f9 := by simp [go_sem, h.c6, h.c7, h.b6, h.b7, h.f9], r10 := by simp [go_sem, h.c6, h.c7, h.b6, h.b7, h.r10], f10 := by simp [go_sem, h.c6, h.c7, h.b6, h.b7, h.f10], iny := h.iny.mono hS hC, inz := hu.mono hS hC, lt := by simpa using h.lt, below := by (repeat (first | assumption | exact Below.refl _ _ | apply below_drewN | apply Below.drew | (refine Below.alloc ?_ (by first | omega | (simp; done) | (simp; omega)) _) | (refine Below.setCell ?_ (by first | omega | (simp; done) | (simp; omega)) _))) }
def LessTPost (l : List Bool) (t : RTm) (n B : Nat) (w : World) (e : Ending) (w' : World) : Prop :=
  ∃ s, e = .returned (.tuple #[(t.lessen l n).1.v s, .int .i64 ((t.lessen l n).2 : Nat)]) ∧ (t.lessen l n).1.InS w' (OldNew (fun b => b < B) w.heap.size w') s ∧ Below w.heap.size w w'
theorem infoTm : (Try.prog.info? 28).map (fun i => (i.zero, i.size, i.bytes)) = some (some (.agg #[.int .i8 0, .string ⟨#[]⟩, .string ⟨#[]⟩, .int .i64 0, .int .i8 0, .slice none 0 0, .int .i8 0, .slice none 0 0, .int .i64 0, .int .i64 0, .slice none 0 0]), 11, 152) := by kernel_rfl
theorem RTm.right_small {t : RTm} (h : t.right = true) : t.ks.length ≤ 3 := by
  have h1 := RTm.right_len h
  have h2 : kidsOf t.k ≤ 3 := by unfold kidsOf; split <;> (try split) <;> (try split) <;> omega
  omega
theorem annFrom_hasFrom {k : Int} (h : annFrom k = true) : hasFrom k = true := by
  unfold annFrom at h; unfold hasFrom
  simp only [Bool.or_eq_true, beq_iff_eq] at h ⊢
  omega
theorem annTo_hasTo {k : Int} (h : annTo k = true) : hasTo k = true := by
  unfold annTo at h; unfold hasTo
  simp only [Bool.or_eq_true, beq_iff_eq] at h ⊢
  omega
theorem RTm.lessTy_count (l : List Bool) (t : RTm) (n : Nat) : (t.lessTy l n).2 ≤ n + (if hasFrom t.k then t.ty.nodes else 0) := by
  unfold RTm.lessTy
  split
  · rename_i h; rw [if_pos (annFrom_hasFrom h)]; exact RTy.lessen_count l t.ty n
  · simp only; omega
theorem RTm.lessTo_count (l : List Bool) (t : RTm) (n : Nat) : (t.lessTo l n).2 ≤ n + (if hasTo t.k then t.to.nodes else 0) := by
  unfold RTm.lessTo
  split
  · rename_i h; rw [if_pos (annTo_hasTo h)]; exact RTy.lessen_count l t.to n
  · simp only; omega
mutual
theorem RTm.lessen_count (l : List Bool) : ∀ (t : RTm) (n : Nat), (t.lessen l n).2 ≤ n + t.nodes
  | .mk k nm g u ty tz lb p ks, n => by
    have h1 := RTm.lessTy_count l (.mk k nm g u ty tz lb p ks) n
    have h2 := RTm.lessTo_count l (.mk k nm g u ty tz lb p ks) (RTm.lessTy l (.mk k nm g u ty tz lb p ks) n).2
    have h3 := RTm.lessenL_count l ks (RTm.lessTo l (.mk k nm g u ty tz lb p ks) (RTm.lessTy l (.mk k nm g u ty tz lb p ks) n).2).2
    rw [RTm.lessen_eq, RTm.nodes_eq]
    simp only [RTm.ks] at *
    omega
theorem RTm.lessenL_count (l : List Bool) : ∀ (ts : List RTm) (n : Nat), (RTm.lessenL l ts n).2 ≤ n + RTm.nodesL ts
  | [], n => by simp [RTm.lessenL, RTm.nodesL]
  | t :: ts, n => by
    have h1 := RTm.lessen_count l t n
    have h2 := RTm.lessenL_count l ts (t.lessen l n).2
    simp only [RTm.lessenL, RTm.nodesL]
    omega
end
theorem RTm.nodesL_take {ks : List RTm} {j : Nat} {x : RTm} (h : ks[j]? = some x) : RTm.nodesL (ks.take j) + x.nodes ≤ RTm.nodesL ks := by
  induction ks generalizing j with
  | nil => simp at h
  | cons u us ih =>
    cases j with
    | zero => simp at h; subst h; simp [RTm.nodesL]
    | succ j =>
      have := ih (j := j) (by simpa using h)
      simp only [List.take_succ_cons, RTm.nodesL]
      omega

set_option maxRecDepth 100000 in
set_option maxHeartbeats 4000000 in
theorem lessened_step (N : Nat) (l : List Bool) (la : Option Addr) (lc : Nat) (ih : ∀ (t : RTm) (n B : Nat) (s : TmSh) (w : World), t.nodes ≤ N → t.In w B s → BoolsAt w B la l → t.right = true → B ≤ w.heap.size → n + t.nodes ≤ 20000 →
      Calls Try.prog 19 #[t.v s, .slice la l.length lc, .int .i64 n] w (LessTPost l t n B w))
    (t : RTm) (n B : Nat) (s : TmSh) (w : World) (hN : t.nodes ≤ N + 1) (hin : t.In w B s) (hl : BoolsAt w B la l) (hrt : t.right = true) (hB : B ≤ w.heap.size) (hn : n + t.nodes ≤ 20000) :
    Calls Try.prog 19 #[t.v s, .slice la l.length lc, .int .i64 n] w (LessTPost l t n B w) := by
  have hlen := RTm.right_small hrt
  have hlenl := hl.1
  have hE := Lib.hid (RTm.lessen_eq l t n)
  have hne := t.nodes_eq
  have hc1 := RTm.lessTy_count l t n
  have hc2 := RTm.lessTo_count l t (t.lessTy l n).2
  have hsum : (t.lessTo l (t.lessTy l n).2).2 + RTm.nodesL t.ks ≤ 20000 := by omega
  have hsum1 : (t.lessTy l n).2 + (if hasTo t.k then t.to.nodes else 0) ≤ 20000 := by omega
  have hsum0 : n + (if hasFrom t.k then t.ty.nodes else 0) ≤ 20000 := by omega
  have HSUM := Lib.hid (And.intro hsum (And.intro hsum1 hsum0))
  clear hne hc1 hc2 hsum hsum1 hsum0
  obtain ⟨i0, hi, hz0, hz1, hz2⟩ := info_parts infoTm
  have HI := Lib.hid (And.intro hi (And.intro hz0 (And.intro hz1 hz2)))
  clear hi hz0 hz1 hz2
  have HR := Lib.hid hrt
  clear hrt
  go_enter Try.func19, Try.ntmps19
  go_upto_block 0 with fail
  generalize hW : World.alloc (World.alloc w _) _ = w0
  have hb0 : Below w.heap.size w w0 := by rw [← hW]; (repeat (first | assumption | exact Below.refl _ _ | apply below_drewN | apply Below.drew | (refine Below.alloc ?_ (by first | omega | (simp; done) | (simp; omega)) _) | (refine Below.setCell ?_ (by first | omega | (simp; done) | (simp; omega)) _)))
  have hsz0 : w0.heap.size = w.heap.size + 2 := by rw [← hW]; simp
  have hin0 := hin.below hb0 hB
  have hS0 : ∀ b, b < B → OldNew (fun b => b < B) (w.heap.size + 2) w0 b := fun b hb => .inl hb
  have L0 : LessBox w w0 B t t.ty t.to s := by
    have iy : t.ty.InS w0 (OldNew (fun b => b < B) (w.heap.size + 2) w0) s.ta := RTy.InS.up hin0.ty fun b hb => .inl hb
    have iz : t.to.InS w0 (OldNew (fun b => b < B) (w.heap.size + 2) w0) s.oa := RTy.InS.up hin0.to fun b hb => .inl hb
    have hle : w.heap.size + 2 ≤ w0.heap.size := by omega
    subst hW
    exact { c0 := by simp [go_sem], c1 := by simp [go_sem], c2 := by simp [go_sem], c3 := by simp [go_sem], c4 := by simp [go_sem], c5 := by simp [go_sem], c6 := by simp [go_sem], c7 := by simp [go_sem], c8 := by simp [go_sem], c9 := by simp [go_sem], c10 := by simp [go_sem], b4 := by simp [go_sem], b5 := by simp [go_sem], b6 := by simp [go_sem], b7 := by simp [go_sem], b10 := by simp [go_sem], r0 := by simp [go_sem], f0 := by simp [go_sem], r1 := by simp [go_sem], f1 := by simp [go_sem], r2 := by simp [go_sem], f2 := by simp [go_sem], r3 := by simp [go_sem], f3 := by simp [go_sem], r4 := by simp [go_sem], f4 := by simp [go_sem], r5 := by simp [go_sem], f5 := by simp [go_sem], r6 := by simp [go_sem], f6 := by simp [go_sem], r7 := by simp [go_sem], f7 := by simp [go_sem], r8 := by simp [go_sem], f8 := by simp [go_sem], r9 := by simp [go_sem], f9 := by simp [go_sem], r10 := by simp [go_sem], f10 := by simp [go_sem], iny := iy, inz := iz, lt := hle, below := hb0 }
  clear hW
  go_cut [2] (fun s2 wx => ∃ s' : TmSh, s'.ka = s.ka ∧ s'.kc = s.kc ∧ s2 = .int .i64 ((t.lessTo l (t.lessTy l n).2).2 : Nat) ∧ LessBox w wx B t (t.lessTy l n).1 (t.lessTo l (t.lessTy l n).2).1 s')
  case first =>
    by_cases hf : annFrom t.k = true
    · have hff := annFrom_hasFrom hf
      have hcs : t.k = 5 ∨ t.k = 4 ∨ t.k = 7 ∨ t.k = 12 ∨ t.k = 13 ∨ t.k = 16 := by
        unfold annFrom at hf
        simpa using hf
      rcases hcs with hk | hk | hk | hk | hk | hk
      · have c0 := L0.c0
        rw [hk] at c0
        have c4 := L0.c4
        have c5 := L0.c5
        have hsm := HSUM.out.2.2
        rw [if_pos hff] at hsm
        have e1 := Lib.hid (show t.lessTy l n = t.ty.lessen l n by unfold RTm.lessTy; rw [if_pos hf])
        clear hf
        go_wp2_with fail
        refine (lessen_any l la lc t.ty.nodes t.ty n B s.ta s.tc w0 (Nat.le_refl _) hin0.ty (hl.below hb0 hB) (RTm.right_ty HR.out hff) (by omega) hsm).mono ?_
        rintro e w1 ⟨ya, yc, rfl, hy, hb1⟩
        generalize hX : t.ty.lessen l n = X at *
        obtain ⟨y, ny⟩ := X
        simp only at hy ⊢
        have L1 := L0.on hB hb1
        have hy1 : y.InS w1 (OldNew (fun b => b < B) (w.heap.size + 2) w1) ya := hy.up fun b hb => .inr ⟨by omega, hb.2⟩
        have c4 := L1.c4
        have c5 := L1.c5
        have b4 := L1.b4
        have b5 := L1.b5
        go_upto_region 4 with fail
        generalize hW : World.setCell (World.setCell w1 _ _) _ _ = w2
        have L2 : LessBox w w2 B t y t.to { s with ta := ya, tc := yc } := by rw [← hW]; exact L1.setTy hB hy1
        have hs12 : w2.heap.size = w1.heap.size := by rw [← hW]; simp
        clear hW hX
        have e2 := Lib.hid (show t.lessTo l ny = t.to.lessen l ny by unfold RTm.lessTo; rw [if_pos (by unfold annTo; rw [hk]; decide)])
        have hsm := HSUM.out.2.1
        rw [e1.out, if_pos (by rw [hk]; decide)] at hsm
        have hrto := RTm.right_to HR.out (by rw [hk]; decide)
        have c6 := L2.c6
        have c7 := L2.c7
        have hb2 := L2.below
        have hsz2 := L2.lt
        clear hs12 hk
        go_wp2_with fail
        refine (lessen_any l la lc t.to.nodes t.to ny B s.oa s.oc w2 (Nat.le_refl _) (hin.below hb2 hB).to (hl.below hb2 hB) hrto (by omega) hsm).mono ?_
        rintro e w3 ⟨za, zc, rfl, hz, hb3⟩
        generalize hX : t.to.lessen l ny = X at *
        obtain ⟨z, nz⟩ := X
        simp only at hz ⊢
        have L3 := L2.on hB hb3
        have hz3 : z.InS w3 (OldNew (fun b => b < B) (w.heap.size + 2) w3) za := hz.up fun b hb => .inr ⟨by omega, hb.2⟩
        have c6 := L3.c6
        have c7 := L3.c7
        have b6 := L3.b6
        have b7 := L3.b7
        clear hX
        go_wp2_with fail
        go_meet
        rw [e1.out]
        dsimp only
        rw [e2.out]
        exact ⟨{ s with ta := ya, tc := yc, oa := za, oc := zc }, rfl, rfl, rfl, L3.setTo hB hz3⟩
      · have c0 := L0.c0
        rw [hk] at c0
        have c4 := L0.c4
        have c5 := L0.c5
        have hsm := HSUM.out.2.2
        rw [if_pos hff] at hsm
        have e1 := Lib.hid (show t.lessTy l n = t.ty.lessen l n by unfold RTm.lessTy; rw [if_pos hf])
        clear hf
        go_wp2_with fail
        refine (lessen_any l la lc t.ty.nodes t.ty n B s.ta s.tc w0 (Nat.le_refl _) hin0.ty (hl.below hb0 hB) (RTm.right_ty HR.out hff) (by omega) hsm).mono ?_
        rintro e w1 ⟨ya, yc, rfl, hy, hb1⟩
        generalize hX : t.ty.lessen l n = X at *
        obtain ⟨y, ny⟩ := X
        simp only at hy ⊢
        have L1 := L0.on hB hb1
        have hy1 : y.InS w1 (OldNew (fun b => b < B) (w.heap.size + 2) w1) ya := hy.up fun b hb => .inr ⟨by omega, hb.2⟩
        have c4 := L1.c4
        have c5 := L1.c5
        have b4 := L1.b4
        have b5 := L1.b5
        have e2 := Lib.hid (show t.lessTo l ny = (t.to, ny) by unfold RTm.lessTo; rw [if_neg (by unfold annTo; rw [hk]; decide)])
        clear hk hX
        go_wp2_with fail
        go_meet
        rw [e1.out]
        dsimp only
        rw [e2.out]
        exact ⟨{ s with ta := ya, tc := yc }, rfl, rfl, rfl, L1.setTy hB hy1⟩
      · have c0 := L0.c0
        rw [hk] at c0
        have c4 := L0.c4
        have c5 := L0.c5
        have hsm := HSUM.out.2.2
        rw [if_pos hff] at hsm
        have e1 := Lib.hid (show t.lessTy l n = t.ty.lessen l n by unfold RTm.lessTy; rw [if_pos hf])
        clear hf
        go_wp2_with fail
        refine (lessen_any l la lc t.ty.nodes t.ty n B s.ta s.tc w0 (Nat.le_refl _) hin0.ty (hl.below hb0 hB) (RTm.right_ty HR.out hff) (by omega) hsm).mono ?_
        rintro e w1 ⟨ya, yc, rfl, hy, hb1⟩
        generalize hX : t.ty.lessen l n = X at *
        obtain ⟨y, ny⟩ := X
        simp only at hy ⊢
        have L1 := L0.on hB hb1
        have hy1 : y.InS w1 (OldNew (fun b => b < B) (w.heap.size + 2) w1) ya := hy.up fun b hb => .inr ⟨by omega, hb.2⟩
        have c4 := L1.c4
        have c5 := L1.c5
        have b4 := L1.b4
        have b5 := L1.b5
        have e2 := Lib.hid (show t.lessTo l ny = (t.to, ny) by unfold RTm.lessTo; rw [if_neg (by unfold annTo; rw [hk]; decide)])
        clear hk hX
        go_wp2_with fail
        go_meet
        rw [e1.out]
        dsimp only
        rw [e2.out]
        exact ⟨{ s with ta := ya, tc := yc }, rfl, rfl, rfl, L1.setTy hB hy1⟩
      · have c0 := L0.c0
        rw [hk] at c0
        have c4 := L0.c4
        have c5 := L0.c5
        have hsm := HSUM.out.2.2
        rw [if_pos hff] at hsm
        have e1 := Lib.hid (show t.lessTy l n = t.ty.lessen l n by unfold RTm.lessTy; rw [if_pos hf])
        clear hf
        go_wp2_with fail
        refine (lessen_any l la lc t.ty.nodes t.ty n B s.ta s.tc w0 (Nat.le_refl _) hin0.ty (hl.below hb0 hB) (RTm.right_ty HR.out hff) (by omega) hsm).mono ?_
        rintro e w1 ⟨ya, yc, rfl, hy, hb1⟩
        generalize hX : t.ty.lessen l n = X at *
        obtain ⟨y, ny⟩ := X
        simp only at hy ⊢
        have L1 := L0.on hB hb1
        have hy1 : y.InS w1 (OldNew (fun b => b < B) (w.heap.size + 2) w1) ya := hy.up fun b hb => .inr ⟨by omega, hb.2⟩
        have c4 := L1.c4
        have c5 := L1.c5
        have b4 := L1.b4
        have b5 := L1.b5
        have e2 := Lib.hid (show t.lessTo l ny = (t.to, ny) by unfold RTm.lessTo; rw [if_neg (by unfold annTo; rw [hk]; decide)])
        clear hk hX
        go_wp2_with fail
        go_meet
        rw [e1.out]
        dsimp only
        rw [e2.out]
        exact ⟨{ s with ta := ya, tc := yc }, rfl, rfl, rfl, L1.setTy hB hy1⟩
      · have c0 := L0.c0
        rw [hk] at c0
        have c4 := L0.c4
        have c5 := L0.c5
        have hsm := HSUM.out.2.2
        rw [if_pos hff] at hsm
        have e1 := Lib.hid (show t.lessTy l n = t.ty.lessen l n by unfold RTm.lessTy; rw [if_pos hf])
        clear hf
        go_wp2_with fail
        refine (lessen_any l la lc t.ty.nodes t.ty n B s.ta s.tc w0 (Nat.le_refl _) hin0.ty (hl.below hb0 hB) (RTm.right_ty HR.out hff) (by omega) hsm).mono ?_
        rintro e w1 ⟨ya, yc, rfl, hy, hb1⟩
        generalize hX : t.ty.lessen l n = X at *
        obtain ⟨y, ny⟩ := X
        simp only at hy ⊢
        have L1 := L0.on hB hb1
        have hy1 : y.InS w1 (OldNew (fun b => b < B) (w.heap.size + 2) w1) ya := hy.up fun b hb => .inr ⟨by omega, hb.2⟩
        have c4 := L1.c4
        have c5 := L1.c5
        have b4 := L1.b4
        have b5 := L1.b5
        have e2 := Lib.hid (show t.lessTo l ny = (t.to, ny) by unfold RTm.lessTo; rw [if_neg (by unfold annTo; rw [hk]; decide)])
        clear hk hX
        go_wp2_with fail
        go_meet
        rw [e1.out]
        dsimp only
        rw [e2.out]
        exact ⟨{ s with ta := ya, tc := yc }, rfl, rfl, rfl, L1.setTy hB hy1⟩
      · have c0 := L0.c0
        rw [hk] at c0
        have c4 := L0.c4
        have c5 := L0.c5
        have hsm := HSUM.out.2.2
        rw [if_pos hff] at hsm
        have e1 := Lib.hid (show t.lessTy l n = t.ty.lessen l n by unfold RTm.lessTy; rw [if_pos hf])
        clear hf
        go_wp2_with fail
        refine (lessen_any l la lc t.ty.nodes t.ty n B s.ta s.tc w0 (Nat.le_refl _) hin0.ty (hl.below hb0 hB) (RTm.right_ty HR.out hff) (by omega) hsm).mono ?_
        rintro e w1 ⟨ya, yc, rfl, hy, hb1⟩
        generalize hX : t.ty.lessen l n = X at *
        obtain ⟨y, ny⟩ := X
        simp only at hy ⊢
        have L1 := L0.on hB hb1
        have hy1 : y.InS w1 (OldNew (fun b => b < B) (w.heap.size + 2) w1) ya := hy.up fun b hb => .inr ⟨by omega, hb.2⟩
        have c4 := L1.c4
        have c5 := L1.c5
        have b4 := L1.b4
        have b5 := L1.b5
        have e2 := Lib.hid (show t.lessTo l ny = (t.to, ny) by unfold RTm.lessTo; rw [if_neg (by unfold annTo; rw [hk]; decide)])
        clear hk hX
        go_wp2_with fail
        go_meet
        rw [e1.out]
        dsimp only
        rw [e2.out]
        exact ⟨{ s with ta := ya, tc := yc }, rfl, rfl, rfl, L1.setTy hB hy1⟩
    · have hf' : annFrom t.k = false := by simpa using hf
      have hne : ¬ t.k = 5 ∧ ¬ t.k = 4 ∧ ¬ t.k = 7 ∧ ¬ t.k = 12 ∧ ¬ t.k = 13 ∧ ¬ t.k = 16 := by
        unfold annFrom at hf'
        simpa using hf'
      obtain ⟨h5, h4, h7, h12, h13, h16⟩ := hne
      have e1 := Lib.hid (show t.lessTy l n = (t.ty, n) by unfold RTm.lessTy; rw [if_neg (by rw [hf']; simp)])
      have e2 := Lib.hid (show t.lessTo l n = (t.to, n) by unfold RTm.lessTo; rw [if_neg (by unfold annTo; simpa using h5)])
      have q5 : (t.k == 5) = false := by simp [h5]
      have q4 : (t.k == 4) = false := by simp [h4]
      have q7 : (t.k == 7) = false := by simp [h7]
      have q12 : (t.k == 12) = false := by simp [h12]
      have q13 : (t.k == 13) = false := by simp [h13]
      have q16 : (t.k == 16) = false := by simp [h16]
      have c0 := L0.c0
      clear hf hf' h5 h4 h7 h12 h13 h16
      go_wp2_with fail
      go_meet
      rw [e1.out]
      dsimp only
      rw [e2.out]
      exact ⟨s, rfl, rfl, rfl, L0⟩
  case rest =>
    obtain ⟨wa, rfl⟩ : ∃ wa : World, wa = wc := ⟨_, rfl⟩
    obtain ⟨s1, hka, hkc, rfl, L1⟩ := hcut
    have hsum := HSUM.out.1
    clear HSUM L0
    generalize hy0 : (t.lessTy l n).1 = y at *
    generalize hz0 : (t.lessTo l (t.lessTy l n).2).1 = z at *
    generalize hm0 : (t.lessTo l (t.lessTy l n).2).2 = m at *
    clear hy0 hz0 hm0 hin0 hS0 hb0 hsz0
    have c10 := L1.c10
    rw [hka, hkc] at c10
    have HKA := Lib.hid (And.intro hka hkc)
    clear hka hkc
    have hwa := L1.lt
    have hbwa := L1.below
    go_wp2_with fail
    go_loopw [2, 8, 52] (fun s2 s8 i wr => ∃ j : Nat, j ≤ t.ks.length ∧ i = .int .i64 j ∧ s2 = .int .i64 ((RTm.lessenL l (t.ks.take j) m).2 : Nat) ∧ ∃ cs, OwnTms wr wa.heap.size 28 (OldNew (fun b => b < B) wa.heap.size wr) s8 (RTm.lessenL l (t.ks.take j) m).1 cs ∧ Below wa.heap.size wa wr) (fun _ _ i _ => t.ks.length - (intOf i).toNat)
    case atStart => exact ⟨0, by omega, rfl, rfl, [], by simpa [RTm.lessenL] using OwnTms.nil _ _ _ _, Below.refl _ _⟩
    case round =>
      obtain ⟨j, hj, rfl, rfl, cs, hown, hba⟩ := hrel
      have hsa := hba.size
      have hbw := hbwa.trans (hba.mono hbwa.size)
      by_cases hlt : j < t.ks.length
      · have hk := List.getElem?_eq_getElem hlt
        generalize hkid : t.ks[j] = kid at hk
        have HT := Lib.hid (show t.ks.take (j + 1) = t.ks.take j ++ [kid] by rw [List.take_add_one, hk]; rfl)
        obtain ⟨kb, ko, ks, hke, hkat⟩ := (hin.below hbw hB).kid hk
        have hnk := RTm.kid_nodes hk
        have hkr := Lib.hid (RTm.right_kid HR.out hk)
        have hcnt := RTm.lessenL_count l (t.ks.take j) m
        have hnt := RTm.nodesL_take hk
        have hkl2 : (RTm.lessenL l (t.ks.take j) m).1.length = j := by rw [RTm.lessenL_length, List.length_take]; omega
        have HL := Lib.hid hkl2
        clear hk hkid hkl2
        generalize hNN : (RTm.lessenL l (t.ks.take j) m).2 = nn at *
        have HNN := Lib.hid hNN
        have hkn : nn + kid.nodes ≤ 20000 := by omega
        clear hNN
        obtain ⟨va, vc, rfl, hva⟩ := hown.shape
        rw [HL.out] at hown
        rw [HL.out, hke]
        have k0 := hkat.c0
        have k1 := hkat.c1
        have k2 := hkat.c2
        have k3 := hkat.c3
        have k4 := hkat.c4
        have k5 := hkat.c5
        have k6 := hkat.c6
        have k7 := hkat.c7
        have k8 := hkat.c8
        have k9 := hkat.c9
        have k10 := hkat.c10
        have hbl := hkat.lt
        have hbl0 : kb < wr.heap.size := by omega
        clear hke
        go_wp2_with fail
        generalize hW : World.alloc (World.alloc wr _) _ = wq
        have hbq : Below wr.heap.size wr wq := by rw [← hW]; (repeat (first | assumption | exact Below.refl _ _ | apply below_drewN | apply Below.drew | (refine Below.alloc ?_ (by first | omega | (simp; done) | (simp; omega)) _) | (refine Below.setCell ?_ (by first | omega | (simp; done) | (simp; omega)) _)))
        have hzq : wq.heap.size = wr.heap.size + 1 + 1 := by rw [← hW]; simp
        have Z : AtRow wq (wr.heap.size + 1) (.int .i8 0) (.string ⟨#[]⟩) (.string ⟨#[]⟩) (.int .i64 0) (.int .i8 0) (.slice none 0 0) (.int .i8 0) (.slice none 0 0) (.int .i64 0) (.int .i64 0) (.slice none 0 0) := by rw [← hW]; exact { c0 := by simp [go_sem], f0 := by simp [go_sem], c1 := by simp [go_sem], f1 := by simp [go_sem], c2 := by simp [go_sem], f2 := by simp [go_sem], c3 := by simp [go_sem], f3 := by simp [go_sem], c4 := by simp [go_sem], f4 := by simp [go_sem], c5 := by simp [go_sem], f5 := by simp [go_sem], c6 := by simp [go_sem], f6 := by simp [go_sem], c7 := by simp [go_sem], f7 := by simp [go_sem], c8 := by simp [go_sem], f8 := by simp [go_sem], c9 := by simp [go_sem], f9 := by simp [go_sem], c10 := by simp [go_sem], f10 := by simp [go_sem] }
        clear hW k0 k1 k2 k3 k4 k5 k6 k7 k8 k9 k10
        have hbwq := hbw.trans (hbq.mono hbw.size)
        refine (ih kid nn B ks wq (by omega) (hkat.inn.below hbq (by omega)) (hl.below hbwq hB) hkr.out (by omega) hkn).mono ?_
        rintro e w1 ⟨xs, rfl, hx, hb1⟩
        generalize hX : kid.lessen l nn = X at *
        obtain ⟨x, nx⟩ := X
        have HX := Lib.hid hX
        clear hX
        simp only at hx ⊢
        have hs1 := hb1.size
        have Z1 := Z.on hb1 (by omega)
        have z0 := Z1.c0
        have g0 := Z1.f0
        have z1 := Z1.c1
        have g1 := Z1.f1
        have z2 := Z1.c2
        have g2 := Z1.f2
        have z3 := Z1.c3
        have g3 := Z1.f3
        have z4 := Z1.c4
        have g4 := Z1.f4
        have z5 := Z1.c5
        have g5 := Z1.f5
        have z6 := Z1.c6
        have g6 := Z1.f6
        have z7 := Z1.c7
        have g7 := Z1.f7
        have z8 := Z1.c8
        have g8 := Z1.f8
        have z9 := Z1.c9
        have g9 := Z1.f9
        have z10 := Z1.c10
        have g10 := Z1.f10
        go_upto_region 17 with fail
        generalize hW : World.setCell _ _ _ = w2
        have hzw : w2.heap.size = w1.heap.size := by rw [← hW]; exact AtRow.store_size
        have hb2 : Below wr.heap.size wr w2 := by
          rw [← hW]
          exact AtRow.store_below (hbq.trans (hb1.mono (by omega))) (by omega)
        have D : AtRow w2 (wr.heap.size + 1) (.int .i8 x.k) (.string x.name) (.string x.arg) (.int .i64 x.num) (.int .i8 x.ty.k) (.slice xs.ta x.ty.ks.length xs.tc) (.int .i8 x.to.k) (.slice xs.oa x.to.ks.length xs.oc) (.int .i64 x.label) (.int .i64 x.spot) (.slice xs.ka x.ks.length xs.kc) := by rw [← hW]; exact Z1.store
        have d0 := D.c0
        have d1 := D.c1
        have d2 := D.c2
        have d3 := D.c3
        have d4 := D.c4
        have d5 := D.c5
        have d6 := D.c6
        have d7 := D.c7
        have d8 := D.c8
        have d9 := D.c9
        have d10 := D.c10
        have hx2 : x.InS w2 (OldNew (fun b => b < B) wr.heap.size w2) xs := by
          refine hx.mono (fun b hb => ?_) fun b o hb => ?_
          · rcases hb with hb | hb
            · exact .inl hb
            · exact .inr (by omega)
          · have hne : wr.heap.size + 1 ≠ b := by
              rcases hb with hb | hb
              · have hb : b < B := hb
                omega
              · omega
            rw [← hW]
            exact AtRow.store_far hne
        clear hW Z Z1 z0 g0 z1 g1 z2 g2 z3 g3 z4 g4 z5 g5 z6 g6 z7 g7 z8 g8 z9 g9 z10 g10
        have hl3 : wr.heap.size + 1 < w2.heap.size := by omega
        have hsz2 := hb2.size
        clear hzw hzq
        have hown1 : Hid (∀ o : Obj, (w2.alloc o).ownsRow wa.heap.size 28 11 (.slice va j vc) j cs) := fun o => by
          have h := hown.own
          rw [HL.out] at h
          exact (World.ownsRow.alloc (h.kept (w' := w2) (row := none) ⟨hb2.os, hb2.tape, hb2.output, hb2.size, fun k hk _ => hb2.block k hk⟩ (by cases Value.ownBlock (Value.slice va j vc) <;> simp)) o)
        go_wp2_with (go_loud (at_builtin; refine wpList_append_lies _ rfl _ _ 26 rfl wa.heap.size 28 i0 _ 11 152 Try.underlying26 HI.out.1 HI.out.2.1 HI.out.2.2.1 HI.out.2.2.2 rfl (by omega) (.slice va j vc) j cs rfl (hown1.out _) ⟨w2.heap.size, 0, none⟩ 1 1 [.int .i8 x.k, .string x.name, .string x.arg, .int .i64 x.num, .int .i8 x.ty.k, .slice xs.ta x.ty.ks.length xs.tc, .int .i8 x.to.k, .slice xs.oa x.to.ks.length xs.oc, .int .i64 x.label, .int .i64 x.spot, .slice xs.ka x.ks.length xs.kc] rfl rfl (World.news_of_block (cs := #[.int .i8 x.k, .string x.name, .string x.arg, .int .i64 x.num, .int .i8 x.ty.k, .slice xs.ta x.ty.ks.length xs.tc, .int .i8 x.to.k, .slice xs.oa x.to.ks.length xs.oc, .int .i64 x.label, .int .i64 x.spot, .slice xs.ka x.ks.length xs.kc]) (t := 28) (fr := (0, 0)) (heap_alloc_new w2 _)) (by simp [Value.oneCell']) (by omega) (by unfold maxLen; omega) (by omega) (by rw [World.size_alloc]; omega) (w2.heap.size + 1) (by rw [World.size_alloc]) ?_; intro g cap w3 hown2 hgrow hat hlt2))
        have hpush := hown.step (s := xs) (t := x) (fun b hb => by have hb : b < B := hb; have := hbwa.size; omega) hb2 hsa hx2 (by rw [HL.out]) hown2 hgrow hat
        have hfar := hown.far hb2 hsa hgrow
        have hsnoc := RTm.lessenL_snoc l kid (t.ks.take j) m
        rw [HNN.out, HX.out, ← HT.out] at hsnoc
        have e1 : (RTm.lessenL l (t.ks.take (j + 1)) m).1 = (RTm.lessenL l (t.ks.take j) m).1 ++ [x] := by rw [hsnoc]
        have e2 : (RTm.lessenL l (t.ks.take (j + 1)) m).2 = nx := by rw [hsnoc]
        refine ⟨⟨j + 1, by omega, by go_num, by rw [e2], cs ++ x.cells xs, ?_, hba.trans hfar⟩, by simp [intOf]; omega⟩
        rw [e1]
        exact hpush
      · have : j = t.ks.length := by omega
        subst this
        rw [List.take_length] at hown
        rw [List.take_length]
        have hel : (RTm.lessenL l t.ks m).1.length = t.ks.length := RTm.lessenL_length l t.ks m
        have HEL := Lib.hid hel
        clear hel
        have hown0 := hown
        obtain ⟨va, vc, rfl, hva⟩ := hown.shape
        obtain ⟨va', vc', hve, hins⟩ := hown0.insS (OldNew (fun b => b < B) wa.heap.size wr) (fun b hb => hb) (fun b hb => .inr (by have := hown0.own.lt b hb; omega))
        simp only [Value.slice.injEq, true_and] at hve
        obtain ⟨rfl, rfl⟩ := hve
        have LR := L1.on hB hba
        rw [HEL.out]
        rw [HEL.out] at hown0
        have c0 := LR.c0
        have c1 := LR.c1
        have c2 := LR.c2
        have c3 := LR.c3
        have c4 := LR.c4
        have c5 := LR.c5
        have c6 := LR.c6
        have c7 := LR.c7
        have c8 := LR.c8
        have c9 := LR.c9
        have r0 := LR.r0
        have f0 := LR.f0
        have r1 := LR.r1
        have f1 := LR.f1
        have r2 := LR.r2
        have f2 := LR.f2
        have r3 := LR.r3
        have f3 := LR.f3
        have r4 := LR.r4
        have f4 := LR.f4
        have r5 := LR.r5
        have f5 := LR.f5
        have r6 := LR.r6
        have f6 := LR.f6
        have r7 := LR.r7
        have f7 := LR.f7
        have r8 := LR.r8
        have f8 := LR.f8
        have r9 := LR.r9
        have f9 := LR.f9
        have r10 := LR.r10
        have f10 := LR.f10
        have c10 := LR.c10
        have b10 := LR.b10
        have RR : AtRow wr (w.heap.size + 1) (.int .i8 0) (.string ⟨#[]⟩) (.string ⟨#[]⟩) (.int .i64 0) (.int .i8 0) (.slice none 0 0) (.int .i8 0) (.slice none 0 0) (.int .i64 0) (.int .i64 0) (.slice none 0 0) := { c0 := r0, f0 := f0, c1 := r1, f1 := f1, c2 := r2, f2 := f2, c3 := r3, f3 := f3, c4 := r4, f4 := f4, c5 := r5, f5 := f5, c6 := r6, f6 := f6, c7 := r7, f7 := f7, c8 := r8, f8 := f8, c9 := r9, f9 := f9, c10 := r10, f10 := f10 }
        have iny := LR.iny
        have inz := LR.inz
        have hltr := LR.lt
        clear L1 LR
        go_wp2_with fail
        generalize hW : World.setCell _ _ _ = w2
        have D : AtRow w2 (w.heap.size + 1) (.int .i8 t.k) (.string t.name) (.string t.arg) (.int .i64 t.num) (.int .i8 y.k) (.slice s1.ta y.ks.length s1.tc) (.int .i8 z.k) (.slice s1.oa z.ks.length s1.oc) (.int .i64 t.label) (.int .i64 t.spot) (.slice va t.ks.length vc) := by rw [← hW]; exact (RR.far (by show w.heap.size ≠ w.heap.size + 1; omega)).store
        have hb2 : Below w.heap.size w w2 := by
          rw [← hW]
          exact AtRow.store_below (Below.setCell hbw (by show w.heap.size ≤ w.heap.size; omega) _) (by omega)
        have hs2 : w2.heap.size = wr.heap.size := by rw [← hW]; exact AtRow.store_size.trans (by simp)
        have hC : ∀ b o, OldNew (fun b => b < B) (w.heap.size + 2) wr b → w2.cell? ⟨b, o, none⟩ = wr.cell? ⟨b, o, none⟩ := by
          intro b o hb
          have hne : w.heap.size + 1 ≠ b ∧ w.heap.size ≠ b := by
            rcases hb with hb | hb
            · have hb : b < B := hb
              omega
            · omega
          rw [← hW]
          exact (AtRow.store_far hne.1).trans (World.cell?_setCell_far _ _ _ _ (by show w.heap.size ≠ b; exact hne.2))
        have hS : ∀ b, OldNew (fun b => b < B) (w.heap.size + 2) wr b → OldNew (fun b => b < B) w.heap.size w2 b := by
          rintro b (hb | hb)
          · exact .inl hb
          · exact .inr (by omega)
        clear hW RR
        have d0 := D.c0
        have d1 := D.c1
        have d2 := D.c2
        have d3 := D.c3
        have d4 := D.c4
        have d5 := D.c5
        have d6 := D.c6
        have d7 := D.c7
        have d8 := D.c8
        have d9 := D.c9
        have d10 := D.c10
        clear c0 r0 f0 c1 r1 f1 c2 r2 f2 c3 r3 f3 c4 r4 f4 c5 r5 f5 c6 r6 f6 c7 r7 f7 c8 r8 f8 c9 r9 f9 c10 r10 f10
        refine bodyPost_ret (v := .tuple #[.agg #[.int .i8 t.k, .string t.name, .string t.arg, .int .i64 t.num, .int .i8 y.k, .slice s1.ta y.ks.length s1.tc, .int .i8 z.k, .slice s1.oa z.ks.length s1.oc, .int .i64 t.label, .int .i64 t.spot, .slice va t.ks.length vc], .int .i64 ((RTm.lessenL l t.ks m).2 : Nat)]) (by simp [results, Try.results19, go_sem, d0, d1, d2, d3, d4, d5, d6, d7, d8, d9, d10]) rfl ?_
        unfold LessTPost
        rw [hE.out]
        refine ⟨{ s1 with ka := va, kc := vc }, ?_, RTm.InS.of ?_ (iny.mono hS hC) (inz.mono hS hC) ?_, hb2⟩
        · show _ = Ending.returned (.tuple #[.agg #[.int .i8 t.k, .string t.name, .string t.arg, .int .i64 t.num, .int .i8 y.k, .slice s1.ta y.ks.length s1.tc, .int .i8 z.k, .slice s1.oa z.ks.length s1.oc, .int .i64 t.label, .int .i64 t.spot, .slice va (RTm.lessenL l t.ks m).1.length vc], .int .i64 ((RTm.lessenL l t.ks m).2 : Nat)])
          rw [HEL.out]
        · have hfi := hin.fine
          exact ⟨hfi.kind, hfi.name, hfi.arg, hfi.num, hfi.label, hfi.spot, by show (RTm.lessenL l t.ks m).1.length ≤ _; rw [HEL.out]; omega⟩
        · refine (hins.mono (fun b hb => ?_) fun b o hb => hC b o ?_)
          · rcases hb with hb | hb
            · exact .inl hb
            · exact .inr (by omega)
          · rcases hb with hb | hb
            · exact .inl hb
            · exact .inr (by omega)

theorem lessened_any (l : List Bool) (la : Option Addr) (lc : Nat) (N : Nat) : ∀ (t : RTm) (n B : Nat) (s : TmSh) (w : World), t.nodes ≤ N → t.In w B s → BoolsAt w B la l → t.right = true → B ≤ w.heap.size → n + t.nodes ≤ 20000 →
      Calls Try.prog 19 #[t.v s, .slice la l.length lc, .int .i64 n] w (LessTPost l t n B w) := by
  induction N with
  | zero => intro t n B s w h; have := t.nodes_eq; omega
  | succ N ih => exact fun t n B s w hN hin hl hr hB hn => lessened_step N l la lc ih t n B s w hN hin hl hr hB hn
end Go.Proofs.Ytaoodchjggimcaa
