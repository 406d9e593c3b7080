/- Parts of proofs about package rules and what it stands on: contracts of functions, and plain laws. -/
import Derived.WalkKit
import Derived.KernelRfl
import Derived.Below
import Derived.OwnWalk
import Derived.Lib.Hide
import Derived.Test.YtaoodchjggimcaaProg
import Derived.Outline
import Derived.Deep.LoopGhost
import Derived.Deep.RegionHeld3
import Derived.Deep.QuietTactic
import Derived.BigQuiet
import Derived.WalkLawsBesides
import Derived.WalkSpells
import Derived.Defers
import Derived.Recover
import Derived.Laws.Pointers
import Derived.Laws.IdiomStrings

/- What lies in memory: types and terms as trees, read from the cells of a world. -/
namespace Go.Proofs.Ytaoodchjggimcaa
open Go.RowKit

/-- A type as it is written down: a kind and kids, whatever they are. -/
inductive RTy where
  | mk (k : Int) (ks : List RTy)
instance : Inhabited RTy := ⟨.mk 0 []⟩
def RTy.k : RTy → Int | .mk k _ => k
def RTy.ks : RTy → List RTy | .mk _ ks => ks

/-- A kind is an int8; a slice's length. -/
def RTy.Kind8 (k : Int) : Prop := -128 ≤ k ∧ k ≤ 127
def lenMax : Nat := 140737488355328
/- The kids of a type lie, in blocks of S, in the slice that begins at a. -/
mutual
def RTy.InS (w : World) (S : Nat → Prop) (a : Option Addr) : RTy → Prop
  | .mk k ks => RTy.Kind8 k ∧ ks.length ≤ lenMax ∧ RTy.InsS w S a 0 ks
def RTy.InsS (w : World) (S : Nat → Prop) (a : Option Addr) (i : Nat) : List RTy → Prop
  | [] => True
  | t :: ts => (∃ b o a' c', a = some ⟨b, o, none⟩ ∧ S b ∧ w.cell? ⟨b, o + i * 2, none⟩ = some (.int .i8 t.k) ∧
      w.cell? ⟨b, o + i * 2 + 1, none⟩ = some (.slice a' t.ks.length c') ∧ RTy.InS w S a' t) ∧ RTy.InsS w S a (i + 1) ts
end
/-- .. below block B. -/
def RTy.In (w : World) (B : Nat) (a : Option Addr) (t : RTy) : Prop := t.InS w (fun b => b < B) a

theorem RTy.InS.ins {w : World} {S : Nat → Prop} {a : Option Addr} {t : RTy} (h : t.InS w S a) : RTy.InsS w S a 0 t.ks := by
  cases t with
  | mk k ks => unfold RTy.InS at h; exact h.2.2
theorem RTy.InS.len {w : World} {S : Nat → Prop} {a : Option Addr} {t : RTy} (h : t.InS w S a) : t.ks.length ≤ 140737488355328 := by
  cases t with
  | mk k ks => unfold RTy.InS at h; exact h.2.1
theorem RTy.InS.kind {w : World} {S : Nat → Prop} {a : Option Addr} {t : RTy} (h : t.InS w S a) : -128 ≤ t.k ∧ t.k ≤ 127 := by
  cases t with
  | mk k ks => unfold RTy.InS at h; exact h.1
theorem RTy.In.len {w : World} {B : Nat} {a : Option Addr} {t : RTy} (h : t.In w B a) : t.ks.length ≤ 140737488355328 := RTy.InS.len h
theorem RTy.In.kind {w : World} {B : Nat} {a : Option Addr} {t : RTy} (h : t.In w B a) : -128 ≤ t.k ∧ t.k ≤ 127 := RTy.InS.kind h

theorem RTy.InsS.get {w : World} {S : Nat → Prop} {a : Option Addr} : ∀ {ts : List RTy} {i : Nat}, RTy.InsS w S a i ts → ∀ (j : Nat) (t : RTy), ts[j]? = some t →
    ∃ b o a' c', a = some ⟨b, o, none⟩ ∧ S b ∧ w.cell? ⟨b, o + (i + j) * 2, none⟩ = some (.int .i8 t.k) ∧
      w.cell? ⟨b, o + (i + j) * 2 + 1, none⟩ = some (.slice a' t.ks.length c') ∧ t.InS w S a' := by
  intro ts
  induction ts with
  | nil => intro i h j t ht; simp at ht
  | cons x ts ih =>
    intro i h j t ht
    unfold RTy.InsS at h
    cases j with
    | zero =>
      simp at ht; subst ht
      obtain ⟨b, o, a', c', e, hb, h1, h2, h3⟩ := h.1
      exact ⟨b, o, a', c', e, hb, h1, h2, h3⟩
    | succ j =>
      obtain ⟨b, o, a', c', e, hb, h1, h2, h3⟩ := ih h.2 j t (by simpa using ht)
      exact ⟨b, o, a', c', e, hb, by rw [show i + (j + 1) = i + 1 + j by omega]; exact h1, by rw [show i + (j + 1) = i + 1 + j by omega]; exact h2, h3⟩
/-- The row, told place by place. -/
theorem RTy.InsS.mk {w : World} {S : Nat → Prop} {b o : Nat} (hS : S b) : ∀ {ts : List RTy} {i : Nat},
    (∀ (j : Nat) (t : RTy), ts[j]? = some t → ∃ a' c', w.cell? ⟨b, o + (i + j) * 2, none⟩ = some (.int .i8 t.k) ∧ w.cell? ⟨b, o + (i + j) * 2 + 1, none⟩ = some (.slice a' t.ks.length c') ∧ t.InS w S a') →
    RTy.InsS w S (some ⟨b, o, none⟩) i ts := by
  intro ts
  induction ts with
  | nil => intro i _; unfold RTy.InsS; trivial
  | cons x ts ih =>
    intro i h
    unfold RTy.InsS
    obtain ⟨a', c', h1, h2, h3⟩ := h 0 x rfl
    refine ⟨⟨b, o, a', c', rfl, hS, h1, h2, h3⟩, ih fun j t ht => ?_⟩
    obtain ⟨a', c', h1, h2, h3⟩ := h (j + 1) t (by simpa using ht)
    exact ⟨a', c', by rw [show i + 1 + j = i + (j + 1) by omega]; exact h1, by rw [show i + 1 + j = i + (j + 1) by omega]; exact h2, h3⟩

/-- A kid, at its place. -/
theorem RTy.InS.kid {w : World} {S : Nat → Prop} {a : Option Addr} {t : RTy} (h : t.InS w S a) {j : Nat} {x : RTy} (hx : t.ks[j]? = some x) :
    ∃ b o a' c', a = some ⟨b, o, none⟩ ∧ S b ∧ w.cell? ⟨b, o + j * 2, none⟩ = some (.int .i8 x.k) ∧
      w.cell? ⟨b, o + j * 2 + 1, none⟩ = some (.slice a' x.ks.length c') ∧ x.InS w S a' := by
  have := h.ins.get j x hx
  simpa using this
theorem RTy.In.kid {w : World} {B : Nat} {a : Option Addr} {t : RTy} (h : t.In w B a) {j : Nat} {x : RTy} (hx : t.ks[j]? = some x) :
    ∃ b o a' c', a = some ⟨b, o, none⟩ ∧ b < B ∧ w.cell? ⟨b, o + j * 2, none⟩ = some (.int .i8 x.k) ∧
      w.cell? ⟨b, o + j * 2 + 1, none⟩ = some (.slice a' x.ks.length c') ∧ x.In w B a' := RTy.InS.kid h hx

mutual
theorem RTy.InS.mono {w w' : World} {S S' : Nat → Prop} (hS : ∀ b, S b → S' b) (hw : ∀ b o, S b → w'.cell? ⟨b, o, none⟩ = w.cell? ⟨b, o, none⟩) :
    ∀ {t : RTy} {a : Option Addr}, t.InS w S a → t.InS w' S' a
  | .mk k ks, a, h => by
    unfold RTy.InS at h ⊢
    exact ⟨h.1, h.2.1, RTy.InsS.mono hS hw h.2.2⟩
theorem RTy.InsS.mono {w w' : World} {S S' : Nat → Prop} (hS : ∀ b, S b → S' b) (hw : ∀ b o, S b → w'.cell? ⟨b, o, none⟩ = w.cell? ⟨b, o, none⟩) :
    ∀ {ts : List RTy} {a : Option Addr} {i : Nat}, RTy.InsS w S a i ts → RTy.InsS w' S' a i ts
  | [], a, i, h => by unfold RTy.InsS; trivial
  | t :: ts, a, i, h => by
    unfold RTy.InsS at h ⊢
    obtain ⟨⟨b, o, a', c', e, hb, h1, h2, h3⟩, h4⟩ := h
    exact ⟨⟨b, o, a', c', e, hS _ hb, by rw [hw _ _ hb]; exact h1, by rw [hw _ _ hb]; exact h2, RTy.InS.mono hS hw h3⟩, RTy.InsS.mono hS hw h4⟩
end
theorem RTy.InS.up {w : World} {S S' : Nat → Prop} {t : RTy} {a : Option Addr} (h : t.InS w S a) (hS : ∀ b, S b → S' b) : t.InS w S' a :=
  RTy.InS.mono hS (fun _ _ _ => rfl) h
theorem RTy.In.below {w w' : World} {B C : Nat} {t : RTy} {a : Option Addr} (h : t.In w B a) (hb : Below C w w') (hBC : B ≤ C) : t.In w' B a :=
  RTy.InS.mono (fun _ h => h) (fun b o hlt => hb.cell (p := ⟨b, o, none⟩) (by show b < C; omega)) h
theorem RTy.In.up {w : World} {B B' : Nat} {t : RTy} {a : Option Addr} (h : t.In w B a) (hB : B ≤ B') : t.In w B' a :=
  RTy.InS.up h fun b (hb : b < B) => by show b < B'; omega
/-- What lies in blocks of S, all of them below C, lives on where nothing below C turns. -/
theorem RTy.InS.below {w w' : World} {S : Nat → Prop} {C : Nat} {t : RTy} {a : Option Addr} (h : t.InS w S a) (hb : Below C w w') (hS : ∀ b, S b → b < C) : t.InS w' S a :=
  RTy.InS.mono (fun _ h => h) (fun b o hs => hb.cell (p := ⟨b, o, none⟩) (hS b hs)) h
end Go.Proofs.Ytaoodchjggimcaa

/- Plain functions on types. -/
namespace Go.Proofs.Ytaoodchjggimcaa

def partsOf (k : Int) : Int := if k = 0 ∨ k = 1 ∨ k = 2 then 0 else if k = 3 ∨ k = 4 ∨ k = 5 then 2 else -1
mutual
def RTy.nodes : RTy → Nat | .mk _ ks => RTy.nodesL ks + 1
def RTy.nodesL : List RTy → Nat | [] => 0 | t :: ts => t.nodes + RTy.nodesL ts
end
mutual
def RTy.depth : RTy → Nat | .mk _ ks => RTy.depthL ks + 1
def RTy.depthL : List RTy → Nat | [] => 0 | t :: ts => max t.depth (RTy.depthL ts)
end
mutual
def RTy.right : RTy → Bool | .mk k ks => decide (partsOf k = ks.length) && RTy.rightL ks
def RTy.rightL : List RTy → Bool | [] => true | t :: ts => t.right && RTy.rightL ts
end
mutual
def RTy.eqv : RTy → RTy → Bool | .mk k ks, .mk k' ks' => decide (k = k') && RTy.eqvL ks ks'
def RTy.eqvL : List RTy → List RTy → Bool | [], _ => true | _ :: _, [] => false | t :: ts, u :: us => t.eqv u && RTy.eqvL ts us
end
/-- What types.Check answers. -/
def RTy.check (t : RTy) : Int := if 8192 < t.nodes then 32 else if 200 < t.depth then 31 else if t.right then 0 else 20

theorem RTy.nodes_eq (t : RTy) : t.nodes = RTy.nodesL t.ks + 1 := by cases t; simp [RTy.nodes, RTy.ks]
theorem RTy.depth_eq (t : RTy) : t.depth = RTy.depthL t.ks + 1 := by cases t; simp [RTy.depth, RTy.ks]
theorem RTy.right_eq (t : RTy) : t.right = (decide (partsOf t.k = t.ks.length) && RTy.rightL t.ks) := by cases t; rw [RTy.right]; rfl
theorem RTy.eqv_eq (t u : RTy) : t.eqv u = (decide (t.k = u.k) && RTy.eqvL t.ks u.ks) := by cases t; cases u; rw [RTy.eqv]; rfl
theorem RTy.depth_pos (t : RTy) : 1 ≤ t.depth := by rw [RTy.depth_eq]; omega
theorem RTy.nodes_pos (t : RTy) : 1 ≤ t.nodes := by rw [RTy.nodes_eq]; omega

theorem RTy.nodesL_drop {ks : List RTy} {j : Nat} {x : RTy} (h : ks[j]? = some x) : RTy.nodesL (ks.drop j) = x.nodes + RTy.nodesL (ks.drop (j + 1)) := by
  obtain ⟨hl, rfl⟩ := List.getElem?_eq_some_iff.1 h
  rw [List.drop_eq_getElem_cons hl, RTy.nodesL]
theorem RTy.depthL_drop {ks : List RTy} {j : Nat} {x : RTy} (h : ks[j]? = some x) : RTy.depthL (ks.drop j) = max x.depth (RTy.depthL (ks.drop (j + 1))) := by
  obtain ⟨hl, rfl⟩ := List.getElem?_eq_some_iff.1 h
  rw [List.drop_eq_getElem_cons hl, RTy.depthL]
theorem RTy.rightL_drop {ks : List RTy} {j : Nat} {x : RTy} (h : ks[j]? = some x) : RTy.rightL (ks.drop j) = (x.right && RTy.rightL (ks.drop (j + 1))) := by
  obtain ⟨hl, rfl⟩ := List.getElem?_eq_some_iff.1 h
  rw [List.drop_eq_getElem_cons hl, RTy.rightL]
theorem RTy.eqvL_drop {ks us : List RTy} {j : Nat} {x y : RTy} (h : ks[j]? = some x) (h' : us[j]? = some y) : RTy.eqvL (ks.drop j) (us.drop j) = (x.eqv y && RTy.eqvL (ks.drop (j + 1)) (us.drop (j + 1))) := by
  obtain ⟨hl, rfl⟩ := List.getElem?_eq_some_iff.1 h
  obtain ⟨hl', rfl⟩ := List.getElem?_eq_some_iff.1 h'
  rw [List.drop_eq_getElem_cons hl, List.drop_eq_getElem_cons hl', RTy.eqvL]
theorem RTy.rightL_get {ks : List RTy} (hr : RTy.rightL ks = true) : ∀ {j : Nat} {x : RTy}, ks[j]? = some x → x.right = true := by
  induction ks with
  | nil => intro j x h; simp at h
  | cons t ts ih =>
    intro j x h
    simp only [RTy.rightL, Bool.and_eq_true] at hr
    cases j with
    | zero => simp at h; subst h; exact hr.1
    | succ j => exact ih hr.2 (by simpa using h)
theorem RTy.right_len {t : RTy} (h : t.right = true) : partsOf t.k = t.ks.length := by
  rw [RTy.right_eq] at h; simp at h; exact h.1
theorem RTy.right_kids {t : RTy} (h : t.right = true) : RTy.rightL t.ks = true := by
  rw [RTy.right_eq] at h; simp at h; exact h.2
theorem RTy.right_kid {t : RTy} (h : t.right = true) {j : Nat} {x : RTy} (hx : t.ks[j]? = some x) : x.right = true :=
  RTy.rightL_get (RTy.right_kids h) hx

/-- What types.Depth tells. -/
def RTy.dep (t : RTy) : Int := if 8192 < t.nodes then 201 else min (t.depth : Int) 201
def RTy.ok (t : RTy) : Bool := t.check == 0
def RTy.same (t u : RTy) : Bool := t.ok && (u.ok && t.eqv u)
theorem RTy.ok_right {t : RTy} (h : t.ok = true) : t.right = true := by
  unfold RTy.ok RTy.check at h
  split at h
  · simp at h
  · split at h
    · simp at h
    · split at h
      · assumption
      · simp at h
theorem RTy.ok_iff {t : RTy} : t.ok = true ↔ t.nodes ≤ 8192 ∧ t.depth ≤ 200 ∧ t.right = true := by
  unfold RTy.ok RTy.check
  by_cases h1 : 8192 < t.nodes
  · simp [h1]; omega
  · by_cases h2 : 200 < t.depth
    · simp [h1, h2]; omega
    · by_cases h3 : t.right = true
      · simp [h1, h2, h3]; omega
      · simp [h1, h2, h3]

mutual
def RTy.lev : RTy → RTy → Bool | .mk k ks, .mk k' ks' => decide (k = 0) || (decide (k' = 0) || (decide (k = k') && RTy.levL ks ks'))
def RTy.levL : List RTy → List RTy → Bool | [], _ => true | _ :: _, [] => false | t :: ts, u :: us => t.lev u && RTy.levL ts us
end
theorem RTy.lev_eq (t u : RTy) : t.lev u = (decide (t.k = 0) || (decide (u.k = 0) || (decide (t.k = u.k) && RTy.levL t.ks u.ks))) := by cases t; cases u; rw [RTy.lev]; rfl
theorem RTy.levL_drop {ks us : List RTy} {j : Nat} {x y : RTy} (h : ks[j]? = some x) (h' : us[j]? = some y) : RTy.levL (ks.drop j) (us.drop j) = (x.lev y && RTy.levL (ks.drop (j + 1)) (us.drop (j + 1))) := by
  obtain ⟨hl, rfl⟩ := List.getElem?_eq_some_iff.1 h
  obtain ⟨hl', rfl⟩ := List.getElem?_eq_some_iff.1 h'
  rw [List.drop_eq_getElem_cons hl, List.drop_eq_getElem_cons hl', RTy.levL]
def RTy.agree (t u : RTy) : Bool := t.ok && (u.ok && t.lev u)

def RTy.unk : RTy := .mk 0 []
/-- A type's parts, as the gradual rules have them. -/
def RTy.as (k : Int) (t : RTy) : RTy × RTy × Bool :=
  if t.ok = false then (RTy.unk, RTy.unk, false) else if t.k = 0 then (RTy.unk, RTy.unk, true) else if t.k = k then (t.ks.getD 0 RTy.unk, t.ks.getD 1 RTy.unk, true) else (RTy.unk, RTy.unk, false)
theorem RTy.unk_in (w : World) (B : Nat) (a : Option Addr) : RTy.unk.In w B a := by
  unfold RTy.unk RTy.In RTy.InS RTy.InsS
  exact ⟨⟨by omega, by omega⟩, by simp [lenMax], trivial⟩

theorem RTy.kids_two {t : RTy} (hr : t.right = true) (h3 : 3 ≤ t.k) (h5 : t.k ≤ 5) : ∃ x y, t.ks = [x, y] := by
  have h := RTy.right_len hr
  unfold partsOf at h
  rw [if_neg (by omega), if_pos (by omega)] at h
  have h2 : t.ks.length = 2 := by omega
  match ht : t.ks, h2 with
  | [x, y], _ => exact ⟨x, y, rfl⟩
theorem RTy.kids_none {t : RTy} (hr : t.right = true) (h : t.k < 3 ∨ 5 < t.k) : t.ks = [] := by
  have h2 := RTy.right_len hr
  unfold partsOf at h2
  split at h2
  · exact List.eq_nil_of_length_eq_zero (by omega)
  · rw [if_neg (by omega)] at h2; omega

/-- For an induction on how many nodes there are. -/
theorem RTy.kid_nodes {t : RTy} {j : Nat} {x : RTy} (h : t.ks[j]? = some x) : x.nodes < t.nodes := by
  rw [RTy.nodes_eq t]
  have key : ∀ (ks : List RTy) (j : Nat), ks[j]? = some x → x.nodes ≤ RTy.nodesL ks := by
    intro ks
    induction ks with
    | nil => intro j h; simp at h
    | cons u us ih =>
      intro j h
      simp only [RTy.nodesL]
      cases j with
      | zero => simp at h; subst h; omega
      | succ j => have := ih j (by simpa using h); omega
  have := key _ _ h
  omega
end Go.Proofs.Ytaoodchjggimcaa

/- The walks of package types, first part. -/
set_option linter.unusedVariables false
set_option linter.unusedSimpArgs false
namespace Go.Proofs.Ytaoodchjggimcaa
open Go.RowKit

theorem bcell {W w1 : World} {B : Nat} (hb : Below B W w1) : (∀ b o, b < B → w1.cell? ⟨b, o, none⟩ = W.cell? ⟨b, o, none⟩) ∧ (∀ b o, b < B → w1.frozen? ⟨b, o, none⟩ = W.frozen? ⟨b, o, none⟩) :=
  ⟨fun b o h => hb.cell (p := ⟨b, o, none⟩) h, fun b o h => hb.frozen (p := ⟨b, o, none⟩) h⟩

theorem ret_int {k : IntKind} {a b : Int} (h : a = b) : Ending.returned (.int k a) = .returned (.int k b) := by rw [h]
theorem ret_bool {a b : Bool} (h : a = b) : Ending.returned (.bool a) = .returned (.bool b) := by rw [h]

theorem below_drewN {B : Nat} {a w : World} (h : Below B a w) (n : Nat) : Below B a (w.drewN n) := ⟨h.os, h.tape, h.output, h.size, h.block⟩
theorem cell_kept {w w1 : World} (h : Below w.heap.size w w1) {a : Addr} {v : Value} (hc : w.cell? a = some v) : w1.cell? a = some v := (h.cell (World.block_lt_of_cell? w a hc)).trans hc
theorem frozen_kept {w w1 : World} (h : Below w.heap.size w w1) {b o : Nat} (hb : b < w.heap.size) (hf : w.frozen? ⟨b, o, none⟩ = false) : w1.frozen? ⟨b, o, none⟩ = false := (h.frozen (p := ⟨b, o, none⟩) hb).trans hf
theorem below_new (w : World) (o : Obj) : Below w.heap.size w (w.alloc o) := (Below.refl _ _).alloc (Nat.le_refl _) _
theorem quiet_eq {P : Program} {f : FuncId} {args : Array Value} {w : World} {n : Nat} {v : Value}
    (h : Calls P f args (w.drewN n) fun e w' => e = .returned v ∧ w.drewN n = w') : Calls P f args (w.drewN n) fun e w'' => e = .returned v ∧ ∃ m, w'' = w.drewN m :=
  h.mono fun _ _ ⟨he, hm⟩ => ⟨he, n, hm.symm⟩

theorem parts_any (k : Int) (w : World) : Calls Try.prog 135 #[.int .i8 k] w fun e w' => e = .returned (.int .i64 (partsOf k)) ∧ w = w' := by
  by_cases h0 : k = 0
  · subst h0; go_enter Try.func135, Try.ntmps135; go_wp2_with fail; go_ret; exact ⟨rfl, rfl⟩
  by_cases h1 : k = 1
  · subst h1; go_enter Try.func135, Try.ntmps135; go_wp2_with fail; go_ret; exact ⟨rfl, rfl⟩
  by_cases h2 : k = 2
  · subst h2; go_enter Try.func135, Try.ntmps135; go_wp2_with fail; go_ret; exact ⟨rfl, rfl⟩
  by_cases h3 : k = 3
  · subst h3; go_enter Try.func135, Try.ntmps135; go_wp2_with fail; go_ret; exact ⟨rfl, rfl⟩
  by_cases h4 : k = 4
  · subst h4; go_enter Try.func135, Try.ntmps135; go_wp2_with fail; go_ret; exact ⟨rfl, rfl⟩
  by_cases h5 : k = 5
  · subst h5; go_enter Try.func135, Try.ntmps135; go_wp2_with fail; go_ret; exact ⟨rfl, rfl⟩
  have e : partsOf k = -1 := by unfold partsOf; rw [if_neg (by omega), if_neg (by omega)]
  go_enter Try.func135, Try.ntmps135
  go_wp2_with fail
  go_ret
  exact ⟨ret_int e.symm, rfl⟩

theorem deep_any (N : Nat) : ∀ (t : RTy) (B : Nat) (a : Option Addr) (c : Nat) (l : Int) (w : World), t.nodes ≤ N → t.In w B a → B ≤ w.heap.size → 1 ≤ l → l ≤ 201 →
    Calls Try.prog 134 #[.agg #[.int .i8 t.k, .slice a t.ks.length c], .int .i64 l] w fun e w' => e = .returned (.int .i64 (min (t.depth : Int) l)) ∧ Below w.heap.size w w' := by
  induction N with
  | zero => intro t B a c l w h; have := t.nodes_pos; omega
  | succ N ih =>
  intro t B a c l w hN hin hB hl1 hl2
  have hlen := hin.len
  have hdp := t.depth_pos
  by_cases h : l = 1
  · have e : min (t.depth : Int) l = 1 := by omega
    subst h
    go_enter Try.func134, Try.ntmps134
    go_wp2_with fail
    go_ret
    exact ⟨ret_int e.symm, (Below.refl _ _).alloc (Nat.le_refl _) _⟩
  · have h1 : 1 < l := by omega
    have hde := Lib.hid t.depth_eq
    clear h
    go_enter Try.func134, Try.ntmps134
    go_wp2_with fail
    go_loopw [5, 14] (fun d i wr => ∃ j : Nat, j ≤ t.ks.length ∧ i = .int .i64 j ∧ ∃ x : Int, 0 ≤ x ∧ x ≤ l ∧ d = .int .i64 x ∧ max x (min (RTy.depthL (t.ks.drop j) : Int) (l - 1)) = min (RTy.depthL t.ks : Int) (l - 1) ∧ Below w.heap.size w wr) (fun _ i _ => t.ks.length - (intOf i).toNat)
    case atStart => exact ⟨0, by omega, rfl, 0, by omega, by omega, rfl, by simp; omega, (Below.refl _ _).alloc (Nat.le_refl _) _⟩
    case round =>
      obtain ⟨j, hj, rfl, x, hx0, hx1, rfl, hinv, hb⟩ := hrel
      by_cases hlt : j < t.ks.length
      · have hk := List.getElem?_eq_getElem hlt
        generalize hkid : t.ks[j] = kid at hk
        have HK := Lib.hid hk
        obtain ⟨b, o, a', c', rfl, hbB, hc1, hc2, hkin⟩ := (hin.below hb hB).kid hk
        have hnk := RTy.kid_nodes hk
        clear hk hkid
        have HI := Lib.hid hinv
        clear hinv
        have hbs := hb.size
        go_wp2_with fail
        refine (ih kid B a' c' (l - 1) _ (by omega) (hkin.below ((Below.refl _ _).alloc (Nat.le_refl _) _) (by omega)) (by simp; omega) (by omega) (by omega)).mono ?_
        rintro e w1 ⟨rfl, hb1⟩
        go_wp2_with fail
        go_round
        case rel =>
          have hd := RTy.depthL_drop HK.out
          have hi := HI.out
          refine ⟨j + 1, by omega, by go_num, _, ?_, ?_, rfl, ?_, (hb.alloc hb.size _).trans (hb1.mono (by simp; omega))⟩
          · split <;> omega
          · split <;> omega
          · rw [hd] at hi; rw [← hi]; split <;> omega
        case measure => simp [intOf]; omega
      · have : j = t.ks.length := by omega
        subst this
        go_wp2_with fail
        go_ret
        refine ⟨ret_int ?_, hb⟩
        have hd := hde.out
        simp [RTy.depthL] at hinv
        omega

theorem tright_any (N : Nat) : ∀ (t : RTy) (B : Nat) (a : Option Addr) (c : Nat) (w : World), t.nodes ≤ N → t.In w B a → B ≤ w.heap.size →
    Calls Try.prog 80 #[.agg #[.int .i8 t.k, .slice a t.ks.length c]] w fun e w' => e = .returned (.bool t.right) ∧ Below w.heap.size w w' := by
  induction N with
  | zero => intro t B a c w h; have := t.nodes_pos; omega
  | succ N ih =>
  intro t B a c w hN hin hB
  have hlen := hin.len
  have hre := Lib.hid t.right_eq
  by_cases hp : partsOf t.k = t.ks.length
  · have hp' : ((partsOf t.k) != (t.ks.length : Int)) = false := by simp [hp]
    have HP := Lib.hid hp
    clear hp
    go_enter Try.func80, Try.ntmps80
    go_wp2_with fail
    go_quiet ((go_at_call 135; exact quiet_eq (parts_any _ _)))
    go_wp2_with fail
    go_loopw [15] (fun i wr => ∃ j : Nat, j ≤ t.ks.length ∧ i = .int .i64 j ∧ RTy.rightL (t.ks.drop j) = RTy.rightL t.ks ∧ Below w.heap.size w wr) (fun i _ => t.ks.length - (intOf i).toNat)
    case atStart => exact ⟨0, by omega, rfl, by simp, by (repeat (first | assumption | exact Below.refl _ _ | apply below_drewN | apply Below.drew | (refine Below.alloc ?_ (by first | omega | (simp; done) | (simp; omega)) _) | (refine Below.setCell ?_ (by first | omega | (simp; done) | (simp; omega)) _)))⟩
    case round =>
      obtain ⟨j, hj, rfl, hinv, hb⟩ := hrel
      by_cases hlt : j < t.ks.length
      · have hk := List.getElem?_eq_getElem hlt
        generalize hkid : t.ks[j] = kid at hk
        have HK := Lib.hid hk
        obtain ⟨b, o, a', c', rfl, hbB, hc1, hc2, hkin⟩ := (hin.below hb hB).kid hk
        have hnk := RTy.kid_nodes hk
        clear hk hkid
        have HI := Lib.hid hinv
        clear hinv
        have hbs := hb.size
        go_wp2_with fail
        refine (ih kid B a' c' _ (by omega) (hkin.below ((Below.refl _ _).alloc (Nat.le_refl _) _) (by omega)) (by simp; omega)).mono ?_
        rintro e w1 ⟨rfl, hb1⟩
        have hd := RTy.rightL_drop HK.out
        rw [HI.out] at hd
        by_cases hkr : kid.right = true
        · have HD := Lib.hid hd
          clear hd
          go_wp2_with fail
          go_round
          case rel =>
            refine ⟨j + 1, by omega, by go_num, ?_, (hb.alloc hb.size _).trans (hb1.mono (by simp; omega))⟩
            have := HD.out
            rw [hkr] at this; simpa using this.symm
          case measure => simp [intOf]; omega
        · have hkr' : kid.right = false := by simpa using hkr
          clear hkr
          have HD := Lib.hid hd
          clear hd
          go_wp2_with fail
          go_ret
          refine ⟨ret_bool ?_, (hb.alloc hb.size _).trans (hb1.mono (by simp; omega))⟩
          have := HD.out
          rw [hkr'] at this
          rw [hre.out, this]; simp
      · have : j = t.ks.length := by omega
        subst this
        go_wp2_with fail
        go_ret
        refine ⟨ret_bool ?_, hb⟩
        simp [RTy.rightL] at hinv
        rw [hre.out, ← hinv, HP.out]; simp
  · have hp' : ((partsOf t.k) != (t.ks.length : Int)) = true := by simp [hp]
    have e : t.right = false := by rw [hre.out]; simp [hp]
    clear hp
    go_enter Try.func80, Try.ntmps80
    go_wp2_with fail
    go_quiet ((go_at_call 135; exact quiet_eq (parts_any _ _)))
    go_wp2_with fail
    go_ret
    refine ⟨ret_bool e.symm, ?_⟩
    (repeat (first | assumption | exact Below.refl _ _ | apply below_drewN | apply Below.drew | (refine Below.alloc ?_ (by first | omega | (simp; done) | (simp; omega)) _) | (refine Below.setCell ?_ (by first | omega | (simp; done) | (simp; omega)) _)))

theorem equal_any (N : Nat) : ∀ (t u : RTy) (B : Nat) (a a' : Option Addr) (c c' : Nat) (w : World), t.nodes ≤ N → t.In w B a → u.In w B a' → t.right = true → u.right = true → B ≤ w.heap.size →
    Calls Try.prog 51 #[.agg #[.int .i8 t.k, .slice a t.ks.length c], .agg #[.int .i8 u.k, .slice a' u.ks.length c']] w fun e w' => e = .returned (.bool (t.eqv u)) ∧ Below w.heap.size w w' := by
  induction N with
  | zero => intro t u B a a' c c' w h; have := t.nodes_pos; omega
  | succ N ih =>
  intro t u B a a' c c' w hN hin hin' hr hr' hB
  have hlen := hin.len
  have hlen' := hin'.len
  have hre := Lib.hid (t.eqv_eq u)
  by_cases hp : t.k = u.k
  · have hp' : (t.k != u.k) = false := by simp [hp]
    have hll : t.ks.length = u.ks.length := by
      have h1 := RTy.right_len hr
      have h2 := RTy.right_len hr'
      rw [hp] at h1; omega
    have HP := Lib.hid hp
    have HL := Lib.hid hll
    clear hp
    have hle : t.ks.length ≤ u.ks.length := by omega
    clear hll
    have Hr := Lib.hid hr
    have Hr' := Lib.hid hr'
    clear hr hr'
    go_enter Try.func51, Try.ntmps51
    go_wp2_with fail
    go_loopw [14] (fun i wr => ∃ j : Nat, j ≤ t.ks.length ∧ i = .int .i64 j ∧ RTy.eqvL (t.ks.drop j) (u.ks.drop j) = RTy.eqvL t.ks u.ks ∧ Below (w.heap.size + 2) ((w.alloc (Obj.cells #[Value.int IntKind.i8 t.k, Value.slice a t.ks.length c] 25)).alloc (Obj.cells #[Value.int IntKind.i8 u.k, Value.slice a' u.ks.length c'] 25)) wr) (fun i _ => t.ks.length - (intOf i).toNat)
    case atStart => exact ⟨0, by omega, rfl, by simp, by (repeat (first | assumption | exact Below.refl _ _ | apply below_drewN | apply Below.drew | (refine Below.alloc ?_ (by first | omega | (simp; done) | (simp; omega)) _) | (refine Below.setCell ?_ (by first | omega | (simp; done) | (simp; omega)) _)))⟩
    case round =>
      obtain ⟨j, hj, rfl, hinv, hb⟩ := hrel
      by_cases hlt : j < t.ks.length
      · have hlt' : j < u.ks.length := by omega
        have hk := List.getElem?_eq_getElem hlt
        generalize hkid : t.ks[j] = kid at hk
        have hk' := List.getElem?_eq_getElem hlt'
        generalize hkid' : u.ks[j] = kid' at hk'
        have HK := Lib.hid hk
        have HK' := Lib.hid hk'
        have hd := Lib.hid (RTy.eqvL_drop hk hk')
        have hb0 : Below w.heap.size w wr := ((Below.refl _ _).alloc (Nat.le_refl _) _).trans (((Below.refl _ _).alloc (by simp) _).trans (hb.mono (by omega)))
        obtain ⟨b, o, ka, kc, rfl, hbB, hc1, hc2, hkin⟩ := (hin.below hb0 hB).kid hk
        obtain ⟨b', o', ka', kc', rfl, hbB', hc1', hc2', hkin'⟩ := (hin'.below hb0 hB).kid hk'
        have hnk := RTy.kid_nodes hk
        have hkr := RTy.right_kid Hr.out hk
        have hkr' := RTy.right_kid Hr'.out hk'
        clear hk hkid hk' hkid'
        have HI := Lib.hid hinv
        have hkr := Lib.hid hkr
        have hkr' := Lib.hid hkr'
        clear hinv
        have hbs := hb0.size
        have hbs2 := hb.size
        have q1 : wr.cell? ⟨w.heap.size, 1, none⟩ = some (.slice (some ⟨b, o, none⟩) t.ks.length c) := by rw [(bcell hb).1 _ _ (by omega)]; simp [go_sem]
        have q2 : wr.cell? ⟨w.heap.size + 1, 1, none⟩ = some (.slice (some ⟨b', o', none⟩) u.ks.length c') := by rw [(bcell hb).1 _ _ (by omega)]; simp [go_sem]
        go_wp2_with fail
        have hcall := Lib.hid fun (W : World) (hW : Below wr.heap.size wr W) => ih kid kid' B ka ka' kc kc' W (by omega) (hkin.below hW (by omega)) (hkin'.below hW (by omega)) hkr.out hkr'.out (by have := hW.size; omega)
        go_region_held3 (fun w' => w'.cell? ⟨w.heap.size, 1, none⟩ = some (.slice (some ⟨b, o, none⟩) t.ks.length c) ∧ w'.cell? ⟨w.heap.size + 1, 1, none⟩ = some (.slice (some ⟨b', o', none⟩) u.ks.length c')
            ∧ w'.cell? ⟨b, o + j * 2, none⟩ = some (.int .i8 kid.k) ∧ w'.cell? ⟨b, o + j * 2 + 1, none⟩ = some (.slice ka kid.ks.length kc)
            ∧ w'.cell? ⟨b', o' + j * 2, none⟩ = some (.int .i8 kid'.k) ∧ w'.cell? ⟨b', o' + j * 2 + 1, none⟩ = some (.slice ka' kid'.ks.length kc'))
          (first | exact ⟨q1, q2, hc1, hc2, hc1', hc2'⟩ | exact ⟨cell_kept hb1 q1, cell_kept hb1 q2, cell_kept hb1 hc1, cell_kept hb1 hc2, cell_kept hb1 hc1', cell_kept hb1 hc2'⟩)
          (first | (go_at_call 51; refine (hcall.out _ ?_).mono ?_; (repeat (first | assumption | exact Below.refl _ _ | apply below_drewN | apply Below.drew | (refine Below.alloc ?_ (by first | omega | (simp; done) | (simp; omega)) _) | (refine Below.setCell ?_ (by first | omega | (simp; done) | (simp; omega)) _))); rintro e w1 ⟨rfl, hb1⟩))
        have hb2 : Below w.heap.size w w1 := hb0.trans (Below.trans (Below.refl w.heap.size wr).drew (hb1.mono (by simp; omega)))
        have hb3 : Below (w.heap.size + 2) wr w1 := Below.trans (Below.refl (w.heap.size + 2) wr).drew (hb1.mono (by simp only [World.size_alloc, World.size_drew] at *; omega))
        have HB := Lib.hid (hb.trans hb3)
        clear hb3
        by_cases hke : kid.eqv kid' = true
        · simp only [hke, Bool.not_true]
          have HKE := Lib.hid hke
          clear hke
          go_wp2_with fail
          go_round
          case rel =>
            refine ⟨j + 1, by omega, by go_num, ?_, HB.out⟩
            have := hd.out
            rw [HKE.out, HI.out] at this; simpa using this.symm
          case measure => simp [intOf]; omega
        · have hke' : kid.eqv kid' = false := by simpa using hke
          simp only [hke', Bool.not_false]
          have HKE := Lib.hid hke'
          clear hke hke'
          go_wp2_with fail
          go_ret
          refine ⟨ret_bool ?_, hb2⟩
          have := hd.out
          rw [HKE.out, HI.out] at this
          rw [hre.out, this]; simp
      · have : j = t.ks.length := by omega
        subst this
        go_wp2_with fail
        go_ret
        refine ⟨ret_bool ?_, ((Below.refl _ _).alloc (Nat.le_refl _) _).trans (((Below.refl _ _).alloc (by simp) _).trans (hb.mono (by omega)))⟩
        simp [RTy.eqvL] at hinv
        rw [hre.out, ← hinv, HP.out]; simp
  · have hp' : (t.k != u.k) = true := by simp [hp]
    have e : t.eqv u = false := by rw [hre.out]; simp [hp]
    clear hp hr hr'
    go_enter Try.func51, Try.ntmps51
    go_wp2_with fail
    go_ret
    exact ⟨ret_bool e.symm, by (repeat (first | assumption | exact Below.refl _ _ | apply below_drewN | apply Below.drew | (refine Below.alloc ?_ (by first | omega | (simp; done) | (simp; omega)) _) | (refine Below.setCell ?_ (by first | omega | (simp; done) | (simp; omega)) _)))⟩
end Go.Proofs.Ytaoodchjggimcaa

/- Plain functions on types: the order, the meet. -/
namespace Go.Proofs.Ytaoodchjggimcaa
open Go.RowKit
mutual
def RTy.le : RTy → RTy → Bool | .mk k ks, .mk k' ks' => decide (k = 0) || (decide (k = k') && RTy.leL ks ks')
def RTy.leL : List RTy → List RTy → Bool | [], _ => true | _ :: _, [] => false | t :: ts, u :: us => t.le u && RTy.leL ts us
end
theorem RTy.le_eq (t u : RTy) : t.le u = (decide (t.k = 0) || (decide (t.k = u.k) && RTy.leL t.ks u.ks)) := by cases t; cases u; rw [RTy.le]; rfl
theorem RTy.leL_drop {ks us : List RTy} {j : Nat} {x y : RTy} (h : ks[j]? = some x) (h' : us[j]? = some y) : RTy.leL (ks.drop j) (us.drop j) = (x.le y && RTy.leL (ks.drop (j + 1)) (us.drop (j + 1))) := by
  obtain ⟨hl, rfl⟩ := List.getElem?_eq_some_iff.1 h
  obtain ⟨hl', rfl⟩ := List.getElem?_eq_some_iff.1 h'
  rw [List.drop_eq_getElem_cons hl, List.drop_eq_getElem_cons hl', RTy.leL]
def RTy.less (t u : RTy) : Bool := t.ok && (u.ok && t.le u)

/- The meet of two that agree. -/
mutual
def RTy.meet : RTy → RTy → RTy | .mk k ks, .mk k' ks' => if k = 0 then .mk k' ks' else if k' = 0 then .mk k ks else .mk k (RTy.meetL ks ks')
def RTy.meetL : List RTy → List RTy → List RTy | [], _ => [] | _ :: _, [] => [] | t :: ts, u :: us => t.meet u :: RTy.meetL ts us
end

/-- A type that lies at an address. -/
structure RTy.At (w : World) (B b o : Nat) (a : Option Addr) (c : Nat) (t : RTy) : Prop where
  lt : b < B
  c0 : w.cell? ⟨b, o, none⟩ = some (.int .i8 t.k)
  c1 : w.cell? ⟨b, o + 1, none⟩ = some (.slice a t.ks.length c)
  inn : t.In w B a
theorem RTy.At.below {w w' : World} {B C b o c : Nat} {t : RTy} {a : Option Addr} (h : RTy.At w B b o a c t) (hb : Below C w w') (hBC : B ≤ C) : RTy.At w' B b o a c t :=
  ⟨h.lt, (hb.cell (p := ⟨b, o, none⟩) (by have := h.lt; show b < C; omega)).trans h.c0, (hb.cell (p := ⟨b, o + 1, none⟩) (by have := h.lt; show b < C; omega)).trans h.c1, h.inn.below hb hBC⟩
theorem RTy.At.kid {w : World} {B b o c : Nat} {t : RTy} {a : Option Addr} (h : RTy.At w B b o a c t) {j : Nat} {x : RTy} (hx : t.ks[j]? = some x) :
    ∃ b' o' a' c', a = some ⟨b', o', none⟩ ∧ RTy.At w B b' (o' + j * 2) a' c' x := by
  obtain ⟨b', o', a', c', e, h1, h2, h3, h4⟩ := h.inn.kid hx
  exact ⟨b', o', a', c', e, h1, h2, h3, h4⟩
end Go.Proofs.Ytaoodchjggimcaa

/- Terms as trees in memory, and the plain functions of package terms. -/
namespace Go.Proofs.Ytaoodchjggimcaa
open Go.RowKit

/-- A term as it is written down. -/
inductive RTm where
  | mk (k : Int) (name arg : ByteArray) (num : Int) (ty to : RTy) (label spot : Int) (ks : List RTm)
def RTm.k : RTm → Int | .mk k _ _ _ _ _ _ _ _ => k
def RTm.name : RTm → ByteArray | .mk _ n _ _ _ _ _ _ _ => n
def RTm.arg : RTm → ByteArray | .mk _ _ n _ _ _ _ _ _ => n
def RTm.num : RTm → Int | .mk _ _ _ n _ _ _ _ _ => n
def RTm.ty : RTm → RTy | .mk _ _ _ _ t _ _ _ _ => t
def RTm.to : RTm → RTy | .mk _ _ _ _ _ t _ _ _ => t
def RTm.label : RTm → Int | .mk _ _ _ _ _ _ n _ _ => n
def RTm.spot : RTm → Int | .mk _ _ _ _ _ _ _ n _ => n
def RTm.ks : RTm → List RTm | .mk _ _ _ _ _ _ _ _ ks => ks
theorem RTm.eta (t : RTm) : RTm.mk t.k t.name t.arg t.num t.ty t.to t.label t.spot t.ks = t := by cases t; rfl

/-- Where its slices begin, and what they could hold. -/
structure TmSh where
  ta : Option Addr
  tc : Nat
  oa : Option Addr
  oc : Nat
  ka : Option Addr
  kc : Nat
/-- Its cells. -/
abbrev RTm.cells (t : RTm) (s : TmSh) : List Value :=
  [.int .i8 t.k, .string t.name, .string t.arg, .int .i64 t.num, .int .i8 t.ty.k, .slice s.ta t.ty.ks.length s.tc, .int .i8 t.to.k, .slice s.oa t.to.ks.length s.oc, .int .i64 t.label, .int .i64 t.spot, .slice s.ka t.ks.length s.kc]
abbrev RTm.v (t : RTm) (s : TmSh) : Value :=
  .agg #[.int .i8 t.k, .string t.name, .string t.arg, .int .i64 t.num, .int .i8 t.ty.k, .slice s.ta t.ty.ks.length s.tc, .int .i8 t.to.k, .slice s.oa t.to.ks.length s.oc, .int .i64 t.label, .int .i64 t.spot, .slice s.ka t.ks.length s.kc]
def CellsAt (w : World) (b o : Nat) (cs : List Value) : Prop := ∀ (j : Nat) (v : Value), cs[j]? = some v → w.cell? ⟨b, o + j, none⟩ = some v
/-- What its numbers and names are bounded by. -/
structure RTm.Fine (t : RTm) : Prop where
  kind : -128 ≤ t.k ∧ t.k ≤ 127
  name : t.name.size ≤ 9223372036854775807
  arg : t.arg.size ≤ 9223372036854775807
  num : -9223372036854775808 ≤ t.num ∧ t.num ≤ 9223372036854775807
  label : -9223372036854775808 ≤ t.label ∧ t.label ≤ 9223372036854775807
  spot : -9223372036854775808 ≤ t.spot ∧ t.spot ≤ 9223372036854775807
  len : t.ks.length ≤ 140737488355328
mutual
def RTm.InS (w : World) (S : Nat → Prop) (s : TmSh) : RTm → Prop
  | .mk k n g u ty to l p ks => RTm.Fine (.mk k n g u ty to l p ks) ∧ ty.InS w S s.ta ∧ to.InS w S s.oa ∧ RTm.InsS w S s.ka 0 ks
def RTm.InsS (w : World) (S : Nat → Prop) (a : Option Addr) (i : Nat) : List RTm → Prop
  | [] => True
  | t :: ts => (∃ b o s', a = some ⟨b, o, none⟩ ∧ S b ∧ CellsAt w b (o + i * 11) (t.cells s') ∧ RTm.InS w S s' t) ∧ RTm.InsS w S a (i + 1) ts
end
def RTm.In (w : World) (B : Nat) (s : TmSh) (t : RTm) : Prop := t.InS w (fun b => b < B) s
theorem RTm.InS.fine {w : World} {S : Nat → Prop} {s : TmSh} {t : RTm} (h : t.InS w S s) : t.Fine := by
  cases t; unfold RTm.InS at h; exact h.1
theorem RTm.InS.ty {w : World} {S : Nat → Prop} {s : TmSh} {t : RTm} (h : t.InS w S s) : t.ty.InS w S s.ta := by
  cases t; unfold RTm.InS at h; exact h.2.1
theorem RTm.InS.to {w : World} {S : Nat → Prop} {s : TmSh} {t : RTm} (h : t.InS w S s) : t.to.InS w S s.oa := by
  cases t; unfold RTm.InS at h; exact h.2.2.1
theorem RTm.InS.ins {w : World} {S : Nat → Prop} {s : TmSh} {t : RTm} (h : t.InS w S s) : RTm.InsS w S s.ka 0 t.ks := by
  cases t; unfold RTm.InS at h; exact h.2.2.2
theorem RTm.InS.of {w : World} {S : Nat → Prop} {s : TmSh} {t : RTm} (h1 : t.Fine) (h2 : t.ty.InS w S s.ta) (h3 : t.to.InS w S s.oa) (h4 : RTm.InsS w S s.ka 0 t.ks) : t.InS w S s := by
  cases t; unfold RTm.InS; exact ⟨h1, h2, h3, h4⟩
theorem RTm.InsS.get {w : World} {S : Nat → Prop} {a : Option Addr} : ∀ {ts : List RTm} {i : Nat}, RTm.InsS w S a i ts → ∀ (j : Nat) (t : RTm), ts[j]? = some t →
    ∃ b o s', a = some ⟨b, o, none⟩ ∧ S b ∧ CellsAt w b (o + (i + j) * 11) (t.cells s') ∧ t.InS w S s' := by
  intro ts
  induction ts with
  | nil => intro i h j t ht; simp at ht
  | cons x ts ih =>
    intro i h j t ht
    unfold RTm.InsS at h
    cases j with
    | zero =>
      simp at ht; subst ht
      obtain ⟨b, o, s', e, hb, h1, h2⟩ := h.1
      exact ⟨b, o, s', e, hb, h1, h2⟩
    | succ j =>
      obtain ⟨b, o, s', e, hb, h1, h2⟩ := ih h.2 j t (by simpa using ht)
      exact ⟨b, o, s', e, hb, by rw [show i + (j + 1) = i + 1 + j by omega]; exact h1, h2⟩
theorem RTm.InsS.mk {w : World} {S : Nat → Prop} {b o : Nat} (hS : S b) : ∀ {ts : List RTm} {i : Nat},
    (∀ (j : Nat) (t : RTm), ts[j]? = some t → ∃ s', CellsAt w b (o + (i + j) * 11) (t.cells s') ∧ t.InS w S s') → RTm.InsS w S (some ⟨b, o, none⟩) i ts := by
  intro ts
  induction ts with
  | nil => intro i _; unfold RTm.InsS; trivial
  | cons x ts ih =>
    intro i h
    unfold RTm.InsS
    obtain ⟨s', h1, h2⟩ := h 0 x rfl
    refine ⟨⟨b, o, s', rfl, hS, h1, h2⟩, ih fun j t ht => ?_⟩
    obtain ⟨s', h1, h2⟩ := h (j + 1) t (by simpa using ht)
    exact ⟨s', by rw [show i + 1 + j = i + (j + 1) by omega]; exact h1, h2⟩
mutual
theorem RTm.InS.mono {w w' : World} {S S' : Nat → Prop} (hS : ∀ b, S b → S' b) (hw : ∀ b o, S b → w'.cell? ⟨b, o, none⟩ = w.cell? ⟨b, o, none⟩) :
    ∀ {t : RTm} {s : TmSh}, t.InS w S s → t.InS w' S' s
  | .mk k n g u ty to l p ks, s, h => by
    unfold RTm.InS at h ⊢
    exact ⟨h.1, h.2.1.mono hS hw, h.2.2.1.mono hS hw, RTm.InsS.mono hS hw h.2.2.2⟩
theorem RTm.InsS.mono {w w' : World} {S S' : Nat → Prop} (hS : ∀ b, S b → S' b) (hw : ∀ b o, S b → w'.cell? ⟨b, o, none⟩ = w.cell? ⟨b, o, none⟩) :
    ∀ {ts : List RTm} {a : Option Addr} {i : Nat}, RTm.InsS w S a i ts → RTm.InsS w' S' a i ts
  | [], a, i, h => by unfold RTm.InsS; trivial
  | t :: ts, a, i, h => by
    unfold RTm.InsS at h ⊢
    obtain ⟨⟨b, o, s', e, hb, h1, h2⟩, h4⟩ := h
    exact ⟨⟨b, o, s', e, hS _ hb, fun j v hj => by rw [hw _ _ hb]; exact h1 j v hj, RTm.InS.mono hS hw h2⟩, RTm.InsS.mono hS hw h4⟩
end
theorem RTm.In.fine {w : World} {B : Nat} {s : TmSh} {t : RTm} (h : t.In w B s) : t.Fine := RTm.InS.fine h
theorem RTm.In.ty {w : World} {B : Nat} {s : TmSh} {t : RTm} (h : t.In w B s) : t.ty.In w B s.ta := RTm.InS.ty h
theorem RTm.In.to {w : World} {B : Nat} {s : TmSh} {t : RTm} (h : t.In w B s) : t.to.In w B s.oa := RTm.InS.to h
theorem RTm.InS.below {w w' : World} {S : Nat → Prop} {C : Nat} {t : RTm} {s : TmSh} (h : t.InS w S s) (hb : Below C w w') (hS : ∀ b, S b → b < C) : t.InS w' S s :=
  RTm.InS.mono (fun _ h => h) (fun b o hs => hb.cell (p := ⟨b, o, none⟩) (hS b hs)) h
theorem RTm.In.below {w w' : World} {B C : Nat} {t : RTm} {s : TmSh} (h : t.In w B s) (hb : Below C w w') (hBC : B ≤ C) : t.In w' B s :=
  RTm.InS.below h hb fun b (hb : b < B) => by omega
theorem RTm.InS.up {w : World} {S S' : Nat → Prop} {t : RTm} {s : TmSh} (h : t.InS w S s) (hS : ∀ b, S b → S' b) : t.InS w S' s :=
  RTm.InS.mono hS (fun _ _ _ => rfl) h
theorem RTm.In.up {w : World} {B B' : Nat} {t : RTm} {s : TmSh} (h : t.In w B s) (hB : B ≤ B') : t.In w B' s :=
  RTm.InS.up h fun b (hb : b < B) => by show b < B'; omega

/-- A term that lies at an address. -/
structure RTm.At (w : World) (B b o : Nat) (s : TmSh) (t : RTm) : Prop where
  lt : b < B
  c0 : w.cell? ⟨b, o, none⟩ = some (.int .i8 t.k)
  c1 : w.cell? ⟨b, o + 1, none⟩ = some (.string t.name)
  c2 : w.cell? ⟨b, o + 2, none⟩ = some (.string t.arg)
  c3 : w.cell? ⟨b, o + 3, none⟩ = some (.int .i64 t.num)
  c4 : w.cell? ⟨b, o + 4, none⟩ = some (.int .i8 t.ty.k)
  c5 : w.cell? ⟨b, o + 5, none⟩ = some (.slice s.ta t.ty.ks.length s.tc)
  c6 : w.cell? ⟨b, o + 6, none⟩ = some (.int .i8 t.to.k)
  c7 : w.cell? ⟨b, o + 7, none⟩ = some (.slice s.oa t.to.ks.length s.oc)
  c8 : w.cell? ⟨b, o + 8, none⟩ = some (.int .i64 t.label)
  c9 : w.cell? ⟨b, o + 9, none⟩ = some (.int .i64 t.spot)
  c10 : w.cell? ⟨b, o + 10, none⟩ = some (.slice s.ka t.ks.length s.kc)
  inn : t.In w B s
theorem RTm.At.of {w : World} {B b o : Nat} {s : TmSh} {t : RTm} (hb : b < B) (h : CellsAt w b o (t.cells s)) (hin : t.In w B s) : RTm.At w B b o s t :=
  ⟨hb, h 0 _ rfl, h 1 _ rfl, h 2 _ rfl, h 3 _ rfl, h 4 _ rfl, h 5 _ rfl, h 6 _ rfl, h 7 _ rfl, h 8 _ rfl, h 9 _ rfl, h 10 _ rfl, hin⟩
theorem RTm.At.cellsAt {w : World} {B b o : Nat} {s : TmSh} {t : RTm} (h : RTm.At w B b o s t) : CellsAt w b o (t.cells s) := by
  intro j v hj
  match j, hj with
  | 0, hj => cases hj; exact h.c0
  | 1, hj => cases hj; exact h.c1
  | 2, hj => cases hj; exact h.c2
  | 3, hj => cases hj; exact h.c3
  | 4, hj => cases hj; exact h.c4
  | 5, hj => cases hj; exact h.c5
  | 6, hj => cases hj; exact h.c6
  | 7, hj => cases hj; exact h.c7
  | 8, hj => cases hj; exact h.c8
  | 9, hj => cases hj; exact h.c9
  | 10, hj => cases hj; exact h.c10
  | n + 11, hj => simp at hj
theorem RTm.At.below {w w' : World} {B C b o : Nat} {s : TmSh} {t : RTm} (h : RTm.At w B b o s t) (hb : Below C w w') (hBC : B ≤ C) : RTm.At w' B b o s t := by
  have hlt := h.lt
  exact RTm.At.of h.lt (fun j v hj => (hb.cell (p := ⟨b, o + j, none⟩) (by show b < C; omega)).trans (h.cellsAt j v hj)) (h.inn.below hb hBC)
theorem RTm.At.up {w : World} {B B' b o : Nat} {s : TmSh} {t : RTm} (h : RTm.At w B b o s t) (hB : B ≤ B') : RTm.At w B' b o s t :=
  RTm.At.of (by have := h.lt; omega) h.cellsAt (h.inn.up hB)
theorem RTm.In.kid {w : World} {B : Nat} {s : TmSh} {t : RTm} (h : t.In w B s) {j : Nat} {x : RTm} (hx : t.ks[j]? = some x) :
    ∃ b o s', s.ka = some ⟨b, o, none⟩ ∧ RTm.At w B b (o + j * 11) s' x := by
  obtain ⟨b, o, s', e, hb, h1, h2⟩ := (RTm.InS.ins h).get j x hx
  exact ⟨b, o, s', e, RTm.At.of hb (by simpa using h1) h2⟩
theorem RTm.At.kid {w : World} {B b o : Nat} {s : TmSh} {t : RTm} (h : RTm.At w B b o s t) {j : Nat} {x : RTm} (hx : t.ks[j]? = some x) :
    ∃ b' o' s', s.ka = some ⟨b', o', none⟩ ∧ RTm.At w B b' (o' + j * 11) s' x := h.inn.kid hx

/-! What counts for a kind. -/
def kidsOf (k : Int) : Int :=
  if k = 4 ∨ k = 5 ∨ k = 10 ∨ k = 11 ∨ k = 12 ∨ k = 13 ∨ k = 16 ∨ k = 17 then 1 else if k = 6 ∨ k = 7 ∨ k = 9 ∨ k = 15 then 2 else if k = 8 ∨ k = 14 then 3 else 0
def hasName (k : Int) : Bool := k == 0 || (k == 4 || (k == 5 || (k == 7 || k == 14)))
def hasArg (k : Int) : Bool := k == 5 || k == 14
def hasNum (k : Int) : Bool := k == 1
def hasFrom (k : Int) : Bool := k == 4 || (k == 5 || (k == 7 || (k == 12 || (k == 13 || (k == 16 || k == 17)))))
def hasTo (k : Int) : Bool := k == 5 || k == 17
def hasLabel (k : Int) : Bool := k == 17
def hasOp (k : Int) : Bool := k == 15
def isKind (k : Int) : Bool := decide (0 ≤ k) && decide (k ≤ 17)

mutual
def RTm.nodes : RTm → Nat
  | .mk k _ _ _ ty to _ _ ks => (if hasFrom k then ty.nodes else 0) + (if hasTo k then to.nodes else 0) + RTm.nodesL ks + 1
def RTm.nodesL : List RTm → Nat | [] => 0 | t :: ts => t.nodes + RTm.nodesL ts
end
mutual
def RTm.depth : RTm → Nat
  | .mk k _ _ _ ty to _ _ ks => max (max (if hasFrom k then ty.depth else 0) (if hasTo k then to.depth else 0)) (RTm.depthL ks) + 1
def RTm.depthL : List RTm → Nat | [] => 0 | t :: ts => max t.depth (RTm.depthL ts)
end
def opB (s : ByteArray) : Bool := s.toList == [43] || (s.toList == [45] || (s.toList == [42] || (s.toList == [47] || (s.toList == [60] || s.toList == [61]))))
def labelB (l : Int) : Bool := !(l == 0) && (decide (-2147483648 ≤ l) && decide (l ≤ 2147483648))
theorem RTm.nodes_eq (t : RTm) : t.nodes = (if hasFrom t.k then t.ty.nodes else 0) + (if hasTo t.k then t.to.nodes else 0) + RTm.nodesL t.ks + 1 := by cases t; rw [RTm.nodes]; rfl
theorem RTm.depth_eq (t : RTm) : t.depth = max (max (if hasFrom t.k then t.ty.depth else 0) (if hasTo t.k then t.to.depth else 0)) (RTm.depthL t.ks) + 1 := by cases t; rw [RTm.depth]; rfl
theorem RTm.nodes_pos (t : RTm) : 1 ≤ t.nodes := by rw [RTm.nodes_eq]; omega
theorem RTm.depth_pos (t : RTm) : 1 ≤ t.depth := by rw [RTm.depth_eq]; omega
theorem RTm.nodesL_drop {ks : List RTm} {j : Nat} {x : RTm} (h : ks[j]? = some x) : RTm.nodesL (ks.drop j) = x.nodes + RTm.nodesL (ks.drop (j + 1)) := by
  obtain ⟨hl, rfl⟩ := List.getElem?_eq_some_iff.1 h
  rw [List.drop_eq_getElem_cons hl, RTm.nodesL]
theorem RTm.depthL_drop {ks : List RTm} {j : Nat} {x : RTm} (h : ks[j]? = some x) : RTm.depthL (ks.drop j) = max x.depth (RTm.depthL (ks.drop (j + 1))) := by
  obtain ⟨hl, rfl⟩ := List.getElem?_eq_some_iff.1 h
  rw [List.drop_eq_getElem_cons hl, RTm.depthL]
theorem RTm.kid_nodesL {ks : List RTm} {j : Nat} {x : RTm} (h : ks[j]? = some x) : x.nodes ≤ RTm.nodesL ks := by
  induction ks generalizing j with
  | nil => simp at h
  | cons u us ih =>
    simp only [RTm.nodesL]
    cases j with
    | zero => simp at h; subst h; omega
    | succ j => have := ih (j := j) (by simpa using h); omega
theorem RTm.kid_nodes {t : RTm} {j : Nat} {x : RTm} (h : t.ks[j]? = some x) : x.nodes < t.nodes := by
  have := RTm.kid_nodesL h
  rw [RTm.nodes_eq t]; omega
end Go.Proofs.Ytaoodchjggimcaa

/- The walks of package scan: letters, digits, keys, names. -/
set_option linter.unusedVariables false
set_option linter.unusedSimpArgs false
namespace Go.Proofs.Ytaoodchjggimcaa
open Go.RowKit

def digitB (c : Int) : Bool := decide (48 ≤ c) && decide (c ≤ 57)
def letterB (c : Int) : Bool := (decide (65 ≤ c) && decide (c ≤ 90)) || ((decide (97 ≤ c) && decide (c ≤ 122)) || c == 95)
def keys : List (List UInt8) := [[108, 101, 116], [105, 110], [105, 102], [116, 104, 101, 110], [101, 108, 115, 101], [114, 101, 99], [99, 97, 115, 101], [111, 102], [102, 115, 116], [115, 110, 100], [105, 110, 108], [105, 110, 114], [116, 114, 117, 101], [102, 97, 108, 115, 101], [105, 110, 116], [98, 111, 111, 108]]
def keyB (s : ByteArray) : Bool := keys.any fun k => s.toList == k

theorem digit_any (c : Int) (w : World) : Calls Try.prog 137 #[.int .u8 c] w fun e w' => e = .returned (.bool (digitB c)) ∧ w = w' := by
  by_cases h0 : 48 ≤ c
  · by_cases h1 : c ≤ 57
    · have e : digitB c = true := by simp [digitB, h0, h1]
      go_enter Try.func137, Try.ntmps137
      go_wp2_with fail
      go_ret
      exact ⟨ret_bool (by first | rfl | simp [e, h1]), rfl⟩
    · have e : digitB c = false := by simp [digitB, h1]
      go_enter Try.func137, Try.ntmps137
      go_wp2_with fail
      go_ret
      exact ⟨ret_bool (by first | rfl | simp [e, h1]), rfl⟩
  · have e : digitB c = false := by simp [digitB, h0]
    go_enter Try.func137, Try.ntmps137
    go_wp2_with fail
    go_ret
    exact ⟨ret_bool (by first | rfl | simp [e]), rfl⟩

theorem key_any (s : ByteArray) (w : World) : Calls Try.prog 138 #[.string s] w fun e w' => e = .returned (.bool (keyB s)) ∧ w = w' := by
  by_cases h0 : s.toList = [108, 101, 116]
  · have e : keyB s = true := by unfold keyB keys; rw [h0]; decide
    go_enter Try.func138, Try.ntmps138
    go_wp2_with fail
    go_ret
    exact ⟨ret_bool (by first | rfl | simp [e]), rfl⟩
  have g0 : (s.toList == [108, 101, 116]) = false := by simpa using h0
  by_cases h1 : s.toList = [105, 110]
  · have e : keyB s = true := by unfold keyB keys; rw [h1]; decide
    go_enter Try.func138, Try.ntmps138
    go_wp2_with fail
    go_ret
    exact ⟨ret_bool (by first | rfl | simp [e]), rfl⟩
  have g1 : (s.toList == [105, 110]) = false := by simpa using h1
  by_cases h2 : s.toList = [105, 102]
  · have e : keyB s = true := by unfold keyB keys; rw [h2]; decide
    go_enter Try.func138, Try.ntmps138
    go_wp2_with fail
    go_ret
    exact ⟨ret_bool (by first | rfl | simp [e]), rfl⟩
  have g2 : (s.toList == [105, 102]) = false := by simpa using h2
  by_cases h3 : s.toList = [116, 104, 101, 110]
  · have e : keyB s = true := by unfold keyB keys; rw [h3]; decide
    go_enter Try.func138, Try.ntmps138
    go_wp2_with fail
    go_ret
    exact ⟨ret_bool (by first | rfl | simp [e]), rfl⟩
  have g3 : (s.toList == [116, 104, 101, 110]) = false := by simpa using h3
  by_cases h4 : s.toList = [101, 108, 115, 101]
  · have e : keyB s = true := by unfold keyB keys; rw [h4]; decide
    go_enter Try.func138, Try.ntmps138
    go_wp2_with fail
    go_ret
    exact ⟨ret_bool (by first | rfl | simp [e]), rfl⟩
  have g4 : (s.toList == [101, 108, 115, 101]) = false := by simpa using h4
  by_cases h5 : s.toList = [114, 101, 99]
  · have e : keyB s = true := by unfold keyB keys; rw [h5]; decide
    go_enter Try.func138, Try.ntmps138
    go_wp2_with fail
    go_ret
    exact ⟨ret_bool (by first | rfl | simp [e]), rfl⟩
  have g5 : (s.toList == [114, 101, 99]) = false := by simpa using h5
  by_cases h6 : s.toList = [99, 97, 115, 101]
  · have e : keyB s = true := by unfold keyB keys; rw [h6]; decide
    go_enter Try.func138, Try.ntmps138
    go_wp2_with fail
    go_ret
    exact ⟨ret_bool (by first | rfl | simp [e]), rfl⟩
  have g6 : (s.toList == [99, 97, 115, 101]) = false := by simpa using h6
  by_cases h7 : s.toList = [111, 102]
  · have e : keyB s = true := by unfold keyB keys; rw [h7]; decide
    go_enter Try.func138, Try.ntmps138
    go_wp2_with fail
    go_ret
    exact ⟨ret_bool (by first | rfl | simp [e]), rfl⟩
  have g7 : (s.toList == [111, 102]) = false := by simpa using h7
  by_cases h8 : s.toList = [102, 115, 116]
  · have e : keyB s = true := by unfold keyB keys; rw [h8]; decide
    go_enter Try.func138, Try.ntmps138
    go_wp2_with fail
    go_ret
    exact ⟨ret_bool (by first | rfl | simp [e]), rfl⟩
  have g8 : (s.toList == [102, 115, 116]) = false := by simpa using h8
  by_cases h9 : s.toList = [115, 110, 100]
  · have e : keyB s = true := by unfold keyB keys; rw [h9]; decide
    go_enter Try.func138, Try.ntmps138
    go_wp2_with fail
    go_ret
    exact ⟨ret_bool (by first | rfl | simp [e]), rfl⟩
  have g9 : (s.toList == [115, 110, 100]) = false := by simpa using h9
  by_cases h10 : s.toList = [105, 110, 108]
  · have e : keyB s = true := by unfold keyB keys; rw [h10]; decide
    go_enter Try.func138, Try.ntmps138
    go_wp2_with fail
    go_ret
    exact ⟨ret_bool (by first | rfl | simp [e]), rfl⟩
  have g10 : (s.toList == [105, 110, 108]) = false := by simpa using h10
  by_cases h11 : s.toList = [105, 110, 114]
  · have e : keyB s = true := by unfold keyB keys; rw [h11]; decide
    go_enter Try.func138, Try.ntmps138
    go_wp2_with fail
    go_ret
    exact ⟨ret_bool (by first | rfl | simp [e]), rfl⟩
  have g11 : (s.toList == [105, 110, 114]) = false := by simpa using h11
  by_cases h12 : s.toList = [116, 114, 117, 101]
  · have e : keyB s = true := by unfold keyB keys; rw [h12]; decide
    go_enter Try.func138, Try.ntmps138
    go_wp2_with fail
    go_ret
    exact ⟨ret_bool (by first | rfl | simp [e]), rfl⟩
  have g12 : (s.toList == [116, 114, 117, 101]) = false := by simpa using h12
  by_cases h13 : s.toList = [102, 97, 108, 115, 101]
  · have e : keyB s = true := by unfold keyB keys; rw [h13]; decide
    go_enter Try.func138, Try.ntmps138
    go_wp2_with fail
    go_ret
    exact ⟨ret_bool (by first | rfl | simp [e]), rfl⟩
  have g13 : (s.toList == [102, 97, 108, 115, 101]) = false := by simpa using h13
  by_cases h14 : s.toList = [105, 110, 116]
  · have e : keyB s = true := by unfold keyB keys; rw [h14]; decide
    go_enter Try.func138, Try.ntmps138
    go_wp2_with fail
    go_ret
    exact ⟨ret_bool (by first | rfl | simp [e]), rfl⟩
  have g14 : (s.toList == [105, 110, 116]) = false := by simpa using h14
  by_cases h15 : s.toList = [98, 111, 111, 108]
  · have e : keyB s = true := by unfold keyB keys; rw [h15]; decide
    go_enter Try.func138, Try.ntmps138
    go_wp2_with fail
    go_ret
    exact ⟨ret_bool (by first | rfl | simp [e]), rfl⟩
  have g15 : (s.toList == [98, 111, 111, 108]) = false := by simpa using h15
  have e : keyB s = false := by simp [keyB, keys, g0, g1, g2, g3, g4, g5, g6, g7, g8, g9, g10, g11, g12, g13, g14, g15]
  clear h0 h1 h2 h3 h4 h5 h6 h7 h8 h9 h10 h11 h12 h13 h14 h15
  go_enter Try.func138, Try.ntmps138
  go_wp2_with fail
  go_ret
  exact ⟨ret_bool (by first | rfl | simp [e]), rfl⟩

theorem letter_any (c : Int) (w : World) : Calls Try.prog 139 #[.int .u8 c] w fun e w' => e = .returned (.bool (letterB c)) ∧ w = w' := by
  obtain ⟨x, hx⟩ : ∃ x, letterB c = x := ⟨_, rfl⟩
  rw [hx]
  unfold letterB at hx
  by_cases h1 : 65 ≤ c <;> by_cases h2 : c ≤ 90 <;> by_cases h3 : 97 ≤ c <;> by_cases h4 : c ≤ 122 <;> by_cases h5 : c = 95 <;> first | (exfalso; omega) | skip
  all_goals
    have h6 : (c == 95) = decide (c = 95) := by rw [Bool.eq_iff_iff]; simp
    simp [h1, h2, h3, h4, h5] at hx
    subst hx
    simp [h5] at h6
    go_enter Try.func139, Try.ntmps139
    go_wp2_with fail
    go_ret
    exact ⟨ret_bool (by first | rfl | simp [h1, h2, h3, h4, h5, h6]), rfl⟩

def partB (c : UInt8) : Bool := letterB (c.toNat : Int) || digitB (c.toNat : Int)
/-- Is it a name? -/
def nameB (s : ByteArray) : Bool := !s.data.toList.isEmpty && (decide (s.size ≤ 64) && (!digitB ((s.data.toList.headD 0).toNat : Int) && (!keyB s && s.data.toList.all partB)))

theorem size_list (s : ByteArray) : s.data.toList.length = s.size := by rw [Array.length_toList]; rfl

theorem name_any (s : ByteArray) (w : World) (hs : s.size ≤ 9223372036854775807) : Calls Try.prog 87 #[.string s] w fun e w' => e = .returned (.bool (nameB s)) ∧ Below w.heap.size w w' := by
  by_cases h1 : s.size = 0
  · have h5 : s.toList = [] := by
      have := size_list s; rw [ByteArray.toList_eq]; exact List.eq_nil_of_length_eq_zero (by omega)
    have e : nameB s = false := by unfold nameB; rw [← ByteArray.toList_eq, h5]; rfl
    have h5' : s.toList.isEmpty = true := by rw [h5]; rfl
    clear h1
    go_enter Try.func87, Try.ntmps87
    go_wp2_with fail
    go_ret
    exact ⟨ret_bool e.symm, Below.refl _ _⟩
  have h5 : s.toList.isEmpty = false := by
    have := size_list s; rw [ByteArray.toList_eq]
    cases h : s.data.toList with
    | nil => rw [h] at this; simp at this; omega
    | cons a l => rfl
  rcases Nat.lt_or_ge 64 s.size with h2 | h2
  · have e : nameB s = false := by unfold nameB; simp; omega
    have h2' : (64 : Int) < (s.size : Int) := by omega
    clear h2
    go_enter Try.func87, Try.ntmps87
    go_wp2_with fail
    go_ret
    exact ⟨ret_bool e.symm, Below.refl _ _⟩
  have hhd : s.data.toList.headD 0 = s[0] := by
    have := size_list s
    cases h : s.data.toList with
    | nil => rw [h] at this; simp at this; omega
    | cons a l =>
      show a = s.data[0]'(by show 0 < s.size; omega)
      rw [← Array.getElem_toList]
      simp [h]
  by_cases h3 : digitB (s[0].toNat : Int) = true
  · have e : nameB s = false := by unfold nameB; rw [hhd, h3]; simp
    clear hhd
    go_enter Try.func87, Try.ntmps87
    go_wp2_with fail
    refine (digit_any _ _).mono ?_
    rw [h3]
    rintro e w1 ⟨rfl, rfl⟩
    go_wp2_with fail
    go_ret
    exact ⟨ret_bool e.symm, Below.refl _ _⟩
  have h3' : digitB (s[0].toNat : Int) = false := by simpa using h3
  by_cases h4 : keyB s = true
  · have e : nameB s = false := by unfold nameB; rw [h4]; simp
    clear hhd
    go_enter Try.func87, Try.ntmps87
    go_wp2_with fail
    refine (digit_any _ _).mono ?_
    rw [h3']
    rintro e w1 ⟨rfl, rfl⟩
    go_wp2_with fail
    refine (key_any _ _).mono ?_
    rw [h4]
    rintro e w1 ⟨rfl, rfl⟩
    go_wp2_with fail
    go_ret
    exact ⟨ret_bool e.symm, Below.refl _ _⟩
  have h4' : keyB s = false := by simpa using h4
  have E : Hid (nameB s = s.data.toList.all partB) := by
    show nameB s = _
    unfold nameB
    rw [ByteArray.toList_eq] at h5
    rw [hhd, h3', h4', h5]; simp [h2]
  have hk := fun (w : World) => run_bytes_of_string (P := Try.prog) w 9 189 5 s Try.underlying9 Try.underlying189 Try.underlying5
  clear h3 h4 hhd
  go_enter Try.func87, Try.ntmps87
  go_wp2_with fail
  refine (digit_any _ _).mono ?_
  rw [h3']
  rintro e w1 ⟨rfl, rfl⟩
  go_wp2_with fail
  refine (key_any _ _).mono ?_
  rw [h4']
  rintro e w1 ⟨rfl, rfl⟩
  go_wp2_with fail
  go_loopw [24] (fun i wr => ∃ j : Nat, j ≤ s.size ∧ i = .int .i64 j ∧ (s.data.toList.drop j).all partB = s.data.toList.all partB ∧ (∀ (j : Nat) (hj : j < s.size), wr.cell? ⟨w.heap.size, j, none⟩ = some (.int .u8 ((s[j]'hj).toNat : Int))) ∧ Below w.heap.size w wr) (fun i _ => s.size - (intOf i).toNat)
  case atStart =>
    refine ⟨0, by omega, rfl, by simp, fun j hj => ?_, by (repeat (first | assumption | exact Below.refl _ _ | apply below_drewN | apply Below.drew | (refine Below.alloc ?_ (by first | omega | (simp; done) | (simp; omega)) _) | (refine Below.setCell ?_ (by first | omega | (simp; done) | (simp; omega)) _)))⟩
    exact (World.cell?_alloc_mark w _ _ _ j).trans (bytesRow_at s _ j hj)
  case round =>
    obtain ⟨j, hj, rfl, hinv, hcells, hb⟩ := hrel
    have HC := Lib.hid hcells
    clear hcells hk
    by_cases hlt : j < s.size
    · have hc1 := HC.out j hlt
      have hd : Hid ((s.data.toList.drop j).all partB = (partB s[j] && (s.data.toList.drop (j + 1)).all partB)) := by
        show (s.data.toList.drop j).all partB = _
        rw [List.drop_eq_getElem_cons (by rw [size_list]; exact hlt), List.all_cons]
        rfl
      have HI := Lib.hid hinv
      clear hinv
      go_wp2_with fail
      refine (letter_any _ _).mono ?_
      by_cases hl : letterB (s[j].toNat : Int) = true
      · rw [hl]
        rintro e w1 ⟨rfl, rfl⟩
        have hp : Hid (partB s[j] = true) := by show partB _ = _; unfold partB; rw [hl]; rfl
        go_wp2_with fail
        go_round
        case rel =>
          refine ⟨j + 1, by omega, by go_num, ?_, HC.out, hb⟩
          have := hd.out
          rw [hp.out, HI.out] at this; simpa using this.symm
        case measure => simp [intOf]; omega
      · have hl' : letterB (s[j].toNat : Int) = false := by simpa using hl
        rw [hl']
        rintro e w1 ⟨rfl, rfl⟩
        go_wp2_with fail
        refine (digit_any _ _).mono ?_
        by_cases hg : digitB (s[j].toNat : Int) = true
        · rw [hg]
          rintro e w1 ⟨rfl, rfl⟩
          have hp : Hid (partB s[j] = true) := by show partB _ = _; unfold partB; rw [hg, hl']; rfl
          clear hl hl' hg
          go_wp2_with fail
          go_round
          case rel =>
            refine ⟨j + 1, by omega, by go_num, ?_, HC.out, hb⟩
            have := hd.out
            rw [hp.out, HI.out] at this; simpa using this.symm
          case measure => simp [intOf]; omega
        · have hg' : digitB (s[j].toNat : Int) = false := by simpa using hg
          rw [hg']
          rintro e w1 ⟨rfl, rfl⟩
          have hp : Hid (partB s[j] = false) := by show partB _ = _; unfold partB; rw [hg', hl']; rfl
          clear hl hl' hg hg'
          go_wp2_with fail
          go_ret
          refine ⟨ret_bool ?_, hb⟩
          have := hd.out
          rw [hp.out, HI.out] at this
          rw [E.out, this]; simp
    · have : j = s.size := by omega
      subst this
      have e : Hid (nameB s = true) := by
        show nameB s = true
        rw [E.out, ← hinv, List.drop_eq_nil_of_le (by rw [size_list]; omega)]; rfl
      clear hinv
      go_wp2_with fail
      go_ret
      exact ⟨ret_bool e.out.symm, hb⟩
end Go.Proofs.Ytaoodchjggimcaa

/- The plain functions of package terms, on. -/
namespace Go.Proofs.Ytaoodchjggimcaa
open Go.RowKit
/-- What terms.right tells of one term, its kids apart. -/
def RTm.own (t : RTm) : Bool :=
  isKind t.k && (decide (kidsOf t.k = t.ks.length) && ((!hasLabel t.k || labelB t.label) && ((!hasName t.k || nameB t.name) && ((!hasArg t.k || nameB t.arg) &&
    ((!hasFrom t.k || t.ty.ok) && ((!hasTo t.k || t.to.ok) && (!hasOp t.k || opB t.name)))))))
mutual
def RTm.right : RTm → Bool
  | .mk k n g u ty to l p ks => RTm.own (.mk k n g u ty to l p ks) && RTm.rightL ks
def RTm.rightL : List RTm → Bool | [] => true | t :: ts => t.right && RTm.rightL ts
end
theorem RTm.right_eq (t : RTm) : t.right = (t.own && RTm.rightL t.ks) := by cases t; rw [RTm.right]; rfl
theorem RTm.rightL_drop {ks : List RTm} {j : Nat} {x : RTm} (h : ks[j]? = some x) : RTm.rightL (ks.drop j) = (x.right && RTm.rightL (ks.drop (j + 1))) := by
  obtain ⟨hl, rfl⟩ := List.getElem?_eq_some_iff.1 h
  rw [List.drop_eq_getElem_cons hl, RTm.rightL]
/-- What terms.Check answers. -/
def RTm.check (t : RTm) : Int := if 8192 < t.nodes then 32 else if 200 < t.depth then 31 else if t.right then 0 else 30
def RTm.ok (t : RTm) : Bool := t.check == 0
theorem RTm.ok_iff {t : RTm} : t.ok = true ↔ t.nodes ≤ 8192 ∧ t.depth ≤ 200 ∧ t.right = true := by
  unfold RTm.ok RTm.check
  by_cases h1 : 8192 < t.nodes
  · simp [h1]; omega
  · by_cases h2 : 200 < t.depth
    · simp [h1, h2]; omega
    · by_cases h3 : t.right = true
      · simp [h1, h2, h3]; omega
      · simp [h1, h2, h3]
theorem RTm.rightL_get {ks : List RTm} (hr : RTm.rightL ks = true) : ∀ {j : Nat} {x : RTm}, ks[j]? = some x → x.right = true := by
  induction ks with
  | nil => intro j x h; simp at h
  | cons t ts ih =>
    intro j x h
    simp only [RTm.rightL, Bool.and_eq_true] at hr
    cases j with
    | zero => simp at h; subst h; exact hr.1
    | succ j => exact ih hr.2 (by simpa using h)
theorem RTm.right_own {t : RTm} (h : t.right = true) : t.own = true := by rw [RTm.right_eq] at h; simp at h; exact h.1
theorem RTm.right_kids {t : RTm} (h : t.right = true) : RTm.rightL t.ks = true := by rw [RTm.right_eq] at h; simp at h; exact h.2
theorem RTm.right_kid {t : RTm} (h : t.right = true) {j : Nat} {x : RTm} (hx : t.ks[j]? = some x) : x.right = true := RTm.rightL_get (RTm.right_kids h) hx
mutual
def RTm.has (k : Int) : RTm → Bool | .mk k' _ _ _ _ _ _ _ ks => k' == k || RTm.hasL k ks
def RTm.hasL (k : Int) : List RTm → Bool | [] => false | t :: ts => t.has k || RTm.hasL k ts
end
theorem RTm.has_eq (t : RTm) (k : Int) : t.has k = (t.k == k || RTm.hasL k t.ks) := by cases t; rw [RTm.has]; rfl
theorem RTm.hasL_drop {ks : List RTm} {k : Int} {j : Nat} {x : RTm} (h : ks[j]? = some x) : RTm.hasL k (ks.drop j) = (x.has k || RTm.hasL k (ks.drop (j + 1))) := by
  obtain ⟨hl, rfl⟩ := List.getElem?_eq_some_iff.1 h
  rw [List.drop_eq_getElem_cons hl, RTm.hasL]
end Go.Proofs.Ytaoodchjggimcaa

/- Plain functions on types: laws of agreeing and of the meet. -/
namespace Go.Proofs.Ytaoodchjggimcaa
mutual
theorem RTy.lev_refl : ∀ t : RTy, t.lev t = true
  | .mk k ks => by rw [RTy.lev_eq]; simp [RTy.k, RTy.ks, RTy.levL_refl ks]
theorem RTy.levL_refl : ∀ ts : List RTy, RTy.levL ts ts = true
  | [] => by simp [RTy.levL]
  | t :: ts => by simp [RTy.levL, RTy.lev_refl t, RTy.levL_refl ts]
end
theorem RTy.meet_unk1 {t u : RTy} (h : t.k = 0) : t.meet u = u := by
  cases t; cases u; simp [RTy.k] at h; simp [RTy.meet, h]
theorem RTy.meet_unk2 {t u : RTy} (h : ¬ t.k = 0) (h' : u.k = 0) : t.meet u = t := by
  cases t; cases u; simp [RTy.k] at h h'; simp [RTy.meet, h, h']
theorem RTy.meet_both {t u : RTy} (h : ¬ t.k = 0) (h' : ¬ u.k = 0) : t.meet u = .mk t.k (RTy.meetL t.ks u.ks) := by
  cases t; cases u; simp [RTy.k] at h h'; simp [RTy.meet, h, h', RTy.k, RTy.ks]
mutual
theorem RTy.meet_self : ∀ t : RTy, t.meet t = t
  | .mk k ks => by
    by_cases h : k = 0
    · simp [RTy.meet, h]
    · simp [RTy.meet, h, RTy.meetL_self ks]
theorem RTy.meetL_self : ∀ ts : List RTy, RTy.meetL ts ts = ts
  | [] => by simp [RTy.meetL]
  | t :: ts => by simp [RTy.meetL, RTy.meet_self t, RTy.meetL_self ts]
end
theorem RTy.eta (t : RTy) : RTy.mk t.k t.ks = t := by cases t; rfl
theorem RTy.meetL_length : ∀ (ts us : List RTy), ts.length = us.length → (RTy.meetL ts us).length = ts.length
  | [], [], _ => by simp [RTy.meetL]
  | t :: ts, u :: us, h => by simp [RTy.meetL, RTy.meetL_length ts us (by simpa using h)]
  | [], _ :: _, h => by simp at h
  | _ :: _, [], h => by simp at h
theorem RTy.meetL_take : ∀ (ts us : List RTy) (j : Nat) (x y : RTy), ts[j]? = some x → us[j]? = some y → RTy.meetL (ts.take (j + 1)) (us.take (j + 1)) = RTy.meetL (ts.take j) (us.take j) ++ [x.meet y]
  | [], _, j, x, y, h, _ => by simp at h
  | _ :: _, [], j, x, y, _, h => by simp at h
  | t :: ts, u :: us, 0, x, y, h, h' => by simp at h h'; subst h h'; simp [RTy.meetL]
  | t :: ts, u :: us, j + 1, x, y, h, h' => by
    simp only [List.take_succ_cons, RTy.meetL, List.cons_append]
    rw [RTy.meetL_take ts us j x y (by simpa using h) (by simpa using h')]
theorem RTy.levL_get : ∀ {ts us : List RTy}, RTy.levL ts us = true → ∀ {j : Nat} {x y : RTy}, ts[j]? = some x → us[j]? = some y → x.lev y = true
  | [], _, _, j, x, y, h, _ => by simp at h
  | _ :: _, [], _, j, x, y, _, h => by simp at h
  | t :: ts, u :: us, hl, 0, x, y, h, h' => by simp at h h'; subst h h'; simp [RTy.levL] at hl; exact hl.1
  | t :: ts, u :: us, hl, j + 1, x, y, h, h' => by
    simp [RTy.levL] at hl
    exact RTy.levL_get hl.2 (by simpa using h) (by simpa using h')
/-- What the code goes down: two of one kind, whose kids agree. -/
structure RTy.Pair (N : Nat) (x y : RTy) : Prop where
  nx : x.nodes ≤ N
  ny : y.nodes ≤ N
  kind : x.k = y.k
  len : x.ks.length = y.ks.length
  small : x.ks.length ≤ 2
  rx : x.right = true
  ry : y.right = true
  lev : RTy.levL x.ks y.ks = true
theorem RTy.right_small {t : RTy} (h : t.right = true) : t.ks.length ≤ 2 := by
  have h := RTy.right_len h
  unfold partsOf at h
  split at h
  · omega
  · split at h <;> omega
theorem RTy.pair_self {N : Nat} {t : RTy} (hn : t.nodes ≤ N) (hr : t.right = true) : RTy.Pair N t t :=
  ⟨hn, hn, rfl, rfl, RTy.right_small hr, hr, hr, RTy.levL_refl _⟩
theorem RTy.pair_of {N : Nat} {t u : RTy} (hn : t.nodes ≤ N) (hn' : u.nodes ≤ N) (hr : t.right = true) (hr' : u.right = true) (h : t.lev u = true) (h0 : ¬ t.k = 0) (h0' : ¬ u.k = 0) : RTy.Pair N t u := by
  rw [RTy.lev_eq] at h
  simp [h0, h0'] at h
  have h1 := RTy.right_len hr
  have h2 := RTy.right_len hr'
  rw [h.1] at h1
  exact ⟨hn, hn', h.1, by omega, RTy.right_small hr, hr, hr', h.2⟩
end Go.Proofs.Ytaoodchjggimcaa

/- The rules of the checkers, as plain functions. -/
namespace Go.Proofs.Ytaoodchjggimcaa

/-- A fault: its code, its place, its word. -/
structure Flt where
  code : Int
  at_ : Int
  word : ByteArray
abbrev Env := List (ByteArray × RTy)
/-- The type of the last one of a name. -/
def Env.find (x : ByteArray) : Env → Option RTy
  | [] => none
  | (n, a) :: r => match Env.find x r with | some b => some b | none => if n.toList == x.toList then some a else none
/-- What the rules' words mean. -/
structure Mode where
  agrees : RTy → RTy → Bool
  parts : Int → RTy → RTy × RTy × Bool
  meet : RTy → RTy → RTy × Bool
  fits : RTy → RTy → Bool
def RTy.int : RTy := .mk 1 []
def RTy.bool : RTy := .mk 2 []
def RTm.zero : RTm := .mk 0 ⟨#[]⟩ ⟨#[]⟩ 0 RTy.unk RTy.unk 0 0 []
def RTm.kid (t : RTm) (i : Nat) : RTm := t.ks.getD i RTm.zero
def fault {α : Type} (t : RTm) (e : Int) : Except Flt α := .error ⟨e, t.spot, ⟨#[]⟩⟩
def want (t : RTm) (b : Bool) (e : Int) : Except Flt Unit := if b then .ok () else fault t e
def small (t : RTm) (a : RTy) : Except Flt RTy := if 8192 < a.nodes then fault t 32 else if 200 < a.depth then fault t 31 else .ok a
def two (t : RTm) (k : Int) (a b : RTy) : Except Flt RTy := small t (.mk k [a, b])
def Mode.asE (M : Mode) (t : RTm) (k : Int) (a : RTy) : Except Flt (RTy × RTy) := if (M.parts k a).2.2 then .ok ((M.parts k a).1, (M.parts k a).2.1) else fault t 90
def Mode.meetE (M : Mode) (t : RTm) (a b : RTy) : Except Flt RTy := if (M.meet a b).2 then small t (M.meet a b).1 else fault t 91
/-- The type of a term that binds nothing, out of its kids' types. -/
def Mode.flat (M : Mode) (t : RTm) (x y z : RTy) : Except Flt RTy :=
  if t.k = 6 then
    match M.asE t 3 x with
    | .error f => .error f
    | .ok (l, r) => if M.agrees y l then .ok r else fault t 91
  else if t.k = 8 then if M.agrees x RTy.bool then M.meetE t y z else fault t 91
  else if t.k = 9 then two t 4 x y
  else if t.k = 10 then match M.asE t 4 x with | .error f => .error f | .ok (l, _) => .ok l
  else if t.k = 11 then match M.asE t 4 x with | .error f => .error f | .ok (_, r) => .ok r
  else if t.k = 12 then match M.asE t 5 t.ty with | .error f => .error f | .ok (l, r) => if M.agrees x l then two t 5 l r else fault t 91
  else if t.k = 13 then match M.asE t 5 t.ty with | .error f => .error f | .ok (l, r) => if M.agrees x r then two t 5 l r else fault t 91
  else if t.k = 16 then if M.agrees x t.ty then .ok t.ty else fault t 91
  else if t.k = 17 then if x.same t.ty && M.fits t.ty t.to then .ok t.to else fault t 91
  else if M.agrees x RTy.int && M.agrees y RTy.int then .ok (if t.name.toList == [60] || t.name.toList == [61] then RTy.bool else RTy.int)
  else fault t 91
/-- The rules: of a term with at most so many nodes. -/
def Mode.rules (M : Mode) : Nat → Env → RTm → Except Flt RTy
  | 0, _, t => fault t 0
  | n + 1, l, t =>
    if t.k = 0 then match l.find t.name with | some a => .ok a | none => .error ⟨41, t.spot, t.name⟩
    else if t.k = 1 then .ok RTy.int
    else if t.k = 2 ∨ t.k = 3 then .ok RTy.bool
    else if t.k = 4 then match M.rules n (l ++ [(t.name, t.ty)]) (t.kid 0) with | .error f => .error f | .ok b => two t 3 t.ty b
    else if t.k = 5 then
      match M.rules n (l ++ [(t.name, .mk 3 [t.ty, t.to])] ++ [(t.arg, t.ty)]) (t.kid 0) with
      | .error f => .error f
      | .ok b => if M.agrees b t.to then small t (.mk 3 [t.ty, t.to]) else fault t 91
    else if t.k = 7 then
      match M.rules n l (t.kid 0) with
      | .error f => .error f
      | .ok a => if M.agrees a t.ty then M.rules n (l ++ [(t.name, t.ty)]) (t.kid 1) else fault t 91
    else if t.k = 14 then
      match M.rules n l (t.kid 0) with
      | .error f => .error f
      | .ok a => match M.asE t 5 a with
        | .error f => .error f
        | .ok (x, y) => match M.rules n (l ++ [(t.name, x)]) (t.kid 1) with
          | .error f => .error f
          | .ok b => match M.rules n (l ++ [(t.arg, y)]) (t.kid 2) with
            | .error f => .error f
            | .ok c => M.meetE t b c
    else if kidsOf t.k = 1 then match M.rules n l (t.kid 0) with | .error f => .error f | .ok x => M.flat t x RTy.unk RTy.unk
    else if kidsOf t.k = 2 then
      match M.rules n l (t.kid 0) with
      | .error f => .error f
      | .ok x => match M.rules n l (t.kid 1) with | .error f => .error f | .ok y => M.flat t x y RTy.unk
    else
      match M.rules n l (t.kid 0) with
      | .error f => .error f
      | .ok x => match M.rules n l (t.kid 1) with
        | .error f => .error f
        | .ok y => match M.rules n l (t.kid 2) with | .error f => .error f | .ok z => M.flat t x y z
/-- (*Words).Type. -/
def Mode.type (M : Mode) (t : RTm) (no : Int) : Except Flt RTy :=
  if t.check = 0 then if t.has no then .error ⟨30, 0, ⟨#[]⟩⟩ else M.rules t.nodes [] t else .error ⟨t.check, 0, ⟨#[]⟩⟩

def gradual : Mode := ⟨RTy.agree, RTy.as, fun a b => if a.agree b then (a.meet b, true) else (RTy.unk, false), RTy.agree⟩
def RTy.just (k : Int) (t : RTy) : RTy × RTy × Bool := if t.k = k then (t.ks.getD 0 RTy.unk, t.ks.getD 1 RTy.unk, true) else (RTy.unk, RTy.unk, false)
def kernelM : Mode := ⟨RTy.same, RTy.just, fun a b => (a, a.same b), RTy.agree⟩
def staticM : Mode := ⟨RTy.same, RTy.just, fun a b => (a, a.same b), RTy.same⟩
end Go.Proofs.Ytaoodchjggimcaa

/- The rules of the checkers: the types they tell are right. -/
namespace Go.Proofs.Ytaoodchjggimcaa

structure Mode.Good (M : Mode) : Prop where
  parts : ∀ (k : Int) (y : RTy), 3 ≤ k → k ≤ 5 → y.right = true → (M.parts k y).1.right = true ∧ (M.parts k y).2.1.right = true
  meet : ∀ (x y : RTy), x.right = true → y.right = true → (M.meet x y).1.right = true
theorem RTy.right_unk : RTy.unk.right = true := by decide
theorem RTy.right_two {k : Int} {x y : RTy} (h3 : 3 ≤ k) (h5 : k ≤ 5) (hx : x.right = true) (hy : y.right = true) : (RTy.mk k [x, y]).right = true := by
  rw [RTy.right_eq]
  have hp : partsOf k = 2 := by unfold partsOf; rw [if_neg (by omega), if_pos (by omega)]
  simp [RTy.k, RTy.ks, hp, RTy.rightL, hx, hy]
theorem small_ok {t : RTm} {a b : RTy} (h : small t a = .ok b) : b = a := by
  unfold small fault at h
  split at h
  · cases h
  · split at h
    · cases h
    · cases h; rfl
theorem Mode.asE_ok {M : Mode} {t : RTm} {k : Int} {a : RTy} {p : RTy × RTy} (h : M.asE t k a = .ok p) : p = ((M.parts k a).1, (M.parts k a).2.1) := by
  unfold Mode.asE fault at h
  split at h
  · cases h; rfl
  · cases h
theorem Mode.meetE_ok {M : Mode} {t : RTm} {a b c : RTy} (h : M.meetE t a b = .ok c) : c = (M.meet a b).1 := by
  unfold Mode.meetE fault at h
  split at h
  · exact small_ok h
  · cases h
theorem RTy.right_int : RTy.int.right = true := by decide
theorem RTy.right_bool : RTy.bool.right = true := by decide
theorem Mode.flat_right {M : Mode} (hM : M.Good) {t : RTm} {x y z a : RTy} (hx : x.right = true) (hy : y.right = true) (hz : z.right = true) (ht : hasFrom t.k = true → t.ty.right = true) (hto : hasTo t.k = true → t.to.right = true)
    (h : M.flat t x y z = .ok a) : a.right = true := by
  unfold Mode.flat at h
  by_cases hk : t.k = 6
  · rw [if_pos hk] at h
    split at h
    · cases h
    · rename_i l r hp
      have hp2 := hM.parts 3 x (by omega) (by omega) hx
      have := Mode.asE_ok hp
      simp only [Prod.mk.injEq] at this
      obtain ⟨rfl, rfl⟩ := this
      split at h
      · cases h; exact hp2.2
      · cases h
  rw [if_neg hk] at h
  clear hk
  by_cases hk : t.k = 8
  · rw [if_pos hk] at h
    split at h
    · rw [Mode.meetE_ok h]; exact hM.meet _ _ hy hz
    · cases h
  rw [if_neg hk] at h
  clear hk
  by_cases hk : t.k = 9
  · rw [if_pos hk] at h
    rw [small_ok h]; exact RTy.right_two (by omega) (by omega) hx hy
  rw [if_neg hk] at h
  clear hk
  by_cases hk : t.k = 10
  · rw [if_pos hk] at h
    split at h
    · cases h
    · rename_i l r hp
      have hp2 := hM.parts 4 x (by omega) (by omega) hx
      have := Mode.asE_ok hp
      simp only [Prod.mk.injEq] at this
      obtain ⟨rfl, rfl⟩ := this
      cases h; exact hp2.1
  rw [if_neg hk] at h
  clear hk
  by_cases hk : t.k = 11
  · rw [if_pos hk] at h
    split at h
    · cases h
    · rename_i l r hp
      have hp2 := hM.parts 4 x (by omega) (by omega) hx
      have := Mode.asE_ok hp
      simp only [Prod.mk.injEq] at this
      obtain ⟨rfl, rfl⟩ := this
      cases h; exact hp2.2
  rw [if_neg hk] at h
  clear hk
  by_cases hk : t.k = 12
  · rw [if_pos hk] at h
    split at h
    · cases h
    · rename_i l r hp
      have hp2 := hM.parts 5 t.ty (by omega) (by omega) (ht (by rw [hk]; rfl))
      have := Mode.asE_ok hp
      simp only [Prod.mk.injEq] at this
      obtain ⟨rfl, rfl⟩ := this
      split at h
      · rw [small_ok h]; exact RTy.right_two (by omega) (by omega) hp2.1 hp2.2
      · cases h
  rw [if_neg hk] at h
  clear hk
  by_cases hk : t.k = 13
  · rw [if_pos hk] at h
    split at h
    · cases h
    · rename_i l r hp
      have hp2 := hM.parts 5 t.ty (by omega) (by omega) (ht (by rw [hk]; rfl))
      have := Mode.asE_ok hp
      simp only [Prod.mk.injEq] at this
      obtain ⟨rfl, rfl⟩ := this
      split at h
      · rw [small_ok h]; exact RTy.right_two (by omega) (by omega) hp2.1 hp2.2
      · cases h
  rw [if_neg hk] at h
  clear hk
  by_cases hk : t.k = 16
  · rw [if_pos hk] at h
    split at h
    · cases h; exact ht (by rw [hk]; rfl)
    · cases h
  rw [if_neg hk] at h
  clear hk
  by_cases hk : t.k = 17
  · rw [if_pos hk] at h
    split at h
    · cases h; exact hto (by rw [hk]; rfl)
    · cases h
  rw [if_neg hk] at h
  clear hk
  split at h
  · cases h
    split
    · exact RTy.right_bool
    · exact RTy.right_int
  · cases h

theorem RTm.right_ty {t : RTm} (h : t.right = true) (hf : hasFrom t.k = true) : t.ty.right = true := by
  have := RTm.right_own h
  unfold RTm.own at this
  simp only [hf, Bool.not_true, Bool.false_or, Bool.and_eq_true] at this
  exact RTy.ok_right this.2.2.2.2.2.1
theorem RTm.right_to {t : RTm} (h : t.right = true) (hf : hasTo t.k = true) : t.to.right = true := by
  have := RTm.right_own h
  unfold RTm.own at this
  simp only [hf, Bool.not_true, Bool.false_or, Bool.and_eq_true] at this
  exact RTy.ok_right this.2.2.2.2.2.2.1
theorem RTm.right_len {t : RTm} (h : t.right = true) : kidsOf t.k = t.ks.length := by
  have := RTm.right_own h
  unfold RTm.own at this
  simp only [Bool.and_eq_true, decide_eq_true_eq] at this
  exact this.2.1
def Env.right (l : Env) : Prop := ∀ p ∈ l, p.2.right = true
theorem Env.right_find {l : Env} (h : l.right) {x : ByteArray} {a : RTy} (hf : l.find x = some a) : a.right = true := by
  induction l with
  | nil => cases hf
  | cons p l ih =>
    obtain ⟨n, y⟩ := p
    unfold Env.find at hf
    split at hf
    · rename_i b hb
      cases hf
      exact ih (fun q hq => h q (List.mem_cons_of_mem _ hq)) hb
    · split at hf
      · cases hf; exact h (n, a) (by simp)
      · cases hf
theorem Env.right_more {l : Env} (h : l.right) {n : ByteArray} {y : RTy} (hy : y.right = true) : Env.right (l ++ [(n, y)]) := by
  intro p hp
  simp only [List.mem_append, List.mem_singleton] at hp
  rcases hp with hp | rfl
  · exact h p hp
  · exact hy
theorem RTm.kid_get {t : RTm} {i : Nat} (h : i < t.ks.length) : t.ks[i]? = some (t.kid i) := by
  unfold RTm.kid
  rw [List.getD_eq_getElem?_getD, List.getElem?_eq_getElem h]; rfl
theorem RTm.kid_right {t : RTm} (h : t.right = true) {i : Nat} (hi : i < t.ks.length) : (t.kid i).right = true := RTm.right_kid h (RTm.kid_get hi)
theorem kids_some {k : Int} (h0 : 0 ≤ k) (h17 : k ≤ 17) (n0 : ¬ k = 0) (n1 : ¬ k = 1) (n2 : ¬ (k = 2 ∨ k = 3)) : kidsOf k = 1 ∨ kidsOf k = 2 ∨ kidsOf k = 3 := by
  have : k = 4 ∨ k = 5 ∨ k = 6 ∨ k = 7 ∨ k = 8 ∨ k = 9 ∨ k = 10 ∨ k = 11 ∨ k = 12 ∨ k = 13 ∨ k = 14 ∨ k = 15 ∨ k = 16 ∨ k = 17 := by omega
  rcases this with rfl | rfl | rfl | rfl | rfl | rfl | rfl | rfl | rfl | rfl | rfl | rfl | rfl | rfl <;> decide
theorem RTm.right_kind {t : RTm} (h : t.right = true) : 0 ≤ t.k ∧ t.k ≤ 17 := by
  have := RTm.right_own h
  unfold RTm.own isKind at this
  simp only [Bool.and_eq_true, decide_eq_true_eq] at this
  exact this.1
theorem Mode.rules_right {M : Mode} (hM : M.Good) : ∀ (n : Nat) (l : Env) (t : RTm) (a : RTy), l.right → t.right = true → M.rules n l t = .ok a → a.right = true := by
  intro n
  induction n with
  | zero => intro l t a _ _ h; unfold Mode.rules fault at h; cases h
  | succ n ih =>
    intro l t a hl ht h
    have hlen := RTm.right_len ht
    unfold Mode.rules at h
    by_cases hk : t.k = 0
    · rw [if_pos hk] at h
      split at h
      · rename_i y hy
        cases h
        exact Env.right_find hl hy
      · cases h
    rw [if_neg hk] at h
    have n0 := hk
    clear hk
    by_cases hk : t.k = 1
    · rw [if_pos hk] at h; cases h; exact RTy.right_int
    rw [if_neg hk] at h
    have n1 := hk
    clear hk
    by_cases hk : t.k = 2 ∨ t.k = 3
    · rw [if_pos hk] at h; cases h; exact RTy.right_bool
    rw [if_neg hk] at h
    have n2 := hk
    clear hk
    by_cases hk : t.k = 4
    · rw [if_pos hk] at h
      have hty := RTm.right_ty ht (by rw [hk]; rfl)
      have h1 : t.ks.length = 1 := by rw [hk] at hlen; unfold kidsOf at hlen; simp at hlen; omega
      split at h
      · cases h
      · rename_i b hb
        rw [small_ok h]
        exact RTy.right_two (by omega) (by omega) hty (ih _ _ _ (Env.right_more hl hty) (RTm.kid_right ht (by omega)) hb)
    rw [if_neg hk] at h
    clear hk
    by_cases hk : t.k = 5
    · rw [if_pos hk] at h
      have hty := RTm.right_ty ht (by rw [hk]; rfl)
      have hto := RTm.right_to ht (by rw [hk]; rfl)
      split at h
      · cases h
      · split at h
        · rw [small_ok h]; exact RTy.right_two (by omega) (by omega) hty hto
        · cases h
    rw [if_neg hk] at h
    clear hk
    by_cases hk : t.k = 7
    · rw [if_pos hk] at h
      have hty := RTm.right_ty ht (by rw [hk]; rfl)
      have h1 : t.ks.length = 2 := by rw [hk] at hlen; unfold kidsOf at hlen; simp at hlen; omega
      split at h
      · cases h
      · split at h
        · exact ih _ _ _ (Env.right_more hl hty) (RTm.kid_right ht (by omega)) h
        · cases h
    rw [if_neg hk] at h
    clear hk
    by_cases hk : t.k = 14
    · rw [if_pos hk] at h
      have h1 : t.ks.length = 3 := by rw [hk] at hlen; unfold kidsOf at hlen; simp at hlen; omega
      split at h
      · cases h
      · rename_i y hy
        split at h
        · cases h
        · rename_i p q hp
          have hp2 := hM.parts 5 y (by omega) (by omega) (ih _ _ _ hl (RTm.kid_right ht (by omega)) hy)
          have := Mode.asE_ok hp
          simp only [Prod.mk.injEq] at this
          obtain ⟨rfl, rfl⟩ := this
          split at h
          · cases h
          · rename_i b hb
            split at h
            · cases h
            · rename_i c hc
              rw [Mode.meetE_ok h]
              exact hM.meet _ _ (ih _ _ _ (Env.right_more hl hp2.1) (RTm.kid_right ht (by omega)) hb) (ih _ _ _ (Env.right_more hl hp2.2) (RTm.kid_right ht (by omega)) hc)
    rw [if_neg hk] at h
    clear hk
    have hty : hasFrom t.k = true → t.ty.right = true := RTm.right_ty ht
    have hto : hasTo t.k = true → t.to.right = true := RTm.right_to ht
    by_cases h1 : kidsOf t.k = 1
    · rw [if_pos h1] at h
      split at h
      · cases h
      · rename_i x hx
        exact Mode.flat_right hM (ih _ _ _ hl (RTm.kid_right ht (by omega)) hx) RTy.right_unk RTy.right_unk hty hto h
    rw [if_neg h1] at h
    by_cases h2 : kidsOf t.k = 2
    · rw [if_pos h2] at h
      split at h
      · cases h
      · rename_i x hx
        split at h
        · cases h
        · rename_i y hy
          exact Mode.flat_right hM (ih _ _ _ hl (RTm.kid_right ht (by omega)) hx) (ih _ _ _ hl (RTm.kid_right ht (by omega)) hy) RTy.right_unk hty hto h
    rw [if_neg h2] at h
    split at h
    · cases h
    · rename_i x hx
      split at h
      · cases h
      · rename_i y hy
        split at h
        · cases h
        · rename_i z hz
          have hkk := RTm.right_kind ht
          have h3 : kidsOf t.k = 3 := by
            rcases kids_some hkk.1 hkk.2 n0 n1 n2 with h | h | h
            · exact absurd h h1
            · exact absurd h h2
            · exact h
          exact Mode.flat_right hM (ih _ _ _ hl (RTm.kid_right ht (by omega)) hx) (ih _ _ _ hl (RTm.kid_right ht (by omega)) hy) (ih _ _ _ hl (RTm.kid_right ht (by omega)) hz) hty hto h
end Go.Proofs.Ytaoodchjggimcaa

/- Plain laws of the rules: fuel; pairs. -/
namespace Go.Proofs.Ytaoodchjggimcaa

theorem Mode.rules_fuel (M : Mode) : ∀ (n m : Nat) (l : Env) (t : RTm), t.right = true → t.nodes ≤ n → t.nodes ≤ m → M.rules n l t = M.rules m l t := by
  intro n
  induction n with
  | zero => intro m l t _ h; have := t.nodes_pos; omega
  | succ n ih =>
    intro m l t hr hn hm
    cases m with
    | zero => have := t.nodes_pos; omega
    | succ m =>
      have hlen := RTm.right_len hr
      have hk : ∀ i, i < t.ks.length → ∀ l, M.rules n l (t.kid i) = M.rules m l (t.kid i) := fun i hi l => by
        have h := RTm.kid_nodes (RTm.kid_get hi)
        exact ih m l (t.kid i) (RTm.kid_right hr hi) (by omega) (by omega)
      unfold Mode.rules
      by_cases h0 : t.k = 0
      · simp only [if_pos h0]
      by_cases h1 : t.k = 1
      · simp only [if_neg h0, if_pos h1]
      by_cases h2 : t.k = 2 ∨ t.k = 3
      · simp only [if_neg h0, if_neg h1, if_pos h2]
      by_cases h4 : t.k = 4
      · have hl : 1 ≤ t.ks.length := by rw [h4] at hlen; unfold kidsOf at hlen; simp at hlen; omega
        simp only [if_neg h0, if_neg h1, if_neg h2, if_pos h4]
        rw [hk 0 (by omega)]
      by_cases h5 : t.k = 5
      · have hl : 1 ≤ t.ks.length := by rw [h5] at hlen; unfold kidsOf at hlen; simp at hlen; omega
        simp only [if_neg h0, if_neg h1, if_neg h2, if_neg h4, if_pos h5]
        rw [hk 0 (by omega)]
      by_cases h7 : t.k = 7
      · have hl : 2 ≤ t.ks.length := by rw [h7] at hlen; unfold kidsOf at hlen; simp at hlen; omega
        simp only [if_neg h0, if_neg h1, if_neg h2, if_neg h4, if_neg h5, if_pos h7]
        rw [hk 0 (by omega), hk 1 (by omega)]
      by_cases h14 : t.k = 14
      · have hl : 3 ≤ t.ks.length := by rw [h14] at hlen; unfold kidsOf at hlen; simp at hlen; omega
        simp only [if_neg h0, if_neg h1, if_neg h2, if_neg h4, if_neg h5, if_neg h7, if_pos h14]
        simp only [hk 0 (by omega), hk 1 (by omega), hk 2 (by omega)]
      simp only [if_neg h0, if_neg h1, if_neg h2, if_neg h4, if_neg h5, if_neg h7, if_neg h14]
      by_cases c1 : kidsOf t.k = 1
      · simp only [if_pos c1]
        rw [hk 0 (by omega)]
      by_cases c2 : kidsOf t.k = 2
      · simp only [if_neg c1, if_pos c2]
        rw [hk 0 (by omega)]
        simp only [hk 1 (by omega)]
      have hkk := RTm.right_kind hr
      have c3 : kidsOf t.k = 3 := by
        rcases kids_some hkk.1 hkk.2 h0 h1 h2 with h | h | h
        · exact absurd h c1
        · exact absurd h c2
        · exact h
      simp only [if_neg c1, if_neg c2]
      rw [hk 0 (by omega)]
      simp only [hk 1 (by omega), hk 2 (by omega)]

/-- The pair of two terms. -/
def pairT (t u : RTm) : RTm := .mk 9 ⟨#[]⟩ ⟨#[]⟩ 0 RTy.unk RTy.unk 0 0 [t, u]
theorem pairT_nodes (t u : RTm) : (pairT t u).nodes = t.nodes + u.nodes + 1 := by
  unfold pairT; rw [RTm.nodes]; simp [hasFrom, hasTo, RTm.nodesL]
theorem pairT_depth (t u : RTm) : (pairT t u).depth = max t.depth u.depth + 1 := by
  unfold pairT; rw [RTm.depth]; simp [hasFrom, hasTo, RTm.depthL]
theorem pairT_right (t u : RTm) : (pairT t u).right = (t.right && u.right) := by
  rw [RTm.right_eq]
  simp [pairT, RTm.own, RTm.k, RTm.ks, isKind, kidsOf, hasLabel, hasName, hasArg, hasFrom, hasTo, hasOp, RTm.rightL]
theorem pairT_has (t u : RTm) : (pairT t u).has 17 = (t.has 17 || u.has 17) := by
  rw [RTm.has_eq]
  simp [pairT, RTm.k, RTm.ks, RTm.hasL]
theorem RTm.check_zero {t : RTm} : t.check = 0 ↔ t.nodes ≤ 8192 ∧ t.depth ≤ 200 ∧ t.right = true := by
  rw [← RTm.ok_iff]; unfold RTm.ok; simp
theorem RTy.check_zero {t : RTy} : t.check = 0 ↔ t.nodes ≤ 8192 ∧ t.depth ≤ 200 ∧ t.right = true := by
  rw [← RTy.ok_iff]; unfold RTy.ok; simp
theorem small_err {t : RTm} {a : RTy} {f : Flt} (h : small t a = .error f) : 8192 < a.nodes ∨ 200 < a.depth := by
  unfold small at h
  split at h
  · exact .inl ‹_›
  · split at h
    · exact .inr ‹_›
    · cases h

def okD {α : Type} (r : Except Flt α) (d : α) : α := match r with | .ok a => a | .error _ => d
def isOk {α : Type} (r : Except Flt α) : Bool := match r with | .ok _ => true | .error _ => false
mutual
def RTy.kin : RTy → RTy → Bool | .mk k ks, .mk k' ks' => decide (k = k') && (decide (ks.length = ks'.length) && RTy.kinL ks ks')
def RTy.kinL : List RTy → List RTy → Bool | [], _ => true | _ :: _, [] => false | t :: ts, u :: us => t.kin u && RTy.kinL ts us
end
theorem RTy.kin_eq (t u : RTy) : t.kin u = (decide (t.k = u.k) && (decide (t.ks.length = u.ks.length) && RTy.kinL t.ks u.ks)) := by cases t; cases u; rw [RTy.kin]; rfl
mutual
theorem RTy.kin_refl : ∀ t : RTy, t.kin t = true
  | .mk k ks => by rw [RTy.kin_eq]; simp [RTy.ks, RTy.kinL_refl ks]
theorem RTy.kinL_refl : ∀ ts : List RTy, RTy.kinL ts ts = true
  | [] => by simp [RTy.kinL]
  | t :: ts => by simp [RTy.kinL, RTy.kin_refl t, RTy.kinL_refl ts]
end
mutual
theorem RTy.kin_same : ∀ {t u : RTy}, t.kin u = true → t = u
  | .mk k ks, .mk k' ks', h => by
    rw [RTy.kin_eq] at h
    simp [RTy.k, RTy.ks] at h
    obtain ⟨h1, h2, h3⟩ := h
    have h1 : k = k' := of_decide_eq_true h1
    have h4 := RTy.kinL_same (of_decide_eq_true h2) h3
    subst h1 h4
    rfl
theorem RTy.kinL_same : ∀ {ts us : List RTy}, ts.length = us.length → RTy.kinL ts us = true → ts = us
  | [], [], _, _ => rfl
  | [], _ :: _, h, _ => by simp at h
  | _ :: _, [], h, _ => by simp at h
  | t :: ts, u :: us, h, h' => by
    simp [RTy.kinL] at h'
    rw [RTy.kin_same h'.1, RTy.kinL_same (by simpa using h) h'.2]
end
theorem RTy.kinL_drop {ks us : List RTy} {j : Nat} {x y : RTy} (h : ks[j]? = some x) (h' : us[j]? = some y) : RTy.kinL (ks.drop j) (us.drop j) = (x.kin y && RTy.kinL (ks.drop (j + 1)) (us.drop (j + 1))) := by
  obtain ⟨hl, rfl⟩ := List.getElem?_eq_some_iff.1 h
  obtain ⟨hl', rfl⟩ := List.getElem?_eq_some_iff.1 h'
  rw [List.drop_eq_getElem_cons hl, List.drop_eq_getElem_cons hl', RTy.kinL]
def RTy.kid (t : RTy) (i : Nat) : RTy := t.ks.getD i RTy.unk
/-- What CheckParts tells. -/
def partsLaw (t u : RTm) : Bool :=
  let a := gradual.type t 17
  let b := gradual.type u 17
  match gradual.type (pairT t u) 17 with
  | .error _ => !isOk a || (!isOk b || (!((pairT t u).check == 0) || !((RTy.mk 4 [okD a RTy.unk, okD b RTy.unk]).check == 0)))
  | .ok p => isOk a && (isOk b && (decide (p.ks.length = 2) && ((p.kid 0).kin (okD a RTy.unk) && (p.kid 1).kin (okD b RTy.unk))))
theorem Mode.type_ok {M : Mode} {t : RTm} {no : Int} (hc : t.check = 0) (hn : t.has no = false) : M.type t no = M.rules t.nodes [] t := by
  unfold Mode.type; rw [if_pos hc, hn]; rfl
theorem Mode.type_ok_inv {M : Mode} {t : RTm} {no : Int} {a : RTy} (h : M.type t no = .ok a) : t.check = 0 ∧ t.has no = false ∧ M.rules t.nodes [] t = .ok a := by
  unfold Mode.type at h
  by_cases hc : t.check = 0
  · rw [if_pos hc] at h
    cases hn : t.has no with
    | true => rw [hn] at h; cases h
    | false => rw [hn] at h; exact ⟨hc, rfl, h⟩
  · rw [if_neg hc] at h; cases h
theorem pairT_rules (M : Mode) (t u : RTm) (n : Nat) (l : Env) : M.rules (n + 1) l (pairT t u) = match M.rules n l t with | .error f => .error f | .ok x => match M.rules n l u with | .error f => .error f | .ok y => two (pairT t u) 4 x y := by
  rw [Mode.rules]
  simp [pairT, RTm.k, kidsOf, RTm.kid, RTm.ks, Mode.flat]
  all_goals
    cases M.rules n l t with
    | error f => rfl
    | ok x =>
      cases M.rules n l u with
      | error f => rfl
      | ok y => rfl
theorem partsLaw_true (t u : RTm) : partsLaw t u = true := by
  unfold partsLaw
  have hnp := pairT_nodes t u
  have hdp := pairT_depth t u
  have hrp := pairT_right t u
  have hhp := pairT_has t u
  by_cases hc : (pairT t u).check = 0
  · have h3 := RTm.check_zero.1 hc
    rw [hrp, Bool.and_eq_true] at h3
    have ht : t.check = 0 := RTm.check_zero.2 ⟨by omega, by omega, h3.2.2.1⟩
    have hu : u.check = 0 := RTm.check_zero.2 ⟨by omega, by omega, h3.2.2.2⟩
    by_cases hh : t.has 17 = true
    · have e1 : gradual.type t 17 = .error ⟨30, 0, ⟨#[]⟩⟩ := by unfold Mode.type; rw [if_pos ht, if_pos hh]
      have e2 : gradual.type (pairT t u) 17 = .error ⟨30, 0, ⟨#[]⟩⟩ := by unfold Mode.type; rw [if_pos hc, if_pos (by rw [hhp, hh]; rfl)]
      simp only [e1, e2, isOk, Bool.not_false, Bool.true_or]
    have hh : t.has 17 = false := by simpa using hh
    by_cases hh' : u.has 17 = true
    · have e1 : gradual.type u 17 = .error ⟨30, 0, ⟨#[]⟩⟩ := by unfold Mode.type; rw [if_pos hu, if_pos hh']
      have e2 : gradual.type (pairT t u) 17 = .error ⟨30, 0, ⟨#[]⟩⟩ := by unfold Mode.type; rw [if_pos hc, if_pos (by rw [hhp, hh']; simp)]
      simp only [e1, e2, isOk, Bool.not_false, Bool.true_or, Bool.or_true]
    have hh' : u.has 17 = false := by simpa using hh'
    have e1 := Mode.type_ok (M := gradual) ht hh
    have e2 := Mode.type_ok (M := gradual) hu hh'
    have e3 := Mode.type_ok (M := gradual) (no := 17) hc (by rw [hhp, hh, hh']; rfl)
    rw [hnp, pairT_rules, Mode.rules_fuel gradual (t.nodes + u.nodes) t.nodes [] t h3.2.2.1 (by omega) (by omega), Mode.rules_fuel gradual (t.nodes + u.nodes) u.nodes [] u h3.2.2.2 (by omega) (by omega)] at e3
    rw [e1, e2, e3]
    cases r1 : gradual.rules t.nodes [] t with
    | error f => simp [isOk]
    | ok x =>
      cases r2 : gradual.rules u.nodes [] u with
      | error f => simp [isOk]
      | ok y =>
        simp only
        cases r3 : two (pairT t u) 4 x y with
        | error f =>
          have h4 : ¬ (RTy.mk 4 [x, y]).check = 0 := by
            intro h
            have h5 := RTy.check_zero.1 h
            have h6 := small_err r3
            omega
          simp [okD, h4]
        | ok z =>
          have := small_ok r3
          subst this
          simp [isOk, okD, RTy.ks, RTy.kid, RTy.kin_refl]
  · cases hr : gradual.type (pairT t u) 17 with
    | error f => simp [hc]
    | ok z => exact absurd (Mode.type_ok_inv hr).1 hc
end Go.Proofs.Ytaoodchjggimcaa

/- The walk of the law's Kind: are two types the same, whatever they are? -/
set_option linter.unusedVariables false
set_option linter.unusedSimpArgs false
namespace Go.Proofs.Ytaoodchjggimcaa
open Go.RowKit

set_option maxRecDepth 100000 in
set_option maxHeartbeats 4000000 in
theorem kind_any (N : Nat) : ∀ (t u : RTy) (B : Nat) (a a' : Option Addr) (c c' : Nat) (w : World), t.nodes ≤ N → t.In w B a → u.In w B a' → B ≤ w.heap.size →
    Calls Try.prog 13 #[.agg #[.int .i8 t.k, .slice a t.ks.length c], .agg #[.int .i8 u.k, .slice a' u.ks.length c']] w fun e w' => e = .returned (.bool (t.kin u)) ∧ Below w.heap.size w w' := by
  induction N with
  | zero => intro t u B a a' c c' w h; have := t.nodes_pos; omega
  | succ N ih =>
  intro t u B a a' c c' w hN hin hin' hB
  have hlen := hin.len
  have hlen' := hin'.len
  have hre := Lib.hid (t.kin_eq u)
  by_cases hp : t.k = u.k
  · have hp' : (t.k != u.k) = false := by simp [hp]
    by_cases hll : t.ks.length = u.ks.length
    · have hl' : ((t.ks.length : Int) != (u.ks.length : Int)) = false := by simp [hll]
      have HP := Lib.hid hp
      have HL := Lib.hid hll
      clear hp
      have hle : t.ks.length ≤ u.ks.length := by omega
      clear hll
      go_enter Try.func13, Try.ntmps13
      go_wp2_with fail
      go_loopw [23] (fun i wr => ∃ j : Nat, j ≤ t.ks.length ∧ i = .int .i64 j ∧ RTy.kinL (t.ks.drop j) (u.ks.drop j) = RTy.kinL t.ks u.ks ∧ Below (w.heap.size + 2) ((w.alloc (Obj.cells #[Value.int IntKind.i8 t.k, Value.slice a t.ks.length c] 25)).alloc (Obj.cells #[Value.int IntKind.i8 u.k, Value.slice a' u.ks.length c'] 25)) wr) (fun i _ => t.ks.length - (intOf i).toNat)
      case atStart => exact ⟨0, by omega, rfl, by simp, by (repeat (first | assumption | exact Below.refl _ _ | apply below_drewN | apply Below.drew | (refine Below.alloc ?_ (by first | omega | (simp; done) | (simp; omega)) _) | (refine Below.setCell ?_ (by first | omega | (simp; done) | (simp; omega)) _)))⟩
      case round =>
        obtain ⟨j, hj, rfl, hinv, hb⟩ := hrel
        by_cases hlt : j < t.ks.length
        · have hlt' : j < u.ks.length := by omega
          have hk := List.getElem?_eq_getElem hlt
          generalize hkid : t.ks[j] = kid at hk
          have hk' := List.getElem?_eq_getElem hlt'
          generalize hkid' : u.ks[j] = kid' at hk'
          have hd := Lib.hid (RTy.kinL_drop hk hk')
          have hb0 : Below w.heap.size w wr := ((Below.refl _ _).alloc (Nat.le_refl _) _).trans (((Below.refl _ _).alloc (by simp) _).trans (hb.mono (by omega)))
          obtain ⟨b, o, ka, kc, rfl, hbB, hc1, hc2, hkin⟩ := (hin.below hb0 hB).kid hk
          obtain ⟨b', o', ka', kc', rfl, hbB', hc1', hc2', hkin'⟩ := (hin'.below hb0 hB).kid hk'
          have hnk := RTy.kid_nodes hk
          clear hk hkid hk' hkid'
          have HI := Lib.hid hinv
          clear hinv
          have hbs := hb0.size
          have hbs2 := hb.size
          have q1 : wr.cell? ⟨w.heap.size, 1, none⟩ = some (.slice (some ⟨b, o, none⟩) t.ks.length c) := by rw [(bcell hb).1 _ _ (by omega)]; simp [go_sem]
          have q2 : wr.cell? ⟨w.heap.size + 1, 1, none⟩ = some (.slice (some ⟨b', o', none⟩) u.ks.length c') := by rw [(bcell hb).1 _ _ (by omega)]; simp [go_sem]
          go_wp2_with fail
          have hcall := Lib.hid fun (W : World) (hW : Below wr.heap.size wr W) => ih kid kid' B ka ka' kc kc' W (by omega) (hkin.below hW (by omega)) (hkin'.below hW (by omega)) (by have := hW.size; omega)
          go_region_held3 (fun w' => w'.cell? ⟨w.heap.size, 1, none⟩ = some (.slice (some ⟨b, o, none⟩) t.ks.length c) ∧ w'.cell? ⟨w.heap.size + 1, 1, none⟩ = some (.slice (some ⟨b', o', none⟩) u.ks.length c')
              ∧ w'.cell? ⟨b, o + j * 2, none⟩ = some (.int .i8 kid.k) ∧ w'.cell? ⟨b, o + j * 2 + 1, none⟩ = some (.slice ka kid.ks.length kc)
              ∧ w'.cell? ⟨b', o' + j * 2, none⟩ = some (.int .i8 kid'.k) ∧ w'.cell? ⟨b', o' + j * 2 + 1, none⟩ = some (.slice ka' kid'.ks.length kc'))
            (first | exact ⟨q1, q2, hc1, hc2, hc1', hc2'⟩ | exact ⟨cell_kept hb1 q1, cell_kept hb1 q2, cell_kept hb1 hc1, cell_kept hb1 hc2, cell_kept hb1 hc1', cell_kept hb1 hc2'⟩)
            (first | (go_at_call 13; refine (hcall.out _ ?_).mono ?_; (repeat (first | assumption | exact Below.refl _ _ | apply below_drewN | apply Below.drew | (refine Below.alloc ?_ (by first | omega | (simp; done) | (simp; omega)) _) | (refine Below.setCell ?_ (by first | omega | (simp; done) | (simp; omega)) _))); rintro e w1 ⟨rfl, hb1⟩))
          have hb2 : Below w.heap.size w w1 := hb0.trans (Below.trans (Below.refl w.heap.size wr).drew (hb1.mono (by simp; omega)))
          have hb3 : Below (w.heap.size + 2) wr w1 := Below.trans (Below.refl (w.heap.size + 2) wr).drew (hb1.mono (by simp only [World.size_alloc, World.size_drew] at *; omega))
          have HB := Lib.hid (hb.trans hb3)
          clear hb3
          by_cases hke : kid.kin kid' = true
          · simp only [hke, Bool.not_true]
            have HKE := Lib.hid hke
            clear hke
            go_wp2_with fail
            go_round
            case rel =>
              refine ⟨j + 1, by omega, by go_num, ?_, HB.out⟩
              have := hd.out
              rw [HKE.out, HI.out] at this; simpa using this.symm
            case measure => simp [intOf]; omega
          · have hke' : kid.kin kid' = false := by simpa using hke
            simp only [hke', Bool.not_false]
            have HKE := Lib.hid hke'
            clear hke hke'
            go_wp2_with fail
            go_ret
            refine ⟨ret_bool ?_, hb2⟩
            have := hd.out
            rw [HKE.out, HI.out] at this
            rw [hre.out, this]; simp
        · have : j = t.ks.length := by omega
          subst this
          go_wp2_with fail
          go_ret
          refine ⟨ret_bool ?_, ((Below.refl _ _).alloc (Nat.le_refl _) _).trans (((Below.refl _ _).alloc (by simp) _).trans (hb.mono (by omega)))⟩
          simp [RTy.kinL] at hinv
          rw [hre.out, ← hinv, HP.out, HL.out]; simp
    · have hl' : ((t.ks.length : Int) != (u.ks.length : Int)) = true := by simp; omega
      have e : t.kin u = false := by rw [hre.out]; simp [hll]
      clear hp hll
      go_enter Try.func13, Try.ntmps13
      go_wp2_with fail
      go_ret
      exact ⟨ret_bool e.symm, by (repeat (first | assumption | exact Below.refl _ _ | apply below_drewN | apply Below.drew | (refine Below.alloc ?_ (by first | omega | (simp; done) | (simp; omega)) _) | (refine Below.setCell ?_ (by first | omega | (simp; done) | (simp; omega)) _)))⟩
  · have hp' : (t.k != u.k) = true := by simp [hp]
    have e : t.kin u = false := by rw [hre.out]; simp [hp]
    clear hp
    go_enter Try.func13, Try.ntmps13
    go_wp2_with fail
    go_ret
    exact ⟨ret_bool e.symm, by (repeat (first | assumption | exact Below.refl _ _ | apply below_drewN | apply Below.drew | (refine Below.alloc ?_ (by first | omega | (simp; done) | (simp; omega)) _) | (refine Below.setCell ?_ (by first | omega | (simp; done) | (simp; omega)) _)))⟩
end Go.Proofs.Ytaoodchjggimcaa

/- The walks of package types, second part: counting nodes, checking. -/
set_option linter.unusedVariables false
set_option linter.unusedSimpArgs false
namespace Go.Proofs.Ytaoodchjggimcaa
open Go.RowKit

theorem count_ok (N : Nat) : ∀ (t : RTy) (B cb : Nat) (n : Int) (a : Option Addr) (c : Nat) (w : World), t.nodes ≤ N → t.In w B a → B ≤ cb → cb < w.heap.size →
    w.cell? ⟨cb, 0, none⟩ = some (.int .i64 n) → w.frozen? ⟨cb, 0, none⟩ = false → 0 ≤ n → n + t.nodes ≤ 8192 →
    Calls Try.prog 133 #[.pointer (some ⟨cb, 0, none⟩), .agg #[.int .i8 t.k, .slice a t.ks.length c]] w fun e w' => e = .returned (.tuple #[]) ∧ Below cb w w' ∧ w'.cell? ⟨cb, 0, none⟩ = some (.int .i64 (n + t.nodes)) ∧ w'.frozen? ⟨cb, 0, none⟩ = false := by
  induction N with
  | zero => intro t B cb n a c w h; have := t.nodes_pos; omega
  | succ N ih =>
  intro t B cb n a c w hN hin hB hcb hc hf hn0 hn
  have hlen := hin.len
  have hne := t.nodes_eq
  have HN := Lib.hid hne
  have hnp := t.nodes_pos
  clear hne
  go_enter Try.func133, Try.ntmps133
  go_wp2_with fail
  go_loopw [23] (fun i wr => ∃ j : Nat, j ≤ t.ks.length ∧ i = .int .i64 j ∧ ∃ m : Int, 0 ≤ m ∧ m + RTy.nodesL (t.ks.drop j) = n + t.nodes ∧ wr.cell? ⟨cb, 0, none⟩ = some (.int .i64 m) ∧ wr.frozen? ⟨cb, 0, none⟩ = false ∧ Below cb w wr) (fun i _ => t.ks.length - (intOf i).toNat)
  case atStart =>
    refine ⟨0, by omega, rfl, n + 1, by omega, ?_, ?_, ?_, ?_⟩
    · have := HN.out; simp; omega
    · simp [go_sem, hc, hcb]
    · simp [go_sem, hf, hcb]
    · (repeat (first | assumption | exact Below.refl _ _ | apply below_drewN | apply Below.drew | (refine Below.alloc ?_ (by first | omega | (simp; done) | (simp; omega)) _) | (refine Below.setCell ?_ (by first | omega | (simp; done) | (simp; omega)) _)))
  case round =>
    obtain ⟨j, hj, rfl, m, hm0, hinv, hwc, hwf, hb⟩ := hrel
    by_cases hlt : j < t.ks.length
    · have hk := List.getElem?_eq_getElem hlt
      generalize hkid : t.ks[j] = kid at hk
      have HD := Lib.hid (RTy.nodesL_drop hk)
      obtain ⟨b, o, a', c', rfl, hbB, hc1, hc2, hkin⟩ := (hin.below hb hB).kid hk
      have hnk := RTy.kid_nodes hk
      have hd := RTy.nodesL_drop hk
      have hle : m + kid.nodes ≤ 8192 := by omega
      clear hk hkid hd
      have HI := Lib.hid hinv
      clear hinv
      have hbs := hb.size
      go_wp2_with fail
      refine (ih kid B cb m a' c' _ (by omega) (hkin.below ((Below.refl _ _).alloc (Nat.le_refl _) _) (by omega)) (by omega) (by simp; omega) (cell_kept (below_new _ _) hwc) (frozen_kept (below_new _ _) (by omega) hwf) (by omega) (by omega)).mono ?_
      rintro e w1 ⟨rfl, hb1, hc3, hf3⟩
      go_wp2_with fail
      go_round
      case rel =>
        refine ⟨j + 1, by omega, by go_num, m + kid.nodes, by omega, ?_, hc3, hf3, (hb.alloc (by omega) _).trans hb1⟩
        have h1 := HD.out
        have h2 := HI.out
        omega
      case measure => simp [intOf]; omega
    · have : j = t.ks.length := by omega
      subst this
      go_wp2_with fail
      go_end0
      simp [RTy.nodesL] at hinv
      exact ⟨rfl, hb, by rw [← hinv]; exact hwc, hwf⟩

theorem count_big (N : Nat) : ∀ (t : RTy) (B cb : Nat) (n : Int) (a : Option Addr) (c : Nat) (w : World), t.nodes ≤ N → t.In w B a → B ≤ cb → cb < w.heap.size →
    w.cell? ⟨cb, 0, none⟩ = some (.int .i64 n) → w.frozen? ⟨cb, 0, none⟩ = false → 0 ≤ n → n ≤ 8192 → 8192 < n + t.nodes →
    Calls Try.prog 133 #[.pointer (some ⟨cb, 0, none⟩), .agg #[.int .i8 t.k, .slice a t.ks.length c]] w fun e w' => e = .panicked [{ v := .iface 173 (.agg #[]), recovered := false }] ∧ Below cb w w' := by
  induction N with
  | zero => intro t B cb n a c w h; have := t.nodes_pos; omega
  | succ N ih =>
  intro t B cb n a c w hN hin hB hcb hc hf hn0 hn1 hn
  have hlen := hin.len
  have hne := t.nodes_eq
  have HN := Lib.hid hne
  have hnp := t.nodes_pos
  clear hne
  by_cases h8 : n = 8192
  · subst h8
    go_enter Try.func133, Try.ntmps133
    go_wp2_with fail
    refine ⟨rfl, rfl, ?_⟩
    (repeat (first | assumption | exact Below.refl _ _ | apply below_drewN | apply Below.drew | (refine Below.alloc ?_ (by first | omega | (simp; done) | (simp; omega)) _) | (refine Below.setCell ?_ (by first | omega | (simp; done) | (simp; omega)) _)))
  have h8' : n < 8192 := by omega
  clear h8
  go_enter Try.func133, Try.ntmps133
  go_wp2_with fail
  go_loopw [23] (fun i wr => ∃ j : Nat, j ≤ t.ks.length ∧ i = .int .i64 j ∧ ∃ m : Int, 0 ≤ m ∧ m ≤ 8192 ∧ m + RTy.nodesL (t.ks.drop j) = n + t.nodes ∧ wr.cell? ⟨cb, 0, none⟩ = some (.int .i64 m) ∧ wr.frozen? ⟨cb, 0, none⟩ = false ∧ Below cb w wr) (fun i _ => t.ks.length - (intOf i).toNat)
  case atStart =>
    refine ⟨0, by omega, rfl, n + 1, by omega, by omega, ?_, ?_, ?_, ?_⟩
    · have := HN.out; simp; omega
    · simp [go_sem, hc, hcb]
    · simp [go_sem, hf, hcb]
    · (repeat (first | assumption | exact Below.refl _ _ | apply below_drewN | apply Below.drew | (refine Below.alloc ?_ (by first | omega | (simp; done) | (simp; omega)) _) | (refine Below.setCell ?_ (by first | omega | (simp; done) | (simp; omega)) _)))
  case round =>
    obtain ⟨j, hj, rfl, m, hm0, hm1, hinv, hwc, hwf, hb⟩ := hrel
    by_cases hlt : j < t.ks.length
    · have hk := List.getElem?_eq_getElem hlt
      generalize hkid : t.ks[j] = kid at hk
      have HD := Lib.hid (RTy.nodesL_drop hk)
      obtain ⟨b, o, a', c', rfl, hbB, hc1, hc2, hkin⟩ := (hin.below hb hB).kid hk
      have hnk := RTy.kid_nodes hk
      clear hk hkid
      have HI := Lib.hid hinv
      clear hinv
      have hbs := hb.size
      by_cases hle : m + kid.nodes ≤ 8192
      · go_wp2_with fail
        refine (count_ok N kid B cb m a' c' _ (by omega) (hkin.below ((Below.refl _ _).alloc (Nat.le_refl _) _) (by omega)) (by omega) (by simp; omega) (cell_kept (below_new _ _) hwc) (frozen_kept (below_new _ _) (by omega) hwf) (by omega) (by omega)).mono ?_
        rintro e w1 ⟨rfl, hb1, hc3, hf3⟩
        go_wp2_with fail
        go_round
        case rel =>
          refine ⟨j + 1, by omega, by go_num, m + kid.nodes, by omega, by omega, ?_, hc3, hf3, (hb.alloc (by omega) _).trans hb1⟩
          have h1 := HD.out
          have h2 := HI.out
          omega
        case measure => simp [intOf]; omega
      · go_wp2_with fail
        refine (ih kid B cb m a' c' _ (by omega) (hkin.below ((Below.refl _ _).alloc (Nat.le_refl _) _) (by omega)) (by omega) (by simp; omega) (cell_kept (below_new _ _) hwc) (frozen_kept (below_new _ _) (by omega) hwf) (by omega) (by omega) (by omega)).mono ?_
        rintro e w1 ⟨rfl, hb1⟩
        go_wp2_with fail
        exact ⟨rfl, rfl, (hb.alloc (by omega) _).trans hb1⟩
    · have : j = t.ks.length := by omega
      subst this
      simp [RTy.nodesL] at hinv
      omega
end Go.Proofs.Ytaoodchjggimcaa

/- The walks of package types, third part: Nodes and its deferred closure. -/
set_option linter.unusedVariables false
set_option linter.unusedSimpArgs false
namespace Go.Proofs.Ytaoodchjggimcaa
open Go.RowKit

theorem nodesD_idle (p : Addr) (w : World) :
    CallsD Try.prog 132 #[.pointer (some p)] .returning w fun e u' w' => e = .returned (.tuple #[]) ∧ u' = .returning ∧ w' = w := by
  refine callsD_of_wpS Try.func132 rfl fun c₀ cs hu => ?_
  apply wpS_seq
  apply wpS_region
  simp [wpOpsS, go_sem, recoverD, hu, Try.ntmps132, Exit.thenS]
  refine wpS_of_wp ?_
  go_wp2_with fail
  cases c₀
  simp_all [bodyPostS, results, Try.results132]

theorem assert_great (w : World) : (Instr.typeAssert (.iface 173 (.agg #[])) 20 173 true).run Try.prog w = .ok (.tuple #[.agg #[], .bool true]) w := by kernel_rfl

theorem nodesD_panic (b : Nat) (x : Int) (older : List PanicEntry) (w : World) (hc : w.cell? ⟨b, 0, none⟩ = some (.int .i64 x)) (hz : w.frozen? ⟨b, 0, none⟩ = false) :
    CallsD Try.prog 132 #[.pointer (some ⟨b, 0, none⟩)] (.panicking ({ v := .iface 173 (.agg #[]), recovered := false } :: older)) w fun e u' w' =>
      e = .returned (.tuple #[]) ∧ u' = .panicking ({ v := .iface 173 (.agg #[]), recovered := true } :: older) ∧ w' = (w.setCell ⟨b, 0, none⟩ (.int .i64 8193)).alloc (.cells #[] 173) := by
  have hlt : b < w.heap.size := World.block_lt_of_cell? w _ hc
  refine callsD_of_wpS Try.func132 rfl fun c₀ cs hu => ?_
  apply wpS_seq
  apply wpS_region
  simp [wpOpsS, go_sem, recoverD, hu, Try.ntmps132, Exit.thenS]
  refine wpS_of_wp ?_
  have HU := Lib.hid hu
  clear hu
  have hz' : (w.alloc (.cells #[] 173)).frozen? ⟨b, 0, none⟩ = false := frozen_kept (below_new _ _) hlt hz
  rw [show (#[Value.pointer (some ⟨b, 0, none⟩)] ++ (Array.replicate 9 undef).setIfInBounds 3 (Value.iface 173 (Value.agg #[])) : Array Value) = #[Value.pointer (some ⟨b, 0, none⟩), undef, undef, undef, Value.iface 173 (Value.agg #[]), undef, undef, undef, undef, undef] from rfl]
  have hta := assert_great
  go_wp2_with fail
  simp_all [bodyPostS, results, Try.results132]

theorem makeFunc_run {P : Program} : ∀ (fn : Fn) (first cap : Array Value) (w : World), (Instr.makeFunc fn first cap).run P w = .ok (.func fn first cap) w := fun _ _ _ _ => rfl

theorem tnodes_any (t : RTy) (B : Nat) (a : Option Addr) (c : Nat) (w : World) (hin : t.In w B a) (hB : B ≤ w.heap.size) :
    Calls Try.prog 78 #[.agg #[.int .i8 t.k, .slice a t.ks.length c]] w fun e w' => e = .returned (.int .i64 (min (t.nodes : Int) 8193)) ∧ Below w.heap.size w w' := by
  have hmf := @makeFunc_run Try.prog
  by_cases hn : t.nodes ≤ 8192
  · have e1 : min (t.nodes : Int) 8193 = t.nodes := by omega
    have hn2 : (t.nodes : Int) ≤ 8192 := by omega
    clear hn
    go_enter_defers Try.func78, Try.ntmps78
    go_wp2_with fail
    refine (count_ok t.nodes t B (w.heap.size + 1 + 1) 0 a c _ (Nat.le_refl _) (hin.below (C := w.heap.size) (by (repeat (first | assumption | exact Below.refl _ _ | apply below_drewN | apply Below.drew | (refine Below.alloc ?_ (by first | omega | (simp; done) | (simp; omega)) _) | (refine Below.setCell ?_ (by first | omega | (simp; done) | (simp; omega)) _)))) hB) (by omega) (by simp) (by simp [go_sem]) (by simp [go_sem]) (by omega) (by omega)).mono ?_
    rintro e w1 ⟨rfl, hb1, hc1, hf1⟩
    have q1 : w1.cell? ⟨w.heap.size + 1, 0, none⟩ = some (.int .i64 0) := by rw [(bcell hb1).1 _ _ (by omega)]; simp [go_sem]
    have q2 : w1.frozen? ⟨w.heap.size + 1, 0, none⟩ = false := by rw [(bcell hb1).2 _ _ (by omega)]; simp [go_sem]
    have hb0 : Below w.heap.size w w1 := Below.trans (by (repeat (first | assumption | exact Below.refl _ _ | apply below_drewN | apply Below.drew | (refine Below.alloc ?_ (by first | omega | (simp; done) | (simp; omega)) _) | (refine Below.setCell ?_ (by first | omega | (simp; done) | (simp; omega)) _)))) (hb1.mono (by omega))
    have hs1 := hb1.size
    rw [World.size_alloc, World.size_alloc, World.size_alloc] at hs1
    simp only [Int.zero_add] at hc1
    go_wp2_with fail
    refine leaves_cons (f := 132) (args := #[.pointer (some ⟨w.heap.size + 1, 0, none⟩)]) (by simp) (by simp [go_sem]) ?_
    refine (nodesD_idle ⟨w.heap.size + 1, 0, none⟩ _).mono ?_
    rintro e u' w'' ⟨rfl, rfl, rfl⟩
    simp [Leaves, settle, results, Try.results78, go_sem, q1]
    refine ⟨e1.symm, ?_⟩
    (repeat (first | assumption | exact Below.refl _ _ | apply below_drewN | apply Below.drew | (refine Below.alloc ?_ (by first | omega | (simp; done) | (simp; omega)) _) | (refine Below.setCell ?_ (by first | omega | (simp; done) | (simp; omega)) _)))
  · have e1 : min (t.nodes : Int) 8193 = 8193 := by omega
    have hn' : 8192 < (t.nodes : Int) := by omega
    clear hn
    go_enter_defers Try.func78, Try.ntmps78
    go_wp2_with fail
    refine (count_big t.nodes t B (w.heap.size + 1 + 1) 0 a c _ (Nat.le_refl _) (hin.below (C := w.heap.size) (by (repeat (first | assumption | exact Below.refl _ _ | apply below_drewN | apply Below.drew | (refine Below.alloc ?_ (by first | omega | (simp; done) | (simp; omega)) _) | (refine Below.setCell ?_ (by first | omega | (simp; done) | (simp; omega)) _)))) hB) (by omega) (by simp) (by simp [go_sem]) (by simp [go_sem]) (by omega) (by omega) (by omega)).mono ?_
    rintro e w1 ⟨rfl, hb1⟩
    have q1 : w1.cell? ⟨w.heap.size + 1, 0, none⟩ = some (.int .i64 0) := by rw [(bcell hb1).1 _ _ (by omega)]; simp [go_sem]
    have q2 : w1.frozen? ⟨w.heap.size + 1, 0, none⟩ = false := by rw [(bcell hb1).2 _ _ (by omega)]; simp [go_sem]
    have hb0 : Below w.heap.size w w1 := Below.trans (by (repeat (first | assumption | exact Below.refl _ _ | apply below_drewN | apply Below.drew | (refine Below.alloc ?_ (by first | omega | (simp; done) | (simp; omega)) _) | (refine Below.setCell ?_ (by first | omega | (simp; done) | (simp; omega)) _)))) (hb1.mono (by omega))
    have hs1 := hb1.size
    rw [World.size_alloc, World.size_alloc, World.size_alloc] at hs1
    go_wp2_with fail
    refine leaves_cons (f := 132) (args := #[.pointer (some ⟨w.heap.size + 1, 0, none⟩)]) (by simp) (by simp [go_sem]) ?_
    refine (nodesD_panic (w.heap.size + 1) 0 [] _ q1 q2).mono ?_
    rintro e u' w'' ⟨rfl, rfl, rfl⟩
    have hlt : w.heap.size + 1 < w1.heap.size := by omega
    have q3 : ((w1.setCell ⟨w.heap.size + 1, 0, none⟩ (.int .i64 8193)).alloc (.cells #[] 173)).cell? ⟨w.heap.size + 1, 0, none⟩ = some (.int .i64 8193) := by
      rw [World.cell?_alloc_past _ _ _ (by simp; omega)]; exact World.cell?_setCell_same _ _ _ q1
    simp [Leaves, settle, results, Try.results78, go_sem, q3]
    refine ⟨e1.symm, ?_⟩
    (repeat (first | assumption | exact Below.refl _ _ | apply below_drewN | apply Below.drew | (refine Below.alloc ?_ (by first | omega | (simp; done) | (simp; omega)) _) | (refine Below.setCell ?_ (by first | omega | (simp; done) | (simp; omega)) _)))
end Go.Proofs.Ytaoodchjggimcaa

/- The walks of package types, fourth part: Depth, Check, Same; package agree. -/
set_option linter.unusedVariables false
set_option linter.unusedSimpArgs false
namespace Go.Proofs.Ytaoodchjggimcaa
open Go.RowKit

theorem tdepth_any (t : RTy) (B : Nat) (a : Option Addr) (c : Nat) (w : World) (hin : t.In w B a) (hB : B ≤ w.heap.size) :
    Calls Try.prog 79 #[.agg #[.int .i8 t.k, .slice a t.ks.length c]] w fun e w' => e = .returned (.int .i64 t.dep) ∧ Below w.heap.size w w' := by
  by_cases hn : t.nodes ≤ 8192
  · have e1 : min (t.nodes : Int) 8193 = t.nodes := by omega
    have e2 : t.dep = min (t.depth : Int) 201 := by unfold RTy.dep; rw [if_neg (by omega)]
    have E2 := Lib.hid e2
    have hn2 : (t.nodes : Int) ≤ 8192 := by omega
    clear hn e2
    go_enter Try.func79, Try.ntmps79
    go_wp2_with fail
    refine (tnodes_any t B a c _ (hin.below (C := w.heap.size) (by (repeat (first | assumption | exact Below.refl _ _ | apply below_drewN | apply Below.drew | (refine Below.alloc ?_ (by first | omega | (simp; done) | (simp; omega)) _) | (refine Below.setCell ?_ (by first | omega | (simp; done) | (simp; omega)) _)))) hB) (by simp; omega)).mono ?_
    rw [e1]
    rintro e w1 ⟨rfl, hb1⟩
    have hb0 : Below w.heap.size w w1 := Below.trans (by (repeat (first | assumption | exact Below.refl _ _ | apply below_drewN | apply Below.drew | (refine Below.alloc ?_ (by first | omega | (simp; done) | (simp; omega)) _) | (refine Below.setCell ?_ (by first | omega | (simp; done) | (simp; omega)) _)))) (hb1.mono (by simp))
    have hs := hb0.size
    have q := cell_kept hb1 (World.cell?_alloc_new w #[.int .i8 t.k, .slice a t.ks.length c] 25 0)
    have q' := cell_kept hb1 (World.cell?_alloc_new w #[.int .i8 t.k, .slice a t.ks.length c] 25 1)
    simp at q q'
    clear e1
    go_wp2_with fail
    refine (deep_any t.nodes t B a c 201 _ (Nat.le_refl _) (hin.below hb0 hB) (by omega) (by omega) (by omega)).mono ?_
    rintro e w2 ⟨rfl, hb2⟩
    go_wp2_with fail
    go_ret
    exact ⟨ret_int E2.out.symm, hb0.trans (hb2.mono hs)⟩
  · have e1 : min (t.nodes : Int) 8193 = 8193 := by omega
    have e2 : t.dep = 201 := by unfold RTy.dep; rw [if_pos (by omega)]
    clear hn
    go_enter Try.func79, Try.ntmps79
    go_wp2_with fail
    refine (tnodes_any t B a c _ (hin.below (C := w.heap.size) (by (repeat (first | assumption | exact Below.refl _ _ | apply below_drewN | apply Below.drew | (refine Below.alloc ?_ (by first | omega | (simp; done) | (simp; omega)) _) | (refine Below.setCell ?_ (by first | omega | (simp; done) | (simp; omega)) _)))) hB) (by simp; omega)).mono ?_
    rw [e1]
    rintro e w1 ⟨rfl, hb1⟩
    go_wp2_with fail
    go_ret
    exact ⟨ret_int e2.symm, Below.trans (by (repeat (first | assumption | exact Below.refl _ _ | apply below_drewN | apply Below.drew | (refine Below.alloc ?_ (by first | omega | (simp; done) | (simp; omega)) _) | (refine Below.setCell ?_ (by first | omega | (simp; done) | (simp; omega)) _)))) (hb1.mono (by simp))⟩

theorem tcheck_any (t : RTy) (B : Nat) (a : Option Addr) (c : Nat) (w : World) (hin : t.In w B a) (hB : B ≤ w.heap.size) :
    Calls Try.prog 43 #[.agg #[.int .i8 t.k, .slice a t.ks.length c]] w fun e w' => e = .returned (.int .i64 t.check) ∧ Below w.heap.size w w' := by
  by_cases hn : t.nodes ≤ 8192
  · have e1 : min (t.nodes : Int) 8193 = t.nodes := by omega
    have hn2 : (t.nodes : Int) ≤ 8192 := by omega
    have e2 : t.dep = min (t.depth : Int) 201 := by unfold RTy.dep; rw [if_neg (by omega)]
    by_cases hd : t.depth ≤ 200
    · have e3 : t.dep = t.depth := by omega
      have E : Hid (t.check = if t.right then 0 else 20) := by show t.check = _; unfold RTy.check; rw [if_neg (by omega), if_neg (by omega)]
      have hd2 : (t.depth : Int) ≤ 200 := by omega
      clear hn e2
      go_enter Try.func43, Try.ntmps43
      go_wp2_with fail
      refine (tnodes_any t B a c _ (hin.below (C := w.heap.size) (by (repeat (first | assumption | exact Below.refl _ _ | apply below_drewN | apply Below.drew | (refine Below.alloc ?_ (by first | omega | (simp; done) | (simp; omega)) _) | (refine Below.setCell ?_ (by first | omega | (simp; done) | (simp; omega)) _)))) hB) (by simp; omega)).mono ?_
      rw [e1]
      rintro e w1 ⟨rfl, hb1⟩
      have hb0 : Below w.heap.size w w1 := Below.trans (by (repeat (first | assumption | exact Below.refl _ _ | apply below_drewN | apply Below.drew | (refine Below.alloc ?_ (by first | omega | (simp; done) | (simp; omega)) _) | (refine Below.setCell ?_ (by first | omega | (simp; done) | (simp; omega)) _)))) (hb1.mono (by simp))
      have hs := hb0.size
      have q := cell_kept hb1 (World.cell?_alloc_new w #[.int .i8 t.k, .slice a t.ks.length c] 25 0)
      have q' := cell_kept hb1 (World.cell?_alloc_new w #[.int .i8 t.k, .slice a t.ks.length c] 25 1)
      simp at q q'
      clear e1
      go_wp2_with fail
      refine (tdepth_any t B a c _ (hin.below hb0 hB) (by omega)).mono ?_
      rw [e3]
      rintro e w2 ⟨rfl, hb2⟩
      have hb02 := hb0.trans (hb2.mono hs)
      have hs2 := hb02.size
      have q2 := cell_kept hb2 q
      have q2' := cell_kept hb2 q'
      clear e3
      go_wp2_with fail
      refine (tright_any t.nodes t B a c _ (Nat.le_refl _) (hin.below hb02 hB) (by omega)).mono ?_
      rintro e w3 ⟨rfl, hb3⟩
      have hb03 := hb02.trans (hb3.mono hs2)
      by_cases hr : t.right = true
      · go_wp2_with fail
        go_ret
        exact ⟨ret_int (by rw [E.out, hr]; rfl), hb03⟩
      · have hr' : t.right = false := by simpa using hr
        clear hr
        go_wp2_with fail
        go_ret
        exact ⟨ret_int (by rw [E.out, hr']; rfl), hb03⟩
    · have e3 : t.dep = 201 := by omega
      have E : t.check = 31 := by unfold RTy.check; rw [if_neg (by omega), if_pos (by omega)]
      clear hn e2
      go_enter Try.func43, Try.ntmps43
      go_wp2_with fail
      refine (tnodes_any t B a c _ (hin.below (C := w.heap.size) (by (repeat (first | assumption | exact Below.refl _ _ | apply below_drewN | apply Below.drew | (refine Below.alloc ?_ (by first | omega | (simp; done) | (simp; omega)) _) | (refine Below.setCell ?_ (by first | omega | (simp; done) | (simp; omega)) _)))) hB) (by simp; omega)).mono ?_
      rw [e1]
      rintro e w1 ⟨rfl, hb1⟩
      have hb0 : Below w.heap.size w w1 := Below.trans (by (repeat (first | assumption | exact Below.refl _ _ | apply below_drewN | apply Below.drew | (refine Below.alloc ?_ (by first | omega | (simp; done) | (simp; omega)) _) | (refine Below.setCell ?_ (by first | omega | (simp; done) | (simp; omega)) _)))) (hb1.mono (by simp))
      have hs := hb0.size
      have q := cell_kept hb1 (World.cell?_alloc_new w #[.int .i8 t.k, .slice a t.ks.length c] 25 0)
      have q' := cell_kept hb1 (World.cell?_alloc_new w #[.int .i8 t.k, .slice a t.ks.length c] 25 1)
      simp at q q'
      clear e1
      go_wp2_with fail
      refine (tdepth_any t B a c _ (hin.below hb0 hB) (by omega)).mono ?_
      rw [e3]
      rintro e w2 ⟨rfl, hb2⟩
      clear e3
      go_wp2_with fail
      go_ret
      exact ⟨ret_int E.symm, hb0.trans (hb2.mono hs)⟩
  · have e1 : min (t.nodes : Int) 8193 = 8193 := by omega
    have E : t.check = 32 := by unfold RTy.check; rw [if_pos (by omega)]
    clear hn
    go_enter Try.func43, Try.ntmps43
    go_wp2_with fail
    refine (tnodes_any t B a c _ (hin.below (C := w.heap.size) (by (repeat (first | assumption | exact Below.refl _ _ | apply below_drewN | apply Below.drew | (refine Below.alloc ?_ (by first | omega | (simp; done) | (simp; omega)) _) | (refine Below.setCell ?_ (by first | omega | (simp; done) | (simp; omega)) _)))) hB) (by simp; omega)).mono ?_
    rw [e1]
    rintro e w1 ⟨rfl, hb1⟩
    go_wp2_with fail
    go_ret
    exact ⟨ret_int E.symm, Below.trans (by (repeat (first | assumption | exact Below.refl _ _ | apply below_drewN | apply Below.drew | (refine Below.alloc ?_ (by first | omega | (simp; done) | (simp; omega)) _) | (refine Below.setCell ?_ (by first | omega | (simp; done) | (simp; omega)) _)))) (hb1.mono (by simp))⟩
end Go.Proofs.Ytaoodchjggimcaa

/- The walk of terms.of: what counts for a kind. -/
set_option linter.unusedVariables false
set_option linter.unusedSimpArgs false
namespace Go.Proofs.Ytaoodchjggimcaa
open Go.RowKit

def shapeV (k : Int) : Value := .agg #[.int .i64 (kidsOf k), .bool (hasName k), .bool (hasArg k), .bool (hasNum k), .bool (hasFrom k), .bool (hasTo k), .bool (hasLabel k), .bool (hasOp k)]

set_option maxHeartbeats 4000000 in
theorem of_any (k : Int) (w : World) : Calls Try.prog 86 #[.int .i8 k] w fun e w' => e = .returned (.tuple #[shapeV k, .bool (isKind k)]) ∧ Below w.heap.size w w' := by
  by_cases h0 : k = 0
  · subst h0
    have e : shapeV 0 = .agg #[.int .i64 0, .bool true, .bool false, .bool false, .bool false, .bool false, .bool false, .bool false] := rfl
    go_enter Try.func86, Try.ntmps86
    go_wp2_with fail
    exact bodyPost_ret (v := .tuple #[.agg #[.int .i64 0, .bool true, .bool false, .bool false, .bool false, .bool false, .bool false, .bool false], .bool true]) (by simp [results, Try.results86, go_sem]) rfl ⟨rfl, by (repeat (first | assumption | exact Below.refl _ _ | apply below_drewN | apply Below.drew | (refine Below.alloc ?_ (by first | omega | (simp; done) | (simp; omega)) _) | (refine Below.setCell ?_ (by first | omega | (simp; done) | (simp; omega)) _)))⟩
  by_cases h1 : k = 1
  · subst h1
    have e : shapeV 1 = .agg #[.int .i64 0, .bool false, .bool false, .bool true, .bool false, .bool false, .bool false, .bool false] := rfl
    go_enter Try.func86, Try.ntmps86
    go_wp2_with fail
    exact bodyPost_ret (v := .tuple #[.agg #[.int .i64 0, .bool false, .bool false, .bool true, .bool false, .bool false, .bool false, .bool false], .bool true]) (by simp [results, Try.results86, go_sem]) rfl ⟨rfl, by (repeat (first | assumption | exact Below.refl _ _ | apply below_drewN | apply Below.drew | (refine Below.alloc ?_ (by first | omega | (simp; done) | (simp; omega)) _) | (refine Below.setCell ?_ (by first | omega | (simp; done) | (simp; omega)) _)))⟩
  by_cases h2 : k = 2
  · subst h2
    have e : shapeV 2 = .agg #[.int .i64 0, .bool false, .bool false, .bool false, .bool false, .bool false, .bool false, .bool false] := rfl
    go_enter Try.func86, Try.ntmps86
    go_wp2_with fail
    exact bodyPost_ret (v := .tuple #[.agg #[.int .i64 0, .bool false, .bool false, .bool false, .bool false, .bool false, .bool false, .bool false], .bool true]) (by simp [results, Try.results86, go_sem]) rfl ⟨rfl, by (repeat (first | assumption | exact Below.refl _ _ | apply below_drewN | apply Below.drew | (refine Below.alloc ?_ (by first | omega | (simp; done) | (simp; omega)) _) | (refine Below.setCell ?_ (by first | omega | (simp; done) | (simp; omega)) _)))⟩
  by_cases h3 : k = 3
  · subst h3
    have e : shapeV 3 = .agg #[.int .i64 0, .bool false, .bool false, .bool false, .bool false, .bool false, .bool false, .bool false] := rfl
    go_enter Try.func86, Try.ntmps86
    go_wp2_with fail
    exact bodyPost_ret (v := .tuple #[.agg #[.int .i64 0, .bool false, .bool false, .bool false, .bool false, .bool false, .bool false, .bool false], .bool true]) (by simp [results, Try.results86, go_sem]) rfl ⟨rfl, by (repeat (first | assumption | exact Below.refl _ _ | apply below_drewN | apply Below.drew | (refine Below.alloc ?_ (by first | omega | (simp; done) | (simp; omega)) _) | (refine Below.setCell ?_ (by first | omega | (simp; done) | (simp; omega)) _)))⟩
  by_cases h4 : k = 4
  · subst h4
    have e : shapeV 4 = .agg #[.int .i64 1, .bool true, .bool false, .bool false, .bool true, .bool false, .bool false, .bool false] := rfl
    go_enter Try.func86, Try.ntmps86
    go_wp2_with fail
    exact bodyPost_ret (v := .tuple #[.agg #[.int .i64 1, .bool true, .bool false, .bool false, .bool true, .bool false, .bool false, .bool false], .bool true]) (by simp [results, Try.results86, go_sem]) rfl ⟨rfl, by (repeat (first | assumption | exact Below.refl _ _ | apply below_drewN | apply Below.drew | (refine Below.alloc ?_ (by first | omega | (simp; done) | (simp; omega)) _) | (refine Below.setCell ?_ (by first | omega | (simp; done) | (simp; omega)) _)))⟩
  by_cases h5 : k = 5
  · subst h5
    have e : shapeV 5 = .agg #[.int .i64 1, .bool true, .bool true, .bool false, .bool true, .bool true, .bool false, .bool false] := rfl
    go_enter Try.func86, Try.ntmps86
    go_wp2_with fail
    exact bodyPost_ret (v := .tuple #[.agg #[.int .i64 1, .bool true, .bool true, .bool false, .bool true, .bool true, .bool false, .bool false], .bool true]) (by simp [results, Try.results86, go_sem]) rfl ⟨rfl, by (repeat (first | assumption | exact Below.refl _ _ | apply below_drewN | apply Below.drew | (refine Below.alloc ?_ (by first | omega | (simp; done) | (simp; omega)) _) | (refine Below.setCell ?_ (by first | omega | (simp; done) | (simp; omega)) _)))⟩
  by_cases h6 : k = 6
  · subst h6
    have e : shapeV 6 = .agg #[.int .i64 2, .bool false, .bool false, .bool false, .bool false, .bool false, .bool false, .bool false] := rfl
    go_enter Try.func86, Try.ntmps86
    go_wp2_with fail
    exact bodyPost_ret (v := .tuple #[.agg #[.int .i64 2, .bool false, .bool false, .bool false, .bool false, .bool false, .bool false, .bool false], .bool true]) (by simp [results, Try.results86, go_sem]) rfl ⟨rfl, by (repeat (first | assumption | exact Below.refl _ _ | apply below_drewN | apply Below.drew | (refine Below.alloc ?_ (by first | omega | (simp; done) | (simp; omega)) _) | (refine Below.setCell ?_ (by first | omega | (simp; done) | (simp; omega)) _)))⟩
  by_cases h7 : k = 7
  · subst h7
    have e : shapeV 7 = .agg #[.int .i64 2, .bool true, .bool false, .bool false, .bool true, .bool false, .bool false, .bool false] := rfl
    go_enter Try.func86, Try.ntmps86
    go_wp2_with fail
    exact bodyPost_ret (v := .tuple #[.agg #[.int .i64 2, .bool true, .bool false, .bool false, .bool true, .bool false, .bool false, .bool false], .bool true]) (by simp [results, Try.results86, go_sem]) rfl ⟨rfl, by (repeat (first | assumption | exact Below.refl _ _ | apply below_drewN | apply Below.drew | (refine Below.alloc ?_ (by first | omega | (simp; done) | (simp; omega)) _) | (refine Below.setCell ?_ (by first | omega | (simp; done) | (simp; omega)) _)))⟩
  by_cases h8 : k = 8
  · subst h8
    have e : shapeV 8 = .agg #[.int .i64 3, .bool false, .bool false, .bool false, .bool false, .bool false, .bool false, .bool false] := rfl
    go_enter Try.func86, Try.ntmps86
    go_wp2_with fail
    exact bodyPost_ret (v := .tuple #[.agg #[.int .i64 3, .bool false, .bool false, .bool false, .bool false, .bool false, .bool false, .bool false], .bool true]) (by simp [results, Try.results86, go_sem]) rfl ⟨rfl, by (repeat (first | assumption | exact Below.refl _ _ | apply below_drewN | apply Below.drew | (refine Below.alloc ?_ (by first | omega | (simp; done) | (simp; omega)) _) | (refine Below.setCell ?_ (by first | omega | (simp; done) | (simp; omega)) _)))⟩
  by_cases h9 : k = 9
  · subst h9
    have e : shapeV 9 = .agg #[.int .i64 2, .bool false, .bool false, .bool false, .bool false, .bool false, .bool false, .bool false] := rfl
    go_enter Try.func86, Try.ntmps86
    go_wp2_with fail
    exact bodyPost_ret (v := .tuple #[.agg #[.int .i64 2, .bool false, .bool false, .bool false, .bool false, .bool false, .bool false, .bool false], .bool true]) (by simp [results, Try.results86, go_sem]) rfl ⟨rfl, by (repeat (first | assumption | exact Below.refl _ _ | apply below_drewN | apply Below.drew | (refine Below.alloc ?_ (by first | omega | (simp; done) | (simp; omega)) _) | (refine Below.setCell ?_ (by first | omega | (simp; done) | (simp; omega)) _)))⟩
  by_cases h10 : k = 10
  · subst h10
    have e : shapeV 10 = .agg #[.int .i64 1, .bool false, .bool false, .bool false, .bool false, .bool false, .bool false, .bool false] := rfl
    go_enter Try.func86, Try.ntmps86
    go_wp2_with fail
    exact bodyPost_ret (v := .tuple #[.agg #[.int .i64 1, .bool false, .bool false, .bool false, .bool false, .bool false, .bool false, .bool false], .bool true]) (by simp [results, Try.results86, go_sem]) rfl ⟨rfl, by (repeat (first | assumption | exact Below.refl _ _ | apply below_drewN | apply Below.drew | (refine Below.alloc ?_ (by first | omega | (simp; done) | (simp; omega)) _) | (refine Below.setCell ?_ (by first | omega | (simp; done) | (simp; omega)) _)))⟩
  by_cases h11 : k = 11
  · subst h11
    have e : shapeV 11 = .agg #[.int .i64 1, .bool false, .bool false, .bool false, .bool false, .bool false, .bool false, .bool false] := rfl
    go_enter Try.func86, Try.ntmps86
    go_wp2_with fail
    exact bodyPost_ret (v := .tuple #[.agg #[.int .i64 1, .bool false, .bool false, .bool false, .bool false, .bool false, .bool false, .bool false], .bool true]) (by simp [results, Try.results86, go_sem]) rfl ⟨rfl, by (repeat (first | assumption | exact Below.refl _ _ | apply below_drewN | apply Below.drew | (refine Below.alloc ?_ (by first | omega | (simp; done) | (simp; omega)) _) | (refine Below.setCell ?_ (by first | omega | (simp; done) | (simp; omega)) _)))⟩
  by_cases h12 : k = 12
  · subst h12
    have e : shapeV 12 = .agg #[.int .i64 1, .bool false, .bool false, .bool false, .bool true, .bool false, .bool false, .bool false] := rfl
    go_enter Try.func86, Try.ntmps86
    go_wp2_with fail
    exact bodyPost_ret (v := .tuple #[.agg #[.int .i64 1, .bool false, .bool false, .bool false, .bool true, .bool false, .bool false, .bool false], .bool true]) (by simp [results, Try.results86, go_sem]) rfl ⟨rfl, by (repeat (first | assumption | exact Below.refl _ _ | apply below_drewN | apply Below.drew | (refine Below.alloc ?_ (by first | omega | (simp; done) | (simp; omega)) _) | (refine Below.setCell ?_ (by first | omega | (simp; done) | (simp; omega)) _)))⟩
  by_cases h13 : k = 13
  · subst h13
    have e : shapeV 13 = .agg #[.int .i64 1, .bool false, .bool false, .bool false, .bool true, .bool false, .bool false, .bool false] := rfl
    go_enter Try.func86, Try.ntmps86
    go_wp2_with fail
    exact bodyPost_ret (v := .tuple #[.agg #[.int .i64 1, .bool false, .bool false, .bool false, .bool true, .bool false, .bool false, .bool false], .bool true]) (by simp [results, Try.results86, go_sem]) rfl ⟨rfl, by (repeat (first | assumption | exact Below.refl _ _ | apply below_drewN | apply Below.drew | (refine Below.alloc ?_ (by first | omega | (simp; done) | (simp; omega)) _) | (refine Below.setCell ?_ (by first | omega | (simp; done) | (simp; omega)) _)))⟩
  by_cases h14 : k = 14
  · subst h14
    have e : shapeV 14 = .agg #[.int .i64 3, .bool true, .bool true, .bool false, .bool false, .bool false, .bool false, .bool false] := rfl
    go_enter Try.func86, Try.ntmps86
    go_wp2_with fail
    exact bodyPost_ret (v := .tuple #[.agg #[.int .i64 3, .bool true, .bool true, .bool false, .bool false, .bool false, .bool false, .bool false], .bool true]) (by simp [results, Try.results86, go_sem]) rfl ⟨rfl, by (repeat (first | assumption | exact Below.refl _ _ | apply below_drewN | apply Below.drew | (refine Below.alloc ?_ (by first | omega | (simp; done) | (simp; omega)) _) | (refine Below.setCell ?_ (by first | omega | (simp; done) | (simp; omega)) _)))⟩
  by_cases h15 : k = 15
  · subst h15
    have e : shapeV 15 = .agg #[.int .i64 2, .bool false, .bool false, .bool false, .bool false, .bool false, .bool false, .bool true] := rfl
    go_enter Try.func86, Try.ntmps86
    go_wp2_with fail
    exact bodyPost_ret (v := .tuple #[.agg #[.int .i64 2, .bool false, .bool false, .bool false, .bool false, .bool false, .bool false, .bool true], .bool true]) (by simp [results, Try.results86, go_sem]) rfl ⟨rfl, by (repeat (first | assumption | exact Below.refl _ _ | apply below_drewN | apply Below.drew | (refine Below.alloc ?_ (by first | omega | (simp; done) | (simp; omega)) _) | (refine Below.setCell ?_ (by first | omega | (simp; done) | (simp; omega)) _)))⟩
  by_cases h16 : k = 16
  · subst h16
    have e : shapeV 16 = .agg #[.int .i64 1, .bool false, .bool false, .bool false, .bool true, .bool false, .bool false, .bool false] := rfl
    go_enter Try.func86, Try.ntmps86
    go_wp2_with fail
    exact bodyPost_ret (v := .tuple #[.agg #[.int .i64 1, .bool false, .bool false, .bool false, .bool true, .bool false, .bool false, .bool false], .bool true]) (by simp [results, Try.results86, go_sem]) rfl ⟨rfl, by (repeat (first | assumption | exact Below.refl _ _ | apply below_drewN | apply Below.drew | (refine Below.alloc ?_ (by first | omega | (simp; done) | (simp; omega)) _) | (refine Below.setCell ?_ (by first | omega | (simp; done) | (simp; omega)) _)))⟩
  by_cases h17 : k = 17
  · subst h17
    have e : shapeV 17 = .agg #[.int .i64 1, .bool false, .bool false, .bool false, .bool true, .bool true, .bool true, .bool false] := rfl
    go_enter Try.func86, Try.ntmps86
    go_wp2_with fail
    exact bodyPost_ret (v := .tuple #[.agg #[.int .i64 1, .bool false, .bool false, .bool false, .bool true, .bool true, .bool true, .bool false], .bool true]) (by simp [results, Try.results86, go_sem]) rfl ⟨rfl, by (repeat (first | assumption | exact Below.refl _ _ | apply below_drewN | apply Below.drew | (refine Below.alloc ?_ (by first | omega | (simp; done) | (simp; omega)) _) | (refine Below.setCell ?_ (by first | omega | (simp; done) | (simp; omega)) _)))⟩
  have e1 : shapeV k = .agg #[.int .i64 0, .bool false, .bool false, .bool false, .bool false, .bool false, .bool false, .bool false] := by
    simp [shapeV, kidsOf, hasName, hasArg, hasNum, hasFrom, hasTo, hasLabel, hasOp, h0, h1, h2, h3, h4, h5, h6, h7, h8, h9, h10, h11, h12, h13, h14, h15, h16, h17]
  have e2 : isKind k = false := by
    unfold isKind
    rcases Int.lt_or_le k 0 with h | h
    · simp; omega
    · simp; omega
  rw [e1, e2]
  have g0 : (k == 0) = false := by simpa using h0
  have g1 : (k == 1) = false := by simpa using h1
  have g2 : (k == 2) = false := by simpa using h2
  have g3 : (k == 3) = false := by simpa using h3
  have g4 : (k == 4) = false := by simpa using h4
  have g5 : (k == 5) = false := by simpa using h5
  have g6 : (k == 6) = false := by simpa using h6
  have g7 : (k == 7) = false := by simpa using h7
  have g8 : (k == 8) = false := by simpa using h8
  have g9 : (k == 9) = false := by simpa using h9
  have g10 : (k == 10) = false := by simpa using h10
  have g11 : (k == 11) = false := by simpa using h11
  have g12 : (k == 12) = false := by simpa using h12
  have g13 : (k == 13) = false := by simpa using h13
  have g14 : (k == 14) = false := by simpa using h14
  have g15 : (k == 15) = false := by simpa using h15
  have g16 : (k == 16) = false := by simpa using h16
  have g17 : (k == 17) = false := by simpa using h17
  clear e1 e2 h0 h1 h2 h3 h4 h5 h6 h7 h8 h9 h10 h11 h12 h13 h14 h15 h16 h17
  go_enter Try.func86, Try.ntmps86
  go_wp2_with fail
  exact bodyPost_ret (v := .tuple #[.agg #[.int .i64 0, .bool false, .bool false, .bool false, .bool false, .bool false, .bool false, .bool false], .bool false]) (by simp [results, Try.results86, go_sem]) rfl ⟨rfl, by (repeat (first | assumption | exact Below.refl _ _ | apply below_drewN | apply Below.drew | (refine Below.alloc ?_ (by first | omega | (simp; done) | (simp; omega)) _) | (refine Below.setCell ?_ (by first | omega | (simp; done) | (simp; omega)) _)))⟩
end Go.Proofs.Ytaoodchjggimcaa
