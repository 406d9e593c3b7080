/- Parts of proofs about package rules and what it stands on: contracts of functions, and plain laws. -/
import Derived.Test.YtaoodchjggimcaaBa1
import Derived.LaidEql
import Derived.Stop.Asserts
import Derived.RowKitTokens
import Derived.LoopN
import Derived.Test.YtaoodchjggimcaaProg
import Derived.Test.YtaoodchjggimcaaBa0
import Derived.ProofKit
import Derived.OpenShut
import Derived.ChangeOld
import Derived.SizedLaws
import Derived.Deep.Slices
import Derived.Test.YtaoodchjggimcaaBa2

/- errors.Is of a fault and a number, by its contract. -/
set_option linter.unusedVariables false
set_option linter.unusedSimpArgs false
namespace Go.Proofs.Ytaoodchjggimcaa
open Go.RowKit Go.Extern.Stop Go.Stop Go.Extern

section
variable {P : Program} (w : World)
theorem run_equalIn_iface_int (d : Nat) {ti tn : TypeId} {ms : Array (String × TypeId)} {i : TypeInfo} {k : IntKind} (a b : Int)
    (hi : P.underlying ti = some (.interface ms)) (hn : P.underlying tn = some (.int k)) (hinfo : P.info? tn = some i) (hcomp : i.comparable = true) :
    (Op.equalIn (d + 2) ti (.iface tn (.int k a)) (.iface tn (.int k b))).run P w = .ok (a == b) w := by
  simp [Op.equalIn, run_underlying hi, run_underlying hn, typeInfo, hinfo, hcomp]
/-- 'x == y', both interface values of ONE integer type: as the numbers are. -/
theorem run_eql_iface_int {ti tn : TypeId} {ms : Array (String × TypeId)} {i : TypeInfo} {k : IntKind} (a b : Int)
    (hi : P.underlying ti = some (.interface ms)) (hn : P.underlying tn = some (.int k)) (hinfo : P.info? tn = some i) (hcomp : i.comparable = true) :
    (binOp .eql ti (.iface tn (.int k a)) (.iface tn (.int k b))).run P w = .ok (.bool (a == b)) w := by
  simp only [binOp]
  simp [Op.equal, Op.maxDepth, run_equalIn_iface_int w 9998 a b hi hn hinfo hcomp]
end

theorem unwrap_any (b : Nat) (c : Int) (w : World) (h0 : w.cell? ⟨b, 0, none⟩ = some (.int .i64 c)) :
    Calls Try.prog 168 #[.pointer (some ⟨b, 0, none⟩)] w fun e w' => e = .returned (.iface 37 (.int .i64 c)) ∧ w = w' := by
  go_enter Try.func168, Try.ntmps168
  go_wp2_with fail
  go_ret
  exact ⟨rfl, rfl⟩
theorem isTypeOf (v : Value) (w : World) : (Extern.ReflectliteType.typeOf #[.iface 37 v]).run Try.prog w = .ok (.iface 177 (.agg #[.pointer (some ⟨0, 37, none⟩)])) w := by kernel_rfl
def cmpFn : Array Value → Sem Value := Extern.ReflectliteType.method fun t => do Extern.Rtype.noPackHeld "Comparable" t; pure (.bool (← typeInfo t).comparable)
theorem isComparable (w : World) : (cmpFn #[.agg #[.pointer (some ⟨0, 37, none⟩)]]).run Try.prog w = .ok (.bool true) w := by kernel_rfl
theorem isMethodComparable (v : Value) (w : World) : (Go.method 332 177 v "Comparable").run Try.prog w = .ok (172, v) w := by kernel_rfl
theorem methodUnwrap (v : Value) (w : World) : (Go.method 332 91 v "Unwrap").run Try.prog w = .ok (168, v) w := by kernel_rfl
theorem isComp : (Try.prog.info? 37).map (·.comparable) = some true := by kernel_rfl
theorem noIsF (v : Value) (xT : TypeId) (w : World) : (Instr.typeAssert (.iface 91 v) xT 179 true).run Try.prog w = .ok (.tuple #[.nilIface, .bool false]) w := run_typeAssert_lacksB Try.underlying179 (by kernel_rfl) (by kernel_rfl) v xT w
theorem hasUnwrapF (v : Value) (xT : TypeId) (w : World) : (Instr.typeAssert (.iface 91 v) xT 182 true).run Try.prog w = .ok (.tuple #[.iface 91 v, .bool true]) w := run_typeAssert_hasB Try.underlying182 (by kernel_rfl) v xT w
theorem noIsE (v : Value) (xT : TypeId) (w : World) : (Instr.typeAssert (.iface 37 v) xT 179 true).run Try.prog w = .ok (.tuple #[.nilIface, .bool false]) w := run_typeAssert_lacksB Try.underlying179 (by kernel_rfl) (by kernel_rfl) v xT w
theorem noUnwrapE (v : Value) (xT : TypeId) (w : World) : (Instr.typeAssert (.iface 37 v) xT 182 true).run Try.prog w = .ok (.tuple #[.nilIface, .bool false]) w := run_typeAssert_lacksB Try.underlying182 (by kernel_rfl) (by kernel_rfl) v xT w
theorem noUnwrapsE (v : Value) (xT : TypeId) (w : World) : (Instr.typeAssert (.iface 37 v) xT 184 true).run Try.prog w = .ok (.tuple #[.nilIface, .bool false]) w := run_typeAssert_lacksB Try.underlying184 (by kernel_rfl) (by kernel_rfl) v xT w

set_option maxRecDepth 100000 in
set_option maxHeartbeats 1000000 in
theorem faultis_no (b : Nat) (c n : Int) (w : World) (h0 : w.cell? ⟨b, 0, none⟩ = some (.int .i64 c)) (hne : (c == n) = false) :
    Calls Try.prog 82 #[.iface 91 (.pointer (some ⟨b, 0, none⟩)), .iface 37 (.int .i64 n), .bool true] w fun e w' => e = .returned (.bool false) ∧ w = w' := by
  obtain ⟨i, hi, hcmp⟩ := Option.map_eq_some_iff.1 isComp
  have nF := noIsF
  have uF := hasUnwrapF
  have nE := noIsE
  have uE := noUnwrapE
  have vE := noUnwrapsE
  have mU := methodUnwrap
  have heq := run_eql_iface_int (P := Try.prog) w c n Try.underlying30 Try.underlying37 hi hcmp
  have hty := run_eql_iface_types (P := Try.prog) 91 37 (.pointer (some ⟨b, 0, none⟩)) (.int .i64 n) Try.underlying30 (by decide) w
  go_enter Try.func82, Try.ntmps82
  go_wp2_with fail
  refine wp_loop_rounds 2 ?_
  rw [rounds_succ]
  go_wp2_with (go_at_call 168; refine (unwrap_any b c _ h0).mono ?_; rintro e w' ⟨rfl, rfl⟩)
  rw [rounds_succ]
  go_wp2_with fail
  go_ret
  exact ⟨rfl, rfl⟩
set_option maxRecDepth 100000 in
set_option maxHeartbeats 1000000 in
theorem faultis_yes (b : Nat) (c n : Int) (w : World) (h0 : w.cell? ⟨b, 0, none⟩ = some (.int .i64 c)) (hne : (c == n) = true) :
    Calls Try.prog 82 #[.iface 91 (.pointer (some ⟨b, 0, none⟩)), .iface 37 (.int .i64 n), .bool true] w fun e w' => e = .returned (.bool true) ∧ w = w' := by
  obtain ⟨i, hi, hcmp⟩ := Option.map_eq_some_iff.1 isComp
  have nF := noIsF
  have uF := hasUnwrapF
  have nE := noIsE
  have uE := noUnwrapE
  have vE := noUnwrapsE
  have mU := methodUnwrap
  have heq := run_eql_iface_int (P := Try.prog) w c n Try.underlying30 Try.underlying37 hi hcmp
  have hty := run_eql_iface_types (P := Try.prog) 91 37 (.pointer (some ⟨b, 0, none⟩)) (.int .i64 n) Try.underlying30 (by decide) w
  go_enter Try.func82, Try.ntmps82
  go_wp2_with fail
  refine wp_loop_rounds 2 ?_
  rw [rounds_succ]
  go_wp2_with (go_at_call 168; refine (unwrap_any b c _ h0).mono ?_; rintro e w' ⟨rfl, rfl⟩)
  rw [rounds_succ]
  go_wp2_with fail
  go_ret
  exact ⟨rfl, rfl⟩
theorem faultis_any (b : Nat) (c n : Int) (w : World) (h0 : w.cell? ⟨b, 0, none⟩ = some (.int .i64 c)) :
    Calls Try.prog 82 #[.iface 91 (.pointer (some ⟨b, 0, none⟩)), .iface 37 (.int .i64 n), .bool true] w fun e w' => e = .returned (.bool (c == n)) ∧ w = w' := by
  cases h : (c == n) with
  | false => exact faultis_no b c n w h0 h
  | true => exact faultis_yes b c n w h0 h
set_option maxRecDepth 100000 in
set_option maxHeartbeats 1000000 in
theorem faultIs (b : Nat) (c n : Int) (w : World) (h0 : w.cell? ⟨b, 0, none⟩ = some (.int .i64 c)) :
    Calls Try.prog 46 #[.iface 91 (.pointer (some ⟨b, 0, none⟩)), .iface 37 (.int .i64 n)] w fun e w' => e = .returned (.bool (c == n)) ∧ w = w' := by
  have h8 := @run_callFunc_extern Try.prog 81 _ Extern.ReflectliteType.typeOf Try.func81 (by kernel_rfl) (by kernel_rfl) (by kernel_rfl) (by kernel_rfl)
  have h32 := @run_callFunc_extern Try.prog 172 _ cmpFn Try.func172 (by kernel_rfl) (by kernel_rfl) (by kernel_rfl) (by kernel_rfl)
  have tT := isTypeOf
  have cT := isComparable
  have mR := isMethodComparable
  go_enter Try.func46, Try.ntmps46
  go_wp2_with fail
  refine (faultis_any b c n w h0).mono ?_
  rintro e w' ⟨rfl, rfl⟩
  go_wp2_with fail
  go_ret
  exact ⟨rfl, rfl⟩
end Go.Proofs.Ytaoodchjggimcaa

/- Types and terms that come in, read as trees. -/
set_option linter.unusedVariables false
set_option linter.unusedSimpArgs false
namespace Go.Proofs.Ytaoodchjggimcaa
open Go.RowKit Go.ChangeShapes Go.WideShapes

theorem list2 {α : Type} {l : List α} (h : l.length = 2) : ∃ a b, l = [a, b] := by
  match l, h with
  | [a, b], _ => exact ⟨a, b, rfl⟩
theorem list9 {α : Type} {l : List α} (h : l.length = 9) : ∃ a0 a1 a2 a3 a4 a5 a6 a7 a8, l = [a0, a1, a2, a3, a4, a5, a6, a7, a8] := by
  match l, h with
  | [a0, a1, a2, a3, a4, a5, a6, a7, a8], _ => exact ⟨a0, a1, a2, a3, a4, a5, a6, a7, a8, rfl⟩
theorem list11 {α : Type} {l : List α} (h : l.length = 11) : ∃ a0 a1 a2 a3 a4 a5 a6 a7 a8 a9 a10, l = [a0, a1, a2, a3, a4, a5, a6, a7, a8, a9, a10] := by
  match l, h with
  | [a0, a1, a2, a3, a4, a5, a6, a7, a8, a9, a10], _ => exact ⟨a0, a1, a2, a3, a4, a5, a6, a7, a8, a9, a10, rfl⟩
section
variable {H : Type} {enc : TypeId × Value → H}
theorem cellsTy : Try.prog.cellsOf 25 = 2 := by kernel_rfl
theorem cellsTm : Try.prog.cellsOf 28 = 11 := by kernel_rfl
theorem cells8 : Try.prog.cellsOf 22 = 1 := by kernel_rfl
theorem cellsS : Try.prog.cellsOf 9 = 1 := by kernel_rfl
theorem cellsI : Try.prog.cellsOf 3 = 1 := by kernel_rfl
theorem cells64 : Try.prog.cellsOf 2 = 1 := by kernel_rfl
theorem cellsTys : Try.prog.cellsOf 23 = 1 := by kernel_rfl
theorem cellsTms : Try.prog.cellsOf 26 = 1 := by kernel_rfl
theorem bytesTy : Try.prog.bytesOf 25 = 32 := by kernel_rfl
theorem bytesTm : Try.prog.bytesOf 28 = 152 := by kernel_rfl
theorem wf8 {k : Int} (h : (Lit.int .i8 k).wf = true) : -128 ≤ k ∧ k ≤ 127 := by
  simp only [Lit.wf, Bool.and_eq_true, decide_eq_true_eq] at h
  rw [show IntKind.i8.min = -128 by decide, show IntKind.i8.max = 127 by decide] at h
  exact h
theorem wf64 {k : Int} (h : (Lit.int .i64 k).wf = true) : -9223372036854775808 ≤ k ∧ k ≤ 9223372036854775807 := by
  simp only [Lit.wf, Bool.and_eq_true, decide_eq_true_eq] at h
  rw [show IntKind.i64.min = -9223372036854775808 by decide, show IntKind.i64.max = 9223372036854775807 by decide] at h
  exact h
def Light (t : TypeId) (d : DataW H) : Prop := ∀ n ∈ DataW.weights Try.prog t d, n ≤ 140737488351232
theorem Light.parts {t : TypeId} {fs : Array Field} (ht : Try.prog.underlying t = some (.struct fs)) {ds : List (DataW H)} (h : Light t (.agg ds)) {j : Nat} {f : Field} {d : DataW H} (hf : fs[j]? = some f) (hd : ds[j]? = some d) : Light f.type d := by
  intro n hn
  refine h n ?_
  simp only [DataW.weights, ht]
  refine DataW.weights_mem_each (j := j) (t := f.type) (d := d) ?_ hd n hn
  rw [List.getElem?_map, Array.getElem?_toList, hf]; rfl
theorem weights_mem_all {P : Program} {e : TypeId} : ∀ {ds : List (DataW H)} {j : Nat} {d : DataW H}, ds[j]? = some d → ∀ n ∈ d.weights P e, n ∈ DataW.weightsAll P e ds
  | d0 :: ds, 0, d, hd, n, hn => by
    simp at hd; subst hd
    simp only [DataW.weightsAll, List.mem_append]; exact .inl hn
  | d0 :: ds, j + 1, d, hd, n, hn => by
    simp only [DataW.weightsAll, List.mem_append]
    exact .inr (weights_mem_all (ds := ds) (j := j) (by simpa using hd) n hn)
  | [], j, d, hd, n, hn => by simp at hd
theorem Light.elems {t e : TypeId} (ht : Try.prog.underlying t = some (.slice e)) {ds es : List (DataW H)} (h : Light t (.slice ds es)) : (∀ {j : Nat} {d : DataW H}, ds[j]? = some d → Light e d) ∧ (ds.length + es.length) * Try.prog.bytesOf e ≤ 140737488351232 := by
  refine ⟨fun {j d} hd n hn => h n ?_, h _ ?_⟩
  · simp only [DataW.weights, ht, List.mem_cons, List.mem_append]
    exact .inr (.inl (weights_mem_all hd n hn))
  · simp only [DataW.weights, ht, List.mem_cons, true_or]
theorem addr_spot {W : World} {a : Addr} {v : Value} (h : W.cell? a = some v) : a.spot = none := by
  unfold World.cell? at h
  split at h
  · split at h
    · cases h
    · rename_i hs; simpa using hs
  · cases h
theorem add_spot {b o n : Nat} : (⟨b, o, none⟩ : Addr).add n = ⟨b, o + n, none⟩ := by unfold Addr.add; split <;> simp_all
/-- The elements of a slice that came in, one by one. -/
theorem open_elems {W : World} {t e c : Nat} {n : Nat} {cs : List Value} {x : DataW H × List MemPlace} (hu : Try.prog.underlying t = some (.slice e)) (hc : Try.prog.cellsOf e = c) (hc1 : 1 ≤ c) (h : DataW.trod enc Try.prog W 0 (fun _ => true) true n t cs = some x) (hl : Light t x.1) :
    ∃ (a : Option Addr) (len cap m : Nat) (D : Nat → DataW H × List MemPlace), cs = [.slice a len cap] ∧ n = m + 1 ∧ len * Try.prog.bytesOf e ≤ 140737488351232 ∧ ∀ i, i < len → ∃ b o cs', a = some ⟨b, o, none⟩ ∧ cs'.length = c ∧ (∀ j, j < c → W.cell? ⟨b, o + (i * c + j), none⟩ = cs'[j]?) ∧ b < W.heap.size ∧ DataW.trod enc Try.prog W 0 (fun _ => true) true m e cs' = some (D i) ∧ Light e (D i).1 := by
  have hn : ∃ m, n = m + 1 := by
    cases n with
    | zero => simp [DataW.trod] at h
    | succ m => exact ⟨m, rfl⟩
  obtain ⟨m, rfl⟩ := hn
  rcases DataW.trod_slice hu h with ⟨rfl, rfl⟩ | ⟨a, len, cap, elems, rest, n', hn', rfl, rfl, hb, hle, hm, hlen, hel, -, -⟩
  · exact ⟨none, 0, 0, m, fun _ => (.nil, []), rfl, rfl, by omega, fun i hi => by omega⟩
  · obtain rfl : m = n' := by omega
    have hE := hl.elems hu
    refine ⟨some a, len, cap, m, fun i => elems.getD i (.nil, []), rfl, rfl, ?_, fun i hi => ?_⟩
    · have h2 := hE.2
      rw [List.length_map, List.length_map, hlen] at h2
      exact Nat.le_trans (Nat.mul_le_mul_right _ (by omega)) h2
    · have hel0 := fun i hi => hel i hi
      have hsp : a.spot = none := by
        have h0 := hel 0 (by omega)
        have hg : elems[0]? = some (elems[0]'(by omega)) := List.getElem?_eq_getElem (by omega)
        rw [hg, Option.bind_eq_some_iff] at h0
        obtain ⟨cs', h1, _⟩ := h0
        obtain ⟨_, hl1, hc'⟩ := World.cells?_some h1
        have h3 := hc' 0 (by rw [hc]; omega)
        have hg' : cs'[0]? = some (cs'[0]'(by rw [hl1, hc]; omega)) := List.getElem?_eq_getElem _
        rw [hg', Nat.zero_mul] at h3
        have h4 : (a.add 0).add 0 = a := by unfold Addr.add; simp
        rw [h4] at h3
        exact addr_spot h3
      obtain ⟨b, o, sp⟩ := a
      simp only at hsp
      subst hsp
      have h0 := hel i hi
      have hg : elems[i]? = some (elems[i]'(by omega)) := List.getElem?_eq_getElem (by omega)
      rw [hg, Option.bind_eq_some_iff] at h0
      obtain ⟨cs', h1, h2⟩ := h0
      obtain ⟨_, hl1, hc'⟩ := World.cells?_some h1
      rw [hc] at hl1
      have hcell : ∀ j, j < c → W.cell? ⟨b, o + (i * c + j), none⟩ = cs'[j]? := fun j hj => by
        have h3 := hc' j (by rw [hc]; exact hj)
        rw [hc, add_spot, add_spot, Nat.add_assoc] at h3
        exact h3
      have hD : elems.getD i (.nil, []) = elems[i]'(by omega) := by rw [List.getD_eq_getElem?_getD, hg]; rfl
      refine ⟨b, o, cs', rfl, hl1, hcell, ?_, by show _ = some (elems.getD i (.nil, [])); rw [hD]; exact h2, ?_⟩
      · have h3 := hcell 0 (by omega)
        rw [List.getElem?_eq_getElem (by omega)] at h3
        exact World.block_lt_of_cell? W _ h3
      · show Light e (elems.getD i (.nil, [])).1
        rw [hD]
        refine hE.1 (j := i) ?_
        rw [List.getElem?_map, hg]; rfl

theorem open_ty {W : World} (n : Nat) : ∀ (cs : List Value) (x : DataW H × List MemPlace), DataW.trod enc Try.prog W 0 (fun _ => true) true n 25 cs = some x → Light 25 x.1 → ∃ (t : RTy) (a : Option Addr) (c : Nat), cs = [.int .i8 t.k, .slice a t.ks.length c] ∧ t.In W W.heap.size a := by
  induction n using Nat.strongRecOn with
  | ind n ih =>
  intro cs x h hl
  obtain ⟨xs, m, rfl, rfl, hcl, hxl, hf⟩ := DataW.trod_struct Try.underlying25 h
  rw [cellsTy] at hcl
  have hxl2 : xs.length = 2 := hxl
  clear hxl h
  obtain ⟨c0, c1, rfl⟩ := list2 hcl
  obtain ⟨y0, y1, rfl⟩ := list2 hxl2
  have u0 := hf 0 { name := "Kind", type := 22, offset := 0, embedded := false, tag := "", pkgPath := "", byteOffset := 0 } rfl
  have u1 := hf 1 { name := "Kids", type := 23, offset := 1, embedded := false, tag := "", pkgPath := "", byteOffset := 8 } rfl
  dsimp only at u0 u1
  rw [cells8] at u0
  rw [cellsTys] at u1
  replace u0 : DataW.trod enc Try.prog W 0 (fun _ => true) true m 22 [c0] = some y0 := u0
  replace u1 : DataW.trod enc Try.prog W 0 (fun _ => true) true m 23 [c1] = some y1 := u1
  obtain ⟨k, hk, -, hwk⟩ := DataW.trod_int Try.underlying22 u0
  simp only [List.cons.injEq, and_true] at hk
  subst hk
  have hk8 := wf8 hwk
  have hl1 : Light 23 y1.1 := hl.parts Try.underlying25 (j := 1) rfl rfl
  obtain ⟨a, len, cap, p, D, hcs, rfl, hlen, hel⟩ := open_elems Try.underlying23 cellsTy (by omega) u1 hl1
  simp only [List.cons.injEq, and_true] at hcs
  subst hcs
  rw [bytesTy] at hlen
  have hkid : ∀ i, ∃ (t : RTy), i < len → ∃ b o a' c', a = some ⟨b, o, none⟩ ∧ b < W.heap.size ∧ W.cell? ⟨b, o + i * 2, none⟩ = some (.int .i8 t.k) ∧ W.cell? ⟨b, o + i * 2 + 1, none⟩ = some (.slice a' t.ks.length c') ∧ t.In W W.heap.size a' := by
    intro i
    by_cases hi : i < len
    · obtain ⟨b, o, cs', rfl, hcl, hcell, hb, ht, hlt⟩ := hel i hi
      obtain ⟨t, a', c', rfl, hin⟩ := ih p (by omega) cs' (D i) ht hlt
      refine ⟨t, fun _ => ⟨b, o, a', c', rfl, hb, ?_, ?_, hin⟩⟩
      · exact hcell 0 (by omega)
      · exact hcell 1 (by omega)
    · exact ⟨RTy.unk, fun h => absurd h hi⟩
  let f : Nat → RTy := fun i => Classical.choose (hkid i)
  have hfk := fun i => Classical.choose_spec (hkid i)
  have hin : (RTy.mk k ((List.range len).map f)).In W W.heap.size a := by
    unfold RTy.In RTy.InS
    refine ⟨hk8, by simp [lenMax]; omega, ?_⟩
    by_cases h0 : len = 0
    · subst h0; simp [RTy.InsS]
    · obtain ⟨b, o, -, -, rfl, hb, -⟩ := hfk 0 (by omega)
      refine RTy.InsS.mk (S := fun b => b < W.heap.size) hb fun j t hj => ?_
      rw [List.getElem?_map] at hj
      by_cases hjl : j < len
      · rw [List.getElem?_range hjl] at hj
        simp only [Option.map_some, Option.some.injEq] at hj
        subst hj
        obtain ⟨b', o', a', c', he, -, h1, h2, h3⟩ := hfk j hjl
        simp only [Option.some.injEq, Addr.mk.injEq, and_true] at he
        obtain ⟨rfl, rfl⟩ := he
        exact ⟨a', c', by rw [Nat.zero_add]; exact h1, by rw [Nat.zero_add]; exact h2, h3⟩
      · rw [List.getElem?_eq_none (by simpa using hjl)] at hj
        simp at hj
  refine ⟨RTy.mk k ((List.range len).map f), a, cap, ?_, hin⟩
  simp [RTy.k, RTy.ks]

theorem open_tm {W : World} (n : Nat) : ∀ (cs : List Value) (x : DataW H × List MemPlace), DataW.trod enc Try.prog W 0 (fun _ => true) true n 28 cs = some x → Light 28 x.1 → ∃ (t : RTm) (s : TmSh), cs = t.cells s ∧ t.In W W.heap.size s := by
  induction n using Nat.strongRecOn with
  | ind n ih =>
  intro cs x h hl
  obtain ⟨xs, m, rfl, rfl, hcl, hxl, hf⟩ := DataW.trod_struct Try.underlying28 h
  rw [cellsTm] at hcl
  have hxl2 : xs.length = 9 := hxl
  clear hxl h
  obtain ⟨c0, c1, c2, c3, c4, c5, c6, c7, c8, c9, c10, rfl⟩ := list11 hcl
  obtain ⟨y0, y1, y2, y3, y4, y5, y6, y7, y8, rfl⟩ := list9 hxl2
  have u0 := hf 0 { name := "Kind", type := 22, offset := 0, embedded := false, tag := "", pkgPath := "", byteOffset := 0 } rfl
  dsimp only at u0
  rw [cells8] at u0
  replace u0 : DataW.trod enc Try.prog W 0 (fun _ => true) true m 22 [c0] = some y0 := u0
  have u1 := hf 1 { name := "Name", type := 9, offset := 1, embedded := false, tag := "", pkgPath := "", byteOffset := 8 } rfl
  dsimp only at u1
  rw [cellsS] at u1
  replace u1 : DataW.trod enc Try.prog W 0 (fun _ => true) true m 9 [c1] = some y1 := u1
  have u2 := hf 2 { name := "Arg", type := 9, offset := 2, embedded := false, tag := "", pkgPath := "", byteOffset := 24 } rfl
  dsimp only at u2
  rw [cellsS] at u2
  replace u2 : DataW.trod enc Try.prog W 0 (fun _ => true) true m 9 [c2] = some y2 := u2
  have u3 := hf 3 { name := "Num", type := 2, offset := 3, embedded := false, tag := "", pkgPath := "", byteOffset := 40 } rfl
  dsimp only at u3
  rw [cells64] at u3
  replace u3 : DataW.trod enc Try.prog W 0 (fun _ => true) true m 2 [c3] = some y3 := u3
  have u4 := hf 4 { name := "Type", type := 25, offset := 4, embedded := false, tag := "", pkgPath := "", byteOffset := 48 } rfl
  dsimp only at u4
  rw [cellsTy] at u4
  replace u4 : DataW.trod enc Try.prog W 0 (fun _ => true) true m 25 [c4, c5] = some y4 := u4
  have u5 := hf 5 { name := "To", type := 25, offset := 6, embedded := false, tag := "", pkgPath := "", byteOffset := 80 } rfl
  dsimp only at u5
  rw [cellsTy] at u5
  replace u5 : DataW.trod enc Try.prog W 0 (fun _ => true) true m 25 [c6, c7] = some y5 := u5
  have u6 := hf 6 { name := "Label", type := 3, offset := 8, embedded := false, tag := "", pkgPath := "", byteOffset := 112 } rfl
  dsimp only at u6
  rw [cellsI] at u6
  replace u6 : DataW.trod enc Try.prog W 0 (fun _ => true) true m 3 [c8] = some y6 := u6
  have u7 := hf 7 { name := "At", type := 3, offset := 9, embedded := false, tag := "", pkgPath := "", byteOffset := 120 } rfl
  dsimp only at u7
  rw [cellsI] at u7
  replace u7 : DataW.trod enc Try.prog W 0 (fun _ => true) true m 3 [c9] = some y7 := u7
  have u8 := hf 8 { name := "Kids", type := 26, offset := 10, embedded := false, tag := "", pkgPath := "", byteOffset := 128 } rfl
  dsimp only at u8
  rw [cellsTms] at u8
  replace u8 : DataW.trod enc Try.prog W 0 (fun _ => true) true m 26 [c10] = some y8 := u8
  clear hf
  obtain ⟨k, hk, -, hwk⟩ := DataW.trod_int Try.underlying22 u0
  obtain ⟨nm, hnm, -, hnms⟩ := DataW.trod_string Try.underlying9 u1
  obtain ⟨ag, hag, -, hags⟩ := DataW.trod_string Try.underlying9 u2
  obtain ⟨nu, hnu, -, hwnu⟩ := DataW.trod_int Try.underlying2 u3
  obtain ⟨ty, ta, tc, hty, htin⟩ := open_ty m _ _ u4 (hl.parts Try.underlying28 (j := 4) rfl rfl)
  obtain ⟨tz, oa, oc, hto, hoin⟩ := open_ty m _ _ u5 (hl.parts Try.underlying28 (j := 5) rfl rfl)
  obtain ⟨lb, hlb, -, hwlb⟩ := DataW.trod_int Try.underlying3 u6
  obtain ⟨sp, hsp, -, hwsp⟩ := DataW.trod_int Try.underlying3 u7
  simp only [List.cons.injEq, and_true] at hk hnm hag hnu hty hto hlb hsp
  obtain ⟨rfl, rfl⟩ := hty
  obtain ⟨rfl, rfl⟩ := hto
  subst hk hnm hag hnu hlb hsp
  have hl1 : Light 26 y8.1 := hl.parts Try.underlying28 (j := 8) rfl rfl
  obtain ⟨a, len, cap, p, D, hcs, rfl, hlen, hel⟩ := open_elems Try.underlying26 cellsTm (by omega) u8 hl1
  simp only [List.cons.injEq, and_true] at hcs
  subst hcs
  rw [bytesTm] at hlen
  clear u0 u1 u2 u3 u4 u5 u6 u7 u8
  have hkid : ∀ i, ∃ (t : RTm), i < len → ∃ b o s', a = some ⟨b, o, none⟩ ∧ b < W.heap.size ∧ CellsAt W b (o + i * 11) (t.cells s') ∧ t.In W W.heap.size s' := by
    intro i
    by_cases hi : i < len
    · obtain ⟨b, o, cs', rfl, hcl, hcell, hb, ht, hlt⟩ := hel i hi
      obtain ⟨t, s', rfl, hin⟩ := ih p (by omega) cs' (D i) ht hlt
      refine ⟨t, fun _ => ⟨b, o, s', rfl, hb, fun j v hj => ?_, hin⟩⟩
      have hj11 : j < 11 := by
        have := (List.getElem?_eq_some_iff.1 hj).1
        simpa using this
      rw [Nat.add_assoc, hcell j hj11]; exact hj
    · exact ⟨RTm.mk 0 ⟨#[]⟩ ⟨#[]⟩ 0 RTy.unk RTy.unk 0 0 [], fun h => absurd h hi⟩
  let f : Nat → RTm := fun i => Classical.choose (hkid i)
  have hfk := fun i => Classical.choose_spec (hkid i)
  refine ⟨RTm.mk k nm ag nu ty tz lb sp ((List.range len).map f), ⟨ta, tc, oa, oc, a, cap⟩, ?_, ?_⟩
  · simp [RTm.cells, RTm.k, RTm.name, RTm.arg, RTm.num, RTm.ty, RTm.to, RTm.label, RTm.spot, RTm.ks]
  · unfold RTm.In RTm.InS
    refine ⟨⟨wf8 hwk, hnms, hags, wf64 hwnu, wf64 hwlb, wf64 hwsp, by simp [RTm.ks]; omega⟩, htin, hoin, ?_⟩
    by_cases h0 : len = 0
    · subst h0; simp [RTm.InsS]
    · obtain ⟨b, o, -, rfl, hb, -⟩ := hfk 0 (by omega)
      refine RTm.InsS.mk (S := fun b => b < W.heap.size) hb fun j t hj => ?_
      rw [List.getElem?_map] at hj
      by_cases hjl : j < len
      · rw [List.getElem?_range hjl] at hj
        simp only [Option.map_some, Option.some.injEq] at hj
        subst hj
        obtain ⟨b', o', s', he, -, h1, h2⟩ := hfk j hjl
        simp only [Option.some.injEq, Addr.mk.injEq, and_true] at he
        obtain ⟨rfl, rfl⟩ := he
        exact ⟨s', by rw [Nat.zero_add]; exact h1, h2⟩
      · rw [List.getElem?_eq_none (by simpa using hjl)] at hj
        simp at hj
end
end Go.Proofs.Ytaoodchjggimcaa

/- Plain laws of the kernel: a cast over what is taken. -/
namespace Go.Proofs.Ytaoodchjggimcaa

/-- What kernel.Type answers: a type and a number. -/
def kernelRes (t : RTm) : RTy × Int :=
  match kernelM.type t 16 with
  | .ok a => (a, 0)
  | .error f => (RTy.unk, if f.code = 30 ∨ f.code = 31 ∨ f.code = 32 then f.code else 130)
theorem kernelRes_ok {t : RTm} {a : RTy} (h : kernelM.type t 16 = .ok a) : kernelRes t = (a, 0) := by unfold kernelRes; rw [h]
theorem kernelRes_err {t : RTm} {f : Flt} (h : kernelM.type t 16 = .error f) : kernelRes t = (RTy.unk, if f.code = 30 ∨ f.code = 31 ∨ f.code = 32 then f.code else 130) := by unfold kernelRes; rw [h]
theorem kernelRes_zero {t : RTm} (h : (kernelRes t).2 = 0) : kernelM.type t 16 = .ok (kernelRes t).1 := by
  cases hr : kernelM.type t 16 with
  | ok a => rw [kernelRes_ok hr]
  | error f =>
    rw [kernelRes_err hr] at h
    simp only at h
    split at h
    · omega
    · omega
theorem kernelRes_unk {t : RTm} (h : ¬ (kernelRes t).2 = 0) : (kernelRes t).1 = RTy.unk := by
  cases hr : kernelM.type t 16 with
  | ok a => rw [kernelRes_ok hr] at h; exact absurd rfl h
  | error f => rw [kernelRes_err hr]
/-- A cast of a term. -/
def castT (a y : RTy) (l : Int) (t : RTm) : RTm := .mk 17 ⟨#[]⟩ ⟨#[]⟩ 0 a y l 0 [t]
theorem castT_nodes (a y : RTy) (l : Int) (t : RTm) : (castT a y l t).nodes = a.nodes + y.nodes + t.nodes + 1 := by
  unfold castT; rw [RTm.nodes]; simp [hasFrom, hasTo, RTm.nodesL]
theorem castT_has (a y : RTy) (l : Int) (t : RTm) : (castT a y l t).has 16 = t.has 16 := by
  rw [RTm.has_eq]
  simp [castT, RTm.k, RTm.ks, RTm.hasL]
theorem castT_rules (M : Mode) (a y : RTy) (l : Int) (t : RTm) (n : Nat) (e : Env) : M.rules (n + 1) e (castT a y l t) = match M.rules n e t with | .error f => .error f | .ok x => if x.same a && M.fits a y then .ok y else fault (castT a y l t) 91 := by
  rw [Mode.rules]
  simp [castT, RTm.k, kidsOf, RTm.kid, RTm.ks, Mode.flat, RTm.ty, RTm.to]
  all_goals
    cases M.rules n e t with
    | error f => rfl
    | ok x => rfl
theorem castT_right {a y : RTy} {l : Int} {t : RTm} (h : (castT a y l t).right = true) : a.ok = true ∧ y.ok = true ∧ t.right = true := by
  have h1 := RTm.right_own h
  have h2 := RTm.right_kids h
  unfold RTm.own at h1
  simp only [Bool.and_eq_true] at h1
  have h3 : a.ok = true := by simpa [castT, RTm.k, hasFrom, RTm.ty] using h1.2.2.2.2.2.1
  have h4 : y.ok = true := by simpa [castT, RTm.k, hasTo, RTm.to] using h1.2.2.2.2.2.2.1
  exact ⟨h3, h4, by simpa [castT, RTm.ks, RTm.rightL] using h2⟩
mutual
theorem RTy.eqv_refl : ∀ t : RTy, t.eqv t = true
  | .mk k ks => by rw [RTy.eqv_eq, Bool.and_eq_true]; exact ⟨decide_eq_true rfl, RTy.eqvL_refl ks⟩
theorem RTy.eqvL_refl : ∀ ts : List RTy, RTy.eqvL ts ts = true
  | [] => by simp [RTy.eqvL]
  | t :: ts => by simp [RTy.eqvL, RTy.eqv_refl t, RTy.eqvL_refl ts]
end
theorem RTy.same_refl {t : RTy} (h : t.ok = true) : t.same t = true := by
  unfold RTy.same
  rw [h, RTy.eqv_refl]; rfl
theorem castLaw (t : RTm) (y : RTy) (l : Int) (h : (kernelRes t).2 = 0) :
    (¬ (castT (kernelRes t).1 y l t).check = 0 → (kernelRes (castT (kernelRes t).1 y l t)).2 = (castT (kernelRes t).1 y l t).check) ∧
    ((castT (kernelRes t).1 y l t).check = 0 → (kernelRes t).1.agree y = false → (kernelRes (castT (kernelRes t).1 y l t)).2 = 130) ∧
    ((castT (kernelRes t).1 y l t).check = 0 → (kernelRes t).1.agree y = true → kernelRes (castT (kernelRes t).1 y l t) = (y, 0) ∧ y.same y = true) := by
  have h0 := kernelRes_zero h
  obtain ⟨hc, hn, hr⟩ := Mode.type_ok_inv h0
  generalize (kernelRes t).1 = a at *
  have key : (castT a y l t).check = 0 → kernelM.type (castT a y l t) 16 = if a.agree y then .ok y else fault (castT a y l t) 91 := by
    intro hk
    have h3 := RTm.check_zero.1 hk
    have h4 := castT_right h3.2.2
    rw [Mode.type_ok hk (by rw [castT_has]; exact hn), castT_nodes, castT_rules, Mode.rules_fuel kernelM (a.nodes + y.nodes + t.nodes) t.nodes [] t h4.2.2 (by omega) (Nat.le_refl _), hr]
    simp only [RTy.same_refl h4.1, Bool.true_and]
    rfl
  refine ⟨fun hk => ?_, fun hk ha => ?_, fun hk ha => ?_⟩
  · have e : kernelM.type (castT a y l t) 16 = .error ⟨(castT a y l t).check, 0, ⟨#[]⟩⟩ := by unfold Mode.type; rw [if_neg hk]
    rw [kernelRes_err e]
    have : (castT a y l t).check = 32 ∨ (castT a y l t).check = 31 ∨ (castT a y l t).check = 30 := by
      unfold RTm.check at hk ⊢
      split
      · exact .inl rfl
      · split
        · exact .inr (.inl rfl)
        · split
          · rename_i h1 h2 h3; rw [if_neg h1, if_neg h2, if_pos h3] at hk; exact absurd rfl hk
          · exact .inr (.inr rfl)
    simp only
    rw [if_pos (by omega)]
  · have e := key hk
    rw [ha] at e
    have e' : kernelM.type (castT a y l t) 16 = .error ⟨91, (castT a y l t).spot, ⟨#[]⟩⟩ := e
    rw [kernelRes_err e']; rfl
  · have e := key hk
    rw [ha, if_pos rfl] at e
    exact ⟨kernelRes_ok e, RTy.same_refl (castT_right (RTm.check_zero.1 hk).2.2).2.1⟩
end Go.Proofs.Ytaoodchjggimcaa

/- Plain functions: types and terms made less precise. -/
namespace Go.Proofs.Ytaoodchjggimcaa

def lessB (l : List Bool) (n : Nat) : Bool := decide (0 < l.length) && l.getD (n % l.length) false
mutual
def RTy.lessen (l : List Bool) : RTy → Nat → RTy × Nat
  | .mk k ks, n => if lessB l n then (RTy.unk, n + 1) else (.mk k (RTy.lessenL l ks (n + 1)).1, (RTy.lessenL l ks (n + 1)).2)
def RTy.lessenL (l : List Bool) : List RTy → Nat → List RTy × Nat
  | [], n => ([], n)
  | t :: ts, n => ((t.lessen l n).1 :: (RTy.lessenL l ts (t.lessen l n).2).1, (RTy.lessenL l ts (t.lessen l n).2).2)
end
theorem RTy.lessen_eq (l : List Bool) (t : RTy) (n : Nat) : t.lessen l n = if lessB l n then (RTy.unk, n + 1) else (.mk t.k (RTy.lessenL l t.ks (n + 1)).1, (RTy.lessenL l t.ks (n + 1)).2) := by cases t; rw [RTy.lessen]; rfl
theorem RTy.lessenL_snoc (l : List Bool) (x : RTy) : ∀ (ts : List RTy) (n : Nat), RTy.lessenL l (ts ++ [x]) n = ((RTy.lessenL l ts n).1 ++ [(x.lessen l (RTy.lessenL l ts n).2).1], (x.lessen l (RTy.lessenL l ts n).2).2)
  | [], n => by simp [RTy.lessenL]
  | t :: ts, n => by simp [RTy.lessenL, RTy.lessenL_snoc l x ts]
theorem RTy.lessenL_length (l : List Bool) : ∀ (ts : List RTy) (n : Nat), (RTy.lessenL l ts n).1.length = ts.length
  | [], n => by simp [RTy.lessenL]
  | t :: ts, n => by simp [RTy.lessenL, RTy.lessenL_length l ts]
mutual
theorem RTy.lessen_count (l : List Bool) : ∀ (t : RTy) (n : Nat), (t.lessen l n).2 ≤ n + t.nodes
  | .mk k ks, n => by
    rw [RTy.lessen, RTy.nodes]
    split
    · simp only; omega
    · have := RTy.lessenL_count l ks (n + 1)
      simp only; omega
theorem RTy.lessenL_count (l : List Bool) : ∀ (ts : List RTy) (n : Nat), (RTy.lessenL l ts n).2 ≤ n + RTy.nodesL ts
  | [], n => by simp [RTy.lessenL, RTy.nodesL]
  | t :: ts, n => by
    have h1 := RTy.lessen_count l t n
    have h2 := RTy.lessenL_count l ts (t.lessen l n).2
    simp only [RTy.lessenL, RTy.nodesL]
    omega
end
theorem RTy.nodesL_take {ks : List RTy} {j : Nat} {x : RTy} (h : ks[j]? = some x) : RTy.nodesL (ks.take j) + x.nodes ≤ RTy.nodesL ks := by
  induction ks generalizing j with
  | nil => simp at h
  | cons u us ih =>
    cases j with
    | zero => simp at h; subst h; simp [RTy.nodesL]
    | succ j =>
      have := ih (j := j) (by simpa using h)
      simp only [List.take_succ_cons, RTy.nodesL]
      omega
/-- Annotated kinds. -/
def annFrom (k : Int) : Bool := k == 5 || (k == 4 || (k == 7 || (k == 12 || (k == 13 || k == 16))))
def annTo (k : Int) : Bool := k == 5
def RTm.lessTy (l : List Bool) (t : RTm) (n : Nat) : RTy × Nat := if annFrom t.k then t.ty.lessen l n else (t.ty, n)
def RTm.lessTo (l : List Bool) (t : RTm) (n : Nat) : RTy × Nat := if annTo t.k then t.to.lessen l n else (t.to, n)
mutual
def RTm.lessen (l : List Bool) : RTm → Nat → RTm × Nat
  | .mk k nm g u ty tz lb p ks, n =>
    (.mk k nm g u (if annFrom k then ty.lessen l n else (ty, n)).1 (if annTo k then tz.lessen l (if annFrom k then ty.lessen l n else (ty, n)).2 else (tz, (if annFrom k then ty.lessen l n else (ty, n)).2)).1 lb p (RTm.lessenL l ks (if annTo k then tz.lessen l (if annFrom k then ty.lessen l n else (ty, n)).2 else (tz, (if annFrom k then ty.lessen l n else (ty, n)).2)).2).1,
      (RTm.lessenL l ks (if annTo k then tz.lessen l (if annFrom k then ty.lessen l n else (ty, n)).2 else (tz, (if annFrom k then ty.lessen l n else (ty, n)).2)).2).2)
def RTm.lessenL (l : List Bool) : List RTm → Nat → List RTm × Nat
  | [], n => ([], n)
  | t :: ts, n => ((t.lessen l n).1 :: (RTm.lessenL l ts (t.lessen l n).2).1, (RTm.lessenL l ts (t.lessen l n).2).2)
end
theorem RTm.lessen_eq (l : List Bool) (t : RTm) (n : Nat) : t.lessen l n =
    (.mk t.k t.name t.arg t.num (t.lessTy l n).1 (t.lessTo l (t.lessTy l n).2).1 t.label t.spot (RTm.lessenL l t.ks (t.lessTo l (t.lessTy l n).2).2).1, (RTm.lessenL l t.ks (t.lessTo l (t.lessTy l n).2).2).2) := by cases t; rw [RTm.lessen]; rfl
theorem RTm.lessenL_snoc (l : List Bool) (x : RTm) : ∀ (ts : List RTm) (n : Nat), RTm.lessenL l (ts ++ [x]) n = ((RTm.lessenL l ts n).1 ++ [(x.lessen l (RTm.lessenL l ts n).2).1], (x.lessen l (RTm.lessenL l ts n).2).2)
  | [], n => by simp [RTm.lessenL]
  | t :: ts, n => by simp [RTm.lessenL, RTm.lessenL_snoc l x ts]
theorem RTm.lessenL_length (l : List Bool) : ∀ (ts : List RTm) (n : Nat), (RTm.lessenL l ts n).1.length = ts.length
  | [], n => by simp [RTm.lessenL]
  | t :: ts, n => by simp [RTm.lessenL, RTm.lessenL_length l ts]
end Go.Proofs.Ytaoodchjggimcaa
