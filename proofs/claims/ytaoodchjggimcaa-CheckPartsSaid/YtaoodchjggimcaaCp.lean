/- Of two terms, whatever they are, CheckParts returns true, and both read afterwards as before: no condition. -/
import Derived.Test.YtaoodchjggimcaaRows
import Derived.Test.YtaoodchjggimcaaCp5
import Derived.WalkKit
import Derived.ProofKit
import Derived.OpenShut
import Derived.ShutString
import Derived.ChangeOld
import Derived.Below
import Derived.SizedLaws
import Derived.Carry
namespace Go.Proofs.Ytaoodchjggimcaa.checkParts
open Go.ChangeShapes Go.WideShapes Go.ChangeAt Go.RowKit
set_option linter.unusedVariables false
theorem own : ownKnob Try.prog.godebug = none := by kernel_rfl
theorem laidOut : laidOutB Try.prog = true := by kernel_rfl
set_option maxRecDepth 100000 in
theorem lifted (os : Os) (started : os.Started) (H : Type) (enc : TypeId × Value → H) :
    ReturnsInHanded {} Try.checked os 3 .any (Rows.checkPartsSpec.pre6 enc Try.prog Try.f3 Rows.checkPartsRow.domain false) (Rows.checkPartsSpec.post enc Try.prog Try.f3 false true false false) := by
  refine returnsInHanded_of_change_sized (C := Try.checked) own started (by kernel_rfl) Try.func3
    (ChangeSpec.witness6 (enc := enc) (C := Try.checked) false ⟨#[], #[.agg #[.int .i8 0, .string ByteArray.empty, .string ByteArray.empty, .int .i64 0, .int .i8 0, .slice none 0 0, .int .i8 0, .slice none 0 0, .int .i64 0, .int .i64 0, .slice none 0 0], .agg #[.int .i8 0, .string ByteArray.empty, .string ByteArray.empty, .int .i64 0, .int .i8 0, .slice none 0 0, .int .i8 0, .slice none 0 0, .int .i64 0, .int .i64 0, .slice none 0 0]], []⟩ 8 (by kernel_rfl) (by kernel_rfl) (by kernel_rfl) (by kernel_rfl)) ?_
  intro W base args ds gs before hval0 hW hcnd hsz0 _
  have hsz : (DataW.weightsEach Try.prog (Try.f3.params.toList ++ Rows.checkPartsSpec.plain.varTypes Try.prog) (ds ++ gs)).all (· ≤ reachBytes) = true := hsz0
  have hval : ∀ (j : Nat) t v, Try.f3.params[j]? = some t → args[j]? = some v → Value.okWide Try.prog W .any base t v := hval0
  have hW' := hW
  obtain ⟨p, q, hA0, hV, rfl, hfz, hnd⟩ := hW
  have hA : DataW.TrodAll enc Try.prog W 0 (fun _ => true) true Try.f3.params.toList args.toList ds p := hA0
  rw [Try.params3] at hA hval hsz
  obtain ⟨v0, vs0, d0, ds0, p0, q0, hargs, rfl, rfl, h0, r0⟩ := trodAll_cons hA
  obtain ⟨v1, vs1, d1, ds1, p1, q1, rfl, rfl, rfl, h1, r1⟩ := trodAll_cons r0
  obtain ⟨rfl, rfl, rfl⟩ := trodAll_nil r1
  obtain rfl : args = #[v0, v1] := by cases args; simp_all
  obtain ⟨rfl, rfl⟩ := trodVars_none hV
  have k0 := h0
  have lt0 : ∀ x ∈ p0, x.block < W.heap.size := by obtain ⟨m, hm⟩ := k0; exact DataW.trod_lt m _ _ _ hm
  have li0 : Light 28 d0 := fun n hn => by
    have h := List.all_eq_true.1 hsz n (DataW.weights_mem_each (j := 0) (t := 28) (d := d0) rfl rfl n hn)
    exact of_decide_eq_true h
  obtain ⟨cs0, rfl, hs0⟩ := okWide_struct Try.underlying28 (hval 0 28 v0 rfl rfl)
  obtain ⟨t0, s0, hcs0, hin0⟩ : ∃ (t : RTm) (s : TmSh), cs0.toList = t.cells s ∧ t.In W W.heap.size s := by
    obtain ⟨m, hm⟩ := h0
    exact open_tm m _ _ hm li0
  obtain rfl : cs0 = #[.int .i8 t0.k, .string t0.name, .string t0.arg, .int .i64 t0.num, .int .i8 t0.ty.k, .slice s0.ta t0.ty.ks.length s0.tc, .int .i8 t0.to.k, .slice s0.oa t0.to.ks.length s0.oc, .int .i64 t0.label, .int .i64 t0.spot, .slice s0.ka t0.ks.length s0.kc] := by cases cs0; simpa using hcs0
  have k1 := h1
  have lt1 : ∀ x ∈ p1, x.block < W.heap.size := by obtain ⟨m, hm⟩ := k1; exact DataW.trod_lt m _ _ _ hm
  have li1 : Light 28 d1 := fun n hn => by
    have h := List.all_eq_true.1 hsz n (DataW.weights_mem_each (j := 1) (t := 28) (d := d1) rfl rfl n hn)
    exact of_decide_eq_true h
  obtain ⟨cs1, rfl, hs1⟩ := okWide_struct Try.underlying28 (hval 1 28 v1 rfl rfl)
  obtain ⟨t1, s1, hcs1, hin1⟩ : ∃ (t : RTm) (s : TmSh), cs1.toList = t.cells s ∧ t.In W W.heap.size s := by
    obtain ⟨m, hm⟩ := h1
    exact open_tm m _ _ hm li1
  obtain rfl : cs1 = #[.int .i8 t1.k, .string t1.name, .string t1.arg, .int .i64 t1.num, .int .i8 t1.ty.k, .slice s1.ta t1.ty.ks.length s1.tc, .int .i8 t1.to.k, .slice s1.oa t1.to.ks.length s1.oc, .int .i64 t1.label, .int .i64 t1.spot, .slice s1.ka t1.ks.length s1.kc] := by cases cs1; simpa using hcs1
  clear hA0 hval0 hsz0 hsz
  refine (checkParts_any t0 t1 W.heap.size s0 s1 W hin0 hin1 (Nat.le_refl _)).mono fun e W' ⟨he, bel⟩ => ?_
  subst he
  exact ⟨_, rfl, _, _, _, [], _, [], hW', trodAll_mk1 (shut_bool Try.underlying4 _), (trodAll_cons_mk (Below.trod laidOut (by kernel_rfl) (of_decide_eq_true (by kernel_rfl)) k0 bel lt0) (trodAll_cons_mk (Below.trod laidOut (by kernel_rfl) (of_decide_eq_true (by kernel_rfl)) k1 bel lt1) trodAll_mk0)), rfl, bel.frame _, fun h => by cases h⟩
theorem over : Rows.checkPartsRow.holds Try.pinned (OpenSpec.ofChange Rows.checkPartsSpec) :=
  OpenClaim.holds_of_wide 3 Try.f3 rfl rfl rfl rfl rfl rfl rfl ⟨rfl, rfl, rfl, rfl, rfl⟩ rfl rfl rfl rfl rfl (by kernel_rfl) Try.func3 (by kernel_rfl)
    (of_decide_eq_true (by kernel_rfl)) (by unfold Func.isWrapper; first | (rw [if_pos (by decide +kernel)]; kernel_rfl) | (rw [if_neg (by decide +kernel)]; exact ⟨rfl, rfl⟩))
    (fun os started H enc _ => lifted os started H enc)
theorem proved : Rows.CheckPartsSaid := over
#print axioms proved
end Go.Proofs.Ytaoodchjggimcaa.checkParts
namespace Go.Proofs.Ytaoodchjggimcaa
/-- The row, under a short name, for the claim. -/
theorem checkParts_holds : Rows.CheckPartsSaid := checkParts.proved
end Go.Proofs.Ytaoodchjggimcaa
