-- the row of the law laws.FnExactTreeText, out of its pure statement and its walk (written by wip/tools/lawrow.py)
import Derived.Test.YtlocaaebgghkbaaRows
import Derived.Test.YtlocaaebgghkbaaMTree5
import Derived.Test.YtlocaaebgghkbaaMTree6
import Derived.WalkKit
import Derived.ProofKit
import Derived.OpenShut
import Derived.ShutString
import Derived.ChangeOld
import Derived.Below
import Derived.SizedLaws
namespace Go.Proofs.Ytlocaaebgghkbaa.fnExactTreeText
open Go.ChangeShapes Go.WideShapes Go.ChangeAt Go.RowKit Go.Proofs.Ytlocaaebgghkbaa.A
open Go.ChangeMaps (open_string shut_string)
open Go.Proofs.YtlocaaebgghkbaaW.PrintWords
set_option linter.unusedVariables false
theorem own : ownKnob Try.prog.godebug = none := by kernel_rfl
theorem laidOut : laidOutB Try.prog = true := by kernel_rfl
set_option maxRecDepth 100000 in
theorem lifted (os : Os) (started : os.Started) (H : Type) (enc : TypeId × Value → H) :
    ReturnsInHanded {} Try.checked os 7 .any (Rows.fnExactTreeTextSpec.pre6 enc Try.prog Try.f7 Rows.fnExactTreeTextRow.domain false) (Rows.fnExactTreeTextSpec.post enc Try.prog Try.f7 false true false false) := by
  refine returnsInHanded_of_change_sized (C := Try.checked) own started (by kernel_rfl) Try.func7
    (ChangeSpec.witness6 (enc := enc) (C := Try.checked) false ⟨#[], #[.slice none 0 0], []⟩ 8 (by kernel_rfl) (by kernel_rfl) (by kernel_rfl) (by kernel_rfl)) ?_
  intro W base args ds gs before hval0 hW hcnd hsz0 _
  have hsz : (DataW.weightsEach Try.prog (Try.f7.params.toList ++ Rows.fnExactTreeTextSpec.plain.varTypes Try.prog) (ds ++ gs)).all (· ≤ reachBytes) = true := hsz0
  have hval : ∀ (j : Nat) t v, Try.f7.params[j]? = some t → args[j]? = some v → Value.okWide Try.prog W .any base t v := hval0
  have hW' := hW
  obtain ⟨p, q, hA0, hV, rfl, hfz, hnd⟩ := hW
  have hA : DataW.TrodAll enc Try.prog W 0 (fun _ => true) true Try.f7.params.toList args.toList ds p := hA0
  rw [Try.params7] at hA hval hsz
  obtain ⟨v0, vs0, d0, ds0, p0, q0, hargs, rfl, rfl, h0, r0⟩ := trodAll_cons hA
  obtain ⟨rfl, rfl, rfl⟩ := trodAll_nil r0
  obtain rfl : args = #[v0] := by cases args; simp_all
  obtain ⟨rfl, rfl⟩ := trodVars_none hV
  obtain ⟨a0, len0, cap0, rfl⟩ := okWide_slice Try.underlying37 (hval 0 37 v0 rfl rfl)
  have k0 := h0
  have lt0 : ∀ x ∈ p0, x.block < W.heap.size := by obtain ⟨m, hm⟩ := k0; exact DataW.trod_lt m _ _ _ hm
  obtain ⟨l0, hl0, hc0, hr0, hf0⟩ : ∃ l : List S86, len0 = l.length ∧ l.length ≤ cap0 ∧ Kd.C k86 W a0 l.length l ∧ (l.length ≤ 9223372036854775807 ∧ ∀ y ∈ l, fitI y) := by
    obtain ⟨fuel, hf⟩ := h0
    obtain ⟨y, ⟨A_, c_, hK, hl, hC⟩, hF⟩ := Opens.slice 86 Try.underlying37 (by kernel_rfl) (opensItem fuel) H enc W _ _ _ fuel _ _ (Nat.le_refl _) hf
    simp [Value.cells] at hK
    obtain ⟨rfl, rfl, rfl⟩ := hK
    exact ⟨y, rfl, hl, hC, hF⟩
  subst hl0
  clear hA0 hval0 hsz0 hsz
  obtain ⟨k, hk⟩ := TreeText_pure l0 hf0.1 hf0.2
  refine (laws_FnExactTreeText.calls k a0 cap0 l0 true W hr0 hc0 hk).mono fun e W' ⟨he, bel⟩ => ?_
  subst he
  exact ⟨_, rfl, _, _, _, [], _, [], hW', trodAll_mk1 (shut_bool Try.underlying4 _), (trodAll_cons_mk (Below.trod laidOut (by kernel_rfl) (of_decide_eq_true (by kernel_rfl)) k0 bel lt0) trodAll_mk0), rfl, bel.frame _, fun h => by cases h⟩
theorem over : Rows.fnExactTreeTextRow.holds Try.pinned (OpenSpec.ofChange Rows.fnExactTreeTextSpec) :=
  OpenClaim.holds_of_wide 7 Try.f7 rfl rfl rfl rfl rfl rfl rfl ⟨rfl, rfl, rfl, rfl, rfl⟩ rfl rfl rfl rfl rfl (by kernel_rfl) Try.func7 (by kernel_rfl)
    (of_decide_eq_true (by kernel_rfl)) (by unfold Func.isWrapper; first | (rw [if_pos (by decide +kernel)]; kernel_rfl) | (rw [if_neg (by decide +kernel)]; exact ⟨rfl, rfl⟩))
    (fun os started H enc _ => lifted os started H enc)
theorem proved : Rows.FnExactTreeTextSaid := over
#print axioms proved
end Go.Proofs.Ytlocaaebgghkbaa.fnExactTreeText
namespace Go.Proofs.Ytlocaaebgghkbaa
/-- The row, under a short name, for the claim. -/
theorem fnExactTreeText_holds : Rows.FnExactTreeTextSaid := fnExactTreeText.proved
end Go.Proofs.Ytlocaaebgghkbaa
