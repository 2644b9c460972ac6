/- CfgOrder: for every input the law CfgOrder answers true and leaves its arguments as they were. Conditions: none beyond the form's own. -/
import Derived.Test.YtfeakkicihlplaaL4
import Derived.Test.YtfeakkicihlplaaW
import Derived.SizedLaws
namespace Go.Proofs.Ytfeakkicihlplaa
open Go.ChangeShapes Go.WideShapes Go.ChangeAt Go.RowKit

set_option maxRecDepth 100000 in
theorem cfgOrder_lifted (os : Os) (started : os.Started) (H : Type) (enc : TypeId × Value → H) :
    ReturnsInHanded {} Try.checked os 7 .any (Rows.cfgOrderSpec.pre6 enc Try.prog Try.f7 Rows.cfgOrderRow.domain false) (Rows.cfgOrderSpec.post enc Try.prog Try.f7 false true false false) := by
  refine returnsInHanded_of_change_sized (C := Try.checked) own started (by kernel_rfl) Try.func7
    (ChangeSpec.witness6 (enc := enc) (C := Try.checked) false ⟨#[], #[.slice none 0 0], []⟩ 8 (by kernel_rfl) (by kernel_rfl) (by kernel_rfl) (by kernel_rfl)) ?_
  intro W base args ds gs before hval0 hW hcnd hsz _
  have hW' : DataW.Whole enc Try.prog Try.f7.params.toList Rows.cfgOrderSpec.vars false W args.toList ds gs before := hW
  obtain ⟨p, q, hA0, hV, rfl, hfz, hnd⟩ := hW
  have hA : DataW.TrodAll enc Try.prog W 0 (fun _ => true) true Try.f7.params.toList args.toList ds p := hA0
  obtain ⟨rfl, rfl⟩ := trodVars_none hV
  have hz : ∀ n ∈ DataW.weightsEach Try.prog Try.f7.params.toList ds, n ≤ reachBytes := fun n hn => by
    have h1 := List.all_eq_true.1 hsz n (by rw [List.append_nil]; exact weights_app _ _ _ n hn)
    simpa using h1
  have hval : ∀ (j : Nat) t v, Try.f7.params[j]? = some t → args[j]? = some v → Value.okWide Try.prog W .any base t v := hval0
  rw [Try.params7] at hA hz hval
  obtain ⟨v0, vs0, d0, ds0, p0, q0, hargs, rfl, rfl, h0, r0⟩ := trodAll_cons hA
  obtain ⟨rfl, rfl, rfl⟩ := trodAll_nil r0
  obtain rfl : args = #[v0] := by cases args; simp_all
  obtain ⟨bs, nvs, hb⟩ := arg_bks (hval 0 _ v0 rfl rfl) h0 (fun n hn => hz n (by simp only [DataW.weightsEach, List.append_nil]; exact hn))
  refine (law_CfgOrder bs nvs v0 W hb).mono fun e W' ⟨he, hx⟩ => ?_
  subst he
  exact ⟨_, rfl, post_of_true (P := Try.prog) laidOut rfl (tb := 4) (by kernel_rfl) Try.underlying4 (by kernel_rfl) hW' (fun _ => rfl) hx.below⟩

theorem cfgOrder_holds : Rows.CfgOrderSaid :=
  OpenClaim.holds_of_wide 7 Try.f7 rfl rfl rfl rfl rfl rfl rfl ⟨rfl, rfl, rfl, rfl, rfl⟩ rfl rfl rfl rfl rfl (by kernel_rfl) Try.func7 (by kernel_rfl)
    (of_decide_eq_true (by kernel_rfl)) (by unfold Func.isWrapper; first | (rw [if_pos (by decide +kernel)]; kernel_rfl) | (rw [if_neg (by decide +kernel)]; exact ⟨rfl, rfl⟩))
    (fun os started H enc _ => cfgOrder_lifted os started H enc)
#print axioms cfgOrder_holds
end Go.Proofs.Ytfeakkicihlplaa
