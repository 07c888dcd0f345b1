/- The law FnExactArrived returns true for every receiver and every number: the program's Arrived gives what the reference's gives. No condition. -/
import Derived.Test.YtekpagfagciflaaMFnExactArrived
namespace Go.Abs
open Go.RowKit

theorem arrived (a b : Int) : f_laws_FnExactArrived a b = some true := by
  have h1 : ∀ u v w : Int, f_impl_from u v w = f_spec_l1In u v w := fun _ _ _ => rfl
  have h2 : ∀ u v : Int, f_impl_Arrived u v = f_spec_Arrived u v := fun u v => by unfold f_impl_Arrived f_spec_Arrived; rw [h1]
  have h3 : ∀ u : Int, f_laws_eqReceiver u u = some true := fun u => by simp [f_laws_eqReceiver]
  have h4 : ∃ r, f_spec_Arrived a b = some r := by
    unfold f_spec_Arrived f_spec_l1In
    cases h : decide (b = a) with
    | true =>
      cases h' : decide ((0 : Int) ≤ a) with
      | true => cases h'' : decide (a ≤ 99999) <;> simp
      | false => simp
    | false => simp
  obtain ⟨r, hr⟩ := h4
  unfold f_laws_FnExactArrived f_laws_toReceiver
  simp only [Option.bind_some, hr, h2, h3, Bool.not_true, cond_false, beq_self_eq_true]
theorem plain : Pure := fun x _ => arrived x.1 x.2
end Go.Abs
