/- The law FnExactHartNew returns true for every number: the program's HartNew gives what the reference's gives, in rows of their own. The number is one of an int. -/
import Derived.Test.YtekpagfagciflaaPFnExactHartNewx2
namespace Go.Proofs.Ytekpagfagciflaa.Pure
open Go.RowKit Go.Proofs.Ytekpagfagciflaa.PFnExactHartNew Go.Proofs.YtekpagfagciflaaW.PrintWords Go.Proofs.YtekpagfagciflaaW.PrintLast

theorem hart_same (a0 : Int) (h : (Lit.int .i64 a0).wf = true) : impl_address.f a0 = spec_l9Address.f a0 := by
  have hb : -9223372036854775808 ≤ a0 ∧ a0 ≤ 9223372036854775807 := by
    simpa [Lit.wf, IntKind.min, IntKind.max, IntKind.signed, IntKind.bits] using h
  unfold impl_address.f spec_l9Address.f wrap64
  have h1 : -24 < Int.tmod a0 24 := by
    have := Int.tmod_lt_of_pos (-a0) (b := 24) (by omega)
    rw [Int.neg_tmod] at this
    omega
  have h2 : Int.tmod a0 24 < 24 := Int.tmod_lt_of_pos a0 (by omega)
  generalize Int.tmod a0 24 = m at *
  by_cases hm : m < 0
  · rw [if_pos hm]
    rw [Int.tmod_eq_emod_of_nonneg (by omega)]
    congr 1
    omega
  · rw [if_neg hm]
    rw [Int.tmod_eq_emod_of_nonneg (by omega)]
    congr 1
    omega

theorem hart_row (a0 : Int) : ∃ m : Int, spec_l9Address.f a0 = some m := by
  unfold spec_l9Address.f
  split <;> exact ⟨_, rfl⟩

theorem hart_mark : laws_markIntS.f 10 (List.replicate 4 0) 1 = some (5, [1, 2, 3, 4]) := by simp [laws_markIntS.f, laws_markIntS.l0, wrap64]
theorem hart_held : laws_heldIntS.f 10 [1, 2, 3, 4] 1 = some 5 := by simp [laws_heldIntS.f, laws_heldIntS.l0, wrap64, rd]
theorem hart_eq : laws_eqIntS.f 10 (List.replicate 4 0) (List.replicate 4 0) = some true := by simp [laws_eqIntS.f, laws_eqIntS.l0, wrap64, rd]

theorem FnExactHartNew : laws_FnExactHartNew.Pure := by
  intro a0 h
  refine ⟨10, ?_⟩
  obtain ⟨m, hm⟩ := hart_row a0
  have hs : spec_HartNew.f a0 = some (List.replicate 4 0, m, 0) := by
    unfold spec_HartNew.f
    rw [if_pos (by decide), hm]
    rfl
  have hi : impl_HartNew.f a0 = some (List.replicate 4 0, m, 0) := by
    unfold impl_HartNew.f
    rw [if_pos (by decide), hart_same a0 h, hm]
    rfl
  have he : laws_eqHart.f 10 (List.replicate 4 0) m 0 (List.replicate 4 0) m 0 = some true := by
    unfold laws_eqHart.f
    rw [hart_eq]
    simp
  have hk : laws_markHart.f 10 (List.replicate 4 0) m 0 1 = some (5, [1, 2, 3, 4]) := by
    unfold laws_markHart.f
    rw [hart_mark]
    rfl
  have hh : laws_heldHart.f 10 [1, 2, 3, 4] m 0 1 = some 5 := by
    unfold laws_heldHart.f
    rw [hart_held]
    rfl
  unfold laws_FnExactHartNew.f
  rw [hs, hi]
  simp only [Option.bind_some, he, hk, hh, if_true]
  rfl

end Go.Proofs.Ytekpagfagciflaa.Pure
