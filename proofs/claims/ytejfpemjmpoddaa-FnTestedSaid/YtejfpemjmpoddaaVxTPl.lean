/- FnTested, plain: whatever comes in, the law answers true. -/
import Derived.Test.YtejfpemjmpoddaaVxTX8
import Derived.Test.YtejfpemjmpoddaaVxTP
namespace Go.Proofs.Ytejfpemjmpoddaa.Vx
open Go Go.Proofs

theorem pl_FnTested' {O : Orc E} (hO : Fix O) (code : List Int) : k_laws_FnTested O code = some (true, ()) := by
  rw [e_laws_FnTested O hO, e_laws_big O hO, Option.bind_some]
  by_cases hb : code.length > 1048576
  · rw [if_pos (by simp only [decide_eq_true_eq]; omega)]
  · rw [if_neg (by simp only [decide_eq_true_eq]; omega)]
    obtain ⟨t, p, x, e, ht, hp⟩ := spec_DrawTree hO code (by omega)
    have hs : Sm BB t := ht.sm.mono (by unfold BB; omega)
    have hpm : p.length ≤ maxI := by unfold maxI; omega
    have hfm : ([] : List Str).length ≤ maxI := by simp
    rw [e, Option.bind_some]
    simp only [DNode.cp_eq, impl_AtPtr hO t p hs hpm, spec_AtPtr hO t p hs hpm, Option.bind_some]
    cases hat : atF t p with
    | none =>
      have hz : Sm BB (⟨0, 0, [], [], []⟩ : DNode) := Sm.zero _ _ _ _
      simp only [resAt, Bool.false_and, Bool.false_eq_true, if_false, Option.bind_some, beq_self_eq_true, Bool.not_true, cond_false, Bool.not_false, if_true]
      rw [impl_PatchOne hO t _ hs hz hpm hfm]
      have : patchedF t ⟨4, p, [], ⟨0, 0, [], [], []⟩⟩ = none := by simp [patchedF, hat]
      rw [this]
      rfl
    | some y =>
      have hy := atF_sm hs hat
      have hz : Sm BB (⟨0, 0, [], [], []⟩ : DNode) := Sm.zero _ _ _ _
      simp only [resAt, beq_self_eq_true, Bool.not_true, Bool.not_false, Bool.and_self, if_true, impl_TreeSame hO y y hy, same_self, Option.bind_some, cond_false, cond_true, Bool.false_eq_true, if_false]
      rw [impl_PatchOne hO t _ hs hy hpm hfm, Option.bind_some, impl_PatchOne hO t _ hs hy hpm hfm, Option.bind_some, impl_PatchOne hO t _ hs hz hpm hpm, Option.bind_some]
      have p4 : patchedF t ⟨4, p, [], y⟩ = some t := by simp [patchedF, hat, same_self]
      have p3 : patchedF t ⟨3, p, [], y⟩ = some t := by
        cases p with
        | nil => simp [atF] at hat; subst hat; simp [patchedF]
        | cons q ps =>
          obtain ⟨c, h1, h2⟩ := cut_put (q :: ps) ht (by simp) hat
          simp [patchedF, cutF, putF, h1, h2]
      rw [p4, p3]
      cases p with
      | nil =>
        have p5 : patchedF t ⟨5, [], [], ⟨0, 0, [], [], []⟩⟩ = none := by simp [patchedF, hat, cutF, within]
        rw [p5]
        simp only [orElse, cond_true, if_true, impl_TreeSame hO t t hs, same_self, Option.bind_some, List.length_nil]
        rfl
      | cons q ps =>
        obtain ⟨c, h1, h2⟩ := cut_put (q :: ps) ht (by simp) hat
        have p5 : patchedF t ⟨5, q :: ps, q :: ps, ⟨0, 0, [], [], []⟩⟩ = some t := by simp [patchedF, hat, cutF, putF, h1, h2]
        rw [p5]
        have e0 : (((q :: ps).length : Int) == 0) = false := by simp; omega
        simp only [orElse, cond_true, if_true, impl_TreeSame hO t t hs, same_self, Option.bind_some, e0]
        rfl

theorem pl_FnTested (x0 : List (Ty 5)) (_f0 : FitV E (.sl 5 x0)) : (orcL E).call 4 (x0, ()) = some (true, ()) := pl_FnTested' orcL_fix x0
end Go.Proofs.Ytejfpemjmpoddaa.Vx
