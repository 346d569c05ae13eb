/- The given statement FnTested is proved: whatever comes in, the law answers true, and what came in reads as it did. No conditions. -/
import Derived.Test.YtejfpemjmpoddaaRows
import Derived.Test.YtejfpemjmpoddaaVxTP
import Derived.Test.YtejfpemjmpoddaaVxTPl
import Derived.WalkKit
import Derived.ProofKit
import Derived.OpenShut
import Derived.ShutString
import Derived.ChangeOld
import Derived.Below
namespace Go.Proofs.Ytejfpemjmpoddaa
open Go.ChangeShapes Go.WideShapes Go.ChangeAt Go.RowKit
open Go.ChangeMaps (open_string shut_string)
theorem fnTested_own : ownKnob Try.prog.godebug = none := by kernel_rfl
theorem fnTested_laid : laidOutB Try.prog = true := by kernel_rfl
def fnTested_dL : List Nat := [5, 39]
theorem fnTested_dB : fnTested_dL.all (Vx.dB Vx.E fnTested_dL Vx.tyL) = true := by kernel_rfl
set_option maxRecDepth 100000 in
theorem fnTested_lifted (os : Os) (started : os.Started) (H : Type) (enc : TypeId × Value → H) :
    ReturnsInHanded {} Try.checked os 4 .any (Rows.fnTestedSpec.pre6 enc Try.prog Try.f4 Rows.fnTestedRow.domain false) (Rows.fnTestedSpec.post enc Try.prog Try.f4 false true false false) := by
  refine returnsInHanded_of_change (C := Try.checked) fnTested_own started (by kernel_rfl) Try.func4
    (ChangeSpec.witness6 (enc := enc) (C := Try.checked) false ⟨#[], #[.slice none 0 0], []⟩ 8 (by kernel_rfl) (by kernel_rfl) (by kernel_rfl) (by kernel_rfl)) ?_
  intro W base args ds gs before hval0 hW hcnd _
  have hval : ∀ (j : Nat) t v, Try.f4.params[j]? = some t → args[j]? = some v → Value.okWide Try.prog W .any base t v := hval0
  have hW' := hW
  obtain ⟨p, q, hA0, hV, rfl, hfz, hnd⟩ := hW
  have hA : DataW.TrodAll enc Try.prog W 0 (fun _ => true) true Try.f4.params.toList args.toList ds p := hA0
  rw [Try.params4] at hA hval
  obtain ⟨v0, vs0, d0, ds0, p0, q0, hargs, rfl, rfl, h0, r0⟩ := trodAll_cons hA
  obtain ⟨rfl, rfl, rfl⟩ := trodAll_nil r0
  obtain rfl : args = #[v0] := by cases args; simp_all
  obtain ⟨rfl, rfl⟩ := trodVars_none hV
  have lt0 : ∀ x ∈ p0, x.block < W.heap.size := by obtain ⟨m, hm⟩ := h0; exact DataW.trod_lt m _ _ _ hm
  obtain ⟨x0, hx0, f0⟩ := Vx.arg_sl Vx.tiOk Vx.good Vx.leafsOk Vx.uniF fnTested_dB (t := 39) rfl rfl (by decide) (hval 0 39 v0 rfl rfl) h0
  refine (Vx.law_calls Vx.uni (f := 4) (fn := Try.f4) rfl (by kernel_rfl) (Vx.pl_FnTested x0 f0) (args := [v0]) ⟨[], [], rfl, hx0, rfl⟩).mono fun e W' ⟨rv, vals, S', ob', he, hp⟩ => ?_
  have bel := Vx.post_below hp
  have h9 : Vx.PRs Vx.E W' S' [.bool] ((true, ()) : Bool × Unit) (vals ++ ([] : List Value)) ob' := hp.rel
  rw [List.append_nil] at h9
  have hv9 := Vx.bool_res h9
  subst he
  have hr9 : rv = .bool true := by rw [hp.ret, hv9]; rfl
  subst hr9
  exact ⟨_, rfl, _, _, _, [], _, [], hW', trodAll_mk1 (shut_bool Try.underlying4 _), (trodAll_cons_mk (Below.trod fnTested_laid (by kernel_rfl) (of_decide_eq_true (by kernel_rfl)) h0 bel lt0) trodAll_mk0), rfl, bel.frame _, fun h => by cases h⟩
theorem fnTested_holds : Rows.FnTestedSaid :=
  OpenClaim.holds_of_wide 4 Try.f4 rfl rfl rfl rfl rfl rfl rfl ⟨rfl, rfl, rfl, rfl, rfl⟩ rfl rfl rfl rfl rfl (by kernel_rfl) Try.func4 (by kernel_rfl)
    (of_decide_eq_true (by kernel_rfl)) (by unfold Func.isWrapper; first | (rw [if_pos (by decide +kernel)]; kernel_rfl) | (rw [if_neg (by decide +kernel)]; exact ⟨rfl, rfl⟩))
    (fun os started H enc _ => fnTested_lifted os started H enc)
#print axioms fnTested_holds
end Go.Proofs.Ytejfpemjmpoddaa
