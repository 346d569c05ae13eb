/- Functions that are taken by a contract, and the universe as a whole. Written by a program of this work (gen.py). -/
import Derived.Test.YtejfpemjmpoddaaVxJU
import Derived.WalkKit
import Derived.Lib.Strings
import Derived.Lib.Slices
import Derived.Lib.Walk
import Derived.Lib.Bytealg
namespace Go.Proofs.Ytejfpemjmpoddaa.Vx
open Go Go.Proofs
set_option maxRecDepth 100000
set_option maxHeartbeats 1000000 in
set_option maxRecDepth 100000 in
theorem liteIndexByte (s : ByteArray) (c : Int) (w : World) :
    Calls Try.prog 239 #[.string s, .int .u8 c] w fun e w' => e = .returned (.int .i64 (Lib.indexByte s.data.toList c.toNat.toUInt8)) ∧ w' = w := by
  go_enter Try.func239, Try.ntmps239
  go_wp2
  rw [run_callFunc_extern Try.func248 (by kernel_rfl) (by kernel_rfl) (by kernel_rfl) (e := Extern.BytealgIndexByte.indexByte) (by kernel_rfl), Lib.run_indexByteString]
  simp only [Result.andThen]
  rw [Oper.upon_value]
  go_wp2
  go_ret
  exact ⟨rfl, rfl⟩
set_option maxHeartbeats 1000000 in
theorem stringsIndexByte (s : ByteArray) (c : Int) (w : World) :
    Calls Try.prog 229 #[.string s, .int .u8 c] w fun e w' => e = .returned (.int .i64 (Lib.indexByte s.data.toList c.toNat.toUInt8)) ∧ w' = w := by
  go_enter Try.func229, Try.ntmps229
  go_wp2_with (go_at_call 239; refine (liteIndexByte _ _ _).mono ?_; rintro e w' ⟨rfl, rfl⟩)
  go_ret
  exact ⟨rfl, rfl⟩
theorem p229_ok (x : E.Args 229) (y : E.Res 229) (h : (fun ((s, c, _) : List UInt8 × Int × Unit) => (some (Lib.indexByte s c.toNat.toUInt8, ()) : Option (Int × Unit))) x = some y) : FnOk Try.prog E 229 x y := by
  obtain ⟨s, c, u⟩ := x
  cases h
  refine FnOk.scal Try.func229 (by kernel_rfl) (by kernel_rfl) (fun w S args ob hp => ?_)
  have hp : PRs E w S [.str, .int .u8] ((s, c, ()) : List UInt8 × Int × Unit) args ob := hp
  match args, hp with
  | [v, u], hp =>
    obtain ⟨o1, o2, _, ⟨hv, _⟩, o3, o4, _, ⟨hu, _⟩, _⟩ := hp
    subst hv hu
    refine ⟨[.int .i64 (Lib.indexByte s c.toNat.toUInt8)], rfl, fun S => ⟨[], [], rfl, ⟨rfl, rfl⟩, rfl⟩, ?_⟩
    have := stringsIndexByte ⟨s.toArray⟩ c w
    simpa [retVal] using this
theorem prim_ok (f : Nat) (q : E.Args f → Option (E.Res f)) (h : E.prim f = some q) (x : E.Args f) (y : E.Res f) (hy : q x = some y) : FnOk Try.prog E f x y := by
  by_cases hf : f ∈ primL
  · simp only [primL, List.mem_cons, List.not_mem_nil, or_false] at hf
    subst hf
    cases h; exact p229_ok x y hy
  · have e0 : E.prim f = none := prim_no f hf
    rw [e0] at h; cases h
theorem uni : Uni Try.prog E := ⟨tiOk, good, eqOk, mixed, code_ok, prim_ok⟩
theorem leafsOk : ∀ t d, E.ti t = some d → leafsB E t d = true := leafs_of ti_mem tB_all
end Go.Proofs.Ytejfpemjmpoddaa.Vx
