/- The facts of this universe. Written by a program of this work (gen.py). -/
import Derived.Test.YtejfpemjmpoddaaVxTB
import Derived.Test.YtejfpemjmpoddaaVxM3
namespace Go.Proofs.Ytejfpemjmpoddaa.Vx
open Go Go.Proofs
set_option maxRecDepth 20000
def tyL : List Nat := [2, 3, 4, 5, 6, 8, 9, 22, 28, 30, 39, 46, 78, 147, 180]
theorem dfl_no (κ : Nat) (h : κ ∉ tyL) : dfl κ = none := by
  apply dfl.eq_16 <;> (intro e; subst e; exact h (by decide))
theorem cells_no (κ : Nat) (h : κ ∉ tyL) (x : Ty κ) : cells κ x = [] := by
  have e0 : cells κ = fun _ => [] := by
    apply cells.eq_16 <;> (intro e; subst e; exact h (by decide))
  rw [e0]
theorem dec_no (κ : Nat) (h : κ ∉ tyL) (cs : List (V Ty)) : dec κ cs = none := by
  have e0 : dec κ = fun _ => none := by
    apply dec.eq_16 <;> (intro e; subst e; exact h (by decide))
  rw [e0]
theorem asRow_ok {κ : Nat} {v : V Ty} {xs : List (Ty κ)} (h : asRow κ v = some xs) : (V.sl κ xs : V Ty) = v ∨ (v = .nl ∧ ∃ κ', (V.sl κ xs : V Ty) = .sl κ' []) := by
  unfold asRow at h
  split at h
  · cases h; exact .inr ⟨rfl, κ, rfl⟩
  · split at h
    · rename_i e; subst e; cases h; exact .inl rfl
    · cases h
  · cases h
theorem d2 (cs : List (V Ty)) (x : Ty 2) (h : dec2 cs = some x) : Sim cs (cells 2 x) := by
  unfold dec2 at h
  split at h
  · cases h
    exact ⟨.inl rfl, trivial⟩
  · cases h
theorem m2 (cs : List (V Ty)) (h : leafOk E cs [2] = true) (hl : cs.length = 1) : (dec2 cs).isSome = true := by
  obtain ⟨x0, cs, rfl, h, hl⟩ := leaf_int (k := .i64) rfl rfl h hl
  obtain rfl := List.eq_nil_of_length_eq_zero hl
  rfl
theorem f2 : TyF E 2 := ⟨⟨_, rfl, rfl, fun _ => rfl, m2⟩, d2⟩
theorem d3 (cs : List (V Ty)) (x : Ty 3) (h : dec3 cs = some x) : Sim cs (cells 3 x) := by
  unfold dec3 at h
  split at h
  · cases h
    exact ⟨.inl rfl, trivial⟩
  · cases h
theorem m3 (cs : List (V Ty)) (h : leafOk E cs [3] = true) (hl : cs.length = 1) : (dec3 cs).isSome = true := by
  obtain ⟨x0, cs, rfl, h, hl⟩ := leaf_int (k := .i64) rfl rfl h hl
  obtain rfl := List.eq_nil_of_length_eq_zero hl
  rfl
theorem f3 : TyF E 3 := ⟨⟨_, rfl, rfl, fun _ => rfl, m3⟩, d3⟩
theorem d4 (cs : List (V Ty)) (x : Ty 4) (h : dec4 cs = some x) : Sim cs (cells 4 x) := by
  unfold dec4 at h
  split at h
  · cases h
    exact ⟨.inl rfl, trivial⟩
  · cases h
theorem m4 (cs : List (V Ty)) (h : leafOk E cs [4] = true) (hl : cs.length = 1) : (dec4 cs).isSome = true := by
  obtain ⟨x0, cs, rfl, h, hl⟩ := leaf_bool rfl rfl h hl
  obtain rfl := List.eq_nil_of_length_eq_zero hl
  rfl
theorem f4 : TyF E 4 := ⟨⟨_, rfl, rfl, fun _ => rfl, m4⟩, d4⟩
theorem d5 (cs : List (V Ty)) (x : Ty 5) (h : dec5 cs = some x) : Sim cs (cells 5 x) := by
  unfold dec5 at h
  split at h
  · cases h
    exact ⟨.inl rfl, trivial⟩
  · cases h
theorem m5 (cs : List (V Ty)) (h : leafOk E cs [5] = true) (hl : cs.length = 1) : (dec5 cs).isSome = true := by
  obtain ⟨x0, cs, rfl, h, hl⟩ := leaf_int (k := .u8) rfl rfl h hl
  obtain rfl := List.eq_nil_of_length_eq_zero hl
  rfl
theorem f5 : TyF E 5 := ⟨⟨_, rfl, rfl, fun _ => rfl, m5⟩, d5⟩
theorem d6 (cs : List (V Ty)) (x : Ty 6) (h : dec6 cs = some x) : Sim cs (cells 6 x) := by
  unfold dec6 at h
  split at h
  · cases h
    exact ⟨.inl rfl, trivial⟩
  · cases h
theorem m6 (cs : List (V Ty)) (h : leafOk E cs [6] = true) (hl : cs.length = 1) : (dec6 cs).isSome = true := by
  obtain ⟨x0, cs, rfl, h, hl⟩ := leaf_int (k := .u8) rfl rfl h hl
  obtain rfl := List.eq_nil_of_length_eq_zero hl
  rfl
theorem f6 : TyF E 6 := ⟨⟨_, rfl, rfl, fun _ => rfl, m6⟩, d6⟩
theorem d8 (cs : List (V Ty)) (x : Ty 8) (h : dec8 cs = some x) : Sim cs (cells 8 x) := by
  unfold dec8 at h
  split at h
  · cases h
    exact ⟨.inl rfl, .inl rfl, .inl rfl, .inl rfl, trivial⟩
  · cases h
theorem m8 (cs : List (V Ty)) (h : leafOk E cs [2, 3, 4, 6] = true) (hl : cs.length = 4) : (dec8 cs).isSome = true := by
  obtain ⟨x0, cs, rfl, h, hl⟩ := leaf_int (k := .i64) rfl rfl h hl
  obtain ⟨x1, cs, rfl, h, hl⟩ := leaf_int (k := .i64) rfl rfl h hl
  obtain ⟨x2, cs, rfl, h, hl⟩ := leaf_bool rfl rfl h hl
  obtain ⟨x3, cs, rfl, h, hl⟩ := leaf_int (k := .u8) rfl rfl h hl
  obtain rfl := List.eq_nil_of_length_eq_zero hl
  rfl
theorem f8 : TyF E 8 := ⟨⟨_, rfl, rfl, fun _ => rfl, m8⟩, d8⟩
theorem d9 (cs : List (V Ty)) (x : Ty 9) (h : dec9 cs = some x) : Sim cs (cells 9 x) := by
  unfold dec9 at h
  split at h
  · cases h
    exact ⟨.inl rfl, trivial⟩
  · cases h
theorem m9 (cs : List (V Ty)) (h : leafOk E cs [9] = true) (hl : cs.length = 1) : (dec9 cs).isSome = true := by
  obtain ⟨x0, cs, rfl, h, hl⟩ := leaf_str rfl rfl h hl
  obtain rfl := List.eq_nil_of_length_eq_zero hl
  rfl
theorem f9 : TyF E 9 := ⟨⟨_, rfl, rfl, fun _ => rfl, m9⟩, d9⟩
theorem d22 (cs : List (V Ty)) (x : Ty 22) (h : dec22 cs = some x) : Sim cs (cells 22 x) := by
  unfold dec22 at h
  split at h
  · split at h
    · rename_i e0
      cases h
      exact ⟨asRow_ok e0, trivial⟩
    · cases h
  · cases h
theorem m22 (cs : List (V Ty)) (h : leafOk E cs [22] = true) (hl : cs.length = 1) : (dec22 cs).isSome = true := by
  obtain ⟨x0, cs, rfl, h, hl⟩ := leaf_sl (κ := 9) rfl rfl h hl
  obtain rfl := List.eq_nil_of_length_eq_zero hl
  rfl
theorem f22 : TyF E 22 := ⟨⟨_, rfl, rfl, fun _ => rfl, m22⟩, d22⟩
theorem d28 (cs : List (V Ty)) (x : Ty 28) (h : dec28 cs = some x) : Sim cs (cells 28 x) := by
  unfold dec28 at h
  split at h
  · split at h
    · rename_i e0
      cases h
      exact ⟨asRow_ok e0, trivial⟩
    · cases h
  · cases h
theorem m28 (cs : List (V Ty)) (h : leafOk E cs [28] = true) (hl : cs.length = 1) : (dec28 cs).isSome = true := by
  obtain ⟨x0, cs, rfl, h, hl⟩ := leaf_sl (κ := 30) rfl rfl h hl
  obtain rfl := List.eq_nil_of_length_eq_zero hl
  rfl
theorem f28 : TyF E 28 := ⟨⟨_, rfl, rfl, fun _ => rfl, m28⟩, d28⟩
theorem d30 (cs : List (V Ty)) (x : Ty 30) (h : dec30 cs = some x) : Sim cs (cells 30 x) := by
  unfold dec30 at h
  split at h
  · split at h
    · rename_i e3 e4
      cases h
      exact ⟨.inl rfl, .inl rfl, .inl rfl, asRow_ok e3, asRow_ok e4, trivial⟩
    · cases h
  · cases h
theorem m30 (cs : List (V Ty)) (h : leafOk E cs [3, 3, 9, 22, 28] = true) (hl : cs.length = 5) : (dec30 cs).isSome = true := by
  obtain ⟨x0, cs, rfl, h, hl⟩ := leaf_int (k := .i64) rfl rfl h hl
  obtain ⟨x1, cs, rfl, h, hl⟩ := leaf_int (k := .i64) rfl rfl h hl
  obtain ⟨x2, cs, rfl, h, hl⟩ := leaf_str rfl rfl h hl
  obtain ⟨x3, cs, rfl, h, hl⟩ := leaf_sl (κ := 9) rfl rfl h hl
  obtain ⟨x4, cs, rfl, h, hl⟩ := leaf_sl (κ := 30) rfl rfl h hl
  obtain rfl := List.eq_nil_of_length_eq_zero hl
  rfl
theorem f30 : TyF E 30 := ⟨⟨_, rfl, rfl, fun _ => rfl, m30⟩, d30⟩
theorem d39 (cs : List (V Ty)) (x : Ty 39) (h : dec39 cs = some x) : Sim cs (cells 39 x) := by
  unfold dec39 at h
  split at h
  · split at h
    · rename_i e0
      cases h
      exact ⟨asRow_ok e0, trivial⟩
    · cases h
  · cases h
theorem m39 (cs : List (V Ty)) (h : leafOk E cs [39] = true) (hl : cs.length = 1) : (dec39 cs).isSome = true := by
  obtain ⟨x0, cs, rfl, h, hl⟩ := leaf_sl (κ := 5) rfl rfl h hl
  obtain rfl := List.eq_nil_of_length_eq_zero hl
  rfl
theorem f39 : TyF E 39 := ⟨⟨_, rfl, rfl, fun _ => rfl, m39⟩, d39⟩
theorem d46 (cs : List (V Ty)) (x : Ty 46) (h : dec46 cs = some x) : Sim cs (cells 46 x) := by
  unfold dec46 at h
  split at h
  · split at h
    · rename_i e1 e2 e6 e7
      cases h
      exact ⟨.inl rfl, asRow_ok e1, asRow_ok e2, .inl rfl, .inl rfl, .inl rfl, asRow_ok e6, asRow_ok e7, trivial⟩
    · cases h
  · cases h
theorem m46 (cs : List (V Ty)) (h : leafOk E cs [3, 22, 22, 3, 3, 9, 22, 28] = true) (hl : cs.length = 8) : (dec46 cs).isSome = true := by
  obtain ⟨x0, cs, rfl, h, hl⟩ := leaf_int (k := .i64) rfl rfl h hl
  obtain ⟨x1, cs, rfl, h, hl⟩ := leaf_sl (κ := 9) rfl rfl h hl
  obtain ⟨x2, cs, rfl, h, hl⟩ := leaf_sl (κ := 9) rfl rfl h hl
  obtain ⟨x3, cs, rfl, h, hl⟩ := leaf_int (k := .i64) rfl rfl h hl
  obtain ⟨x4, cs, rfl, h, hl⟩ := leaf_int (k := .i64) rfl rfl h hl
  obtain ⟨x5, cs, rfl, h, hl⟩ := leaf_str rfl rfl h hl
  obtain ⟨x6, cs, rfl, h, hl⟩ := leaf_sl (κ := 9) rfl rfl h hl
  obtain ⟨x7, cs, rfl, h, hl⟩ := leaf_sl (κ := 30) rfl rfl h hl
  obtain rfl := List.eq_nil_of_length_eq_zero hl
  rfl
theorem f46 : TyF E 46 := ⟨⟨_, rfl, rfl, fun _ => rfl, m46⟩, d46⟩
theorem d78 (cs : List (V Ty)) (x : Ty 78) (h : dec78 cs = some x) : Sim cs (cells 78 x) := by
  unfold dec78 at h
  split at h
  · split at h
    · rename_i e0
      cases h
      exact ⟨asRow_ok e0, trivial⟩
    · cases h
  · cases h
theorem m78 (cs : List (V Ty)) (h : leafOk E cs [78] = true) (hl : cs.length = 1) : (dec78 cs).isSome = true := by
  obtain ⟨x0, cs, rfl, h, hl⟩ := leaf_sl (κ := 22) rfl rfl h hl
  obtain rfl := List.eq_nil_of_length_eq_zero hl
  rfl
theorem f78 : TyF E 78 := ⟨⟨_, rfl, rfl, fun _ => rfl, m78⟩, d78⟩
theorem d147 (cs : List (V Ty)) (x : Ty 147) (h : dec147 cs = some x) : Sim cs (cells 147 x) := by
  unfold dec147 at h
  split at h
  · split at h
    · rename_i e0
      cases h
      exact ⟨asRow_ok e0, trivial⟩
    · cases h
  · cases h
theorem m147 (cs : List (V Ty)) (h : leafOk E cs [147] = true) (hl : cs.length = 1) : (dec147 cs).isSome = true := by
  obtain ⟨x0, cs, rfl, h, hl⟩ := leaf_sl (κ := 3) rfl rfl h hl
  obtain rfl := List.eq_nil_of_length_eq_zero hl
  rfl
theorem f147 : TyF E 147 := ⟨⟨_, rfl, rfl, fun _ => rfl, m147⟩, d147⟩
theorem d180 (cs : List (V Ty)) (x : Ty 180) (h : dec180 cs = some x) : Sim cs (cells 180 x) := by
  unfold dec180 at h
  split at h
  · split at h
    · rename_i e0
      cases h
      exact ⟨asRow_ok e0, .inl rfl, .inl rfl, trivial⟩
    · cases h
  · cases h
theorem m180 (cs : List (V Ty)) (h : leafOk E cs [39, 3, 3] = true) (hl : cs.length = 3) : (dec180 cs).isSome = true := by
  obtain ⟨x0, cs, rfl, h, hl⟩ := leaf_sl (κ := 5) rfl rfl h hl
  obtain ⟨x1, cs, rfl, h, hl⟩ := leaf_int (k := .i64) rfl rfl h hl
  obtain ⟨x2, cs, rfl, h, hl⟩ := leaf_int (k := .i64) rfl rfl h hl
  obtain rfl := List.eq_nil_of_length_eq_zero hl
  rfl
theorem f180 : TyF E 180 := ⟨⟨_, rfl, rfl, fun _ => rfl, m180⟩, d180⟩
theorem uniF : UniF E tyL := ⟨⟨f2, f3, f4, f5, f6, f8, f9, f22, f28, f30, f39, f46, f78, f147, f180, trivial⟩, dfl_no, cells_no, dec_no⟩
theorem ti_mem : ∀ t d, E.ti t = some d → (t, d) ∈ tiL := fun _ _ h => mem_of_find h
theorem tB_all : tiL.all (tB Try.prog E) = true := by kernel_rfl
theorem tiOk : TIok Try.prog E := TIok.of ti_mem tB_all
theorem good : Good E := Good.of uniF ti_mem tB_all
theorem eqT_all : E.eqt.all (eqTB Try.prog E) = true := by kernel_rfl
theorem eqOk : EqOk Try.prog E := EqOk.of tiOk eqT_all
theorem mixed : Try.prog.follows .mixedOrders = true := by kernel_rfl
theorem codes : AllP (fun p : Nat × Func => Try.prog.funcs[p.1]? = some p.2 ∧ (p.2.name == "runtime.NumGoroutine") = false) codeL := ⟨⟨Try.func23, by kernel_rfl⟩,
  ⟨Try.func93, by kernel_rfl⟩,
  ⟨Try.func161, by kernel_rfl⟩,
  ⟨Try.func101, by kernel_rfl⟩,
  ⟨Try.func105, by kernel_rfl⟩,
  ⟨Try.func197, by kernel_rfl⟩,
  ⟨Try.func154, by kernel_rfl⟩,
  ⟨Try.func106, by kernel_rfl⟩,
  ⟨Try.func155, by kernel_rfl⟩,
  ⟨Try.func159, by kernel_rfl⟩,
  ⟨Try.func157, by kernel_rfl⟩,
  ⟨Try.func156, by kernel_rfl⟩,
  ⟨Try.func158, by kernel_rfl⟩,
  ⟨Try.func77, by kernel_rfl⟩,
  ⟨Try.func144, by kernel_rfl⟩,
  ⟨Try.func142, by kernel_rfl⟩,
  ⟨Try.func94, by kernel_rfl⟩,
  ⟨Try.func124, by kernel_rfl⟩,
  ⟨Try.func54, by kernel_rfl⟩,
  ⟨Try.func95, by kernel_rfl⟩,
  ⟨Try.func24, by kernel_rfl⟩,
  ⟨Try.func147, by kernel_rfl⟩,
  ⟨Try.func107, by kernel_rfl⟩,
  ⟨Try.func123, by kernel_rfl⟩,
  ⟨Try.func151, by kernel_rfl⟩,
  ⟨Try.func86, by kernel_rfl⟩,
  ⟨Try.func96, by kernel_rfl⟩,
  ⟨Try.func81, by kernel_rfl⟩,
  ⟨Try.func25, by kernel_rfl⟩,
  ⟨Try.func79, by kernel_rfl⟩,
  ⟨Try.func26, by kernel_rfl⟩,
  ⟨Try.func97, by kernel_rfl⟩,
  ⟨Try.func98, by kernel_rfl⟩,
  ⟨Try.func27, by kernel_rfl⟩,
  ⟨Try.func84, by kernel_rfl⟩,
  ⟨Try.func149, by kernel_rfl⟩,
  ⟨Try.func148, by kernel_rfl⟩,
  ⟨Try.func85, by kernel_rfl⟩,
  ⟨Try.func83, by kernel_rfl⟩,
  ⟨Try.func146, by kernel_rfl⟩,
  ⟨Try.func82, by kernel_rfl⟩,
  ⟨Try.func17, by kernel_rfl⟩,
  ⟨Try.func120, by kernel_rfl⟩,
  ⟨Try.func119, by kernel_rfl⟩,
  ⟨Try.func49, by kernel_rfl⟩,
  ⟨Try.func99, by kernel_rfl⟩,
  ⟨Try.func28, by kernel_rfl⟩,
  ⟨Try.func4, by kernel_rfl⟩,
  trivial⟩
theorem code_ok (f : Nat) (fn : Func) (h : E.code f = some fn) : Try.prog.funcs[f]? = some fn ∧ (fn.name == "runtime.NumGoroutine") = false := codes.mem (mem_of_find h)
def primL : List Nat := [145, 150, 87, 176, 121]
theorem prim_no (f : Nat) (h : f ∉ primL) : prim f = none := by
  apply prim.eq_6 <;> (intro e; subst e; exact h (by decide))
end Go.Proofs.Ytejfpemjmpoddaa.Vx
