/- The facts of this universe. Written by a program of this work (gen.py). -/
import Derived.Test.YtejfpemjmpoddaaVxJB
import Derived.Test.YtejfpemjmpoddaaVxM3
namespace Go.Proofs.Ytejfpemjmpoddaa.Vx
open Go Go.Proofs
set_option maxRecDepth 20000
def tyL : List Nat := [3, 4, 5, 9, 50, 52, 53, 55, 57, 65, 80, 82, 83, 84, 86, 90, 91, 92, 94, 160, 162, 190, 192, 201, 203, 206, 209, 212, 232, 233, 234, 236, 238, 255, 268, 270]
theorem dfl_no (κ : Nat) (h : κ ∉ tyL) : dfl κ = none := by
  apply dfl.eq_37 <;> (intro e; subst e; exact h (by decide))
theorem cells_no (κ : Nat) (h : κ ∉ tyL) (x : Ty κ) : cells κ x = [] := by
  have e0 : cells κ = fun _ => [] := by
    apply cells.eq_37 <;> (intro e; subst e; exact h (by decide))
  rw [e0]
theorem dec_no (κ : Nat) (h : κ ∉ tyL) (cs : List (V Ty)) : dec κ cs = none := by
  have e0 : dec κ = fun _ => none := by
    apply dec.eq_37 <;> (intro e; subst e; exact h (by decide))
  rw [e0]
theorem asRow_ok {κ : Nat} {v : V Ty} {xs : List (Ty κ)} (h : asRow κ v = some xs) : (V.sl κ xs : V Ty) = v ∨ (v = .nl ∧ ∃ κ', (V.sl κ xs : V Ty) = .sl κ' []) := by
  unfold asRow at h
  split at h
  · cases h; exact .inr ⟨rfl, κ, rfl⟩
  · split at h
    · rename_i e; subst e; cases h; exact .inl rfl
    · cases h
  · cases h
theorem d3 (cs : List (V Ty)) (x : Ty 3) (h : dec3 cs = some x) : Sim cs (cells 3 x) := by
  unfold dec3 at h
  split at h
  · cases h
    exact ⟨.inl rfl, trivial⟩
  · cases h
theorem m3 (cs : List (V Ty)) (h : leafOk E cs [3] = true) (hl : cs.length = 1) : (dec3 cs).isSome = true := by
  obtain ⟨x0, cs, rfl, h, hl⟩ := leaf_int (k := .i64) rfl rfl h hl
  obtain rfl := List.eq_nil_of_length_eq_zero hl
  rfl
theorem f3 : TyF E 3 := ⟨⟨_, rfl, rfl, fun _ => rfl, m3⟩, d3⟩
theorem d4 (cs : List (V Ty)) (x : Ty 4) (h : dec4 cs = some x) : Sim cs (cells 4 x) := by
  unfold dec4 at h
  split at h
  · cases h
    exact ⟨.inl rfl, trivial⟩
  · cases h
theorem m4 (cs : List (V Ty)) (h : leafOk E cs [4] = true) (hl : cs.length = 1) : (dec4 cs).isSome = true := by
  obtain ⟨x0, cs, rfl, h, hl⟩ := leaf_bool rfl rfl h hl
  obtain rfl := List.eq_nil_of_length_eq_zero hl
  rfl
theorem f4 : TyF E 4 := ⟨⟨_, rfl, rfl, fun _ => rfl, m4⟩, d4⟩
theorem d5 (cs : List (V Ty)) (x : Ty 5) (h : dec5 cs = some x) : Sim cs (cells 5 x) := by
  unfold dec5 at h
  split at h
  · cases h
    exact ⟨.inl rfl, trivial⟩
  · cases h
theorem m5 (cs : List (V Ty)) (h : leafOk E cs [5] = true) (hl : cs.length = 1) : (dec5 cs).isSome = true := by
  obtain ⟨x0, cs, rfl, h, hl⟩ := leaf_int (k := .u8) rfl rfl h hl
  obtain rfl := List.eq_nil_of_length_eq_zero hl
  rfl
theorem f5 : TyF E 5 := ⟨⟨_, rfl, rfl, fun _ => rfl, m5⟩, d5⟩
theorem d9 (cs : List (V Ty)) (x : Ty 9) (h : dec9 cs = some x) : Sim cs (cells 9 x) := by
  unfold dec9 at h
  split at h
  · cases h
    exact ⟨.inl rfl, trivial⟩
  · cases h
theorem m9 (cs : List (V Ty)) (h : leafOk E cs [9] = true) (hl : cs.length = 1) : (dec9 cs).isSome = true := by
  obtain ⟨x0, cs, rfl, h, hl⟩ := leaf_str rfl rfl h hl
  obtain rfl := List.eq_nil_of_length_eq_zero hl
  rfl
theorem f9 : TyF E 9 := ⟨⟨_, rfl, rfl, fun _ => rfl, m9⟩, d9⟩
theorem d50 (cs : List (V Ty)) (x : Ty 50) (h : dec50 cs = some x) : Sim cs (cells 50 x) := by
  unfold dec50 at h
  split at h
  · split at h
    · rename_i e0
      cases h
      exact ⟨asRow_ok e0, trivial⟩
    · cases h
  · cases h
theorem m50 (cs : List (V Ty)) (h : leafOk E cs [50] = true) (hl : cs.length = 1) : (dec50 cs).isSome = true := by
  obtain ⟨x0, cs, rfl, h, hl⟩ := leaf_sl (κ := 190) rfl rfl h hl
  obtain rfl := List.eq_nil_of_length_eq_zero hl
  rfl
theorem f50 : TyF E 50 := ⟨⟨_, rfl, rfl, fun _ => rfl, m50⟩, d50⟩
theorem d52 (cs : List (V Ty)) (x : Ty 52) (h : dec52 cs = some x) : Sim cs (cells 52 x) := by
  unfold dec52 at h
  split at h
  · cases h
    exact ⟨.inl rfl, .inl rfl, .inl rfl, .inl rfl, trivial⟩
  · cases h
theorem m52 (cs : List (V Ty)) (h : leafOk E cs [3, 3, 3, 3] = true) (hl : cs.length = 4) : (dec52 cs).isSome = true := by
  obtain ⟨x0, cs, rfl, h, hl⟩ := leaf_int (k := .i64) rfl rfl h hl
  obtain ⟨x1, cs, rfl, h, hl⟩ := leaf_int (k := .i64) rfl rfl h hl
  obtain ⟨x2, cs, rfl, h, hl⟩ := leaf_int (k := .i64) rfl rfl h hl
  obtain ⟨x3, cs, rfl, h, hl⟩ := leaf_int (k := .i64) rfl rfl h hl
  obtain rfl := List.eq_nil_of_length_eq_zero hl
  rfl
theorem f52 : TyF E 52 := ⟨⟨_, rfl, rfl, fun _ => rfl, m52⟩, d52⟩
theorem d53 (cs : List (V Ty)) (x : Ty 53) (h : dec53 cs = some x) : Sim cs (cells 53 x) := by
  unfold dec53 at h
  split at h
  · split at h
    · rename_i e0
      cases h
      exact ⟨asRow_ok e0, trivial⟩
    · cases h
  · cases h
theorem m53 (cs : List (V Ty)) (h : leafOk E cs [53] = true) (hl : cs.length = 1) : (dec53 cs).isSome = true := by
  obtain ⟨x0, cs, rfl, h, hl⟩ := leaf_sl (κ := 192) rfl rfl h hl
  obtain rfl := List.eq_nil_of_length_eq_zero hl
  rfl
theorem f53 : TyF E 53 := ⟨⟨_, rfl, rfl, fun _ => rfl, m53⟩, d53⟩
theorem d55 (cs : List (V Ty)) (x : Ty 55) (h : dec55 cs = some x) : Sim cs (cells 55 x) := by
  unfold dec55 at h
  split at h
  · split at h
    · rename_i e4 e9
      cases h
      exact ⟨.inl rfl, .inl rfl, .inl rfl, .inl rfl, asRow_ok e4, .inl rfl, .inl rfl, .inl rfl, .inl rfl, asRow_ok e9, trivial⟩
    · cases h
  · cases h
theorem m55 (cs : List (V Ty)) (h : leafOk E cs [9, 9, 3, 3, 50, 3, 3, 3, 3, 53] = true) (hl : cs.length = 10) : (dec55 cs).isSome = true := by
  obtain ⟨x0, cs, rfl, h, hl⟩ := leaf_str rfl rfl h hl
  obtain ⟨x1, cs, rfl, h, hl⟩ := leaf_str rfl rfl h hl
  obtain ⟨x2, cs, rfl, h, hl⟩ := leaf_int (k := .i64) rfl rfl h hl
  obtain ⟨x3, cs, rfl, h, hl⟩ := leaf_int (k := .i64) rfl rfl h hl
  obtain ⟨x4, cs, rfl, h, hl⟩ := leaf_sl (κ := 190) rfl rfl h hl
  obtain ⟨x5, cs, rfl, h, hl⟩ := leaf_int (k := .i64) rfl rfl h hl
  obtain ⟨x6, cs, rfl, h, hl⟩ := leaf_int (k := .i64) rfl rfl h hl
  obtain ⟨x7, cs, rfl, h, hl⟩ := leaf_int (k := .i64) rfl rfl h hl
  obtain ⟨x8, cs, rfl, h, hl⟩ := leaf_int (k := .i64) rfl rfl h hl
  obtain ⟨x9, cs, rfl, h, hl⟩ := leaf_sl (κ := 192) rfl rfl h hl
  obtain rfl := List.eq_nil_of_length_eq_zero hl
  rfl
theorem f55 : TyF E 55 := ⟨⟨_, rfl, rfl, fun _ => rfl, m55⟩, d55⟩
theorem d57 (cs : List (V Ty)) (x : Ty 57) (h : dec57 cs = some x) : Sim cs (cells 57 x) := by
  unfold dec57 at h
  split at h
  · split at h
    · rename_i e4 e9
      cases h
      exact ⟨.inl rfl, .inl rfl, .inl rfl, .inl rfl, asRow_ok e4, .inl rfl, .inl rfl, .inl rfl, .inl rfl, asRow_ok e9, .inl rfl, trivial⟩
    · cases h
  · cases h
theorem m57 (cs : List (V Ty)) (h : leafOk E cs [9, 9, 3, 3, 50, 3, 3, 3, 3, 53, 3] = true) (hl : cs.length = 11) : (dec57 cs).isSome = true := by
  obtain ⟨x0, cs, rfl, h, hl⟩ := leaf_str rfl rfl h hl
  obtain ⟨x1, cs, rfl, h, hl⟩ := leaf_str rfl rfl h hl
  obtain ⟨x2, cs, rfl, h, hl⟩ := leaf_int (k := .i64) rfl rfl h hl
  obtain ⟨x3, cs, rfl, h, hl⟩ := leaf_int (k := .i64) rfl rfl h hl
  obtain ⟨x4, cs, rfl, h, hl⟩ := leaf_sl (κ := 190) rfl rfl h hl
  obtain ⟨x5, cs, rfl, h, hl⟩ := leaf_int (k := .i64) rfl rfl h hl
  obtain ⟨x6, cs, rfl, h, hl⟩ := leaf_int (k := .i64) rfl rfl h hl
  obtain ⟨x7, cs, rfl, h, hl⟩ := leaf_int (k := .i64) rfl rfl h hl
  obtain ⟨x8, cs, rfl, h, hl⟩ := leaf_int (k := .i64) rfl rfl h hl
  obtain ⟨x9, cs, rfl, h, hl⟩ := leaf_sl (κ := 192) rfl rfl h hl
  obtain ⟨x10, cs, rfl, h, hl⟩ := leaf_int (k := .i64) rfl rfl h hl
  obtain rfl := List.eq_nil_of_length_eq_zero hl
  rfl
theorem f57 : TyF E 57 := ⟨⟨_, rfl, rfl, fun _ => rfl, m57⟩, d57⟩
theorem d65 (cs : List (V Ty)) (x : Ty 65) (h : dec65 cs = some x) : Sim cs (cells 65 x) := by
  unfold dec65 at h
  split at h
  · split at h
    · rename_i e0
      cases h
      exact ⟨asRow_ok e0, trivial⟩
    · cases h
  · cases h
theorem m65 (cs : List (V Ty)) (h : leafOk E cs [65] = true) (hl : cs.length = 1) : (dec65 cs).isSome = true := by
  obtain ⟨x0, cs, rfl, h, hl⟩ := leaf_sl (κ := 57) rfl rfl h hl
  obtain rfl := List.eq_nil_of_length_eq_zero hl
  rfl
theorem f65 : TyF E 65 := ⟨⟨_, rfl, rfl, fun _ => rfl, m65⟩, d65⟩
theorem d80 (cs : List (V Ty)) (x : Ty 80) (h : dec80 cs = some x) : Sim cs (cells 80 x) := by
  unfold dec80 at h
  split at h
  · split at h
    · rename_i e0
      cases h
      exact ⟨asRow_ok e0, trivial⟩
    · cases h
  · cases h
theorem m80 (cs : List (V Ty)) (h : leafOk E cs [80] = true) (hl : cs.length = 1) : (dec80 cs).isSome = true := by
  obtain ⟨x0, cs, rfl, h, hl⟩ := leaf_sl (κ := 238) rfl rfl h hl
  obtain rfl := List.eq_nil_of_length_eq_zero hl
  rfl
theorem f80 : TyF E 80 := ⟨⟨_, rfl, rfl, fun _ => rfl, m80⟩, d80⟩
theorem d82 (cs : List (V Ty)) (x : Ty 82) (h : dec82 cs = some x) : Sim cs (cells 82 x) := by
  unfold dec82 at h
  split at h
  · split at h
    · rename_i e0
      cases h
      exact ⟨asRow_ok e0, .inl rfl, trivial⟩
    · cases h
  · cases h
theorem m82 (cs : List (V Ty)) (h : leafOk E cs [80, 3] = true) (hl : cs.length = 2) : (dec82 cs).isSome = true := by
  obtain ⟨x0, cs, rfl, h, hl⟩ := leaf_sl (κ := 238) rfl rfl h hl
  obtain ⟨x1, cs, rfl, h, hl⟩ := leaf_int (k := .i64) rfl rfl h hl
  obtain rfl := List.eq_nil_of_length_eq_zero hl
  rfl
theorem f82 : TyF E 82 := ⟨⟨_, rfl, rfl, fun _ => rfl, m82⟩, d82⟩
theorem d83 (cs : List (V Ty)) (x : Ty 83) (h : dec83 cs = some x) : Sim cs (cells 83 x) := by
  unfold dec83 at h
  split at h
  · split at h
    · rename_i e0
      cases h
      exact ⟨asRow_ok e0, trivial⟩
    · cases h
  · cases h
theorem m83 (cs : List (V Ty)) (h : leafOk E cs [83] = true) (hl : cs.length = 1) : (dec83 cs).isSome = true := by
  obtain ⟨x0, cs, rfl, h, hl⟩ := leaf_sl (κ := 203) rfl rfl h hl
  obtain rfl := List.eq_nil_of_length_eq_zero hl
  rfl
theorem f83 : TyF E 83 := ⟨⟨_, rfl, rfl, fun _ => rfl, m83⟩, d83⟩
theorem d84 (cs : List (V Ty)) (x : Ty 84) (h : dec84 cs = some x) : Sim cs (cells 84 x) := by
  unfold dec84 at h
  split at h
  · split at h
    · rename_i e0
      cases h
      exact ⟨asRow_ok e0, trivial⟩
    · cases h
  · cases h
theorem m84 (cs : List (V Ty)) (h : leafOk E cs [84] = true) (hl : cs.length = 1) : (dec84 cs).isSome = true := by
  obtain ⟨x0, cs, rfl, h, hl⟩ := leaf_sl (κ := 206) rfl rfl h hl
  obtain rfl := List.eq_nil_of_length_eq_zero hl
  rfl
theorem f84 : TyF E 84 := ⟨⟨_, rfl, rfl, fun _ => rfl, m84⟩, d84⟩
theorem d86 (cs : List (V Ty)) (x : Ty 86) (h : dec86 cs = some x) : Sim cs (cells 86 x) := by
  unfold dec86 at h
  split at h
  · split at h
    · rename_i e0 e2 e4
      cases h
      exact ⟨asRow_ok e0, .inl rfl, asRow_ok e2, .inl rfl, asRow_ok e4, trivial⟩
    · cases h
  · cases h
theorem m86 (cs : List (V Ty)) (h : leafOk E cs [80, 3, 83, 3, 84] = true) (hl : cs.length = 5) : (dec86 cs).isSome = true := by
  obtain ⟨x0, cs, rfl, h, hl⟩ := leaf_sl (κ := 238) rfl rfl h hl
  obtain ⟨x1, cs, rfl, h, hl⟩ := leaf_int (k := .i64) rfl rfl h hl
  obtain ⟨x2, cs, rfl, h, hl⟩ := leaf_sl (κ := 203) rfl rfl h hl
  obtain ⟨x3, cs, rfl, h, hl⟩ := leaf_int (k := .i64) rfl rfl h hl
  obtain ⟨x4, cs, rfl, h, hl⟩ := leaf_sl (κ := 206) rfl rfl h hl
  obtain rfl := List.eq_nil_of_length_eq_zero hl
  rfl
theorem f86 : TyF E 86 := ⟨⟨_, rfl, rfl, fun _ => rfl, m86⟩, d86⟩
theorem d90 (cs : List (V Ty)) (x : Ty 90) (h : dec90 cs = some x) : Sim cs (cells 90 x) := by
  unfold dec90 at h
  split at h
  · split at h
    · rename_i e0
      cases h
      exact ⟨asRow_ok e0, .inl rfl, trivial⟩
    · cases h
  · cases h
theorem m90 (cs : List (V Ty)) (h : leafOk E cs [65, 3] = true) (hl : cs.length = 2) : (dec90 cs).isSome = true := by
  obtain ⟨x0, cs, rfl, h, hl⟩ := leaf_sl (κ := 57) rfl rfl h hl
  obtain ⟨x1, cs, rfl, h, hl⟩ := leaf_int (k := .i64) rfl rfl h hl
  obtain rfl := List.eq_nil_of_length_eq_zero hl
  rfl
theorem f90 : TyF E 90 := ⟨⟨_, rfl, rfl, fun _ => rfl, m90⟩, d90⟩
theorem d91 (cs : List (V Ty)) (x : Ty 91) (h : dec91 cs = some x) : Sim cs (cells 91 x) := by
  unfold dec91 at h
  split at h
  · split at h
    · rename_i e0
      cases h
      exact ⟨asRow_ok e0, trivial⟩
    · cases h
  · cases h
theorem m91 (cs : List (V Ty)) (h : leafOk E cs [91] = true) (hl : cs.length = 1) : (dec91 cs).isSome = true := by
  obtain ⟨x0, cs, rfl, h, hl⟩ := leaf_sl (κ := 162) rfl rfl h hl
  obtain rfl := List.eq_nil_of_length_eq_zero hl
  rfl
theorem f91 : TyF E 91 := ⟨⟨_, rfl, rfl, fun _ => rfl, m91⟩, d91⟩
theorem d92 (cs : List (V Ty)) (x : Ty 92) (h : dec92 cs = some x) : Sim cs (cells 92 x) := by
  unfold dec92 at h
  split at h
  · split at h
    · rename_i e0
      cases h
      exact ⟨asRow_ok e0, trivial⟩
    · cases h
  · cases h
theorem m92 (cs : List (V Ty)) (h : leafOk E cs [92] = true) (hl : cs.length = 1) : (dec92 cs).isSome = true := by
  obtain ⟨x0, cs, rfl, h, hl⟩ := leaf_sl (κ := 212) rfl rfl h hl
  obtain rfl := List.eq_nil_of_length_eq_zero hl
  rfl
theorem f92 : TyF E 92 := ⟨⟨_, rfl, rfl, fun _ => rfl, m92⟩, d92⟩
theorem d94 (cs : List (V Ty)) (x : Ty 94) (h : dec94 cs = some x) : Sim cs (cells 94 x) := by
  unfold dec94 at h
  split at h
  · split at h
    · rename_i e0 e2 e4
      cases h
      exact ⟨asRow_ok e0, .inl rfl, asRow_ok e2, .inl rfl, asRow_ok e4, trivial⟩
    · cases h
  · cases h
theorem m94 (cs : List (V Ty)) (h : leafOk E cs [65, 3, 91, 3, 92] = true) (hl : cs.length = 5) : (dec94 cs).isSome = true := by
  obtain ⟨x0, cs, rfl, h, hl⟩ := leaf_sl (κ := 57) rfl rfl h hl
  obtain ⟨x1, cs, rfl, h, hl⟩ := leaf_int (k := .i64) rfl rfl h hl
  obtain ⟨x2, cs, rfl, h, hl⟩ := leaf_sl (κ := 162) rfl rfl h hl
  obtain ⟨x3, cs, rfl, h, hl⟩ := leaf_int (k := .i64) rfl rfl h hl
  obtain ⟨x4, cs, rfl, h, hl⟩ := leaf_sl (κ := 212) rfl rfl h hl
  obtain rfl := List.eq_nil_of_length_eq_zero hl
  rfl
theorem f94 : TyF E 94 := ⟨⟨_, rfl, rfl, fun _ => rfl, m94⟩, d94⟩
theorem d160 (cs : List (V Ty)) (x : Ty 160) (h : dec160 cs = some x) : Sim cs (cells 160 x) := by
  unfold dec160 at h
  split at h
  · split at h
    · rename_i e0
      cases h
      exact ⟨asRow_ok e0, trivial⟩
    · cases h
  · cases h
theorem m160 (cs : List (V Ty)) (h : leafOk E cs [160] = true) (hl : cs.length = 1) : (dec160 cs).isSome = true := by
  obtain ⟨x0, cs, rfl, h, hl⟩ := leaf_sl (κ := 209) rfl rfl h hl
  obtain rfl := List.eq_nil_of_length_eq_zero hl
  rfl
theorem f160 : TyF E 160 := ⟨⟨_, rfl, rfl, fun _ => rfl, m160⟩, d160⟩
theorem d162 (cs : List (V Ty)) (x : Ty 162) (h : dec162 cs = some x) : Sim cs (cells 162 x) := by
  unfold dec162 at h
  split at h
  · split at h
    · rename_i e2
      cases h
      exact ⟨.inl rfl, .inl rfl, asRow_ok e2, trivial⟩
    · cases h
  · cases h
theorem m162 (cs : List (V Ty)) (h : leafOk E cs [9, 3, 160] = true) (hl : cs.length = 3) : (dec162 cs).isSome = true := by
  obtain ⟨x0, cs, rfl, h, hl⟩ := leaf_str rfl rfl h hl
  obtain ⟨x1, cs, rfl, h, hl⟩ := leaf_int (k := .i64) rfl rfl h hl
  obtain ⟨x2, cs, rfl, h, hl⟩ := leaf_sl (κ := 209) rfl rfl h hl
  obtain rfl := List.eq_nil_of_length_eq_zero hl
  rfl
theorem f162 : TyF E 162 := ⟨⟨_, rfl, rfl, fun _ => rfl, m162⟩, d162⟩
theorem d190 (cs : List (V Ty)) (x : Ty 190) (h : dec190 cs = some x) : Sim cs (cells 190 x) := by
  unfold dec190 at h
  split at h
  · cases h
    exact ⟨.inl rfl, .inl rfl, .inl rfl, trivial⟩
  · cases h
theorem m190 (cs : List (V Ty)) (h : leafOk E cs [9, 3, 3] = true) (hl : cs.length = 3) : (dec190 cs).isSome = true := by
  obtain ⟨x0, cs, rfl, h, hl⟩ := leaf_str rfl rfl h hl
  obtain ⟨x1, cs, rfl, h, hl⟩ := leaf_int (k := .i64) rfl rfl h hl
  obtain ⟨x2, cs, rfl, h, hl⟩ := leaf_int (k := .i64) rfl rfl h hl
  obtain rfl := List.eq_nil_of_length_eq_zero hl
  rfl
theorem f190 : TyF E 190 := ⟨⟨_, rfl, rfl, fun _ => rfl, m190⟩, d190⟩
theorem d192 (cs : List (V Ty)) (x : Ty 192) (h : dec192 cs = some x) : Sim cs (cells 192 x) := by
  unfold dec192 at h
  split at h
  · cases h
    exact ⟨.inl rfl, .inl rfl, trivial⟩
  · cases h
theorem m192 (cs : List (V Ty)) (h : leafOk E cs [9, 9] = true) (hl : cs.length = 2) : (dec192 cs).isSome = true := by
  obtain ⟨x0, cs, rfl, h, hl⟩ := leaf_str rfl rfl h hl
  obtain ⟨x1, cs, rfl, h, hl⟩ := leaf_str rfl rfl h hl
  obtain rfl := List.eq_nil_of_length_eq_zero hl
  rfl
theorem f192 : TyF E 192 := ⟨⟨_, rfl, rfl, fun _ => rfl, m192⟩, d192⟩
theorem d201 (cs : List (V Ty)) (x : Ty 201) (h : dec201 cs = some x) : Sim cs (cells 201 x) := by
  unfold dec201 at h
  split at h
  · split at h
    · rename_i e0
      cases h
      exact ⟨asRow_ok e0, trivial⟩
    · cases h
  · cases h
theorem m201 (cs : List (V Ty)) (h : leafOk E cs [201] = true) (hl : cs.length = 1) : (dec201 cs).isSome = true := by
  obtain ⟨x0, cs, rfl, h, hl⟩ := leaf_sl (κ := 255) rfl rfl h hl
  obtain rfl := List.eq_nil_of_length_eq_zero hl
  rfl
theorem f201 : TyF E 201 := ⟨⟨_, rfl, rfl, fun _ => rfl, m201⟩, d201⟩
theorem d203 (cs : List (V Ty)) (x : Ty 203) (h : dec203 cs = some x) : Sim cs (cells 203 x) := by
  unfold dec203 at h
  split at h
  · split at h
    · rename_i e2
      cases h
      exact ⟨.inl rfl, .inl rfl, asRow_ok e2, trivial⟩
    · cases h
  · cases h
theorem m203 (cs : List (V Ty)) (h : leafOk E cs [9, 3, 201] = true) (hl : cs.length = 3) : (dec203 cs).isSome = true := by
  obtain ⟨x0, cs, rfl, h, hl⟩ := leaf_str rfl rfl h hl
  obtain ⟨x1, cs, rfl, h, hl⟩ := leaf_int (k := .i64) rfl rfl h hl
  obtain ⟨x2, cs, rfl, h, hl⟩ := leaf_sl (κ := 255) rfl rfl h hl
  obtain rfl := List.eq_nil_of_length_eq_zero hl
  rfl
theorem f203 : TyF E 203 := ⟨⟨_, rfl, rfl, fun _ => rfl, m203⟩, d203⟩
theorem d206 (cs : List (V Ty)) (x : Ty 206) (h : dec206 cs = some x) : Sim cs (cells 206 x) := by
  unfold dec206 at h
  split at h
  · cases h
    exact ⟨.inl rfl, .inl rfl, .inl rfl, trivial⟩
  · cases h
theorem m206 (cs : List (V Ty)) (h : leafOk E cs [3, 9, 3] = true) (hl : cs.length = 3) : (dec206 cs).isSome = true := by
  obtain ⟨x0, cs, rfl, h, hl⟩ := leaf_int (k := .i64) rfl rfl h hl
  obtain ⟨x1, cs, rfl, h, hl⟩ := leaf_str rfl rfl h hl
  obtain ⟨x2, cs, rfl, h, hl⟩ := leaf_int (k := .i64) rfl rfl h hl
  obtain rfl := List.eq_nil_of_length_eq_zero hl
  rfl
theorem f206 : TyF E 206 := ⟨⟨_, rfl, rfl, fun _ => rfl, m206⟩, d206⟩
theorem d209 (cs : List (V Ty)) (x : Ty 209) (h : dec209 cs = some x) : Sim cs (cells 209 x) := by
  unfold dec209 at h
  split at h
  · cases h
    exact ⟨.inl rfl, .inl rfl, trivial⟩
  · cases h
theorem m209 (cs : List (V Ty)) (h : leafOk E cs [3, 3] = true) (hl : cs.length = 2) : (dec209 cs).isSome = true := by
  obtain ⟨x0, cs, rfl, h, hl⟩ := leaf_int (k := .i64) rfl rfl h hl
  obtain ⟨x1, cs, rfl, h, hl⟩ := leaf_int (k := .i64) rfl rfl h hl
  obtain rfl := List.eq_nil_of_length_eq_zero hl
  rfl
theorem f209 : TyF E 209 := ⟨⟨_, rfl, rfl, fun _ => rfl, m209⟩, d209⟩
theorem d212 (cs : List (V Ty)) (x : Ty 212) (h : dec212 cs = some x) : Sim cs (cells 212 x) := by
  unfold dec212 at h
  split at h
  · cases h
    exact ⟨.inl rfl, .inl rfl, .inl rfl, trivial⟩
  · cases h
theorem m212 (cs : List (V Ty)) (h : leafOk E cs [3, 9, 3] = true) (hl : cs.length = 3) : (dec212 cs).isSome = true := by
  obtain ⟨x0, cs, rfl, h, hl⟩ := leaf_int (k := .i64) rfl rfl h hl
  obtain ⟨x1, cs, rfl, h, hl⟩ := leaf_str rfl rfl h hl
  obtain ⟨x2, cs, rfl, h, hl⟩ := leaf_int (k := .i64) rfl rfl h hl
  obtain rfl := List.eq_nil_of_length_eq_zero hl
  rfl
theorem f212 : TyF E 212 := ⟨⟨_, rfl, rfl, fun _ => rfl, m212⟩, d212⟩
theorem d232 (cs : List (V Ty)) (x : Ty 232) (h : dec232 cs = some x) : Sim cs (cells 232 x) := by
  unfold dec232 at h
  split at h
  · split at h
    · rename_i e0
      cases h
      exact ⟨asRow_ok e0, trivial⟩
    · cases h
  · cases h
theorem m232 (cs : List (V Ty)) (h : leafOk E cs [232] = true) (hl : cs.length = 1) : (dec232 cs).isSome = true := by
  obtain ⟨x0, cs, rfl, h, hl⟩ := leaf_sl (κ := 268) rfl rfl h hl
  obtain rfl := List.eq_nil_of_length_eq_zero hl
  rfl
theorem f232 : TyF E 232 := ⟨⟨_, rfl, rfl, fun _ => rfl, m232⟩, d232⟩
theorem d233 (cs : List (V Ty)) (x : Ty 233) (h : dec233 cs = some x) : Sim cs (cells 233 x) := by
  unfold dec233 at h
  split at h
  · cases h
    exact ⟨.inl rfl, .inl rfl, .inl rfl, .inl rfl, trivial⟩
  · cases h
theorem m233 (cs : List (V Ty)) (h : leafOk E cs [3, 3, 3, 3] = true) (hl : cs.length = 4) : (dec233 cs).isSome = true := by
  obtain ⟨x0, cs, rfl, h, hl⟩ := leaf_int (k := .i64) rfl rfl h hl
  obtain ⟨x1, cs, rfl, h, hl⟩ := leaf_int (k := .i64) rfl rfl h hl
  obtain ⟨x2, cs, rfl, h, hl⟩ := leaf_int (k := .i64) rfl rfl h hl
  obtain ⟨x3, cs, rfl, h, hl⟩ := leaf_int (k := .i64) rfl rfl h hl
  obtain rfl := List.eq_nil_of_length_eq_zero hl
  rfl
theorem f233 : TyF E 233 := ⟨⟨_, rfl, rfl, fun _ => rfl, m233⟩, d233⟩
theorem d234 (cs : List (V Ty)) (x : Ty 234) (h : dec234 cs = some x) : Sim cs (cells 234 x) := by
  unfold dec234 at h
  split at h
  · split at h
    · rename_i e0
      cases h
      exact ⟨asRow_ok e0, trivial⟩
    · cases h
  · cases h
theorem m234 (cs : List (V Ty)) (h : leafOk E cs [234] = true) (hl : cs.length = 1) : (dec234 cs).isSome = true := by
  obtain ⟨x0, cs, rfl, h, hl⟩ := leaf_sl (κ := 270) rfl rfl h hl
  obtain rfl := List.eq_nil_of_length_eq_zero hl
  rfl
theorem f234 : TyF E 234 := ⟨⟨_, rfl, rfl, fun _ => rfl, m234⟩, d234⟩
theorem d236 (cs : List (V Ty)) (x : Ty 236) (h : dec236 cs = some x) : Sim cs (cells 236 x) := by
  unfold dec236 at h
  split at h
  · split at h
    · rename_i e4 e9
      cases h
      exact ⟨.inl rfl, .inl rfl, .inl rfl, .inl rfl, asRow_ok e4, .inl rfl, .inl rfl, .inl rfl, .inl rfl, asRow_ok e9, trivial⟩
    · cases h
  · cases h
theorem m236 (cs : List (V Ty)) (h : leafOk E cs [9, 9, 3, 3, 232, 3, 3, 3, 3, 234] = true) (hl : cs.length = 10) : (dec236 cs).isSome = true := by
  obtain ⟨x0, cs, rfl, h, hl⟩ := leaf_str rfl rfl h hl
  obtain ⟨x1, cs, rfl, h, hl⟩ := leaf_str rfl rfl h hl
  obtain ⟨x2, cs, rfl, h, hl⟩ := leaf_int (k := .i64) rfl rfl h hl
  obtain ⟨x3, cs, rfl, h, hl⟩ := leaf_int (k := .i64) rfl rfl h hl
  obtain ⟨x4, cs, rfl, h, hl⟩ := leaf_sl (κ := 268) rfl rfl h hl
  obtain ⟨x5, cs, rfl, h, hl⟩ := leaf_int (k := .i64) rfl rfl h hl
  obtain ⟨x6, cs, rfl, h, hl⟩ := leaf_int (k := .i64) rfl rfl h hl
  obtain ⟨x7, cs, rfl, h, hl⟩ := leaf_int (k := .i64) rfl rfl h hl
  obtain ⟨x8, cs, rfl, h, hl⟩ := leaf_int (k := .i64) rfl rfl h hl
  obtain ⟨x9, cs, rfl, h, hl⟩ := leaf_sl (κ := 270) rfl rfl h hl
  obtain rfl := List.eq_nil_of_length_eq_zero hl
  rfl
theorem f236 : TyF E 236 := ⟨⟨_, rfl, rfl, fun _ => rfl, m236⟩, d236⟩
theorem d238 (cs : List (V Ty)) (x : Ty 238) (h : dec238 cs = some x) : Sim cs (cells 238 x) := by
  unfold dec238 at h
  split at h
  · split at h
    · rename_i e4 e9
      cases h
      exact ⟨.inl rfl, .inl rfl, .inl rfl, .inl rfl, asRow_ok e4, .inl rfl, .inl rfl, .inl rfl, .inl rfl, asRow_ok e9, .inl rfl, trivial⟩
    · cases h
  · cases h
theorem m238 (cs : List (V Ty)) (h : leafOk E cs [9, 9, 3, 3, 232, 3, 3, 3, 3, 234, 3] = true) (hl : cs.length = 11) : (dec238 cs).isSome = true := by
  obtain ⟨x0, cs, rfl, h, hl⟩ := leaf_str rfl rfl h hl
  obtain ⟨x1, cs, rfl, h, hl⟩ := leaf_str rfl rfl h hl
  obtain ⟨x2, cs, rfl, h, hl⟩ := leaf_int (k := .i64) rfl rfl h hl
  obtain ⟨x3, cs, rfl, h, hl⟩ := leaf_int (k := .i64) rfl rfl h hl
  obtain ⟨x4, cs, rfl, h, hl⟩ := leaf_sl (κ := 268) rfl rfl h hl
  obtain ⟨x5, cs, rfl, h, hl⟩ := leaf_int (k := .i64) rfl rfl h hl
  obtain ⟨x6, cs, rfl, h, hl⟩ := leaf_int (k := .i64) rfl rfl h hl
  obtain ⟨x7, cs, rfl, h, hl⟩ := leaf_int (k := .i64) rfl rfl h hl
  obtain ⟨x8, cs, rfl, h, hl⟩ := leaf_int (k := .i64) rfl rfl h hl
  obtain ⟨x9, cs, rfl, h, hl⟩ := leaf_sl (κ := 270) rfl rfl h hl
  obtain ⟨x10, cs, rfl, h, hl⟩ := leaf_int (k := .i64) rfl rfl h hl
  obtain rfl := List.eq_nil_of_length_eq_zero hl
  rfl
theorem f238 : TyF E 238 := ⟨⟨_, rfl, rfl, fun _ => rfl, m238⟩, d238⟩
theorem d255 (cs : List (V Ty)) (x : Ty 255) (h : dec255 cs = some x) : Sim cs (cells 255 x) := by
  unfold dec255 at h
  split at h
  · cases h
    exact ⟨.inl rfl, .inl rfl, trivial⟩
  · cases h
theorem m255 (cs : List (V Ty)) (h : leafOk E cs [3, 3] = true) (hl : cs.length = 2) : (dec255 cs).isSome = true := by
  obtain ⟨x0, cs, rfl, h, hl⟩ := leaf_int (k := .i64) rfl rfl h hl
  obtain ⟨x1, cs, rfl, h, hl⟩ := leaf_int (k := .i64) rfl rfl h hl
  obtain rfl := List.eq_nil_of_length_eq_zero hl
  rfl
theorem f255 : TyF E 255 := ⟨⟨_, rfl, rfl, fun _ => rfl, m255⟩, d255⟩
theorem d268 (cs : List (V Ty)) (x : Ty 268) (h : dec268 cs = some x) : Sim cs (cells 268 x) := by
  unfold dec268 at h
  split at h
  · cases h
    exact ⟨.inl rfl, .inl rfl, .inl rfl, trivial⟩
  · cases h
theorem m268 (cs : List (V Ty)) (h : leafOk E cs [9, 3, 3] = true) (hl : cs.length = 3) : (dec268 cs).isSome = true := by
  obtain ⟨x0, cs, rfl, h, hl⟩ := leaf_str rfl rfl h hl
  obtain ⟨x1, cs, rfl, h, hl⟩ := leaf_int (k := .i64) rfl rfl h hl
  obtain ⟨x2, cs, rfl, h, hl⟩ := leaf_int (k := .i64) rfl rfl h hl
  obtain rfl := List.eq_nil_of_length_eq_zero hl
  rfl
theorem f268 : TyF E 268 := ⟨⟨_, rfl, rfl, fun _ => rfl, m268⟩, d268⟩
theorem d270 (cs : List (V Ty)) (x : Ty 270) (h : dec270 cs = some x) : Sim cs (cells 270 x) := by
  unfold dec270 at h
  split at h
  · cases h
    exact ⟨.inl rfl, .inl rfl, trivial⟩
  · cases h
theorem m270 (cs : List (V Ty)) (h : leafOk E cs [9, 9] = true) (hl : cs.length = 2) : (dec270 cs).isSome = true := by
  obtain ⟨x0, cs, rfl, h, hl⟩ := leaf_str rfl rfl h hl
  obtain ⟨x1, cs, rfl, h, hl⟩ := leaf_str rfl rfl h hl
  obtain rfl := List.eq_nil_of_length_eq_zero hl
  rfl
theorem f270 : TyF E 270 := ⟨⟨_, rfl, rfl, fun _ => rfl, m270⟩, d270⟩
theorem uniF : UniF E tyL := ⟨⟨f3, f4, f5, f9, f50, f52, f53, f55, f57, f65, f80, f82, f83, f84, f86, f90, f91, f92, f94, f160, f162, f190, f192, f201, f203, f206, f209, f212, f232, f233, f234, f236, f238, f255, f268, f270, trivial⟩, dfl_no, cells_no, dec_no⟩
theorem ti_mem : ∀ t d, E.ti t = some d → (t, d) ∈ tiL := fun _ _ h => mem_of_find h
theorem tB_all : tiL.all (tB Try.prog E) = true := by kernel_rfl
theorem tiOk : TIok Try.prog E := TIok.of ti_mem tB_all
theorem good : Good E := Good.of uniF ti_mem tB_all
theorem eqT_all : E.eqt.all (eqTB Try.prog E) = true := by kernel_rfl
theorem eqOk : EqOk Try.prog E := EqOk.of tiOk eqT_all
theorem mixed : Try.prog.follows .mixedOrders = true := by kernel_rfl
theorem codes : AllP (fun p : Nat × Func => Try.prog.funcs[p.1]? = some p.2 ∧ (p.2.name == "runtime.NumGoroutine") = false) codeL := ⟨⟨Try.func249, by kernel_rfl⟩,
  ⟨Try.func240, by kernel_rfl⟩,
  ⟨Try.func250, by kernel_rfl⟩,
  ⟨Try.func241, by kernel_rfl⟩,
  ⟨Try.func232, by kernel_rfl⟩,
  ⟨Try.func213, by kernel_rfl⟩,
  ⟨Try.func177, by kernel_rfl⟩,
  ⟨Try.func125, by kernel_rfl⟩,
  ⟨Try.func214, by kernel_rfl⟩,
  ⟨Try.func178, by kernel_rfl⟩,
  ⟨Try.func126, by kernel_rfl⟩,
  ⟨Try.func179, by kernel_rfl⟩,
  ⟨Try.func127, by kernel_rfl⟩,
  ⟨Try.func56, by kernel_rfl⟩,
  ⟨Try.func251, by kernel_rfl⟩,
  ⟨Try.func242, by kernel_rfl⟩,
  ⟨Try.func243, by kernel_rfl⟩,
  ⟨Try.func252, by kernel_rfl⟩,
  ⟨Try.func244, by kernel_rfl⟩,
  ⟨Try.func233, by kernel_rfl⟩,
  ⟨Try.func216, by kernel_rfl⟩,
  ⟨Try.func183, by kernel_rfl⟩,
  ⟨Try.func129, by kernel_rfl⟩,
  ⟨Try.func234, by kernel_rfl⟩,
  ⟨Try.func217, by kernel_rfl⟩,
  ⟨Try.func184, by kernel_rfl⟩,
  ⟨Try.func130, by kernel_rfl⟩,
  ⟨Try.func185, by kernel_rfl⟩,
  ⟨Try.func131, by kernel_rfl⟩,
  ⟨Try.func58, by kernel_rfl⟩,
  ⟨Try.func109, by kernel_rfl⟩,
  ⟨Try.func172, by kernel_rfl⟩,
  ⟨Try.func209, by kernel_rfl⟩,
  ⟨Try.func173, by kernel_rfl⟩,
  ⟨Try.func174, by kernel_rfl⟩,
  ⟨Try.func231, by kernel_rfl⟩,
  ⟨Try.func210, by kernel_rfl⟩,
  ⟨Try.func211, by kernel_rfl⟩,
  ⟨Try.func212, by kernel_rfl⟩,
  ⟨Try.func175, by kernel_rfl⟩,
  ⟨Try.func117, by kernel_rfl⟩,
  ⟨Try.func180, by kernel_rfl⟩,
  ⟨Try.func215, by kernel_rfl⟩,
  ⟨Try.func181, by kernel_rfl⟩,
  ⟨Try.func182, by kernel_rfl⟩,
  ⟨Try.func128, by kernel_rfl⟩,
  ⟨Try.func57, by kernel_rfl⟩,
  ⟨Try.func107, by kernel_rfl⟩,
  ⟨Try.func205, by kernel_rfl⟩,
  ⟨Try.func169, by kernel_rfl⟩,
  ⟨Try.func168, by kernel_rfl⟩,
  ⟨Try.func189, by kernel_rfl⟩,
  ⟨Try.func170, by kernel_rfl⟩,
  ⟨Try.func228, by kernel_rfl⟩,
  ⟨Try.func206, by kernel_rfl⟩,
  ⟨Try.func230, by kernel_rfl⟩,
  ⟨Try.func207, by kernel_rfl⟩,
  ⟨Try.func208, by kernel_rfl⟩,
  ⟨Try.func171, by kernel_rfl⟩,
  ⟨Try.func116, by kernel_rfl⟩,
  ⟨Try.func219, by kernel_rfl⟩,
  ⟨Try.func235, by kernel_rfl⟩,
  ⟨Try.func218, by kernel_rfl⟩,
  ⟨Try.func186, by kernel_rfl⟩,
  ⟨Try.func187, by kernel_rfl⟩,
  ⟨Try.func220, by kernel_rfl⟩,
  ⟨Try.func188, by kernel_rfl⟩,
  ⟨Try.func132, by kernel_rfl⟩,
  ⟨Try.func134, by kernel_rfl⟩,
  ⟨Try.func190, by kernel_rfl⟩,
  ⟨Try.func133, by kernel_rfl⟩,
  ⟨Try.func59, by kernel_rfl⟩,
  ⟨Try.func253, by kernel_rfl⟩,
  ⟨Try.func245, by kernel_rfl⟩,
  ⟨Try.func246, by kernel_rfl⟩,
  ⟨Try.func254, by kernel_rfl⟩,
  ⟨Try.func247, by kernel_rfl⟩,
  ⟨Try.func236, by kernel_rfl⟩,
  ⟨Try.func221, by kernel_rfl⟩,
  ⟨Try.func191, by kernel_rfl⟩,
  ⟨Try.func135, by kernel_rfl⟩,
  ⟨Try.func237, by kernel_rfl⟩,
  ⟨Try.func222, by kernel_rfl⟩,
  ⟨Try.func192, by kernel_rfl⟩,
  ⟨Try.func136, by kernel_rfl⟩,
  ⟨Try.func193, by kernel_rfl⟩,
  ⟨Try.func137, by kernel_rfl⟩,
  ⟨Try.func60, by kernel_rfl⟩,
  ⟨Try.func7, by kernel_rfl⟩,
  ⟨Try.func61, by kernel_rfl⟩,
  ⟨Try.func62, by kernel_rfl⟩,
  ⟨Try.func8, by kernel_rfl⟩,
  trivial⟩
theorem code_ok (f : Nat) (fn : Func) (h : E.code f = some fn) : Try.prog.funcs[f]? = some fn ∧ (fn.name == "runtime.NumGoroutine") = false := codes.mem (mem_of_find h)
def primL : List Nat := [229]
theorem prim_no (f : Nat) (h : f ∉ primL) : prim f = none := by
  apply prim.eq_2 <;> (intro e; subst e; exact h (by decide))
end Go.Proofs.Ytejfpemjmpoddaa.Vx
