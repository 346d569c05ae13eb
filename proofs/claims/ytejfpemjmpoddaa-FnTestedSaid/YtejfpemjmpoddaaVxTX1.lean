/- Numbers and their digits: what the program's and the reference's functions answer. -/
import Derived.Test.YtejfpemjmpoddaaVxTC0
import Derived.Test.YtejfpemjmpoddaaVxM3
import Derived.Laws.BitsLemmas
namespace Go.Proofs.Ytejfpemjmpoddaa.Vx
open Go Go.Proofs

def dg (d : Nat) : UInt8 := UInt8.ofNat (48 + d)
theorem dg_toNat {d : Nat} (h : d < 10) : (dg d).toNat = 48 + d := by
  unfold dg; simp; omega

/-- a number's digits -/
def digN (n : Nat) : Str := if n < 10 then [dg n] else digN (n / 10) ++ [dg (n % 10)]
termination_by n
decreasing_by omega

theorem digN_lt {n : Nat} (h : n < 10) : digN n = [dg n] := by rw [digN, if_pos h]
theorem digN_ge {n : Nat} (h : ¬ n < 10) : digN n = digN (n / 10) ++ [dg (n % 10)] := by rw [digN, if_neg h]

theorem digN_len : ∀ (k n : Nat), n < 10 ^ (k + 1) → (digN n).length ≤ k + 1
  | 0, n, h => by rw [digN_lt (by simpa using h)]; simp
  | k + 1, n, h => by
    by_cases h1 : n < 10
    · rw [digN_lt h1]; simp
    · rw [digN_ge h1, List.length_append]
      have := digN_len k (n / 10) (by rw [Nat.pow_succ] at h; omega)
      simp; omega

theorem digN_pos (n : Nat) : 0 < (digN n).length := by
  by_cases h1 : n < 10
  · rw [digN_lt h1]; simp
  · rw [digN_ge h1, List.length_append]; simp

/-- what digits tell -/
def valS (s : Str) : Nat := s.foldl (fun n c => 10 * n + (c.toNat - 48)) 0

theorem valS_append (s : Str) (c : UInt8) : valS (s ++ [c]) = 10 * valS s + (c.toNat - 48) := by simp [valS, List.foldl_append]

theorem valS_digN (n : Nat) : valS (digN n) = n := by
  induction n using Nat.strongRecOn with
  | ind n ih =>
    by_cases h : n < 10
    · rw [digN_lt h]; simp [valS, dg_toNat h]
    · rw [digN_ge h, valS_append, ih (n / 10) (by omega), dg_toNat (by omega)]; omega

theorem digN_inj {n m : Nat} (h : digN n = digN m) : n = m := by rw [← valS_digN n, ← valS_digN m, h]

theorem digN_digit (n : Nat) : ∀ c ∈ digN n, 48 ≤ c.toNat ∧ c.toNat ≤ 57 := by
  induction n using Nat.strongRecOn with
  | ind n ih =>
    by_cases h : n < 10
    · rw [digN_lt h]; intro c hc; simp at hc; subst hc; rw [dg_toNat h]; omega
    · rw [digN_ge h]
      intro c hc
      rcases List.mem_append.1 hc with h1 | h1
      · exact ih (n / 10) (by omega) c h1
      · simp at h1; subst h1; rw [dg_toNat (by omega)]; omega

section
variable {O : Orc E} (hO : Fix O)
include hO

theorem impl_DigitsN (n : Nat) (h : n ≤ 10000000000000) : k_impl_Digits O (n : Int) = some (digN n, ()) := by
  induction n using Nat.strongRecOn with
  | ind n ih =>
    rw [e_impl_Digits O hO (n : Int)]
    have h0 : decide ((n : Int) < 0) = false := by simp only [decide_eq_false_iff_not]; omega
    by_cases h1 : n < 10
    · have h2 : decide ((n : Int) < 10) = true := by simp only [decide_eq_true_eq]; omega
      have h3 : IntKind.i32.wrap (IntKind.i64.wrap (48 + (n : Int))) = ((48 + n : Nat) : Int) := by rw [w64 (by omega) (by omega), IntKind.wrap_i32]; omega
      simp only [h0, h2, h3, cond_false, Bool.false_eq_true, if_false, if_true, Int.toNat_natCast]
      rw [if_pos (by simp only [Bool.and_eq_true, decide_eq_true_eq]; omega), digN_lt h1]
      rfl
    · have h2 : decide ((n : Int) < 10) = false := by simp only [decide_eq_false_iff_not]; omega
      have h4 : Int.tdiv (n : Int) 10 = ((n / 10 : Nat) : Int) := by rw [Int.tdiv_eq_ediv_of_nonneg (by omega)]; omega
      have h5 : Int.tmod (n : Int) 10 = ((n % 10 : Nat) : Int) := by rw [Int.tmod_eq_emod_of_nonneg (by omega)]; omega
      have h6 : IntKind.i64.wrap (((n / 10 : Nat) : Int)) = ((n / 10 : Nat) : Int) := w64 (by omega) (by omega)
      have h3 : IntKind.i32.wrap (IntKind.i64.wrap (48 + ((n % 10 : Nat) : Int))) = ((48 + n % 10 : Nat) : Int) := by rw [w64 (by omega) (by omega), IntKind.wrap_i32]; omega
      have hl := digN_len 14 (n / 10) (by omega)
      have ih' := ih (n / 10) (by omega) (by omega)
      simp only [h0, h2, h4, h5, h6, h3, cond_false, Bool.false_eq_true, if_false, ih', Option.bind_some, Int.toNat_natCast]
      have c1 : (!((10 : Int) == 0)) = true := rfl
      rw [if_pos c1, if_pos c1, if_pos (by simp only [Bool.and_eq_true, decide_eq_true_eq]; omega), if_pos (by simp only [decide_eq_true_eq, List.length_singleton]; omega), digN_ge h1]
      rfl

theorem spec_DigitsL (n : Nat) (h : n ≤ 10000000000000) : ∀ acc : Str, acc.length + n ≤ 100000000000000 → l_spec_Digits_0 O (n : Int) false acc = some (if n = 0 then acc else digN n ++ acc, ()) := by
  induction n using Nat.strongRecOn with
  | ind n ih =>
    intro acc hacc
    rw [e_spec_Digits_0 O hO (n : Int)]
    by_cases hz : n = 0
    · subst hz; rfl
    · have h1 : ((n : Int) != 0) = true := by simp [bne_iff_ne]; omega
      have h4 : Int.tdiv (n : Int) 10 = ((n / 10 : Nat) : Int) := by rw [Int.tdiv_eq_ediv_of_nonneg (by omega)]; omega
      have h5 : Int.tmod (n : Int) 10 = ((n % 10 : Nat) : Int) := by rw [Int.tmod_eq_emod_of_nonneg (by omega)]; omega
      have h6 : IntKind.i64.wrap (((n / 10 : Nat) : Int)) = ((n / 10 : Nat) : Int) := w64 (by omega) (by omega)
      have h3 : IntKind.u8.wrap (IntKind.i64.wrap (48 + ((n % 10 : Nat) : Int))) = ((48 + n % 10 : Nat) : Int) := by rw [w64 (by omega) (by omega), IntKind.wrap_u8]; omega
      have hd : decide (((n % 10 : Nat) : Int) < 0) = false := by simp only [decide_eq_false_iff_not]; omega
      have c1 : (!((10 : Int) == 0)) = true := rfl
      have hb : bytesOfTy (E := E) 5 [((48 + n % 10 : Nat) : Int)] = [dg (n % 10)] := by
        show [UInt8.ofNat (((48 + n % 10 : Nat) : Int)).toNat] = _
        rw [Int.toNat_natCast]; rfl
      simp only [h1, h4, h5, h6, h3, hd, hb, Bool.false_eq_true, if_false, if_true]
      rw [if_pos c1, if_pos (by simp only [decide_eq_true_eq, List.length_singleton]; omega), if_pos c1, ih (n / 10) (by omega) (by omega) _ (by simp; omega)]
      by_cases h7 : n < 10
      · rw [if_pos (show n / 10 = 0 by omega), if_neg hz, digN_lt h7, show n % 10 = n by omega]
      · rw [if_neg (show ¬ n / 10 = 0 by omega), if_neg hz, digN_ge h7, List.append_assoc]

theorem spec_DigitsN (n : Nat) (h : n ≤ 10000000000000) : k_spec_Digits O (n : Int) = some (digN n, ()) := by
  rw [e_spec_Digits O hO (n : Int)]
  have h0 : decide ((n : Int) < 0) = false := by simp only [decide_eq_false_iff_not]; omega
  by_cases hz : n = 0
  · subst hz; rw [digN_lt (by omega)]; rfl
  · rw [if_neg (by simp; omega), h0, spec_DigitsL hO n h [] (by simp; omega), if_neg hz, List.append_nil]

end
end Go.Proofs.Ytejfpemjmpoddaa.Vx
