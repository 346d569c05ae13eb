/- Which texts are numbers from 0 on. -/
import Derived.Test.YtejfpemjmpoddaaVxTX1
namespace Go.Proofs.Ytejfpemjmpoddaa.Vx
open Go Go.Proofs

def digC (c : UInt8) : Bool := decide (48 ≤ c.toNat) && decide (c.toNat ≤ 57)
def foldS (a : Nat) (s : Str) : Nat := s.foldl (fun n c => 10 * n + (c.toNat - 48)) a

theorem foldS_digN (n : Nat) : foldS 0 (digN n) = n := valS_digN n

theorem all_digN (n : Nat) : (digN n).all digC = true := by
  rw [List.all_eq_true]
  intro c hc
  have := digN_digit n c hc
  simp [digC, this.1, this.2]

section
variable {O : Orc E} (hO : Fix O)
include hO

theorem impl_fromI (a b c : Int) : k_impl_from O a b c = some (decide (b ≤ a) && decide (a ≤ c), ()) := by
  rw [e_impl_from O hO]
  have : decide (a ≥ b) = decide (b ≤ a) := rfl
  rw [this]; cases decide (b ≤ a) <;> rfl

theorem impl_DigitsNeg (n : Nat) (h : n ≤ 10000000000000) (h0 : 0 < n) : k_impl_Digits O (-(n : Int)) = some (45 :: digN n, ()) := by
  induction n using Nat.strongRecOn with
  | ind n ih =>
    rw [e_impl_Digits O hO]
    by_cases h1 : n < 10
    · have h2 : (bif (decide (-(n : Int) < 0)) then (decide (-(n : Int) > -10)) else false) = true := by
        have : decide (-(n : Int) < 0) = true := by simp only [decide_eq_true_eq]; omega
        rw [this]; show decide (-(n : Int) > -10) = true; simp only [decide_eq_true_eq]; omega
      rw [if_pos h2, show (0 : Int) - -(n : Int) = n by omega, w64 (by omega) (by omega), impl_DigitsN hO n h, Option.bind_some, digN_lt h1, if_pos (by simp)]
      rfl
    · have h2 : ¬ (bif (decide (-(n : Int) < 0)) then (decide (-(n : Int) > -10)) else false) = true := by
        have : decide (-(n : Int) < 0) = true := by simp only [decide_eq_true_eq]; omega
        rw [this]; show ¬ decide (-(n : Int) > -10) = true; simp only [decide_eq_true_eq]; omega
      have h4 : Int.tdiv (-(n : Int)) 10 = -((n / 10 : Nat) : Int) := by rw [Int.neg_tdiv, Int.tdiv_eq_ediv_of_nonneg (by omega)]; omega
      have h5 : Int.tmod (-(n : Int)) 10 = -((n % 10 : Nat) : Int) := by rw [Int.neg_tmod, Int.tmod_eq_emod_of_nonneg (by omega)]; omega
      have c1 : (!((10 : Int) == 0)) = true := rfl
      have hl := digN_len 12 (n / 10) (by omega)
      rw [if_neg h2, if_pos (by simp only [decide_eq_true_eq]; omega), if_pos c1, h4, w64 (by omega) (by omega), ih (n / 10) (by omega) (by omega) (by omega), Option.bind_some, if_pos c1, h5,
        show (0 : Int) - -((n % 10 : Nat) : Int) = ((n % 10 : Nat) : Int) by omega, w64 (by omega) (by omega), impl_DigitsN hO (n % 10) (by omega), Option.bind_some, digN_lt (n := n % 10) (by omega),
        if_pos (by simp only [decide_eq_true_eq, List.length_cons, List.length_nil]; omega), digN_ge h1]
      rfl

theorem impl_NumberL (s t : Str) (ht : t.length ≤ 13) : ∀ (k i a : Nat), i + k = t.length → a < 10 ^ i →
    (∃ v : Nat, v < 10 ^ t.length ∧ l_impl_Number_0 O s t (a : Int) (t.length : Int) (i : Int) = l_impl_Number_0 O s t (v : Int) (t.length : Int) (t.length : Int) ∧ v = foldS a (t.drop i)) ∨
    ((t.drop i).all digC = false ∧ l_impl_Number_0 O s t (a : Int) (t.length : Int) (i : Int) = some (0, false, ())) := by
  intro k
  induction k with
  | zero =>
    intro i a hi ha
    have : i = t.length := by omega
    subst this
    exact .inl ⟨a, ha, rfl, by rw [List.drop_length]; rfl⟩
  | succ k ih =>
    intro i a hi ha
    have hlt : i < t.length := by omega
    have hd : t.drop i = t[i] :: t.drop (i + 1) := List.drop_eq_getElem_cons hlt
    have hg : t.getD i 0 = t[i] := by simp [List.getD, hlt]
    have hr := e_impl_Number_0 O hO s t (a : Int) (t.length : Int) (i : Int)
    simp only [ltT hlt, nn, Bool.and_self, Bool.or_true, if_true, Int.toNat_natCast, hg, wi (show i < 9223372036854775807 by omega)] at hr
    by_cases hdig : digC t[i] = true
    · have hdg : 48 ≤ (t[i]).toNat ∧ (t[i]).toNat ≤ 57 := by simpa [digC] using hdig
      have h1 : (bif (decide ((((t[i]).toNat : Nat) : Int) < 48)) then true else (decide ((((t[i]).toNat : Nat) : Int) > 57))) = false := by
        have e1 : decide ((((t[i]).toNat : Nat) : Int) < 48) = false := by simp only [decide_eq_false_iff_not]; omega
        have e2 : decide ((((t[i]).toNat : Nat) : Int) > 57) = false := by simp only [decide_eq_false_iff_not]; omega
        rw [e1, e2]; rfl
      have hpow : 10 ^ i ≤ 10 ^ 12 := Nat.pow_le_pow_right (by omega) (by omega)
      have h2 : IntKind.i64.wrap ((IntKind.i64.wrap (10 * (a : Int))) + (IntKind.i64.wrap (IntKind.u8.wrap ((((t[i]).toNat : Nat) : Int) - 48)))) = ((10 * a + ((t[i]).toNat - 48) : Nat) : Int) := by
        rw [IntKind.wrap_u8, w64 (n := 10 * (a : Int)) (by omega) (by omega), w64 (n := ((((t[i]).toNat : Nat) : Int) - 48) % 256) (by omega) (by omega), w64 (by omega) (by omega)]
        omega
      rw [h1, h2] at hr
      simp only [Bool.false_eq_true, if_false] at hr
      have ha' : 10 * a + ((t[i]).toNat - 48) < 10 ^ (i + 1) := by rw [Nat.pow_succ]; omega
      rcases ih (i + 1) (10 * a + ((t[i]).toNat - 48)) (by omega) ha' with ⟨v, hv, he, hf⟩ | ⟨hf, he⟩
      · exact .inl ⟨v, hv, hr.trans he, by rw [hd]; exact hf⟩
      · exact .inr ⟨by rw [hd, List.all_cons, hf, Bool.and_false], hr.trans he⟩
    · have hdig' : digC t[i] = false := by simpa using hdig
      have h1 : (bif (decide ((((t[i]).toNat : Nat) : Int) < 48)) then true else (decide ((((t[i]).toNat : Nat) : Int) > 57))) = true := by
        by_cases c1 : (t[i]).toNat < 48
        · have e1 : decide ((((t[i]).toNat : Nat) : Int) < 48) = true := by simp only [decide_eq_true_eq]; omega
          rw [e1]; rfl
        · have c2 : ¬ (t[i]).toNat ≤ 57 := by
            intro h
            simp [digC, h] at hdig'
            omega
          have e1 : decide ((((t[i]).toNat : Nat) : Int) < 48) = false := by simp only [decide_eq_false_iff_not]; omega
          have e2 : decide ((((t[i]).toNat : Nat) : Int) > 57) = true := by simp only [decide_eq_true_eq]; omega
          rw [e1, e2]; rfl
      rw [h1] at hr
      simp only [if_true] at hr
      exact .inr ⟨by rw [hd, List.all_cons, hdig', Bool.false_and], hr⟩

/-- the end of Number, where there was no sign -/
theorem impl_NumberP (s : Str) (v : Nat) (hv : v < 10 ^ 13) :
    l_impl_Number_0 O s s (v : Int) (s.length : Int) (s.length : Int) = some (if v ≤ 1000000000000 ∧ digN v = s then ((v : Int), true, ()) else (0, false, ())) := by
  rw [e_impl_Number_0 O hO]
  have h0 : decide ((s.length : Int) < (s.length : Int)) = false := by simp
  simp only [h0, Bool.false_eq_true, if_false, impl_fromI hO, Option.bind_some]
  have h1 : decide (-1000000000000 ≤ (v : Int)) = true := by simp only [decide_eq_true_eq]; omega
  have h2 : decide ((v : Int) ≤ 1000000000000) = decide (v ≤ 1000000000000) := by
    by_cases h : v ≤ 1000000000000
    · simp only [h, decide_true, decide_eq_true_eq]; omega
    · simp only [h, decide_false, decide_eq_false_iff_not]; omega
  rw [h1, h2, Bool.true_and]
  by_cases h : v ≤ 1000000000000
  · simp only [h, decide_true, Bool.not_true, Bool.not_false, if_true, impl_DigitsN hO v (by omega), Option.bind_some, cond_false, true_and]
    by_cases h3 : digN v = s
    · rw [if_pos h3, if_neg (by rw [h3]; simp)]
    · rw [if_neg h3, if_pos (by simpa using h3)]
  · simp only [h, decide_false, Bool.not_false, Bool.not_true, Bool.false_eq_true, if_false, Option.bind_some, cond_true, if_true, false_and]

/-- .. and where there was one: no number from 0 on -/
theorem impl_NumberM (t : Str) (v : Nat) (hv : v < 10 ^ 13) :
    ∃ x b, l_impl_Number_0 O (45 :: t) t (v : Int) (t.length : Int) (t.length : Int) = some (x, b, ()) ∧ (b = true → x < 0) := by
  rw [e_impl_Number_0 O hO]
  have h0 : decide ((t.length : Int) < (t.length : Int)) = false := by simp
  have h9 : decide ((t.length : Int) < ((45 :: t).length : Int)) = true := by simp only [decide_eq_true_eq, List.length_cons]; omega
  have hw : IntKind.i64.wrap (0 - (v : Int)) = -(v : Int) := by rw [w64 (by omega) (by omega)]; omega
  simp only [h0, h9, hw, Bool.false_eq_true, if_false, if_true, impl_fromI hO, Option.bind_some]
  have h2 : decide (-(v : Int) ≤ 1000000000000) = true := by simp only [decide_eq_true_eq]; omega
  rw [h2, Bool.and_true]
  by_cases h : v ≤ 1000000000000
  · have h1 : decide (-1000000000000 ≤ -(v : Int)) = true := by simp only [decide_eq_true_eq]; omega
    simp only [h1, Bool.not_true, Bool.not_false, if_true, cond_false]
    by_cases hz : v = 0
    · subst hz
      have := impl_DigitsN hO 0 (by omega)
      simp only [show -((0 : Nat) : Int) = ((0 : Nat) : Int) from rfl, this, Option.bind_some]
      refine ⟨0, false, ?_, by simp⟩
      rw [if_pos]
      rw [digN_lt (by omega)]
      simp [dg]
    · rw [impl_DigitsNeg hO v (by omega) (by omega), Option.bind_some]
      by_cases h3 : (45 :: digN v : Str) = 45 :: t
      · refine ⟨-(v : Int), true, ?_, fun _ => by omega⟩
        rw [if_neg (by rw [h3]; simp)]
      · exact ⟨0, false, by rw [if_pos (by simpa using h3)], by simp⟩
  · have h1 : decide (-1000000000000 ≤ -(v : Int)) = false := by simp only [decide_eq_false_iff_not]; omega
    exact ⟨0, false, by simp only [h1, Bool.not_false, Bool.not_true, Bool.false_eq_true, if_false, Option.bind_some, cond_true, if_true], by simp⟩

/-- whole numbers from 0 on -/
theorem impl_natural (s : Str) : ∃ (x : Int) (b : Bool), k_impl_natural O s = some (x, b, ()) ∧ (b = true → ∃ n : Nat, x = n ∧ n ≤ 1000000000000 ∧ s = digN n) ∧
    (∀ n : Nat, n ≤ 1000000000000 → s = digN n → x = n ∧ b = true) := by
  rw [e_impl_natural O hO, e_impl_Number O hO]
  have hnat : ∀ n : Nat, n ≤ 1000000000000 → (digN n).length ≤ 13 := fun n h => digN_len 12 n (by omega)
  have hmid : ∀ {x : Int} {b : Bool}, ((some (x, b, ()) : Option (Int × Bool × Unit)).bind fun y1 => (some (y1.1, (bif y1.2.1 then (decide (y1.1 ≥ 0)) else false), ()) : Option (Int × Bool × Unit))) = some (x, (b && decide (x ≥ 0)), ()) := by
    intro x b; cases b <;> rfl
  cases s with
  | nil =>
    refine ⟨0, false, rfl, by simp, fun n _ h => ?_⟩
    have := digN_pos n
    rw [← h] at this; simp at this
  | cons c t =>
    have c0 : (!((c :: t : Str) == [])) = true := rfl
    have c1 : (decide (0 ≤ (0 : Int)) && decide (0 < ((c :: t).length : Int))) = true := by simp only [Bool.and_eq_true, decide_eq_true_eq, List.length_cons]; omega
    have c2 : (((c :: t).getD (0 : Int).toNat 0).toNat : Int) = (c.toNat : Int) := rfl
    have c3 : ((c :: t).take ((c :: t).length : Int).toNat).drop (1 : Int).toNat = t := by
      rw [Int.toNat_natCast, List.take_length]; rfl
    simp only [c0, c1, c2, c3, Bool.not_true, Bool.false_or, cond_true, if_true]
    by_cases hm : c.toNat = 45
    · have hc : c = 45 := UInt8.toNat_inj.1 hm
      subst hc
      have e1 : (((45 : UInt8).toNat : Int) == 45) = true := rfl
      have e2 : ((decide (0 ≤ (1 : Int)) && decide ((1 : Int) ≤ ((45 :: t : Str).length : Int))) && decide (((45 :: t : Str).length : Int) ≤ ((45 :: t : Str).length : Int))) = true := by
        simp only [Bool.and_eq_true, decide_eq_true_eq, List.length_cons]; omega
      simp only [e1, e2, if_true]
      have hno : ∀ n : Nat, n ≤ 1000000000000 → (45 :: t : Str) = digN n → False := fun n _ h => by
        have := digN_digit n 45 (by rw [← h]; simp)
        simp at this
      by_cases hb : (bif ((t : Str) == []) then true else (decide ((t.length : Int) > 13))) = true
      · rw [if_pos hb]
        exact ⟨0, false, rfl, by simp, fun n h1 h2 => (hno n h1 h2).elim⟩
      · rw [if_neg hb]
        have hl : t.length ≤ 13 := by
          cases he : ((t : Str) == []) with
          | true => rw [he] at hb; simp at hb
          | false => rw [he] at hb; simp at hb; omega
        rcases impl_NumberL hO (45 :: t) t hl t.length 0 0 (by omega) (by omega) with ⟨v, hv, he, _⟩ | ⟨_, he⟩
        · obtain ⟨x, b, h1, h2⟩ := impl_NumberM hO t v (Nat.lt_of_lt_of_le hv (Nat.pow_le_pow_right (by omega) hl))
          have he' : l_impl_Number_0 O (45 :: t) t 0 (t.length : Int) 0 = some (x, b, ()) := he.trans h1
          rw [he', hmid]
          refine ⟨x, _, rfl, fun hb => ?_, fun n h1 h2 => (hno n h1 h2).elim⟩
          simp only [Bool.and_eq_true, decide_eq_true_eq] at hb
          have := h2 hb.1; omega
        · have he' : l_impl_Number_0 O (45 :: t) t 0 (t.length : Int) 0 = some (0, false, ()) := he
          rw [he', hmid]
          exact ⟨0, _, rfl, by simp, fun n h1 h2 => (hno n h1 h2).elim⟩
    · have e1 : ((c.toNat : Int) == 45) = false := by
        simp only [beq_eq_false_iff_ne, ne_eq]; omega
      simp only [e1, Bool.false_eq_true, if_false]
      have c4 : ((c :: t : Str) == []) = false := rfl
      simp only [c4, cond_false]
      by_cases hl : (c :: t).length ≤ 13
      · have hb : decide (((c :: t).length : Int) > 13) = false := by simp only [decide_eq_false_iff_not]; omega
        simp only [hb, Bool.false_eq_true, if_false]
        rcases impl_NumberL hO (c :: t) (c :: t) hl (c :: t).length 0 0 (by omega) (by omega) with ⟨v, hv, he, hf⟩ | ⟨hd, he⟩
        · have he' : l_impl_Number_0 O (c :: t) (c :: t) 0 ((c :: t).length : Int) 0 = _ := he.trans (impl_NumberP hO (c :: t) v (Nat.lt_of_lt_of_le hv (Nat.pow_le_pow_right (by omega) hl)))
          rw [he']
          by_cases h : v ≤ 1000000000000 ∧ digN v = c :: t
          · rw [if_pos h, hmid]
            refine ⟨v, _, rfl, fun _ => ⟨v, rfl, h.1, h.2.symm⟩, fun n h1 h2 => ?_⟩
            have : v = n := digN_inj (h.2.trans h2)
            subst this
            refine ⟨rfl, by simp⟩
          · rw [if_neg h, hmid]
            refine ⟨0, _, rfl, by simp, fun n h1 h2 => ?_⟩
            exfalso
            apply h
            have : v = n := by rw [hf, List.drop_zero, h2, foldS_digN]
            subst this
            exact ⟨h1, h2.symm⟩
        · have he' : l_impl_Number_0 O (c :: t) (c :: t) 0 ((c :: t).length : Int) 0 = some (0, false, ()) := he
          rw [he', hmid]
          refine ⟨0, _, rfl, by simp, fun n h1 h2 => ?_⟩
          rw [List.drop_zero, h2, all_digN] at hd
          cases hd
      · have hb : decide (((c :: t).length : Int) > 13) = true := by simp only [decide_eq_true_eq]; omega
        simp only [hb, if_true]
        refine ⟨0, false, rfl, by simp, fun n h1 h2 => ?_⟩
        have := hnat n h1
        rw [← h2] at this
        omega

end
end Go.Proofs.Ytejfpemjmpoddaa.Vx
