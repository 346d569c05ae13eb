/- Ways into trees: where a part leads, and what is at a path. -/
import Derived.Test.YtejfpemjmpoddaaVxTX3
namespace Go.Proofs.Ytejfpemjmpoddaa.Vx
open Go Go.Proofs

def optI : Option Nat → Int
  | some k => k
  | none => -1

theorem bind_optI {α : Type} (o : Option Nat) (f : Int × Unit → Option α) : (some (optI o, ()) : Option (Int × Unit)).bind f = match o with
    | some n => f ((n : Int), ())
    | none => f (-1, ()) := by cases o <;> rfl

/-- the first place of a text in a row -/
def idxFrom (p : Str) : List Str → Nat → Option Nat
  | [], _ => none
  | x :: xs, i => if p = x then some i else idxFrom p xs (i + 1)

/-- the first number from i on whose digits these are -/
def numFrom (p : Str) : Nat → Nat → Option Nat
  | 0, _ => none
  | k + 1, i => if digN i = p then some i else numFrom p k (i + 1)

theorem numFrom_some {p : Str} {k i n : Nat} : numFrom p k i = some n ↔ i ≤ n ∧ n < i + k ∧ digN n = p := by
  induction k generalizing i with
  | zero => simp [numFrom]; omega
  | succ k ih =>
    rw [numFrom]
    by_cases h : digN i = p
    · rw [if_pos h]
      constructor
      · intro e; cases e; exact ⟨Nat.le_refl _, by omega, h⟩
      · rintro ⟨_, _, h3⟩
        rw [digN_inj (h.trans h3.symm)]
    · rw [if_neg h, ih]
      constructor
      · rintro ⟨h1, h2, h3⟩; exact ⟨by omega, by omega, h3⟩
      · rintro ⟨h1, h2, h3⟩
        refine ⟨?_, by omega, h3⟩
        rcases Nat.lt_or_eq_of_le h1 with h4 | h4
        · exact h4
        · subst h4; exact absurd h3 h

theorem idxFrom_le {p : Str} : ∀ {l : List Str} {i k : Nat}, idxFrom p l i = some k → i ≤ k ∧ k < i + l.length
  | [], _, _, h => by simp [idxFrom] at h
  | x :: l, i, k, h => by
    rw [idxFrom] at h
    split at h
    · cases h; simp
    · have := idxFrom_le h; simp; omega

theorem idxFrom_get {p : Str} : ∀ {l : List Str} {i k : Nat}, idxFrom p l i = some k → l[k - i]? = some p
  | [], _, _, h => by simp [idxFrom] at h
  | x :: l, i, k, h => by
    rw [idxFrom] at h
    split at h
    · rename_i e; cases h; simp [e]
    · have h1 := idxFrom_le h
      have h2 := idxFrom_get h
      rw [show k - i = (k - (i + 1)) + 1 by omega]
      simpa using h2

theorem idxFrom_none {p : Str} : ∀ {l : List Str} {i : Nat}, idxFrom p l i = none ↔ p ∉ l
  | [], _ => by simp [idxFrom]
  | x :: l, i => by
    rw [idxFrom]
    split
    · rename_i e; simp [e]
    · rename_i e; rw [idxFrom_none]; simp [e]

/-- where a part leads -/
def kidF (t : DNode) (p : Str) : Option Nat :=
  if t.kind = 5 then (match idxFrom p t.keys 0 with
    | some k => if k < t.kids.length then some k else none
    | none => none)
  else if t.kind = 4 then numFrom p t.kids.length 0 else none

theorem kidF_lt {t : DNode} {p : Str} {k : Nat} (h : kidF t p = some k) : k < t.kids.length := by
  unfold kidF at h
  split at h
  · split at h
    · split at h
      · cases h; assumption
      · cases h
    · cases h
  · split at h
    · have := numFrom_some.1 h; omega
    · cases h

/-- what is at a path -/
def atF : DNode → List Str → Option DNode
  | t, [] => some t
  | t, p :: ps => match kidF t p with
    | some k => atF (t.kids.getD k zDNode) ps
    | none => none

theorem Sm.get {B : Nat} {t : DNode} (h : Sm B t) {k : Nat} (hk : k < t.kids.length) : Sm B (t.kids.getD k zDNode) := by
  rw [gdN hk]; exact h.kid (List.getElem_mem hk)

theorem atF_sm {B : Nat} : ∀ {ps : List Str} {t x : DNode}, Sm B t → atF t ps = some x → Sm B x
  | [], t, x, h, e => by simp [atF] at e; subst e; exact h
  | p :: ps, t, x, h, e => by
    rw [atF] at e
    cases hk : kidF t p with
    | none => rw [hk] at e; cases e
    | some k => rw [hk] at e; exact atF_sm (h.get (kidF_lt hk)) e

def resAt : Option DNode → DNode × Bool × Unit
  | some x => (x, true, ())
  | none => (⟨0, 0, [], [], []⟩, false, ())

section
variable {O : Orc E} (hO : Fix O)
include hO

theorem slIndex (xs : List Str) (p : Str) (h : xs.length ≤ maxI) : k_slices_Index_string_string O xs p = some (optI (idxFrom p xs 0), ()) := by
  have h' : xs.length ≤ 9223372036854775807 := h
  rw [e_slices_Index_string_string O hO]
  have loop : ∀ (k i : Nat), i + k = xs.length → l_slices_Index_string_string_0 O xs p (xs.length : Int) (i : Int) = some (optI (idxFrom p (xs.drop i) i), ()) := by
    intro k
    induction k with
    | zero =>
      intro i hi
      have : i = xs.length := by omega
      subst this
      rw [e_slices_Index_string_string_0 O hO xs p _ ((xs.length : Nat) : Int), List.drop_length]
      simp [idxFrom, optI]
    | succ k ih =>
      intro i hi
      have hlt : i < xs.length := by omega
      rw [e_slices_Index_string_string_0 O hO xs p _ (i : Int)]
      simp only [ltT hlt, nn, Bool.and_self, if_true, Int.toNat_natCast, gdN hlt, wi (show i < 9223372036854775807 by omega)]
      rw [ih (i + 1) (by omega), List.drop_eq_getElem_cons hlt, idxFrom]
      by_cases he : p = xs[i]
      · rw [if_pos (by simp [← he]), if_pos he]; rfl
      · rw [if_neg (by simpa using he), if_neg he]
  have := loop xs.length 0 (by omega)
  simpa using this

theorem impl_kidAt (t : DNode) (p : Str) (h : Sm BB t) : k_impl_kidAt O t p = some (optI (kidF t p), ()) := by
  have hk := h.keys
  have hl := h.len
  unfold BB at hk hl
  rw [e_impl_kidAt O hO]
  unfold kidF
  by_cases h5 : t.kind = 5
  · rw [if_pos (by simp [h5]), if_pos h5, slIndex hO t.keys p (by unfold maxI; omega), Option.bind_some]
    cases hi : idxFrom p t.keys 0 with
    | none =>
      show (if decide ((-1 : Int) ≥ (t.kids.length : Int)) = true then some ((-1 : Int), ()) else some (-1, ())) = some (-1, ())
      split <;> rfl
    | some k =>
      show (if decide ((k : Int) ≥ (t.kids.length : Int)) = true then some ((-1 : Int), ()) else some ((k : Int), ())) = some (optI (if k < t.kids.length then some k else none), ())
      by_cases hlt : k < t.kids.length
      · rw [if_neg (by simp only [decide_eq_true_eq]; omega), if_pos hlt]; rfl
      · rw [if_pos (by simp only [decide_eq_true_eq]; omega), if_neg hlt]; rfl
  · rw [if_neg (by simpa using h5), if_neg h5]
    obtain ⟨x, b, he, h1, h2⟩ := impl_natural hO p
    rw [he, Option.bind_some]
    by_cases h4 : t.kind = 4
    · have e4 : (t.kind != 4) = false := by simp [h4]
      rw [if_pos h4]
      simp only [e4, cond_false]
      cases hn : numFrom p t.kids.length 0 with
      | some n =>
        obtain ⟨_, h6, h7⟩ := numFrom_some.1 hn
        obtain ⟨rfl, rfl⟩ := h2 n (by omega) h7.symm
        simp only [Bool.not_true, cond_false, optI]
        rw [if_neg (by simp only [decide_eq_true_eq]; omega)]
      | none =>
        cases b with
        | false => rfl
        | true =>
          obtain ⟨n, rfl, h6, h7⟩ := h1 rfl
          simp only [Bool.not_true, cond_false, optI]
          rw [if_pos]
          simp only [decide_eq_true_eq]
          apply Classical.byContradiction
          intro h8
          have := (numFrom_some (p := p) (k := t.kids.length) (i := 0) (n := n)).2 ⟨Nat.zero_le _, by omega, h7.symm⟩
          rw [hn] at this; cases this
    · have e4 : (t.kind != 4) = true := by simp [h4]
      rw [if_neg h4]
      simp only [e4, cond_true, if_true, optI]

theorem spec_l3At (t : DNode) (p : Str) (h : Sm BB t) (h5 : t.kind = 5) : k_spec_l3At O t p = some (optI (kidF t p), ()) := by
  have hk := h.keys
  have hl := h.len
  unfold BB at hk hl
  rw [e_spec_l3At O hO, DNode.cp_eq]
  unfold kidF
  rw [if_pos h5]
  have loop : ∀ (k i : Nat), i + k = t.keys.length → l_spec_l3At_0 O p (i : Int) t = some (optI (match idxFrom p (t.keys.drop i) i with
      | some k => if k < t.kids.length then some k else none
      | none => none), ()) := by
    intro k
    induction k with
    | zero =>
      intro i hi
      have : i = t.keys.length := by omega
      subst this
      rw [e_spec_l3At_0 O hO p ((t.keys.length : Nat) : Int), List.drop_length]
      have : decide ((t.keys.length : Int) < (t.keys.length : Int)) = false := by simp
      simp only [this, cond_false, Bool.false_eq_true, if_false, idxFrom, optI]
    | succ k ih =>
      intro i hi
      have hlt : i < t.keys.length := by omega
      have e5 : (t.kind == 5) = true := by simp [h5]
      rw [e_spec_l3At_0 O hO p (i : Int)]
      by_cases hlk : i < t.kids.length
      · simp only [DNode.cp_eq, ltT hlt, ltT hlk, nn, Bool.and_self, cond_true, e5, if_true, Int.toNat_natCast, gdN hlt, wi (show i < 9223372036854775807 by omega)]
        rw [ih (i + 1) (by omega), List.drop_eq_getElem_cons hlt, idxFrom]
        by_cases he : p = t.keys[i]
        · rw [if_pos (by simp [← he]), if_pos he]
          simp only [hlk, if_true]; rfl
        · rw [if_neg (by simpa using fun e => he e.symm), if_neg he]
      · simp only [ltT hlt, ltF hlk, cond_true, cond_false, Bool.false_eq_true, if_false]
        cases hi : idxFrom p (t.keys.drop i) i with
        | none => rfl
        | some k' =>
          have := (idxFrom_le hi).1
          simp only [show ¬ k' < t.kids.length by omega, if_false, optI]
  have := loop t.keys.length 0 (by omega)
  simpa using this

theorem spec_l22Index (t : DNode) (p : Str) (h : Sm BB t) : k_spec_l22Index O t p = some (optI (kidF t p), ()) := by
  have hl := h.len
  unfold BB at hl
  rw [e_spec_l22Index O hO, DNode.cp_eq]
  by_cases h5 : t.kind = 5
  · rw [if_pos (by simp [h5]), spec_l3At hO t p h h5, Option.bind_some]
  · rw [if_neg (by simpa using h5)]
    unfold kidF
    rw [if_neg h5]
    by_cases h4 : t.kind = 4
    · rw [if_pos (by simp [h4]), if_pos h4]
      have loop : ∀ (k i : Nat), i + k = t.kids.length → l_spec_l22Index_1 O p (i : Int) t = some (optI (numFrom p k i), ()) := by
        intro k
        induction k with
        | zero =>
          intro i hi
          have : i = t.kids.length := by omega
          subst this
          rw [e_spec_l22Index_1 O hO p ((t.kids.length : Nat) : Int)]
          simp [numFrom, optI]
        | succ k ih =>
          intro i hi
          have hlt : i < t.kids.length := by omega
          rw [e_spec_l22Index_1 O hO p (i : Int)]
          simp only [DNode.cp_eq, ltT hlt, if_true, wi (show i < 9223372036854775807 by omega), spec_DigitsN hO i (by omega), Option.bind_some]
          rw [ih (i + 1) (by omega), numFrom]
          by_cases he : digN i = p
          · rw [if_pos (by simpa using he), if_pos he]; rfl
          · rw [if_neg (by simpa using he), if_neg he]
      exact loop t.kids.length 0 (by omega)
    · rw [if_neg (by simpa using h4), if_neg h4]; rfl

theorem impl_AtPtr (t : DNode) (ps : List Str) (h : Sm BB t) (hp : ps.length ≤ maxI) : k_impl_AtPtr O t ps = some (resAt (atF t ps)) := by
  have hp' : ps.length ≤ 9223372036854775807 := hp
  rw [e_impl_AtPtr O hO, DNode.cp_eq]
  have loop : ∀ (k i : Nat), i + k = ps.length → ∀ (t : DNode), Sm BB t → ∀ (c1 c2 : Int) (c3 : Str), l_impl_AtPtr_0 O ps (ps.length : Int) (i : Int) t c1 c2 c3 = some (resAt (atF t (ps.drop i))) := by
    intro k
    induction k with
    | zero =>
      intro i hi t h c1 c2 c3
      have : i = ps.length := by omega
      subst this
      rw [e_impl_AtPtr_0 O hO ps _ ((ps.length : Nat) : Int), List.drop_length]
      have : decide ((ps.length : Int) < (ps.length : Int)) = false := by simp
      simp only [this, Bool.false_eq_true, if_false, DNode.cp_eq, impl_copyTree hO t h, Option.bind_some]
      rfl
    | succ k ih =>
      intro i hi t h c1 c2 c3
      have hlt : i < ps.length := by omega
      rw [e_impl_AtPtr_0 O hO ps _ (i : Int)]
      simp only [DNode.cp_eq, ltT hlt, nn, Bool.and_self, if_true, Int.toNat_natCast, gdN hlt, wi (show i < 9223372036854775807 by omega), impl_kidAt hO t _ h]
      rw [List.drop_eq_getElem_cons hlt, atF, bind_optI]
      cases hk : kidF t ps[i] with
      | none => rfl
      | some n =>
        have hn := kidF_lt hk
        dsimp only
        rw [if_neg (by simp only [decide_eq_true_eq]; omega), if_pos (inB hn), Int.toNat_natCast]
        exact ih (i + 1) (by omega) _ (h.get hn) _ _ _
  have := loop ps.length 0 (by omega) t h 0 0 []
  simpa using this

theorem spec_AtPtr (t : DNode) (ps : List Str) (h : Sm BB t) (hp : ps.length ≤ maxI) : k_spec_AtPtr O t ps = some (resAt (atF t ps)) := by
  have hp' : ps.length ≤ 9223372036854775807 := hp
  rw [e_spec_AtPtr O hO, DNode.cp_eq]
  have loop : ∀ (k i : Nat), i + k = ps.length → ∀ (t : DNode), Sm BB t → ∀ (c1 c2 : Int) (c3 : Str), l_spec_AtPtr_0 O ps (i : Int) t c1 c2 c3 = some (resAt (atF t (ps.drop i))) := by
    intro k
    induction k with
    | zero =>
      intro i hi t h c1 c2 c3
      have : i = ps.length := by omega
      subst this
      rw [e_spec_AtPtr_0 O hO ps ((ps.length : Nat) : Int), List.drop_length]
      have : decide ((ps.length : Int) < (ps.length : Int)) = false := by simp
      simp only [this, Bool.false_eq_true, if_false, DNode.cp_eq, spec_l3Copy hO t h, Option.bind_some]
      rfl
    | succ k ih =>
      intro i hi t h c1 c2 c3
      have hlt : i < ps.length := by omega
      rw [e_spec_AtPtr_0 O hO ps (i : Int)]
      simp only [DNode.cp_eq, ltT hlt, nn, Bool.and_self, if_true, Int.toNat_natCast, gdN hlt, wi (show i < 9223372036854775807 by omega), spec_l22Index hO t _ h]
      rw [List.drop_eq_getElem_cons hlt, atF, bind_optI]
      cases hk : kidF t ps[i] with
      | none => rfl
      | some n =>
        have hn := kidF_lt hk
        dsimp only
        have e1 : decide ((n : Int) < 0) = false := by simp only [decide_eq_false_iff_not]; omega
        have e2 : decide ((n : Int) ≥ (t.kids.length : Int)) = false := by simp only [decide_eq_false_iff_not]; omega
        rw [e1, e2, if_neg (by simp), if_pos (inB hn), Int.toNat_natCast]
        exact ih (i + 1) (by omega) _ (h.get hn) _ _ _
  have := loop ps.length 0 (by omega) t h 0 0 []
  simpa using this

end
end Go.Proofs.Ytejfpemjmpoddaa.Vx
