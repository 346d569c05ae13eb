/- Trees: copied they are as they were; the same as another one or not. -/
import Derived.Test.YtejfpemjmpoddaaVxTX2
namespace Go.Proofs.Ytejfpemjmpoddaa.Vx
open Go Go.Proofs

theorem kid_lt {x t : DNode} (h : x ∈ t.kids) : SizeOf.sizeOf x < SizeOf.sizeOf t := by
  cases t
  have := List.sizeOf_lt_of_mem h
  simp only [DNode.mk.sizeOf_spec]
  simp only at this
  omega

/-- no row is longer than so -/
inductive Sm (B : Nat) : DNode → Prop
  | mk (t : DNode) (h1 : t.keys.length ≤ B) (h2 : t.kids.length ≤ B) (h3 : ∀ x ∈ t.kids, Sm B x) : Sm B t

theorem Sm.keys {B : Nat} {t : DNode} (h : Sm B t) : t.keys.length ≤ B := by cases h; assumption
theorem Sm.len {B : Nat} {t : DNode} (h : Sm B t) : t.kids.length ≤ B := by cases h; assumption
theorem Sm.kid {B : Nat} {t x : DNode} (h : Sm B t) (hx : x ∈ t.kids) : Sm B x := by
  cases h with | mk _ _ _ h3 => exact h3 x hx
theorem Sm.mono {B C : Nat} {t : DNode} (h : Sm B t) (hbc : B ≤ C) : Sm C t := by
  induction h with
  | mk t h1 h2 _ ih => exact .mk t (by omega) (by omega) ih
theorem Sm.zero (B : Nat) (k n : Int) (s : Str) : Sm B ⟨k, n, s, [], []⟩ := .mk _ (by simp) (by simp) (by simp)

/-- so long a row may be -/
def BB : Nat := 200000000000

/-- two trees, the same or not -/
noncomputable def same (a b : DNode) : Bool := @decide (a = b) (Classical.propDecidable _)
noncomputable def sameL (a b : List DNode) : Bool := @decide (a = b) (Classical.propDecidable _)
theorem same_iff {a b : DNode} : same a b = true ↔ a = b := by simp [same]
theorem sameL_iff {a b : List DNode} : sameL a b = true ↔ a = b := by simp [sameL]

theorem sameL_cons (a b : DNode) (l m : List DNode) : sameL (a :: l) (b :: m) = (same a b && sameL l m) := by
  rw [Bool.eq_iff_iff]; simp only [Bool.and_eq_true, same_iff, sameL_iff, List.cons.injEq]
theorem decL_cons (a b : Str) (l m : List Str) : decide (a :: l = b :: m) = (decide (a = b) && decide (l = m)) := by
  rw [Bool.eq_iff_iff]; simp only [Bool.and_eq_true, decide_eq_true_eq, List.cons.injEq]
theorem same_self (a : DNode) : same a a = true := same_iff.2 rfl
theorem same_ne {a b : DNode} (h : a ≠ b) : same a b = false := by simp [same, h]

theorem gdN {α : Type} {l : List α} {i : Nat} (h : i < l.length) (d : α) : l.getD i d = l[i] := by simp [List.getD, h]

section
variable {O : Orc E} (hO : Fix O)
include hO

theorem cloneS (xs : List Str) (h : xs.length ≤ BB) : k_slices_Clone_string_string O xs = some (xs, ()) := by
  have h0 : k_slices_Clone_string_string O xs = clnP 16 xs := (hO.1 145 (xs, ())).trans rfl
  unfold BB at h
  rw [h0, clnP, if_pos (by simp only [decide_eq_true_eq]; omega)]

theorem impl_copyTree (t : DNode) (h : Sm BB t) : k_impl_copyTree O t = some (t, ()) := by
  have key : ∀ (m : Nat) (t : DNode), SizeOf.sizeOf t ≤ m → Sm BB t → k_impl_copyTree O t = some (t, ()) := by
    intro m
    induction m with
    | zero => intro t ht _; cases t; simp at ht
    | succ m ih =>
      intro t ht h
      have hk := h.keys
      have hl := h.len
      unfold BB at hk hl
      rw [e_impl_copyTree O hO, cloneS hO _ h.keys, Option.bind_some]
      have loop : ∀ (k i : Nat), i + k = t.kids.length → ∀ (r : List DNode) (b0 : DNode) (c1 c2 : Int) (c3 : Str), r.length = i →
          l_impl_copyTree_0 O t.kids (t.kids.length : Int) (i : Int) b0 c1 c2 c3 r = some (DNode.mk b0.kind b0.n b0.s b0.keys (r ++ t.kids.drop i), ()) := by
        intro k
        induction k with
        | zero =>
          intro i hi r b0 c1 c2 c3 hr
          have : i = t.kids.length := by omega
          subst this
          rw [e_impl_copyTree_0 O hO _ _ ((t.kids.length : Nat) : Int)]
          simp
        | succ k ih2 =>
          intro i hi r b0 c1 c2 c3 hr
          have hlt : i < t.kids.length := by omega
          have hm : t.kids[i] ∈ t.kids := List.getElem_mem hlt
          have hx := ih t.kids[i] (by have := kid_lt hm; omega) (h.kid hm)
          rw [e_impl_copyTree_0 O hO _ _ (i : Int)]
          simp only [DNode.cp_eq, ltT hlt, nn, Bool.and_self, if_true, Int.toNat_natCast, gdN hlt, hx, Option.bind_some, wi (show i < 9223372036854775807 by omega)]
          rw [if_pos (by simp only [decide_eq_true_eq, List.length_singleton]; omega), ih2 (i + 1) (by omega) _ _ _ _ _ (by simp; omega), List.append_assoc, List.drop_eq_getElem_cons hlt]
          rfl
      have := loop t.kids.length 0 (by omega) [] (DNode.mk t.kind t.n t.s t.keys t.kids) 0 0 [] rfl
      simp only [List.nil_append, List.drop_zero] at this
      exact this.trans (by cases t; rfl)
  exact key _ t (Nat.le_refl _) h

theorem spec_l3Copy (t : DNode) (h : Sm BB t) : k_spec_l3Copy O t = some (t, ()) := by
  have key : ∀ (m : Nat) (t : DNode), SizeOf.sizeOf t ≤ m → Sm BB t → k_spec_l3Copy O t = some (t, ()) := by
    intro m
    induction m with
    | zero => intro t ht _; cases t; simp at ht
    | succ m ih =>
      intro t ht h
      have hk := h.keys
      have hl := h.len
      unfold BB at hk hl
      rw [e_spec_l3Copy O hO, if_pos (by simp only [decide_eq_true_eq]; omega), DNode.cp_eq]
      have loop : ∀ (k i : Nat), i + k = t.kids.length → ∀ (b2 : DNode) (c1 c2 : Int) (c3 : Str), b2.kids.length = i →
          l_spec_l3Copy_0 O (i : Int) t c1 c2 c3 b2 = some (DNode.mk b2.kind b2.n b2.s b2.keys (b2.kids ++ t.kids.drop i), ()) := by
        intro k
        induction k with
        | zero =>
          intro i hi b2 c1 c2 c3 hr
          have : i = t.kids.length := by omega
          subst this
          rw [e_spec_l3Copy_0 O hO ((t.kids.length : Nat) : Int)]
          simp [DNode.cp]
        | succ k ih2 =>
          intro i hi b2 c1 c2 c3 hr
          have hlt : i < t.kids.length := by omega
          have hm : t.kids[i] ∈ t.kids := List.getElem_mem hlt
          have hx := ih t.kids[i] (by have := kid_lt hm; omega) (h.kid hm)
          rw [e_spec_l3Copy_0 O hO (i : Int)]
          simp only [DNode.cp_eq, ltT hlt, nn, Bool.and_self, if_true, Int.toNat_natCast, gdN hlt, hx, Option.bind_some, wi (show i < 9223372036854775807 by omega)]
          rw [if_pos (by simp only [decide_eq_true_eq, List.length_singleton]; omega), ih2 (i + 1) (by omega) _ _ _ _ (by simp; omega), List.append_assoc, List.drop_eq_getElem_cons hlt]
          rfl
      have := loop t.kids.length 0 (by omega) (DNode.mk t.kind t.n t.s t.keys []) 0 0 [] rfl
      simp only [List.nil_append, List.drop_zero] at this
      exact this.trans (by cases t; rfl)
  exact key _ t (Nat.le_refl _) h

theorem slEqual (xs ys : List Str) (h : xs.length ≤ maxI) : k_slices_Equal_string_string O xs ys = some (decide (xs = ys), ()) := by
  have h' : xs.length ≤ 9223372036854775807 := h
  rw [e_slices_Equal_string_string O hO]
  by_cases hl : xs.length = ys.length
  · rw [if_neg (by simp [hl])]
    have loop : ∀ (k i : Nat), i + k = xs.length → l_slices_Equal_string_string_0 O xs ys (xs.length : Int) (i : Int) = some (decide (xs.drop i = ys.drop i), ()) := by
      intro k
      induction k with
      | zero =>
        intro i hi
        have : i = xs.length := by omega
        subst this
        rw [e_slices_Equal_string_string_0 O hO xs ys _ ((xs.length : Nat) : Int), List.drop_length, hl, List.drop_length]
        simp
      | succ k ih =>
        intro i hi
        have hlt : i < xs.length := by omega
        have hlt2 : i < ys.length := by omega
        rw [e_slices_Equal_string_string_0 O hO xs ys _ (i : Int)]
        simp only [ltT hlt, ltT hlt2, nn, Bool.and_self, if_true, Int.toNat_natCast, gdN hlt, gdN hlt2, wi (show i < 9223372036854775807 by omega)]
        rw [ih (i + 1) (by omega), List.drop_eq_getElem_cons hlt, List.drop_eq_getElem_cons hlt2]
        rw [decL_cons]
        by_cases he : xs[i] = ys[i]
        · rw [if_neg (by simp [he]), he]; simp
        · rw [if_pos (by simp [he]), show decide (xs[i] = ys[i]) = false by simp [he], Bool.false_and]
    have := loop xs.length 0 (by omega)
    simpa using this
  · rw [if_pos (by simp [bne_iff_ne]; omega)]
    have : xs ≠ ys := fun e => hl (by rw [e])
    simp [this]

theorem impl_TreeSame (a b : DNode) (h : Sm BB a) : k_impl_TreeSame O a b = some (same a b, ()) := by
  have key : ∀ (m : Nat) (a b : DNode), SizeOf.sizeOf a ≤ m → Sm BB a → k_impl_TreeSame O a b = some (same a b, ()) := by
    intro m
    induction m with
    | zero => intro t b ht _; cases t; simp at ht
    | succ m ih =>
      intro a b ht h
      have hk := h.keys
      have hl := h.len
      unfold BB at hk hl
      rw [e_impl_TreeSame O hO]
      have hkids : k_impl_Node_98 O a.kids b.kids (.fn 27 [] : V Ty) = some (sameL a.kids b.kids, ()) := by
        rw [e_impl_Node_98__TreeSame O hO]
        by_cases hl2 : a.kids.length = b.kids.length
        · rw [if_neg (by simp [hl2])]
          have loop : ∀ (k i : Nat), i + k = a.kids.length → l_impl_Node_98__TreeSame_0 O b.kids a.kids (a.kids.length : Int) (i : Int) = some (sameL (a.kids.drop i) (b.kids.drop i), ()) := by
            intro k
            induction k with
            | zero =>
              intro i hi
              have : i = a.kids.length := by omega
              subst this
              rw [e_impl_Node_98__TreeSame_0 O hO _ _ _ ((a.kids.length : Nat) : Int), List.drop_length, hl2, List.drop_length]
              simp [sameL]
            | succ k ih2 =>
              intro i hi
              have hlt : i < a.kids.length := by omega
              have hlt2 : i < b.kids.length := by omega
              have hm : a.kids[i] ∈ a.kids := List.getElem_mem hlt
              have hx := ih a.kids[i] b.kids[i] (by have := kid_lt hm; omega) (h.kid hm)
              rw [e_impl_Node_98__TreeSame_0 O hO _ _ _ (i : Int)]
              simp only [DNode.cp_eq, ltT hlt, ltT hlt2, nn, Bool.and_self, if_true, Int.toNat_natCast, gdN hlt, gdN hlt2, hx, Option.bind_some, wi (show i < 9223372036854775807 by omega)]
              rw [ih2 (i + 1) (by omega), List.drop_eq_getElem_cons hlt, List.drop_eq_getElem_cons hlt2]
              rw [sameL_cons]
              cases same a.kids[i] b.kids[i] <;> rfl
          have := loop a.kids.length 0 (by omega)
          simpa using this
        · rw [if_pos (by simp [bne_iff_ne]; omega)]
          have : a.kids ≠ b.kids := fun e => hl2 (by rw [e])
          simp [sameL, this]
      rw [slEqual hO a.keys b.keys (by unfold maxI; omega), hkids]
      have hsame : same a b = (a.kind == b.kind && a.n == b.n && a.s == b.s && decide (a.keys = b.keys) && sameL a.kids b.kids) := by
        rw [Bool.eq_iff_iff, same_iff]
        simp only [Bool.and_eq_true, beq_iff_eq, decide_eq_true_eq, sameL_iff]
        constructor
        · rintro rfl; exact ⟨⟨⟨⟨rfl, rfl⟩, rfl⟩, rfl⟩, rfl⟩
        · rintro ⟨⟨⟨⟨h1, h2⟩, h3⟩, h4⟩, h5⟩
          cases a; cases b; simp_all
      rw [hsame]
      cases (a.kind == b.kind) <;> cases (a.n == b.n) <;> cases ((a.s : Str) == b.s) <;> cases decide (a.keys = b.keys) <;> rfl
  exact key _ a b (Nat.le_refl _) h

end
end Go.Proofs.Ytejfpemjmpoddaa.Vx
