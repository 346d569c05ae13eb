/- What is put into trees, and cut out of them, by the program. -/
import Derived.Test.YtejfpemjmpoddaaVxTX4
namespace Go.Proofs.Ytejfpemjmpoddaa.Vx
open Go Go.Proofs

def isMapF (t : DNode) : Bool := decide (t.kind = 5) && decide (t.keys.length = t.kids.length)

/-- the first place from i on of a text that is behind this one; else the end -/
def gtFrom (p : Str) : List Str → Nat → Nat
  | [], i => i
  | x :: xs, i => if (!(Op.bytesLess x p || x == p)) = true then i else gtFrom p xs (i + 1)

theorem gtFrom_le (p : Str) : ∀ (l : List Str) (i : Nat), i ≤ gtFrom p l i ∧ gtFrom p l i ≤ i + l.length
  | [], i => by simp [gtFrom]
  | x :: xs, i => by
    rw [gtFrom]
    split
    · simp
    · have := gtFrom_le p xs (i + 1); simp; omega

def insAt {α : Type} (l : List α) (k : Nat) (x : α) : List α := l.take k ++ [x] ++ l.drop k
def delAt {α : Type} (l : List α) (k : Nat) : List α := l.take k ++ l.drop (k + 1)

/-- a map with a Key set -/
def setF (t : DNode) (p : Str) (x : DNode) : DNode :=
  if isMapF t = true then (match idxFrom p t.keys 0 with
    | some k => ⟨t.kind, t.n, t.s, t.keys, t.kids.set k x⟩
    | none => ⟨t.kind, t.n, t.s, insAt t.keys (gtFrom p t.keys 0) p, insAt t.kids (gtFrom p t.keys 0) x⟩)
  else t

/-- a map without a Key -/
def unsetF (t : DNode) (p : Str) : DNode :=
  if isMapF t = true then (match idxFrom p t.keys 0 with
    | some k => ⟨t.kind, t.n, t.s, delAt t.keys k, delAt t.kids k⟩
    | none => t)
  else t

/-- the last part of a way on which is put -/
def putL1 (x : DNode) (t : DNode) (p : Str) : Option DNode :=
  if isMapF t = true then some (setF t p x)
  else if t.kind = 4 then (match (if p = [45] then some t.kids.length else numFrom p (t.kids.length + 1) 0) with
    | some n => some ⟨t.kind, t.n, t.s, t.keys, insAt t.kids n x⟩
    | none => none)
  else none

/-- .. and of one on which is cut -/
def cutL1 (t : DNode) (p : Str) : Option DNode := match kidF t p with
  | none => none
  | some k => if t.kind = 5 then some (unsetF t p) else some ⟨t.kind, t.n, t.s, t.keys, delAt t.kids k⟩

def within (f : DNode → Str → Option DNode) : DNode → List Str → Option DNode
  | _, [] => none
  | t, [p] => f t p
  | t, p :: q :: ps => match kidF t p with
    | none => none
    | some k => match within f (t.kids.getD k zDNode) (q :: ps) with
      | none => none
      | some y => some ⟨t.kind, t.n, t.s, t.keys, t.kids.set k y⟩

def putF (t : DNode) (ps : List Str) (x : DNode) : Option DNode := match ps with
  | [] => some x
  | _ => within (putL1 x) t ps
def cutF (t : DNode) (ps : List Str) : Option DNode := within cutL1 t ps

/-- what is handed back: the tree as it was where it can't be done -/
def orElse (t : DNode) : Option DNode → DNode × Bool × Unit
  | some y => (y, true, ())
  | none => (t, false, ())
def orZero : Option DNode → DNode × Bool × Unit
  | some y => (y, true, ())
  | none => (⟨0, 0, [], [], []⟩, false, ())

theorem bind_res {α : Type} (o : Option DNode) (f : DNode × Bool × Unit → Option α) : (some (orZero o) : Option (DNode × Bool × Unit)).bind f = match o with
    | some y => f (y, true, ())
    | none => f (⟨0, 0, [], [], []⟩, false, ()) := by cases o <;> rfl

section
variable {O : Orc E} (hO : Fix O)
include hO

theorem impl_isMap (t : DNode) : k_impl_isMap O t = some (isMapF t, ()) := by
  rw [e_impl_isMap O hO]
  unfold isMapF
  congr 2
  rw [Bool.eq_iff_iff]
  cases h : (t.kind == 5) with
  | true =>
    have h' : t.kind = 5 := by simpa using h
    simp [h']; omega
  | false =>
    have h' : ¬ t.kind = 5 := by simpa using h
    simp [h']

theorem insStr (xs ys : List Str) (i : Nat) (h : i ≤ xs.length) (hb : xs.length + ys.length ≤ BB + 1) : k_slices_Insert_string_string O xs (i : Int) ys = some (xs.take i ++ ys ++ xs.drop i, ()) := by
  have h0 : k_slices_Insert_string_string O xs (i : Int) ys = insP 16 xs (i : Int) ys := (hO.1 150 (xs, (i : Int), ys, ())).trans rfl
  unfold BB at hb
  rw [h0, insP, if_pos (by simp only [Bool.and_eq_true, decide_eq_true_eq]; omega), Int.toNat_natCast]

theorem insNode (xs ys : List DNode) (i : Nat) (h : i ≤ xs.length) (hb : xs.length + ys.length ≤ BB + 1) : k_impl_Node_87 O xs (i : Int) ys = some (xs.take i ++ ys ++ xs.drop i, ()) := by
  have h0 : k_impl_Node_87 O xs (i : Int) ys = insP 80 xs (i : Int) ys := (hO.1 87 (xs, (i : Int), ys, ())).trans rfl
  unfold BB at hb
  rw [h0, insP, if_pos (by simp only [Bool.and_eq_true, decide_eq_true_eq]; omega), Int.toNat_natCast]

theorem delStr (xs : List Str) (i : Nat) (h : i < xs.length) (hb : xs.length ≤ BB) : k_slices_Delete_string_string O xs (i : Int) (IntKind.i64.wrap ((i : Int) + 1)) = some (delAt xs i, ()) := by
  unfold BB at hb
  rw [wi (by omega)]
  have h0 : k_slices_Delete_string_string O xs (i : Int) ((i + 1 : Nat) : Int) = delP xs (i : Int) ((i + 1 : Nat) : Int) := (hO.1 176 (xs, (i : Int), ((i + 1 : Nat) : Int), ())).trans rfl
  rw [h0, delP, if_pos (by simp only [Bool.and_eq_true, decide_eq_true_eq]; omega), Int.toNat_natCast, Int.toNat_natCast]
  rfl

theorem delNode (xs : List DNode) (i : Nat) (h : i < xs.length) (hb : xs.length ≤ BB) : k_impl_Node_121 O xs (i : Int) (IntKind.i64.wrap ((i : Int) + 1)) = some (delAt xs i, ()) := by
  unfold BB at hb
  rw [wi (by omega)]
  have h0 : k_impl_Node_121 O xs (i : Int) ((i + 1 : Nat) : Int) = delP xs (i : Int) ((i + 1 : Nat) : Int) := (hO.1 121 (xs, (i : Int), ((i + 1 : Nat) : Int), ())).trans rfl
  rw [h0, delP, if_pos (by simp only [Bool.and_eq_true, decide_eq_true_eq]; omega), Int.toNat_natCast, Int.toNat_natCast]
  rfl

theorem slIndexFunc (xs : List Str) (p : Str) (h : xs.length ≤ maxI) :
    k_slices_IndexFunc_string_string O xs (.fn 149 [.rptr 9 p 0] : V Ty) = some (if gtFrom p xs 0 < xs.length then (gtFrom p xs 0 : Int) else -1, ()) := by
  have h' : xs.length ≤ 9223372036854775807 := h
  rw [e_slices_IndexFunc_string_string__Set_1 O hO]
  have loop : ∀ (k i : Nat), i + k = xs.length → l_slices_IndexFunc_string_string__Set_1_0 O xs p (xs.length : Int) (i : Int) = some (if gtFrom p (xs.drop i) i < xs.length then (gtFrom p (xs.drop i) i : Int) else -1, ()) := by
    intro k
    induction k with
    | zero =>
      intro i hi
      have : i = xs.length := by omega
      subst this
      rw [e_slices_IndexFunc_string_string__Set_1_0 O hO xs p _ ((xs.length : Nat) : Int), List.drop_length]
      simp [gtFrom]
    | succ k ih =>
      intro i hi
      have hlt : i < xs.length := by omega
      rw [e_slices_IndexFunc_string_string__Set_1_0 O hO xs p _ (i : Int)]
      simp only [ltT hlt, nn, Bool.and_self, if_true, Int.toNat_natCast, gdN hlt, e_impl_Set_1 O hO, Option.bind_some, wi (show i < 9223372036854775807 by omega)]
      rw [ih (i + 1) (by omega), List.drop_eq_getElem_cons hlt, gtFrom]
      by_cases he : (!(Op.bytesLess xs[i] p || (xs[i] : Str) == p)) = true
      · rw [if_pos he, if_pos he, if_pos hlt]
      · rw [if_neg he, if_neg he]
  have := loop xs.length 0 (by omega)
  simpa using this

theorem impl_Set (t : DNode) (p : Str) (x : DNode) (h : Sm BB t) (hx : Sm BB x) : k_impl_Set O t p x = some (setF t p x, ()) := by
  have hk := h.keys
  have hl := h.len
  rw [e_impl_Set O hO]
  simp only [DNode.cp_eq, impl_copyTree hO t h, impl_copyTree hO x hx, Option.bind_some, impl_isMap hO]
  unfold setF
  cases hm : isMapF t with
  | false => simp
  | true =>
    have hlen : t.keys.length = t.kids.length := by simp [isMapF] at hm; exact hm.2
    simp only [Bool.not_true, Bool.false_eq_true, if_false, if_true]
    rw [slIndex hO t.keys p (by unfold maxI; unfold BB at hk; omega), bind_optI]
    cases hi : idxFrom p t.keys 0 with
    | some k =>
      have hlt := (idxFrom_le hi).2
      dsimp only
      rw [if_pos (by simp only [decide_eq_true_eq]; omega), if_pos (inB (show k < t.kids.length by omega)), Int.toNat_natCast, if_pos (by simp only [decide_eq_true_eq]; omega)]
    | none =>
      dsimp only
      rw [if_neg (by simp), slIndexFunc hO t.keys p (by unfold maxI; unfold BB at hk; omega), Option.bind_some]
      have hg := gtFrom_le p t.keys 0
      by_cases hlt : gtFrom p t.keys 0 < t.keys.length
      · simp only [hlt, if_true]
        rw [if_neg (by simp only [decide_eq_true_eq]; omega), insStr hO t.keys [p] _ (by omega) (by simp; omega), Option.bind_some, insNode hO t.kids [x] _ (by omega) (by simp; omega), Option.bind_some]
        rfl
      · have e : gtFrom p t.keys 0 = t.keys.length := by omega
        simp only [hlt, if_false]
        rw [if_pos (by simp), insStr hO t.keys [p] _ (by omega) (by simp; omega), Option.bind_some, insNode hO t.kids [x] _ (by omega) (by simp; omega), Option.bind_some, e]
        rfl

theorem impl_Unset (t : DNode) (p : Str) (h : Sm BB t) : k_impl_Unset O t p = some (unsetF t p, ()) := by
  have hk := h.keys
  have hl := h.len
  rw [e_impl_Unset O hO]
  simp only [DNode.cp_eq, impl_copyTree hO t h, Option.bind_some, impl_isMap hO]
  rw [slIndex hO t.keys p (by unfold maxI; unfold BB at hk; omega), bind_optI]
  unfold unsetF
  cases hm : isMapF t with
  | false => cases idxFrom p t.keys 0 <;> rfl
  | true =>
    have hlen : t.keys.length = t.kids.length := by simp [isMapF] at hm; exact hm.2
    cases hi : idxFrom p t.keys 0 with
    | none => rfl
    | some k =>
      have hlt := (idxFrom_le hi).2
      dsimp only
      have e1 : decide ((k : Int) < 0) = false := by simp only [decide_eq_false_iff_not]; omega
      simp only [Bool.not_true, cond_false, e1, Bool.false_eq_true, if_false]
      rw [delStr hO t.keys k (by omega) hk, Option.bind_some, delNode hO t.kids k (by omega) hl, Option.bind_some]
      rfl

theorem impl_PutPtr_1 (t : DNode) (p : Str) (x : DNode) (h : Sm BB t) (hx : Sm BB x) : k_impl_PutPtr_1 O t p x = some (orZero (putL1 x t p)) := by
  have hl := h.len
  rw [e_impl_PutPtr_1 O hO]
  simp only [DNode.cp_eq, impl_isMap hO, Option.bind_some]
  unfold putL1
  cases hm : isMapF t with
  | true => simp only [if_true, impl_Set hO t p x h hx, Option.bind_some]; rfl
  | false =>
    simp only [Bool.false_eq_true, if_false]
    obtain ⟨v, b, he, h1, h2⟩ := impl_natural hO p
    rw [he, Option.bind_some]
    by_cases h4 : t.kind = 4
    · have e4 : (t.kind != 4) = false := by simp [h4]
      simp only [e4, cond_false, h4, if_true, impl_copyTree hO t h, impl_copyTree hO x hx, Option.bind_some]
      by_cases hp : p = [45]
      · have e1 : decide ((t.kids.length : Int) > (t.kids.length : Int)) = false := by simp
        simp only [hp, beq_self_eq_true, if_true, Bool.not_true, cond_false, e1, Bool.false_eq_true, if_false]
        rw [insNode hO t.kids [x] _ (Nat.le_refl _) (by simp; omega), Option.bind_some]
        simp [insAt, orZero, h4]
      · rw [if_neg (by simpa using hp), if_neg hp]
        cases hn : numFrom p (t.kids.length + 1) 0 with
        | some n =>
          obtain ⟨_, h6, h7⟩ := numFrom_some.1 hn
          unfold BB at hl
          obtain ⟨rfl, rfl⟩ := h2 n (by omega) h7.symm
          have e1 : decide ((n : Int) > (t.kids.length : Int)) = false := by simp only [decide_eq_false_iff_not]; omega
          simp only [Bool.not_true, cond_false, e1, Bool.false_eq_true, if_false]
          rw [insNode hO t.kids [x] n (by omega) (by unfold BB; simp; omega), Option.bind_some]
          simp [insAt, orZero, h4]
        | none =>
          cases b with
          | false => rfl
          | true =>
            obtain ⟨n, rfl, h6, h7⟩ := h1 rfl
            have : ¬ n < t.kids.length + 1 := by
              intro h8
              have := (numFrom_some (p := p) (k := t.kids.length + 1) (i := 0) (n := n)).2 ⟨Nat.zero_le _, by omega, h7.symm⟩
              rw [hn] at this; cases this
            have e1 : decide ((n : Int) > (t.kids.length : Int)) = true := by simp only [decide_eq_true_eq]; omega
            simp only [Bool.not_true, cond_false, e1, if_true]
            rfl
    · have e4 : (t.kind != 4) = true := by simp [h4]
      simp only [e4, cond_true, if_true, h4, if_false]
      split <;> rfl

theorem impl_CutPtr_1 (t : DNode) (p : Str) (h : Sm BB t) : k_impl_CutPtr_1 O t p = some (orZero (cutL1 t p)) := by
  rw [e_impl_CutPtr_1 O hO]
  simp only [DNode.cp_eq, impl_kidAt hO t p h]
  rw [bind_optI]
  unfold cutL1
  cases hk : kidF t p with
  | none => rfl
  | some k =>
    have hlt := kidF_lt hk
    dsimp only
    rw [if_neg (by simp only [decide_eq_true_eq]; omega)]
    by_cases h5 : t.kind = 5
    · rw [if_pos (by simp [h5]), if_pos h5, impl_Unset hO t p h]; rfl
    · rw [if_neg (by simpa using h5), if_neg h5, impl_copyTree hO t h, Option.bind_some, delNode hO t.kids k hlt h.len]; rfl

theorem impl_within_put (x : DNode) (hx : Sm BB x) : ∀ (ps : List Str) (t : DNode), Sm BB t → ps ≠ [] → ps.length ≤ maxI → k_impl_within O t ps (.fn 83 [.rptr 30 x 0] : V Ty) = some (orZero (within (putL1 x) t ps))
  | [], _, _, h, _ => absurd rfl h
  | [p], t, h, _, _ => by
    rw [e_impl_within__PutPtr_1 O hO, if_pos (by simp), if_pos (by simp), DNode.cp_eq]
    have : ([p] : List Str).getD (0 : Int).toNat [] = p := rfl
    rw [this, impl_PutPtr_1 hO t p x h hx, within]
    cases putL1 x t p <;> simp [orZero, DNode.cp_eq]
  | p :: q :: ps, t, h, _, hl => by
    have hl' : (p :: q :: ps).length ≤ 9223372036854775807 := hl
    simp only [List.length_cons] at hl'
    have c1 : ¬ (((p :: q :: ps).length : Int) == 1) = true := by simp; omega
    have c2 : (decide (0 ≤ (0 : Int)) && decide (0 < ((p :: q :: ps).length : Int))) = true := by simp only [Bool.and_eq_true, decide_eq_true_eq, List.length_cons]; omega
    have c3 : ((decide (0 ≤ (1 : Int)) && decide ((1 : Int) ≤ ((p :: q :: ps).length : Int))) && decide (((p :: q :: ps).length : Int) ≤ ((p :: q :: ps).length : Int))) = true := by
      simp only [Bool.and_eq_true, decide_eq_true_eq, List.length_cons]; omega
    have c4 : (((p :: q :: ps).take ((p :: q :: ps).length : Int).toNat).drop (1 : Int).toNat) = q :: ps := by rw [Int.toNat_natCast, List.take_length]; rfl
    have c5 : (p :: q :: ps).getD (0 : Int).toNat [] = p := rfl
    rw [e_impl_within__PutPtr_1 O hO, if_neg c1, if_pos c2, c5]
    simp only [DNode.cp_eq, impl_kidAt hO t p h]
    rw [bind_optI, within]
    cases hk : kidF t p with
    | none => rfl
    | some k =>
      have hlt := kidF_lt hk
      dsimp only
      rw [if_neg (by simp only [decide_eq_true_eq]; omega), if_pos (inB hlt), if_pos c3, c4, Int.toNat_natCast, impl_within_put x hx (q :: ps) _ (h.get hlt) (by simp) (by unfold maxI; simp; omega), bind_res]
      cases within (putL1 x) (t.kids.getD k zDNode) (q :: ps) with
      | none => rfl
      | some y =>
        dsimp only
        rw [if_neg (by simp), impl_copyTree hO t h, Option.bind_some, if_pos (inB hlt), if_pos (by simp only [decide_eq_true_eq]; exact hlt)]
        rfl

theorem impl_within_cut : ∀ (ps : List Str) (t : DNode), Sm BB t → ps ≠ [] → ps.length ≤ maxI → k_impl_within O t ps (.fn 119 [] : V Ty) = some (orZero (within cutL1 t ps))
  | [], _, _, h, _ => absurd rfl h
  | [p], t, h, _, _ => by
    rw [e_impl_within__CutPtr_1 O hO, if_pos (by simp), if_pos (by simp), DNode.cp_eq]
    have : ([p] : List Str).getD (0 : Int).toNat [] = p := rfl
    rw [this, impl_CutPtr_1 hO t p h, within]
    cases cutL1 t p <;> simp [orZero, DNode.cp_eq]
  | p :: q :: ps, t, h, _, hl => by
    have hl' : (p :: q :: ps).length ≤ 9223372036854775807 := hl
    simp only [List.length_cons] at hl'
    have c1 : ¬ (((p :: q :: ps).length : Int) == 1) = true := by simp; omega
    have c2 : (decide (0 ≤ (0 : Int)) && decide (0 < ((p :: q :: ps).length : Int))) = true := by simp only [Bool.and_eq_true, decide_eq_true_eq, List.length_cons]; omega
    have c3 : ((decide (0 ≤ (1 : Int)) && decide ((1 : Int) ≤ ((p :: q :: ps).length : Int))) && decide (((p :: q :: ps).length : Int) ≤ ((p :: q :: ps).length : Int))) = true := by
      simp only [Bool.and_eq_true, decide_eq_true_eq, List.length_cons]; omega
    have c4 : (((p :: q :: ps).take ((p :: q :: ps).length : Int).toNat).drop (1 : Int).toNat) = q :: ps := by rw [Int.toNat_natCast, List.take_length]; rfl
    have c5 : (p :: q :: ps).getD (0 : Int).toNat [] = p := rfl
    rw [e_impl_within__CutPtr_1 O hO, if_neg c1, if_pos c2, c5]
    simp only [DNode.cp_eq, impl_kidAt hO t p h]
    rw [bind_optI, within]
    cases hk : kidF t p with
    | none => rfl
    | some k =>
      have hlt := kidF_lt hk
      dsimp only
      rw [if_neg (by simp only [decide_eq_true_eq]; omega), if_pos (inB hlt), if_pos c3, c4, Int.toNat_natCast, impl_within_cut (q :: ps) _ (h.get hlt) (by simp) (by unfold maxI; simp; omega), bind_res]
      cases within cutL1 (t.kids.getD k zDNode) (q :: ps) with
      | none => rfl
      | some y =>
        dsimp only
        rw [if_neg (by simp), impl_copyTree hO t h, Option.bind_some, if_pos (inB hlt), if_pos (by simp only [decide_eq_true_eq]; exact hlt)]
        rfl

theorem impl_PutPtr (t : DNode) (ps : List Str) (x : DNode) (h : Sm BB t) (hx : Sm BB x) (hp : ps.length ≤ maxI) : k_impl_PutPtr O t ps x = some (orElse t (putF t ps x)) := by
  rw [e_impl_PutPtr O hO]
  cases ps with
  | nil => rw [if_pos (by simp)]; simp only [DNode.cp_eq, impl_copyTree hO x hx, Option.bind_some]; rfl
  | cons p ps =>
    rw [if_neg (by simp; omega)]
    simp only [DNode.cp_eq]
    rw [e_impl_changedAt__PutPtr_1 O hO]
    simp only [DNode.cp_eq, impl_within_put hO x hx (p :: ps) t h (by simp) hp]
    rw [bind_res, putF]
    cases within (putL1 x) t (p :: ps) with
    | none => dsimp only; rw [if_pos (by simp), impl_copyTree hO t h]; rfl
    | some y => rfl
    all_goals simp

theorem impl_CutPtr (t : DNode) (ps : List Str) (h : Sm BB t) (hp : ps.length ≤ maxI) : k_impl_CutPtr O t ps = some (orElse t (cutF t ps)) := by
  rw [e_impl_CutPtr O hO]
  cases ps with
  | nil => rw [if_pos (by simp)]; simp only [DNode.cp_eq, impl_copyTree hO t h, Option.bind_some]; rfl
  | cons p ps =>
    rw [if_neg (by simp; omega)]
    simp only [DNode.cp_eq]
    rw [e_impl_changedAt__CutPtr_1 O hO]
    simp only [DNode.cp_eq, impl_within_cut hO (p :: ps) t h (by simp) hp]
    rw [bind_res, cutF]
    cases within cutL1 t (p :: ps) with
    | none => dsimp only; rw [if_pos (by simp), impl_copyTree hO t h]; rfl
    | some y => rfl

end
end Go.Proofs.Ytejfpemjmpoddaa.Vx
