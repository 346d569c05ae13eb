/- The order of texts; a change by the program; what is cut out and put there again. -/
import Derived.Test.YtejfpemjmpoddaaVxTX5
namespace Go.Proofs.Ytejfpemjmpoddaa.Vx
open Go Go.Proofs

theorem bl_irrefl : ∀ a : Str, Op.bytesLess a a = false
  | [] => rfl
  | a :: x => by simp [Op.bytesLess, bl_irrefl x]

theorem bl_trans : ∀ {a b c : Str}, Op.bytesLess a b = true → Op.bytesLess b c = true → Op.bytesLess a c = true
  | _, [], _, h, _ => by cases ‹Str› <;> simp [Op.bytesLess] at h
  | _, _ :: _, [], _, h => by simp [Op.bytesLess] at h
  | [], _ :: _, _ :: _, _, _ => rfl
  | a :: x, b :: y, c :: z, h1, h2 => by
    simp only [Op.bytesLess, Bool.or_eq_true, decide_eq_true_eq, Bool.and_eq_true, beq_iff_eq] at h1 h2 ⊢
    rcases h1 with h1 | ⟨rfl, h1⟩
    · rcases h2 with h2 | ⟨rfl, h2⟩
      · exact .inl (UInt8.lt_trans h1 h2)
      · exact .inl h1
    · rcases h2 with h2 | ⟨rfl, h2⟩
      · exact .inl h2
      · exact .inr ⟨rfl, bl_trans h1 h2⟩

theorem bl_total : ∀ (a b : Str), Op.bytesLess a b = true ∨ a = b ∨ Op.bytesLess b a = true
  | [], [] => .inr (.inl rfl)
  | [], _ :: _ => .inl rfl
  | _ :: _, [] => .inr (.inr rfl)
  | a :: x, b :: y => by
    simp only [Op.bytesLess, Bool.or_eq_true, decide_eq_true_eq, Bool.and_eq_true, beq_iff_eq, List.cons.injEq]
    rcases UInt8.lt_or_lt_of_ne (a := a) (b := b) |> fun h => (Classical.em (a = b)).elim (fun e => Or.inl e) (fun e => Or.inr (h e)) with h | h | h
    · subst h
      rcases bl_total x y with h | h | h
      · exact .inl (.inr ⟨rfl, h⟩)
      · exact .inr (.inl ⟨rfl, h⟩)
      · exact .inr (.inr (.inr ⟨rfl, h⟩))
    · exact .inl (.inl h)
    · exact .inr (.inr (.inl h))

def Asc (l : List Str) : Prop := l.Pairwise (fun a b => Op.bytesLess a b = true)

theorem idxFrom_split {p : Str} : ∀ {l : List Str} {i k : Nat}, idxFrom p l i = some k → ∃ a b, l = a ++ p :: b ∧ k = i + a.length ∧ p ∉ a
  | [], _, _, h => by simp [idxFrom] at h
  | x :: l, i, k, h => by
    rw [idxFrom] at h
    split at h
    · rename_i e; cases h; exact ⟨[], l, by simp [e], by simp, by simp⟩
    · rename_i e
      obtain ⟨a, b, rfl, rfl, h3⟩ := idxFrom_split h
      exact ⟨x :: a, b, rfl, by simp; omega, by simp [e, h3]⟩

theorem gtFrom_mid {p : Str} : ∀ (a b : List Str) (i : Nat), (∀ x ∈ a, Op.bytesLess x p = true) → (∀ x ∈ b, Op.bytesLess p x = true) → gtFrom p (a ++ b) i = i + a.length
  | [], [], i, _, _ => rfl
  | [], x :: b, i, _, h => by
    have hx := h x (by simp)
    have h1 : Op.bytesLess x p = false := by
      cases hc : Op.bytesLess x p with
      | false => rfl
      | true => have := bl_trans hx hc; rw [bl_irrefl] at this; cases this
    have h2 : (x == p) = false := by
      rw [beq_eq_false_iff_ne]; intro e; subst e; rw [bl_irrefl] at hx; cases hx
    simp only [List.nil_append]
    rw [gtFrom, if_pos (by rw [h1, h2]; rfl)]
    simp
  | x :: a, b, i, h, hb => by
    have hx := h x (by simp)
    simp only [List.cons_append]
    rw [gtFrom, if_neg (by rw [hx]; simp), gtFrom_mid a b (i + 1) (fun y hy => h y (by simp [hy])) hb]
    simp; omega

theorem insAt_delAt {α : Type} (l : List α) (k : Nat) (x : α) (h : l[k]? = some x) : insAt (delAt l k) k x = l := by
  have hk : k < l.length := by
    rcases Nat.lt_or_ge k l.length with h' | h'
    · exact h'
    · rw [List.getElem?_eq_none h'] at h; cases h
  have hl : (l.take k).length = k := by simp; omega
  unfold insAt delAt
  rw [List.take_left' hl, List.drop_left' hl, List.append_assoc, List.singleton_append]
  rw [List.getElem?_eq_getElem hk] at h
  have := Option.some.inj h
  subst this
  rw [← List.drop_eq_getElem_cons hk, List.take_append_drop]

theorem delAt_len {α : Type} (l : List α) (k : Nat) (h : k < l.length) : (delAt l k).length = l.length - 1 := by simp [delAt]; omega
theorem insAt_len {α : Type} (l : List α) (k : Nat) (x : α) (h : k ≤ l.length) : (insAt l k x).length = l.length + 1 := by simp [insAt]; omega

/-- a tree that is right, so many within each other at most, no node of more than three -/
def Rt : Nat → DNode → Prop
  | 0, t => t.kids = [] ∧ t.keys = []
  | d + 1, t => (t.kind = 5 → t.keys.length = t.kids.length ∧ Asc t.keys) ∧ t.kids.length ≤ 3 ∧ t.keys.length ≤ 3 ∧ ∀ x ∈ t.kids, Rt d x

theorem Rt.map : ∀ {d : Nat} {t : DNode}, Rt d t → t.kind = 5 → t.keys.length = t.kids.length ∧ Asc t.keys
  | 0, t, h, _ => by rw [h.1, h.2]; exact ⟨rfl, List.Pairwise.nil⟩
  | _ + 1, _, h, h5 => h.1 h5

theorem Rt.kid : ∀ {d : Nat} {t : DNode}, Rt d t → ∀ {x : DNode}, x ∈ t.kids → ∃ e, d = e + 1 ∧ Rt e x
  | 0, t, h, x, hx => by rw [h.1] at hx; simp at hx
  | d + 1, _, h, x, hx => ⟨d, rfl, h.2.2.2 x hx⟩

theorem Rt.sm : ∀ {d : Nat} {t : DNode}, Rt d t → Sm 3 t
  | 0, t, h => .mk t (by rw [h.2]; simp) (by rw [h.1]; simp) (by rw [h.1]; simp)
  | d + 1, t, h => .mk t h.2.2.1 h.2.1 (fun x hx => Rt.sm (h.2.2.2 x hx))

theorem Rt.up : ∀ {d : Nat} {t : DNode}, Rt d t → Rt (d + 1) t
  | 0, t, h => ⟨fun _ => by rw [h.1, h.2]; exact ⟨rfl, List.Pairwise.nil⟩, by rw [h.1]; simp, by rw [h.2]; simp, by rw [h.1]; simp⟩
  | d + 1, t, h => ⟨h.1, h.2.1, h.2.2.1, fun x hx => Rt.up (h.2.2.2 x hx)⟩

/-- a Key taken out and set again -/
theorem set_unset {t : DNode} {p : Str} {k : Nat} (h5 : t.kind = 5) (hl : t.keys.length = t.kids.length) (ha : Asc t.keys) (hk : idxFrom p t.keys 0 = some k) {x : DNode} (hx : t.kids[k]? = some x) :
    isMapF (unsetF t p) = true ∧ setF (unsetF t p) p x = t := by
  have hm : isMapF t = true := by simp [isMapF, h5, hl]
  have hlt := (idxFrom_le hk).2
  have hu : unsetF t p = ⟨t.kind, t.n, t.s, delAt t.keys k, delAt t.kids k⟩ := by unfold unsetF; rw [if_pos hm, hk]
  have hm2 : isMapF (unsetF t p) = true := by
    rw [hu]; simp [isMapF, h5]; rw [delAt_len _ _ (by omega), delAt_len _ _ (by omega), hl]
  refine ⟨hm2, ?_⟩
  obtain ⟨a, b, e1, e2, e3⟩ := idxFrom_split hk
  rw [Nat.zero_add] at e2
  have ha' := ha
  unfold Asc at ha'
  rw [e1, List.pairwise_append, List.pairwise_cons] at ha'
  have hA : ∀ y ∈ a, Op.bytesLess y p = true := fun y hy => ha'.2.2 y hy p (by simp)
  have hB : ∀ y ∈ b, Op.bytesLess p y = true := ha'.2.1.1
  have hd : delAt t.keys k = a ++ b := by
    unfold delAt
    rw [e1, e2, List.take_left' rfl, show a ++ p :: b = (a ++ [p]) ++ b by simp, List.drop_left' (by simp)]
  have hnone : idxFrom p (delAt t.keys k) 0 = none := by
    rw [idxFrom_none, hd]
    simp only [List.mem_append, not_or]
    refine ⟨e3, fun hb => ?_⟩
    have := hB p hb
    rw [bl_irrefl] at this; cases this
  have hg : gtFrom p (delAt t.keys k) 0 = k := by rw [hd, gtFrom_mid a b 0 hA hB, e2]; omega
  unfold setF
  rw [if_pos hm2]
  rw [hu]
  simp only [hnone, hg]
  have hkk : t.keys[k]? = some p := by have := idxFrom_get hk; simpa using this
  rw [insAt_delAt _ _ _ hkk, insAt_delAt _ _ _ hx]
  cases t; rfl

/-- what is cut out and put there again -/
theorem cut_put : ∀ (ps : List Str) {d : Nat} {t x : DNode}, Rt d t → ps ≠ [] → atF t ps = some x → ∃ c, within cutL1 t ps = some c ∧ within (putL1 x) c ps = some t
  | [], _, _, _, _, h, _ => absurd rfl h
  | [p], d, t, x, ht, _, hat => by
    rw [atF] at hat
    cases hk : kidF t p with
    | none => rw [hk] at hat; cases hat
    | some k =>
      rw [hk] at hat
      have hlt := kidF_lt hk
      simp only [atF, Option.some.injEq] at hat
      have hx : t.kids[k]? = some x := by rw [gdN hlt] at hat; rw [List.getElem?_eq_getElem hlt, hat]
      simp only [within]
      unfold cutL1
      rw [hk]
      simp only []
      have hk' := hk
      unfold kidF at hk'
      by_cases h5 : t.kind = 5
      · rw [if_pos h5] at hk' ⊢
        obtain ⟨hl, ha⟩ := ht.map h5
        have hi : idxFrom p t.keys 0 = some k := by
          split at hk'
          · split at hk'
            · cases hk'; assumption
            · cases hk'
          · cases hk'
        obtain ⟨h1, h2⟩ := set_unset h5 hl ha hi hx
        exact ⟨_, rfl, by unfold putL1; rw [if_pos h1, h2]⟩
      · rw [if_neg h5] at hk' ⊢
        split at hk'
        · rename_i h4
          obtain ⟨_, h6, h7⟩ := numFrom_some.1 hk'
          refine ⟨_, rfl, ?_⟩
          unfold putL1
          have hm : isMapF ⟨t.kind, t.n, t.s, t.keys, delAt t.kids k⟩ = false := by simp [isMapF, h5]
          rw [hm, if_neg (by simp)]
          simp only [h4, if_true]
          have hp : ¬ p = [45] := by
            intro e
            have := digN_digit k 45 (by rw [h7, e]; simp)
            simp at this
          rw [if_neg hp]
          have hn : numFrom p ((delAt t.kids k).length + 1) 0 = some k := numFrom_some.2 ⟨Nat.zero_le _, by rw [delAt_len _ _ hlt]; omega, h7⟩
          rw [hn]
          simp only [insAt_delAt _ _ _ hx]
          cases t; simp_all
        · cases hk'
  | p :: q :: ps, d, t, x, ht, _, hat => by
    rw [atF] at hat
    cases hk : kidF t p with
    | none => rw [hk] at hat; cases hat
    | some k =>
      rw [hk] at hat
      have hlt := kidF_lt hk
      simp only [] at hat
      have hm : t.kids.getD k zDNode ∈ t.kids := by rw [gdN hlt]; exact List.getElem_mem hlt
      obtain ⟨e, rfl, he⟩ := ht.kid hm
      obtain ⟨c, h1, h2⟩ := cut_put (q :: ps) he (by simp) hat
      refine ⟨⟨t.kind, t.n, t.s, t.keys, t.kids.set k c⟩, ?_, ?_⟩
      · rw [within, hk]; simp only [h1]
      · have hk2 : kidF ⟨t.kind, t.n, t.s, t.keys, t.kids.set k c⟩ p = some k := by
          rw [← hk]; unfold kidF; simp
        have hg : (t.kids.set k c).getD k zDNode = c := by rw [gdN (by simpa using hlt)]; simp
        rw [within, hk2]
        simp only [hg, h2]
        have : (t.kids.set k c).set k (t.kids.getD k zDNode) = t.kids := by
          rw [List.set_set, gdN hlt, List.set_getElem_self]
        rw [this]
        cases t; rfl

theorem cutL1_some {t : DNode} {p : Str} : (cutL1 t p).isSome = (kidF t p).isSome := by
  unfold cutL1
  cases kidF t p with
  | none => rfl
  | some k => simp only []; split <;> rfl

theorem unsetF_sm {B : Nat} {t : DNode} {p : Str} (h : Sm B t) : Sm B (unsetF t p) := by
  unfold unsetF
  split
  · split
    · rename_i k hk
      refine .mk _ ?_ ?_ ?_
      · have := h.keys; simp [delAt]; omega
      · have := h.len; simp [delAt]; omega
      · intro x hx
        simp only [delAt, List.mem_append] at hx
        rcases hx with hx | hx
        · exact h.kid (List.mem_of_mem_take hx)
        · exact h.kid (List.mem_of_mem_drop hx)
    · exact h
  · exact h

theorem cutL1_sm {B : Nat} {t c : DNode} {p : Str} (h : Sm B t) (hc : cutL1 t p = some c) : Sm B c := by
  unfold cutL1 at hc
  split at hc
  · cases hc
  · split at hc
    · cases hc; exact unsetF_sm h
    · cases hc
      refine .mk _ h.keys ?_ ?_
      · have := h.len; simp [delAt]; omega
      · intro x hx
        simp only [delAt, List.mem_append] at hx
        rcases hx with hx | hx
        · exact h.kid (List.mem_of_mem_take hx)
        · exact h.kid (List.mem_of_mem_drop hx)

theorem within_sm {B : Nat} {f : DNode → Str → Option DNode} (hf : ∀ t p c, Sm B t → f t p = some c → Sm B c) : ∀ (ps : List Str) {t c : DNode}, Sm B t → within f t ps = some c → Sm B c
  | [], _, _, _, h => by simp [within] at h
  | [p], t, c, ht, h => hf t p c ht (by simpa [within] using h)
  | p :: q :: ps, t, c, ht, h => by
    rw [within] at h
    cases hk : kidF t p with
    | none => rw [hk] at h; cases h
    | some k =>
      rw [hk] at h
      simp only [] at h
      cases hw : within f (t.kids.getD k zDNode) (q :: ps) with
      | none => rw [hw] at h; cases h
      | some y =>
        rw [hw] at h
        cases h
        have hy := within_sm hf (q :: ps) (ht.get (kidF_lt hk)) hw
        refine .mk _ ht.keys (by simpa using ht.len) (fun x hx => ?_)
        rcases List.mem_or_eq_of_mem_set hx with h1 | h1
        · exact ht.kid h1
        · subst h1; exact hy

theorem cutF_sm {B : Nat} {t c : DNode} {ps : List Str} (h : Sm B t) (hc : cutF t ps = some c) : Sm B c := within_sm (fun _ _ _ => cutL1_sm) ps h hc

/-- what a change makes of a tree -/
noncomputable def patchedF (t : DNode) (p : DPatchOp) : Option DNode :=
  if p.kind = 1 then putF t p.path p.x
  else if p.kind = 2 then cutF t p.path
  else if p.kind = 3 then (if p.path = [] then some p.x else match cutF t p.path with
    | none => none
    | some c => putF c p.path p.x)
  else if p.kind = 4 then (match atF t p.path with
    | some y => if same y p.x = true then some t else none
    | none => none)
  else match atF t p.from_ with
    | none => none
    | some y => if p.kind = 5 then (match cutF t p.from_ with
        | none => none
        | some c => if p.from_.length < p.path.length ∧ p.path.take p.from_.length = p.from_ then none else putF c p.path y)
      else if p.kind = 6 then putF t p.path y else none

theorem bind_else {α : Type} (t : DNode) (o : Option DNode) (f : DNode × Bool × Unit → Option α) : (some (orElse t o) : Option (DNode × Bool × Unit)).bind f = match o with
    | some y => f (y, true, ())
    | none => f (t, false, ()) := by cases o <;> rfl
theorem bind_at {α : Type} (o : Option DNode) (f : DNode × Bool × Unit → Option α) : (some (resAt o) : Option (DNode × Bool × Unit)).bind f = match o with
    | some y => f (y, true, ())
    | none => f (⟨0, 0, [], [], []⟩, false, ()) := by cases o <;> rfl

section
variable {O : Orc E} (hO : Fix O)
include hO

/-- what 'patched' hands back: the tree where it is done, else something and false -/
theorem impl_patched (t : DNode) (p : DPatchOp) (h : Sm BB t) (hx : Sm BB p.x) (h1 : p.path.length ≤ maxI) (h2 : p.from_.length ≤ maxI) :
    ∃ z, k_impl_patched O t p = some (match patchedF t p with | some y => (y, true, ()) | none => (z, false, ())) := by
  rw [e_impl_patched O hO]
  unfold patchedF
  simp only [DNode.cp_eq]
  by_cases k1 : p.kind = 1
  · rw [if_pos (by simp [k1]), if_pos k1, impl_PutPtr hO t p.path p.x h hx h1]
    cases putF t p.path p.x with
    | none => exact ⟨t, rfl⟩
    | some y => exact ⟨t, rfl⟩
  · rw [if_neg (by simpa using k1), if_neg k1]
    by_cases k2 : p.kind = 2
    · rw [if_pos (by simp [k2]), if_pos k2, impl_CutPtr hO t p.path h h1]
      cases cutF t p.path with
      | none => exact ⟨t, rfl⟩
      | some y => exact ⟨t, rfl⟩
    · rw [if_neg (by simpa using k2), if_neg k2]
      by_cases k3 : p.kind = 3
      · rw [if_pos (by simp [k3]), if_pos k3]
        by_cases hp : p.path = []
        · rw [if_pos (by simp [hp]), if_pos hp, impl_copyTree hO p.x hx]
          exact ⟨t, rfl⟩
        · rw [if_neg (by simpa using hp), if_neg hp, impl_CutPtr hO t p.path h h1, bind_else]
          cases hc : cutF t p.path with
          | none => exact ⟨⟨0, 0, [], [], []⟩, rfl⟩
          | some c =>
            dsimp only
            rw [if_neg (by simp), impl_PutPtr hO c p.path p.x (cutF_sm h hc) hx h1, bind_else]
            cases putF c p.path p.x with
            | none => exact ⟨c, rfl⟩
            | some y => exact ⟨c, rfl⟩
      · rw [if_neg (by simpa using k3), if_neg k3]
        by_cases k4 : p.kind = 4
        · rw [if_pos (by simp [k4]), if_pos k4, impl_AtPtr hO t p.path h h1, bind_at]
          cases ha : atF t p.path with
          | none =>
            dsimp only
            rw [impl_copyTree hO t h]
            exact ⟨t, rfl⟩
          | some y =>
            dsimp only
            rw [impl_copyTree hO t h, Option.bind_some, if_pos rfl, impl_TreeSame hO y p.x (atF_sm h ha)]
            cases same y p.x
            · exact ⟨t, rfl⟩
            · exact ⟨t, rfl⟩
        · rw [if_neg (by simpa using k4), if_neg k4, impl_AtPtr hO t p.from_ h h2, bind_at]
          cases ha : atF t p.from_ with
          | none => exact ⟨⟨0, 0, [], [], []⟩, rfl⟩
          | some y =>
            have hy := atF_sm h ha
            dsimp only
            by_cases k5 : p.kind = 5
            · have e5 : (p.kind != 5) = false := by simp [k5]
              have e6 : (p.kind == 5) = true := by simp [k5]
              have c0 : ¬ (bif (!true) then true else (bif (p.kind != 5) then (p.kind != 6) else false)) = true := by rw [e5]; simp
              rw [if_neg c0, if_pos e6, if_pos k5, if_pos]
              · by_cases hl : p.from_.length < p.path.length
                · have e1 : decide ((p.path.length : Int) > (p.from_.length : Int)) = true := by simp only [decide_eq_true_eq]; omega
                  have e2 : ((p.path.take (p.from_.length : Int).toNat).drop (0 : Int).toNat) = p.path.take p.from_.length := by rw [Int.toNat_natCast]; rfl
                  rw [e1, if_pos rfl, e2, slEqual hO _ _ (by have : p.path.length ≤ 9223372036854775807 := h1; unfold maxI; simp; omega), Option.bind_some, impl_CutPtr hO t p.from_ h h2, bind_else]
                  cases hc : cutF t p.from_ with
                  | none => exact ⟨⟨0, 0, [], [], []⟩, by cases decide (List.take p.from_.length p.path = p.from_) <;> rfl⟩
                  | some c =>
                    dsimp only
                    by_cases hin : p.path.take p.from_.length = p.from_
                    · have cL : (bif (bif true then decide (List.take p.from_.length p.path = p.from_) else false) then true else (!true)) = true := by simp [hin]
                      rw [if_pos cL, if_pos (show p.from_.length < p.path.length ∧ List.take p.from_.length p.path = p.from_ from ⟨hl, hin⟩)]
                      exact ⟨⟨0, 0, [], [], []⟩, rfl⟩
                    · have cL : ¬ (bif (bif true then decide (List.take p.from_.length p.path = p.from_) else false) then true else (!true)) = true := by simp [hin]
                      rw [if_neg cL, if_neg (show ¬ (p.from_.length < p.path.length ∧ List.take p.from_.length p.path = p.from_) from fun hh => hin hh.2)]
                      rw [impl_PutPtr hO c p.path y (cutF_sm h hc) hy h1, bind_else]
                      cases putF c p.path y with
                      | none => exact ⟨c, rfl⟩
                      | some z => exact ⟨c, rfl⟩
                · have e1 : decide ((p.path.length : Int) > (p.from_.length : Int)) = false := by simp only [decide_eq_false_iff_not]; omega
                  rw [e1, if_neg (by simp), Option.bind_some, impl_CutPtr hO t p.from_ h h2, bind_else]
                  cases hc : cutF t p.from_ with
                  | none => exact ⟨⟨0, 0, [], [], []⟩, rfl⟩
                  | some c =>
                    dsimp only
                    have cL : ¬ (bif (bif false then false else false) then true else (!true)) = true := by simp
                    rw [if_neg cL, if_neg (show ¬ (p.from_.length < p.path.length ∧ List.take p.from_.length p.path = p.from_) from fun hh => hl hh.1)]
                    rw [impl_PutPtr hO c p.path y (cutF_sm h hc) hy h1, bind_else]
                    cases putF c p.path y with
                    | none => exact ⟨c, rfl⟩
                    | some z => exact ⟨c, rfl⟩
              · by_cases hl : p.from_.length < p.path.length
                · simp only [Bool.or_eq_true, Bool.and_eq_true, decide_eq_true_eq]; right; omega
                · have e1 : decide ((p.path.length : Int) > (p.from_.length : Int)) = false := by simp only [decide_eq_false_iff_not]; omega
                  rw [e1]; rfl
            · have e5 : (p.kind != 5) = true := by simp [k5]
              have e6 : (p.kind == 5) = false := by simp [k5]
              by_cases k6 : p.kind = 6
              · have e7 : (p.kind != 6) = false := by simp [k6]
                have c0 : ¬ (bif (!true) then true else (bif (p.kind != 5) then (p.kind != 6) else false)) = true := by rw [e5, e7]; simp
                rw [if_neg c0, if_neg (by rw [e6]; simp), if_neg k5, if_pos k6]
                rw [impl_PutPtr hO t p.path y h hy h1, bind_else]
                cases putF t p.path y with
                | none => exact ⟨t, rfl⟩
                | some z => exact ⟨t, rfl⟩
              · have e7 : (p.kind != 6) = true := by simp [k6]
                have c0 : (bif (!true) then true else (bif (p.kind != 5) then (p.kind != 6) else false)) = true := by rw [e5, e7]; rfl
                rw [if_pos c0, if_neg k5, if_neg k6]
                exact ⟨⟨0, 0, [], [], []⟩, rfl⟩

theorem impl_PatchOne (t : DNode) (p : DPatchOp) (h : Sm BB t) (hx : Sm BB p.x) (h1 : p.path.length ≤ maxI) (h2 : p.from_.length ≤ maxI) : k_impl_PatchOne O t p = some (orElse t (patchedF t p)) := by
  rw [e_impl_PatchOne O hO]
  simp only [DNode.cp_eq]
  obtain ⟨z, hz⟩ := impl_patched hO t p h hx h1 h2
  have e : (⟨p.kind, p.path, p.from_, p.x⟩ : DPatchOp) = p := rfl
  rw [e, hz, Option.bind_some]
  cases patchedF t p with
  | none => dsimp only; rw [if_pos (by simp), impl_copyTree hO t h]; rfl
  | some y => rfl

end
end Go.Proofs.Ytejfpemjmpoddaa.Vx
