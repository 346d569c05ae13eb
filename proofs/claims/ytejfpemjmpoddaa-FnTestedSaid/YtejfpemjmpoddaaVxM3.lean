/- The machine Vx, on: functions, loops, the least oracle, a universe's facts, what came in, plain words for loops. No conditions. -/
import Derived.Test.YtejfpemjmpoddaaVxM2
import Derived.Laws.StructEq
import Derived.ProofKit
import Derived.ChangeOld
import Derived.IntWalk
/-! States, told in other words: behind a region, in the plainest form, rows owned or read only. -/
namespace Go.Proofs.Ytejfpemjmpoddaa.Vx
open Go

section
variable {P : Program} {E : Env} {O : Orc E} {cx : Cx}
variable {S : Nat → Prop} {β : Nat → Value} {ω : Nat → List Nat} {D : Nat → Prop} {a : Act} {w : World} {t : List (Nat × V E.Ty)} {roots : List (Nat × RC E.Ty)} {gd : List (Nat × List (Nat × Bool))}

/-! behind a region -/

theorem ungd_find : ∀ (gd : List (Nat × List (Nat × Bool))) (t : List (Nat × V E.Ty)) (x : Nat) (v : V E.Ty), find (ungd t gd) x = some v → find t x = some v ∧ ∀ c, (x, c) ∈ gd → c = []
  | [], t, x, v, h => ⟨h, by simp⟩
  | (d, []) :: gd, t, x, v, h => by
    obtain ⟨h1, h2⟩ := ungd_find gd t x v h
    refine ⟨h1, fun c hc => ?_⟩
    rcases List.mem_cons.1 hc with h' | h'
    · cases h'; rfl
    · exact h2 c h'
  | (d, q :: l) :: gd, t, x, v, h => by
    obtain ⟨h1, h2⟩ := ungd_find gd (del t d) x v h
    by_cases hx : x = d
    · subst hx; rw [find_del_self] at h1; cases h1
    · rw [find_del_ne _ _ _ hx] at h1
      refine ⟨h1, fun c hc => ?_⟩
      rcases List.mem_cons.1 hc with h' | h'
      · cases h'; exact absurd rfl hx
      · exact h2 c h'

theorem chainOf_nil (x : Nat) : chainOf [] x = [] := rfl

theorem Rel.ungd (h : Rel E cx gd t roots S β ω D a w) : Rel E cx [] (Vx.ungd t gd) roots S β ω D a w := by
  have hch : ∀ x v, find (Vx.ungd t gd) x = some v → chainOf gd x = [] := by
    intro x v hf
    obtain ⟨_, h2⟩ := ungd_find gd t x v hf
    unfold chainOf
    cases hg : find gd x with
    | none => rfl
    | some c => exact h2 c (mem_of_find hg)
  refine ⟨h.mem, fun x v hx hf _ => h.tm x v hx (ungd_find gd t x v hf).1 (by rw [hch x v hf]; rfl), fun x v hx hf => h.pt x v hx (ungd_find gd t x v hf).1, fun x hc => ?_, fun x c hf => ?_, h.sz, h.df⟩
  · rw [chainOf_nil] at hc; cases hc
  · simp [find] at hf

/-! other names for roots -/

theorem idsL_mem : ∀ (cs : List (V E.Ty)) (i : Nat) (c : V E.Ty) (r : Nat), cs[i]? = some c → r ∈ c.ids → r ∈ V.idsL cs
  | [], i, c, r, h, _ => by simp at h
  | d :: cs, i, c, r, h, hr => by
    simp only [V.idsL, List.mem_append]
    cases i with
    | zero => simp at h; subst h; exact .inl hr
    | succ i => exact .inr (idsL_mem cs i c r (by simpa using h) hr)

theorem renL_map (f : Nat → Nat) : ∀ (cs : List (V E.Ty)), V.renL f cs = cs.map (V.ren f)
  | [] => rfl
  | c :: cs => by simp only [V.renL, List.map_cons, renL_map f cs]

mutual
theorem ren_id : ∀ (v : V E.Ty), v.ren (fun r => r) = v
  | .own r => rfl
  | .ptr r o => rfl
  | .eptr κ r i o => rfl
  | .fn g cs => by simp only [V.ren, renL_id cs]
  | .agg cs => by simp only [V.ren, renL_id cs]
  | .tup cs => by simp only [V.ren, renL_id cs]
  | .int _ _ => rfl
  | .bool _ => rfl
  | .str _ => rfl
  | .nl => rfl
  | .sl _ _ => rfl
  | .rptr _ _ _ => rfl
  | .any => rfl
theorem renL_id : ∀ (cs : List (V E.Ty)), V.renL (fun r => r) cs = cs
  | [] => rfl
  | c :: cs => by simp only [V.renL, ren_id c, renL_id cs]
end

theorem RV.ren (hG : Good E) {f : Nat → Nat} {β' : Nat → Value} {D' : Nat → Prop} {ids : List Nat} (hf : ∀ r ∈ ids, β' (f r) = β r ∧ D' (f r)) {v : V E.Ty} {cv : Value} (h : RV E w S β D v cv) :
    (∀ r ∈ v.ids, r ∈ ids) → RV E w S β' D' (v.ren f) cv := by
  induction h with
  | int k x => exact fun _ => .int k x
  | bool b => exact fun _ => .bool b
  | str s => exact fun _ => .str s
  | nl A => exact fun _ => .nl A
  | slE κ A c => exact fun _ => .slE κ A c
  | sl κ xs b o c F hc hS h1 h2 _ => exact fun _ => .sl κ xs b o c F hc hS h1 (fun i x hx j cv hj => (h2 i x hx j cv hj).free hG (hG.cell κ x cv (List.mem_of_getElem? hj)).free _ _)
  | own r A m c h e =>
    intro hv
    obtain ⟨k1, k2⟩ := hf r (hv r (by simp [V.ids]))
    exact .own _ A m c k2 (k1.trans e)
  | ptr r off b h e =>
    intro hv
    obtain ⟨k1, k2⟩ := hf r (hv r (by simp [V.ids]))
    exact .ptr _ off b k2 (k1.trans e)
  | eptr κ r i off b o m c h e =>
    intro hv
    obtain ⟨k1, k2⟩ := hf r (hv r (by simp [V.ids]))
    exact .eptr κ _ i off b o m c k2 (k1.trans e)
  | rptr κ x off b o F hS h1 h2 _ => exact fun _ => .rptr κ x off b o F hS h1 (fun j cv hj => (h2 j cv hj).free hG (hG.cell κ x cv (List.mem_of_getElem? hj)).free _ _)
  | fn g cs vs hl h ih =>
    intro hv
    simp only [V.ren, renL_map]
    refine .fn g _ vs (by simp [hl]) (fun i c hi => ?_)
    rw [List.getElem?_map] at hi
    cases hc : cs[i]? with
    | none => rw [hc] at hi; simp at hi
    | some c0 =>
      rw [hc] at hi; simp at hi; subst hi
      exact ih i c0 hc (fun r hr => hv r (by simp only [V.ids]; exact idsL_mem cs i c0 r hc hr))
  | agg cs vs hl h ih =>
    intro hv
    simp only [V.ren, renL_map]
    refine .agg _ vs (by simp [hl]) (fun i c hi => ?_)
    rw [List.getElem?_map] at hi
    cases hc : cs[i]? with
    | none => rw [hc] at hi; simp at hi
    | some c0 =>
      rw [hc] at hi; simp at hi; subst hi
      exact ih i c0 hc (fun r hr => hv r (by simp only [V.ids]; exact idsL_mem cs i c0 r hc hr))
  | tup cs vs hl h ih =>
    intro hv
    simp only [V.ren, renL_map]
    refine .tup _ vs (by simp [hl]) (fun i c hi => ?_)
    rw [List.getElem?_map] at hi
    cases hc : cs[i]? with
    | none => rw [hc] at hi; simp at hi
    | some c0 =>
      rw [hc] at hi; simp at hi; subst hi
      exact ih i c0 hc (fun r hr => hv r (by simp only [V.ids]; exact idsL_mem cs i c0 r hc hr))
  | any v => exact fun _ => .any v

theorem idx_lt : ∀ (l : List Nat) (r : Nat), r ∈ l → idx l r < l.length ∧ l.getD (idx l r) 0 = r
  | [], r, h => by simp at h
  | x :: l, r, h => by
    simp only [idx]
    cases hb : Nat.beq x r with
    | true => have := Nat.eq_of_beq_eq_true hb; subst this; simp
    | false =>
      have hne : r ≠ x := fun e => by subst e; simp at hb
      rcases List.mem_cons.1 h with h' | h'
      · exact absurd h' hne
      · obtain ⟨h1, h2⟩ := idx_lt l r h'
        refine ⟨by simp; omega, by simpa using h2⟩

theorem BR.ren (hG : Good E) {f : Nat → Nat} {β' : Nat → Value} {D' : Nat → Prop} {ids : List Nat} (hf : ∀ r ∈ ids, β' (f r) = β r ∧ D' (f r)) {cs : List (V E.Ty)} {b : Nat} (h : BR E w S β D cs b)
    (hi : ∀ r ∈ V.idsL cs, r ∈ ids) : BR E w S β' D' (V.renL f cs) b := by
  obtain ⟨arr, e, h1, h2, h3⟩ := h
  refine ⟨arr, e, h1, by simp [renL_map, h2], fun j c hj => ?_⟩
  rw [renL_map, List.getElem?_map] at hj
  cases hc : cs[j]? with
  | none => rw [hc] at hj; simp at hj
  | some c0 =>
    rw [hc] at hj; simp at hj; subst hj
    exact (h3 j c0 hc).ren hG hf (fun r hr => hi r (idsL_mem cs j c0 r hc hr))

theorem RootOk.ren (hG : Good E) {f : Nat → Nat} {β' : Nat → Value} {D' : Nat → Prop} {ids : List Nat} (hf : ∀ r ∈ ids, β' (f r) = β r ∧ D' (f r)) {v : Value} {ob : List Nat} {rc : RC E.Ty} (h : RootOk E w S β D v ob rc)
    (hi : ∀ r ∈ rc.ids, r ∈ ids) : RootOk E w S β' D' v ob (rc.ren f) := by
  cases rc with
  | box t cs =>
    obtain ⟨b, h1, h2, h3⟩ := h
    exact ⟨b, h1, h2, h3.ren hG hf hi⟩
  | bfz t cs =>
    obtain ⟨h1, b, h2, h3, h4⟩ := h
    exact ⟨h1, b, h2, h3, h4.ren hG hf hi⟩
  | arr κ xs => exact OR.free hG h _ _
  | fz κ xs => exact ⟨h.1, h.2.free hG (.sl _ _) _ _⟩

theorem keep_find : ∀ (need : List Nat) (t : List (Nat × V E.Ty)) (x : Nat) (v : V E.Ty), (x, v) ∈ keep need t → find t x = some v
  | [], t, x, v, h => by simp [keep] at h
  | i :: is, t, x, v, h => by
    simp only [keep] at h
    cases hf : find t i with
    | none => rw [hf] at h; exact keep_find is t x v h
    | some u =>
      rw [hf] at h
      rcases List.mem_cons.1 h with h' | h'
      · cases h'; exact hf
      · exact keep_find is t x v h'

theorem idsT_mem : ∀ (t : List (Nat × V E.Ty)) (x : Nat) (v : V E.Ty) (r : Nat), (x, v) ∈ t → r ∈ v.ids → r ∈ idsT t
  | [], x, v, r, h, _ => by simp at h
  | (y, u) :: t, x, v, r, h, hr => by
    simp only [idsT, List.mem_append]
    rcases List.mem_cons.1 h with h' | h'
    · cases h'; exact .inl hr
    · exact .inr (idsT_mem t x v r h' hr)

theorem idsR_mem : ∀ (t : List (Nat × RC E.Ty)) (x : Nat) (v : RC E.Ty) (r : Nat), (x, v) ∈ t → r ∈ v.ids → r ∈ idsR t
  | [], x, v, r, h, _ => by simp at h
  | (y, u) :: t, x, v, r, h, hr => by
    simp only [idsR, List.mem_append]
    rcases List.mem_cons.1 h with h' | h'
    · cases h'; exact .inl hr
    · exact .inr (idsR_mem t x v r h' hr)

theorem renT_mem (f : Nat → Nat) : ∀ (t : List (Nat × V E.Ty)) (x : Nat) (v : V E.Ty), (x, v) ∈ renT f t → ∃ u, (x, u) ∈ t ∧ v = u.ren f
  | [], x, v, h => by simp [renT] at h
  | (y, u) :: t, x, v, h => by
    simp only [renT] at h
    rcases List.mem_cons.1 h with h' | h'
    · cases h'; exact ⟨u, by simp, rfl⟩
    · obtain ⟨u', h1, h2⟩ := renT_mem f t x v h'
      exact ⟨u', by simp [h1], h2⟩

theorem renR_mem (f : Nat → Nat) (roots : List (Nat × RC E.Ty)) : ∀ (l : List Nat) (x : Nat) (rc : RC E.Ty), (x, rc) ∈ renR f roots l → ∃ r rc0, r ∈ l ∧ find roots r = some rc0 ∧ x = f r ∧ rc = rc0.ren f
  | [], x, rc, h => by simp [renR] at h
  | r :: l, x, rc, h => by
    simp only [renR] at h
    cases hf : find roots r with
    | none =>
      rw [hf] at h
      obtain ⟨r', rc0, h1, h2⟩ := renR_mem f roots l x rc h
      exact ⟨r', rc0, by simp [h1], h2⟩
    | some rc0 =>
      rw [hf] at h
      rcases List.mem_cons.1 h with h' | h'
      · cases h'; exact ⟨r, rc0, by simp, hf, rfl, rfl⟩
      · obtain ⟨r', rc1, h1, h2⟩ := renR_mem f roots l x rc h'
        exact ⟨r', rc1, by simp [h1], h2⟩

theorem renR_of (f : Nat → Nat) (roots : List (Nat × RC E.Ty)) : ∀ (l : List Nat) (r : Nat) (rc0 : RC E.Ty), r ∈ l → find roots r = some rc0 → (f r, rc0.ren f) ∈ renR f roots l
  | [], r, rc0, h, _ => by simp at h
  | x :: l, r, rc0, h, hf => by
    simp only [renR]
    rcases List.mem_cons.1 h with h' | h'
    · subst h'; rw [hf]; simp
    · have := renR_of f roots l r rc0 h' hf
      cases find roots x with
      | none => exact this
      | some rc => exact List.mem_cons_of_mem _ this

theorem rcren_ids (rc : RC E.Ty) : (rc.ren (fun r => r)).ids = rc.ids := by
  cases rc <;> simp [RC.ren, RC.ids, renL_id]

theorem canon_ok (hG : Good E) {st st' : St E.Ty} {need : List Nat} (h : Rel E cx [] st.t st.roots S β ω D a w) (hc : st.canon need = some st') :
    ∃ β' ω', Rel E cx [] st'.t st'.roots S β' ω' (fun x => x < st'.nx) a w := by
  unfold St.canon at hc
  simp only [] at hc
  generalize hids : reach st.roots 1000 (idsT (keep need st.t)) [] = ids at hc
  split at hc
  case h_2 => cases hc
  rename_i hsub
  simp only [Option.some.injEq] at hc
  subst hc
  simp only [Bool.and_eq_true] at hsub
  have h1 := sub_ok hsub.1
  have h2 := sub_ok hsub.2
  refine ⟨fun k => β (ids.getD k 0), fun k => ω (ids.getD k 0), ?_⟩
  have hf : ∀ r ∈ ids, (fun k => β (ids.getD k 0)) (idx ids r) = β r ∧ (fun x => x < ids.length) (idx ids r) := fun r hr => by
    obtain ⟨k1, k2⟩ := idx_lt ids r hr
    exact ⟨by show β (ids.getD (idx ids r) 0) = β r; rw [k2], k1⟩
  have hrc : ∀ r rc, r ∈ ids → find st.roots r = some rc → ∀ x ∈ rc.ids, x ∈ ids := fun r rc hr hfd x hx => by
    have := renR_of (fun r => r) st.roots ids r rc hr hfd
    exact h2 x (idsR_mem _ _ _ x this (by rw [rcren_ids]; exact hx))
  have hroot : ∀ k rc, find (renR (idx ids) st.roots ids) k = some rc → ∃ r rc0, r ∈ ids ∧ find st.roots r = some rc0 ∧ k = idx ids r ∧ rc = rc0.ren (idx ids) ∧ ids.getD k 0 = r := fun k rc hk => by
    obtain ⟨r, rc0, k1, k2, k3, k4⟩ := renR_mem _ _ _ _ _ (mem_of_find hk)
    exact ⟨r, rc0, k1, k2, k3, k4, by rw [k3]; exact (idx_lt ids r k1).2⟩
  have hm := h.mem
  refine ⟨⟨?_, ?_, ?_, ?_, hm.sb, hm.sn, hm.fr, hm.sz, hm.os, hm.tape, hm.out, hm.up⟩, ?_, ?_, fun x hc => ?_, fun x c hf => ?_, h.sz, h.df⟩
  · intro k rc hk
    obtain ⟨r, rc0, k1, _, k3, _⟩ := hroot k rc hk
    rw [k3]; exact (idx_lt ids r k1).1
  · intro k rc hk
    obtain ⟨r, rc0, k1, k2, k3, k4, k5⟩ := hroot k rc hk
    simp only [k5]
    rw [k4]
    exact (hm.ok r rc0 k2).ren hG hf (hrc r rc0 k1 k2)
  · intro k k' rc rc' hk hk' hne b hb hb'
    obtain ⟨r, rc0, k1, k2, k3, k4, k5⟩ := hroot k rc hk
    obtain ⟨r', rc0', k1', k2', k3', k4', k5'⟩ := hroot k' rc' hk'
    simp only [k5, k5'] at hb hb'
    exact hm.dis r r' rc0 rc0' k2 k2' (fun e => hne (by rw [k3, k3', e])) b hb hb'
  · intro k rc hk b hb
    obtain ⟨r, rc0, k1, k2, k3, k4, k5⟩ := hroot k rc hk
    simp only [k5] at hb
    exact hm.ob r rc0 k2 b hb
  · intro x v hx hfd _
    obtain ⟨u, hu, rfl⟩ := renT_mem _ _ _ _ (mem_of_find hfd)
    exact (h.tm x u hx (keep_find _ _ _ _ hu) rfl).ren hG hf (fun r hr => h1 r (idsT_mem _ _ _ r hu hr))
  · intro x v hx hfd
    obtain ⟨u, hu, rfl⟩ := renT_mem _ _ _ _ (mem_of_find hfd)
    exact (h.pt x u hx (keep_find _ _ _ _ hu)).ren hG hf (fun r hr => h1 r (idsT_mem _ _ _ r hu hr))
  · rw [chainOf_nil] at hc; cases hc
  · simp [find] at hf

end

end Go.Proofs.Ytejfpemjmpoddaa.Vx
/-! States, told in other words, on: rows owned or read only at a loop's head. -/
namespace Go.Proofs.Ytejfpemjmpoddaa.Vx
open Go

section
variable {P : Program} {E : Env} {O : Orc E} {cx : Cx}
variable {S : Nat → Prop} {β : Nat → Value} {ω : Nat → List Nat} {D : Nat → Prop} {a : Act} {w : World} {t : List (Nat × V E.Ty)} {roots : List (Nat × RC E.Ty)} {nx : Nat}

/-- an effect that only tells otherwise -/
theorem Rel.tell {e : Eff E} {S' : Nat → Prop} {β' : Nat → Value} {ω' : Nat → List Nat} (h : Rel E cx [] t roots S β ω D a w) (hd : Done E w S β ω D roots nx e S' β' ω' w) (hv : e.val = .any) {roots' : List (Nat × RC E.Ty)} {D' : Nat → Prop}
    (hr : ∀ x, find roots' x = find (effR nx roots e) x) (hD : ∀ x, Grown D nx e.new.length x ↔ D' x) : Rel E cx [] t roots' S' β' ω' D' a w := by
  have h1 := h.step (dst := none) (ch := []) (v := undef) hd (by intro d h; cases h) (fun _ => by rw [hv]; exact .any _) (fun hc => by cases hc)
  exact h1.congr (fun _ => rfl) (fun _ => rfl) hr hD

theorem find_eff0 (roots : List (Nat × RC E.Ty)) (nx : Nat) (wr : List (Nat × RC E.Ty)) (new : List (RC E.Ty)) (frz : List Nat) (hnd : (wr.map (·.1)).Nodup) (x : Nat) :
    find (effR nx roots (⟨.any, wr, new, [], frz⟩ : Eff E)) x = match find wr x with
      | some rc => some rc
      | none => match (find roots x).map (fun rc => if x ∈ frz then frzOf rc else rc) with
        | some rc => some rc
        | none => if x < nx then none else new[x - nx]? := by
  unfold effR
  rw [find_append, find_putL _ _ hnd, find_frzR, find_delL, find_newL]
  simp only [List.not_mem_nil, if_false]
  cases find wr x with
  | some rc => rfl
  | none =>
    simp only []
    cases (find roots x).map (fun rc => if x ∈ frz then frzOf rc else rc) <;> rfl

/-- what a change of words keeps -/
structure Told (E : Env) (cx : Cx) (t : List (Nat × V E.Ty)) (roots : List (Nat × RC E.Ty)) (w : World) (S : Nat → Prop) (β : Nat → Value) (D : Nat → Prop) (a : Act) (roots' : List (Nat × RC E.Ty)) (D' : Nat → Prop) (v : V E.Ty) (cv : Value) : Prop where
  ex : ∃ S' β' ω', Rel E cx [] t roots' S' β' ω' D' a w ∧ RV E w S' β' D' v cv ∧ (∀ u cu, RV E w S β D u cu → RV E w S' β' D' u cu) ∧ (∀ r, D r → β' r = β r)
  box : ∀ r t cs, find roots r = some (.box t cs) → find roots' r = some (.box t cs)

theorem cvt_ok (hG : Good E) {st st' : St E.Ty} {own : Bool} {κ : Nat} {v u : V E.Ty} {cv : Value} (h : Rel E cx [] st.t st.roots S β ω (fun x => x < st.nx) a w) (hv : RV E w S β (fun x => x < st.nx) v cv)
    (hc : cvt st own κ v = some (u, st')) : st'.t = st.t ∧ Told E cx st.t st.roots w S β (fun x => x < st.nx) a st'.roots (fun x => x < st'.nx) u cv := by
  unfold cvt at hc
  have hm := h.mem
  have hgr0 : ∀ x, Grown (fun x => x < st.nx) st.nx 0 x ↔ x < st.nx := fun x => by simp only [Grown]; omega
  split at hc
  · -- nothing to an owned row
    simp only [Option.some.injEq, Prod.mk.injEq] at hc
    obtain ⟨rfl, rfl⟩ := hc
    obtain ⟨A, rfl⟩ := hv.nl_inv
    refine ⟨rfl, ⟨?_, ?_⟩⟩
    · let β' : Nat → Value := fun x => if x = st.nx then .slice A 0 0 else β x
      let ω' : Nat → List Nat := fun x => if x = st.nx then [] else ω x
      have hβ : ∀ r, r < st.nx → β' r = β r := fun r hr => if_neg (by omega)
      have hd : Done E w S β ω (fun x => x < st.nx) st.roots st.nx ⟨.any, [], [.arr κ []], [], []⟩ S β' ω' w := {
        hs := fun _ h => h
        hn := fun b h => .inl h
        hb := hm.sb
        bt := hβ
        om := fun r hr => by
          have : ω' r = ω r := if_neg (by omega)
          simp [this]
        heap := fun _ _ _ _ => rfl
        sz := Nat.le_refl _
        os := rfl
        tape := rfl
        out := rfl
        wr := fun _ _ h => by simp at h
        kl := fun _ h => by simp at h
        new := fun i rc hi => by
          have h0 : i = 0 := by have := lt_of_getElem? hi; simpa using this
          subst h0
          simp at hi; subst hi
          refine .inl ⟨rfl, ?_, A, ?_⟩
          · show ω' (st.nx + 0) = []
            exact if_pos rfl
          · show β' (st.nx + 0) = _
            exact if_pos rfl
        newb := fun i hi b hb => by
          have h0 : i = 0 := by simpa using hi
          subst h0
          have : ω' (st.nx + 0) = [] := if_pos rfl
          rw [this] at hb; simp at hb
        newd := fun i j hi hj hij => by simp at hi hj; omega
        frz := fun _ h => by simp at h
        d1 := fun _ h => by simp at h
        d2 := fun _ h => by simp at h
        d3 := fun _ h => by simp at h
        nd := by simp }
      have hD : ∀ x, Grown (fun x => x < st.nx) st.nx 1 x ↔ x < st.nx + 1 := fun x => by simp only [Grown]; omega
      refine ⟨S, β', ω', h.tell hd rfl (fun x => ?_) hD, ?_, fun u cu hu => ?_, hβ⟩
      · rw [find_eff0 _ _ _ _ _ (by simp), find_append]
        simp only [find, List.not_mem_nil, if_false, Option.map_id']
        cases hf : find st.roots x with
        | some rc => rfl
        | none =>
          simp only []
          by_cases hx : st.nx = x
          · subst hx; simp
          · have : Nat.beq st.nx x = false := by
              cases hb : Nat.beq st.nx x with
              | false => rfl
              | true => exact absurd (Nat.eq_of_beq_eq_true hb) hx
            rw [this]
            by_cases hlt : x < st.nx
            · simp [hlt]
            · simp only [hlt, if_false]
              have : x - st.nx = (x - st.nx - 1) + 1 := by omega
              rw [this]; simp
      · exact .own _ A 0 0 (by show st.nx < st.nx + 1; omega) (if_pos rfl)
      · exact hu.mono (fun _ _ => rfl) (fun _ h => h) (fun r hr => by have hr : r < st.nx := hr; show r < st.nx + 1; omega) hβ
    · intro r t cs hr
      rw [find_append, hr]
  · simp only [Option.some.injEq, Prod.mk.injEq] at hc
    obtain ⟨rfl, rfl⟩ := hc
    exact ⟨rfl, ⟨⟨S, β, ω, h, hv, fun _ _ h => h, fun _ _ => rfl⟩, fun _ _ _ h => h⟩⟩
  · simp only [Option.some.injEq, Prod.mk.injEq] at hc
    obtain ⟨rfl, rfl⟩ := hc
    obtain ⟨A, rfl⟩ := hv.nl_inv
    exact ⟨rfl, ⟨⟨S, β, ω, h, .slE κ A 0, fun _ _ h => h, fun _ _ => rfl⟩, fun _ _ _ h => h⟩⟩
  · simp only [Option.some.injEq, Prod.mk.injEq] at hc
    obtain ⟨rfl, rfl⟩ := hc
    exact ⟨rfl, ⟨⟨S, β, ω, h, hv, fun _ _ h => h, fun _ _ => rfl⟩, fun _ _ _ h => h⟩⟩
  · rename_i r
    split at hc
    · rename_i κ' xs hf
      simp only [Option.some.injEq, Prod.mk.injEq] at hc
      obtain ⟨rfl, rfl⟩ := hc
      have hd := Done.freeze (nx := st.nx) hG hm (.any) [r] (fun r' hr' => by simp at hr'; subst hr'; exact ⟨_, hf⟩)
      obtain ⟨hcv, hr⟩ := hv.own_inv
      refine ⟨rfl, ⟨⟨_, β, _, h.tell hd rfl (fun x => ?_) hgr0, ?_, fun u cu hu => hu.more (fun b hb => .inl hb), fun _ _ => rfl⟩, fun r' t cs hr' => ?_⟩⟩
      · rw [find_eff0 _ _ _ _ _ (by simp), find_put]
        simp only [find]
        by_cases hx : x = r
        · subst hx
          simp [hf, frzOf]
        · simp only [hx, if_false, List.mem_singleton]
          cases find st.roots x with
          | some rc => rfl
          | none => simp only [Option.map_none]; split <;> first | rfl | simp
      · have hok := hm.ok r _ hf
        rw [hcv]
        exact OR.froze hok (fun b hb => .inl hb) (fun b hb => .inr ⟨r, by simp, hb⟩) (fun i x _ => hG.len κ' x)
      · have hne : r' ≠ r := fun e => by subst e; rw [hf] at hr'; cases hr'
        rw [find_put_ne _ _ _ _ hne]; exact hr'
    · rename_i κ' xs hf
      simp only [Option.some.injEq, Prod.mk.injEq] at hc
      obtain ⟨rfl, rfl⟩ := hc
      obtain ⟨hcv, hr⟩ := hv.own_inv
      have hok := hm.ok r _ hf
      exact ⟨rfl, ⟨⟨S, β, ω, h, by rw [hcv]; exact hok.2, fun _ _ h => h, fun _ _ => rfl⟩, fun _ _ _ h => h⟩⟩
    · cases hc
  · cases hc

/-- a temporary told otherwise -/
theorem Rel.putT (h : Rel E cx [] t roots S β ω D a w) {k : Nat} {u v : V E.Ty} (hf : find t k = some v) (hu : ∀ cv, RV E w S β D v cv → RV E w S β D u cv) : Rel E cx [] (put t k u) roots S β ω D a w := by
  refine ⟨h.mem, fun x v' hx hfd _ => ?_, fun x v' hx hfd => ?_, fun x hc => ?_, h.gdn, h.sz, h.df⟩
  · rw [find_put] at hfd
    by_cases hxk : x = k
    · subst hxk
      rw [if_pos rfl] at hfd; cases hfd
      exact hu _ (h.tm x v hx hf rfl)
    · rw [if_neg hxk] at hfd
      exact h.tm x v' hx hfd rfl
  · rw [find_put] at hfd
    by_cases hxk : x = k
    · subst hxk
      rw [if_pos rfl] at hfd; cases hfd
      exact hu _ (h.pt x v hx hf)
    · rw [if_neg hxk] at hfd
      exact h.pt x v' hx hfd
  · rw [chainOf_nil] at hc; cases hc

/-- a variable told otherwise -/
theorem Rel.putR (h : Rel E cx [] t roots S β ω D a w) {r ty : Nat} {cs ds : List (V E.Ty)} (hf : find roots r = some (.box ty cs)) (hu : ∀ b, BR E w S β D cs b → BR E w S β D ds b) : Rel E cx [] t (put roots r (.box ty ds)) S β ω D a w := by
  have hm := h.mem
  have key : ∀ x rc, find (put roots r (.box ty ds)) x = some rc → ∃ rc0, find roots x = some rc0 ∧ ∀ ob, RootOk E w S β D (β x) ob rc0 → RootOk E w S β D (β x) ob rc := by
    intro x rc hx
    rw [find_put] at hx
    by_cases hxr : x = r
    · subst hxr
      rw [if_pos rfl] at hx; cases hx
      exact ⟨_, hf, fun ob hok => by obtain ⟨b, h1, h2, h3⟩ := hok; exact ⟨b, h1, h2, hu b h3⟩⟩
    · rw [if_neg hxr] at hx
      exact ⟨rc, hx, fun ob hok => hok⟩
  refine ⟨⟨fun x rc hx => ?_, fun x rc hx => ?_, fun x x' rc rc' hx hx' hne => ?_, fun x rc hx => ?_, hm.sb, hm.sn, hm.fr, hm.sz, hm.os, hm.tape, hm.out, hm.up⟩, h.tm, h.pt, h.gdo, h.gdn, h.sz, h.df⟩
  · obtain ⟨rc0, h0, _⟩ := key x rc hx
    exact hm.lt x rc0 h0
  · obtain ⟨rc0, h0, h1⟩ := key x rc hx
    exact h1 _ (hm.ok x rc0 h0)
  · obtain ⟨rc0, h0, _⟩ := key x rc hx
    obtain ⟨rc1, h1, _⟩ := key x' rc' hx'
    exact hm.dis x x' rc0 rc1 h0 h1 hne
  · obtain ⟨rc0, h0, _⟩ := key x rc hx
    exact hm.ob x rc0 h0

/-- what the head of a loop tells otherwise -/
def SetOk (E : Env) (cx : Cx) (a : Act) (w : World) (st st' : St E.Ty) : Prop := ∀ (S : Nat → Prop) (β : Nat → Value) (ω : Nat → List Nat), Rel E cx [] st.t st.roots S β ω (fun x => x < st.nx) a w →
  ∃ S' β' ω', Rel E cx [] st'.t st'.roots S' β' ω' (fun x => x < st'.nx) a w

theorem tval (h : Rel E cx [] t roots S β ω D a w) {k : Nat} {v : V E.Ty} (hf : find t k = some v) : ∃ cv, RV E w S β D v cv := by
  by_cases hk : k < cx.n
  · exact ⟨_, h.tm k v hk hf rfl⟩
  · exact ⟨_, h.pt k v (by omega) hf⟩

theorem cvt1_ok (hG : Good E) {st st' : St E.Ty} {k : Nat} {q : Option Nat × Bool × Nat} (hc : cvt1 st k q = some st') : SetOk E cx a w st st' := by
  intro S β ω h
  obtain ⟨q1, own, κ⟩ := q
  cases q1 with
  | none =>
    simp only [cvt1] at hc
    cases hf : find st.t k with
    | none => simp [hf] at hc
    | some v =>
      simp only [hf] at hc
      cases hcv : cvt st own κ v with
      | none => simp [hcv] at hc
      | some p =>
        obtain ⟨u, st2⟩ := p
        simp only [hcv, Option.some.injEq] at hc
        subst hc
        obtain ⟨cv0, hv0⟩ := tval h hf
        have ht2 := (cvt_ok hG h hv0 hcv).1
        simp only [ht2]
        -- the value itself
        by_cases hk : k < cx.n
        · have hv := h.tm k v hk hf rfl
          obtain ⟨_, ⟨S', β', ω', h1, h2, h3, h4⟩, _⟩ := cvt_ok hG h hv hcv
          refine ⟨S', β', ω', ?_⟩
          refine ⟨h1.mem, fun x v' hx hfd _ => ?_, fun x v' hx hfd => ?_, fun x hc => ?_, h1.gdn, h1.sz, h1.df⟩
          · rw [find_put] at hfd
            by_cases hxk : x = k
            · subst hxk
              rw [if_pos rfl] at hfd; cases hfd
              exact h2
            · rw [if_neg hxk] at hfd
              exact h1.tm x v' hx hfd rfl
          · rw [find_put] at hfd
            by_cases hxk : x = k
            · omega
            · rw [if_neg hxk] at hfd
              exact h1.pt x v' hx hfd
          · rw [chainOf_nil] at hc; cases hc
        · have hv := h.pt k v (by omega) hf
          obtain ⟨_, ⟨S', β', ω', h1, h2, h3, h4⟩, _⟩ := cvt_ok hG h hv hcv
          refine ⟨S', β', ω', ?_⟩
          refine ⟨h1.mem, fun x v' hx hfd _ => ?_, fun x v' hx hfd => ?_, fun x hc => ?_, h1.gdn, h1.sz, h1.df⟩
          · rw [find_put] at hfd
            by_cases hxk : x = k
            · omega
            · rw [if_neg hxk] at hfd
              exact h1.tm x v' hx hfd rfl
          · rw [find_put] at hfd
            by_cases hxk : x = k
            · subst hxk
              rw [if_pos rfl] at hfd; cases hfd
              exact h2
            · rw [if_neg hxk] at hfd
              exact h1.pt x v' hx hfd
          · rw [chainOf_nil] at hc; cases hc
  | some j =>
    simp only [cvt1] at hc
    split at hc
    · rename_i r off hf
      split at hc
      · rename_i ty cs hr
        cases hj : cs[j]? with
        | none => simp [hj] at hc
        | some v =>
          simp only [hj] at hc
          cases hcv : cvt st own κ v with
          | none => simp [hcv] at hc
          | some p =>
            obtain ⟨u, st2⟩ := p
            simp only [hcv, Option.some.injEq] at hc
            subst hc
            obtain ⟨b0, _, hβ0, arr, e, hh, hsz, hcs⟩ := h.mem.ok r _ hr
            obtain ⟨ht2, ⟨S', β', ω', h1, h2, h3, h4⟩, h5⟩ := cvt_ok hG h (hcs j v hj) hcv
            refine ⟨S', β', ω', ?_⟩
            have hr2 := h5 r ty cs hr
            obtain ⟨b1, _, hβ1, _⟩ := h1.mem.ok r _ hr2
            have hbb : b1 = b0 := by
              rw [h4 r (h.mem.lt r _ hr), hβ0] at hβ1
              cases hβ1; rfl
            subst hbb
            have h6 : Rel E cx [] st.t (put st2.roots r (.box ty (cs.set j u))) S' β' ω' (fun x => x < st2.nx) a w := by
              have hm := h1.mem
              have key : ∀ x rc, find (put st2.roots r (.box ty (cs.set j u))) x = some rc → ∃ rc0, find st2.roots x = some rc0 ∧ (RootOk E w S' β' (fun x => x < st2.nx) (β' x) (ω' x) rc0 → RootOk E w S' β' (fun x => x < st2.nx) (β' x) (ω' x) rc) := by
                intro x rc hx
                rw [find_put] at hx
                by_cases hxr : x = r
                · subst hxr
                  rw [if_pos rfl] at hx; cases hx
                  refine ⟨_, hr2, fun hok => ?_⟩
                  obtain ⟨b, k1, k2, arr', e', k3, k4, k5⟩ := hok
                  refine ⟨b, k1, k2, arr', e', k3, by simp [k4], fun i c hi => ?_⟩
                  rw [List.getElem?_set] at hi
                  by_cases hij : j = i
                  · subst hij
                    have hlt := lt_of_getElem? hj
                    simp [hlt] at hi; subst hi
                    have hbb : b = b1 := by rw [hβ1] at k2; cases k2; rfl
                    subst hbb
                    rw [hh] at k3; cases k3
                    exact h2
                  · rw [if_neg hij] at hi
                    exact k5 i c hi
                · rw [if_neg hxr] at hx
                  exact ⟨rc, hx, fun hok => hok⟩
              refine ⟨⟨fun x rc hx => ?_, fun x rc hx => ?_, fun x x' rc rc' hx hx' hne => ?_, fun x rc hx => ?_, hm.sb, hm.sn, hm.fr, hm.sz, hm.os, hm.tape, hm.out, hm.up⟩, h1.tm, h1.pt, h1.gdo, h1.gdn, h1.sz, h1.df⟩
              · obtain ⟨rc0, h0, _⟩ := key x rc hx
                exact hm.lt x rc0 h0
              · obtain ⟨rc0, h0, h7⟩ := key x rc hx
                exact h7 (hm.ok x rc0 h0)
              · obtain ⟨rc0, h0, _⟩ := key x rc hx
                obtain ⟨rc1, h7, _⟩ := key x' rc' hx'
                exact hm.dis x x' rc0 rc1 h0 h7 hne
              · obtain ⟨rc0, h0, _⟩ := key x rc hx
                exact hm.ob x rc0 h0
            simp only [ht2]
            exact h6
      · cases hc
    · rename_i cs hf
      cases hj : cs[j]? with
      | none => simp [hj] at hc
      | some v =>
        simp only [hj] at hc
        cases hcv : cvt st own κ v with
        | none => simp [hcv] at hc
        | some p =>
          obtain ⟨u, st2⟩ := p
          simp only [hcv, Option.some.injEq] at hc
          subst hc
          have key : ∀ cv, RV E w S β (fun x => x < st.nx) (.agg cs) cv → st2.t = st.t ∧ ∃ S' β' ω', Rel E cx [] st.t st2.roots S' β' ω' (fun x => x < st2.nx) a w ∧ RV E w S' β' (fun x => x < st2.nx) (.agg (cs.set j u)) cv := by
            intro cv hv
            obtain ⟨vs, rfl, hl, hvs⟩ := hv.agg_inv
            obtain ⟨ht2, ⟨S', β', ω', h1, h2, h3, h4⟩, h5⟩ := cvt_ok hG h (hvs j v hj) hcv
            refine ⟨ht2, S', β', ω', h1, .agg _ vs (by simp [hl]) (fun i c hi => ?_)⟩
            rw [List.getElem?_set] at hi
            by_cases hij : j = i
            · subst hij
              have hlt := lt_of_getElem? hj
              simp [hlt] at hi; subst hi
              exact h2
            · rw [if_neg hij] at hi
              exact h3 _ _ (hvs i c hi)
          obtain ⟨cv0, hv0⟩ := tval h hf
          have ht2 := (key cv0 hv0).1
          simp only [ht2]
          by_cases hk : k < cx.n
          · obtain ⟨_, S', β', ω', h1, h2⟩ := key _ (h.tm k _ hk hf rfl)
            refine ⟨S', β', ω', ?_⟩
            refine ⟨h1.mem, fun x v' hx hfd _ => ?_, fun x v' hx hfd => ?_, fun x hc => ?_, h1.gdn, h1.sz, h1.df⟩
            · rw [find_put] at hfd
              by_cases hxk : x = k
              · subst hxk
                rw [if_pos rfl] at hfd; cases hfd
                exact h2
              · rw [if_neg hxk] at hfd
                exact h1.tm x v' hx hfd rfl
            · rw [find_put] at hfd
              by_cases hxk : x = k
              · omega
              · rw [if_neg hxk] at hfd
                exact h1.pt x v' hx hfd
            · rw [chainOf_nil] at hc; cases hc
          · obtain ⟨_, S', β', ω', h1, h2⟩ := key _ (h.pt k _ (by omega) hf)
            refine ⟨S', β', ω', ?_⟩
            refine ⟨h1.mem, fun x v' hx hfd _ => ?_, fun x v' hx hfd => ?_, fun x hc => ?_, h1.gdn, h1.sz, h1.df⟩
            · rw [find_put] at hfd
              by_cases hxk : x = k
              · omega
              · rw [if_neg hxk] at hfd
                exact h1.tm x v' hx hfd rfl
            · rw [find_put] at hfd
              by_cases hxk : x = k
              · subst hxk
                rw [if_pos rfl] at hfd; cases hfd
                exact h2
              · rw [if_neg hxk] at hfd
                exact h1.pt x v' hx hfd
            · rw [chainOf_nil] at hc; cases hc
    · cases hc

theorem cvtL_ok (hG : Good E) {k : Nat} : ∀ (cs : List (Option Nat × Bool × Nat)) (st st' : St E.Ty), cvtL st k cs = some st' → SetOk E cx a w st st'
  | [], st, st', h => by
    simp only [cvtL, Option.some.injEq] at h
    subst h
    exact fun S β ω h => ⟨S, β, ω, h⟩
  | c :: cs, st, st', h => by
    simp only [cvtL] at h
    cases h1 : cvt1 st k c with
    | none => simp [h1] at h
    | some st1 =>
      simp only [h1] at h
      intro S β ω hr
      obtain ⟨S1, β1, ω1, hr1⟩ := cvt1_ok hG h1 S β ω hr
      exact cvtL_ok hG cs st1 st' h S1 β1 ω1 hr1

theorem cvtH_ok (hG : Good E) : ∀ (hs : List (Nat × List (Option Nat × Bool × Nat))) (st st' : St E.Ty), cvtH st hs = some st' → SetOk E cx a w st st'
  | [], st, st', h => by
    simp only [cvtH, Option.some.injEq] at h
    subst h
    exact fun S β ω h => ⟨S, β, ω, h⟩
  | (k, cs) :: hs, st, st', h => by
    simp only [cvtH] at h
    cases h1 : cvtL st k cs with
    | none => simp [h1] at h
    | some st1 =>
      simp only [h1] at h
      intro S β ω hr
      obtain ⟨S1, β1, ω1, hr1⟩ := cvtL_ok hG cs st st1 h1 S β ω hr
      exact cvtH_ok hG hs st1 st' h S1 β1 ω1 hr1

end

end Go.Proofs.Ytejfpemjmpoddaa.Vx
/-! What a function hands back. -/
namespace Go.Proofs.Ytejfpemjmpoddaa.Vx
open Go

section
variable {P : Program} {E : Env} {O : Orc E} {cx : Cx}
variable {S S0 : Nat → Prop} {β : Nat → Value} {ω : Nat → List Nat} {D : Nat → Prop} {a : Act} {w w0 : World} {t : List (Nat × V E.Ty)} {roots : List (Nat × RC E.Ty)} {nx : Nat}

theorem sem_bind_pure {α : Type} (x : Sem α) : Sem.bind x Sem.pure = x := by
  induction x <;> simp_all [Sem.bind]
  funext b
  cases b <;> simp_all

theorem sem_assoc {α γ δ : Type} (x : Sem α) (f : α → Sem γ) (g : γ → Sem δ) : Sem.bind (Sem.bind x f) g = Sem.bind x fun a => Sem.bind (f a) g := by
  induction x <;> simp_all [Sem.bind]
  funext b
  cases b <;> simp_all

instance semLawful : LawfulMonad Sem := LawfulMonad.mk' Sem (fun x => sem_bind_pure x) (fun _ _ => rfl) (fun x f g => sem_assoc x f g)

theorem run_mapML {α γ : Type} (f : α → Sem γ) : ∀ (as : List α) (vs : List γ), vs.length = as.length → (∀ (i : Nat) (x : α) (v : γ), as[i]? = some x → vs[i]? = some v → (f x).run P w = .ok v w) →
    (as.mapM f).run P w = .ok vs w
  | [], [], _, _ => by rw [List.mapM_nil]; rfl
  | [], _ :: _, h, _ => by simp at h
  | _ :: _, [], h, _ => by simp at h
  | x :: as, v :: vs, hl, h => by
    rw [List.mapM_cons, Sem.run_bind, h 0 x v rfl rfl]
    simp only [Result.andThen_ok]
    rw [Sem.run_bind, run_mapML f as vs (by simpa using hl) (fun i x v h1 h2 => h (i + 1) x v (by simpa using h1) (by simpa using h2))]
    rfl

theorem run_mapM {α γ : Type} (f : α → Sem γ) (as : Array α) (vs : List γ) (hl : vs.length = as.size) (h : ∀ (i : Nat) (hi : i < as.size) (hv : i < vs.length), (f as[i]).run P w = .ok vs[i] w) :
    (as.mapM f).run P w = .ok vs.toArray w := by
  rw [Array.mapM_eq_mapM_toList, map_eq_pure_bind, Sem.run_bind, run_mapML f as.toList vs (by simpa using hl) (fun i x v h1 h2 => by
    have hi : i < as.size := by have := lt_of_getElem? h1; simpa using this
    have hv := lt_of_getElem? h2
    have := h i hi hv
    rw [List.getElem?_eq_getElem hv] at h2
    rw [Array.getElem?_toList, Array.getElem?_eq_getElem hi] at h1
    cases h1; cases h2
    exact this)]
  rfl

theorem resV_ok (hT : TIok P E) {n : Nat} {st : St E.Ty} (h : Rel E cx [] st.t st.roots S β ω (fun x => x < st.nx) a w) (hn : cx.n = n) : ∀ (l : List ResultVar) (us : List (V E.Ty)), resV n st l = some us →
    ∃ vals : List Value, vals.length = us.length ∧ us.length = l.length ∧
      (∀ (i : Nat) (x : ResultVar) (v : Value), l[i]? = some x → vals[i]? = some v → ((fun | .tmp t => pure (a.tmps.getD t undef) | .cell c t => do loadVar t (← asAddr (a.tmps.getD c undef)) : ResultVar → Sem Value) x).run P w = .ok v w) ∧
      (∀ (i : Nat) (u : V E.Ty) (v : Value), us[i]? = some u → vals[i]? = some v → RV E w S β (fun x => x < st.nx) u v)
  | [], us, hy => by
    simp only [resV, Option.some.injEq] at hy
    subst hy
    exact ⟨[], rfl, rfl, by simp, by simp⟩
  | .tmp t :: l, us, hy => by
    simp only [resV] at hy
    split at hy
    · rename_i v vs hlt hf hr
      cases hy
      obtain ⟨vals, h1, h2, h3, h4⟩ := resV_ok hT h hn l vs hr
      have hlt : t < cx.n := by rw [hn]; exact Nat.le_of_ble_eq_true hlt
      refine ⟨a.tmps.getD t undef :: vals, by simp [h1], by simp [h2], fun i x v' hx hv => ?_, fun i u v' hu hv => ?_⟩
      · cases i with
        | zero => simp only [List.getElem?_cons_zero, Option.some.injEq] at hx hv; subst hx hv; rfl
        | succ i => exact h3 i x v' (by simpa using hx) (by simpa using hv)
      · cases i with
        | zero => simp only [List.getElem?_cons_zero, Option.some.injEq] at hu hv; subst hu hv; exact h.tm t v hlt hf rfl
        | succ i => exact h4 i u v' (by simpa using hu) (by simpa using hv)
    · cases hy
  | .cell t ty :: l, us, hy => by
    simp only [resV] at hy
    split at hy
    case h_2 => cases hy
    rename_i r off vs hlt hf hr
    obtain ⟨vals, h1, h2, h3, h4⟩ := resV_ok hT h hn l vs hr
    have hlt : t < cx.n := by rw [hn]; exact Nat.le_of_ble_eq_true hlt
    obtain ⟨b, hb, hD, hβ⟩ := (h.tm t _ hlt hf rfl).ptr_inv
    have key : ∀ (cs : List (V E.Ty)) (d : TD), BR E w S β (fun x => x < st.nx) cs b → E.ti ty = some d → (match cut cs off d.size with
        | some ds => match ofCells d ds with
          | some v => some (v :: vs)
          | none => none
        | none => none) = some us → ∃ vals : List Value, vals.length = us.length ∧ us.length = (ResultVar.cell t ty :: l).length ∧
      (∀ (i : Nat) (x : ResultVar) (v : Value), (ResultVar.cell t ty :: l)[i]? = some x → vals[i]? = some v → ((fun | .tmp t => pure (a.tmps.getD t undef) | .cell c t => do loadVar t (← asAddr (a.tmps.getD c undef)) : ResultVar → Sem Value) x).run P w = .ok v w) ∧
      (∀ (i : Nat) (u : V E.Ty) (v : Value), us[i]? = some u → vals[i]? = some v → RV E w S β (fun x => x < st.nx) u v) := by
      intro cs d hbr hd hy
      cases hc : cut cs off d.size with
      | none => simp [hc] at hy
      | some ds =>
        simp only [hc] at hy
        cases ho : ofCells d ds with
        | none => simp [ho] at hy
        | some u =>
          simp only [ho, Option.some.injEq] at hy
          subst hy
          have hF : ∃ F : Nat → Value, ∀ j cv, cs[j]? = some cv → w.cell? ⟨b, j, none⟩ = some (F j) ∧ RV E w S β (fun x => x < st.nx) cv (F j) := by
            obtain ⟨arr, e, k1, k2, k3⟩ := hbr
            refine ⟨fun j => arr.getD j undef, fun j cv hj => ⟨?_, k3 j cv hj⟩⟩
            have := lt_of_getElem? hj
            have hlt : j < arr.size := by omega
            simp [World.cell?, k1, hlt]
          obtain ⟨F, hF⟩ := hF
          obtain ⟨cv, hrun, hrv⟩ := run_piece (P := P) hT hd hc ho b 0 F (fun j cv hj => by rw [Nat.zero_add]; exact (hF j cv hj).1) (fun j cv hj => (hF j cv hj).2)
          rw [Nat.zero_add] at hrun
          have hld : (loadVar ty ⟨b, off, none⟩).run P w = .ok cv w := by
            simpa [Instr.loadAt, Instr.sureAddr] using hrun
          refine ⟨cv :: vals, by simp [h1], by simp [h2], fun i x v' hx hv => ?_, fun i u' v' hu hv => ?_⟩
          · cases i with
            | zero =>
              simp only [List.getElem?_cons_zero, Option.some.injEq] at hx hv; subst hx hv
              simp only [hb, asAddr, Sem.run_bind, Sem.run_pure, Result.andThen_ok, hld]
            | succ i => exact h3 i x v' (by simpa using hx) (by simpa using hv)
          · cases i with
            | zero => simp only [List.getElem?_cons_zero, Option.some.injEq] at hu hv; subst hu hv; exact hrv
            | succ i => exact h4 i u' v' (by simpa using hu) (by simpa using hv)
    split at hy
    · rename_i u cs d hrc hd
      obtain ⟨b', _, hb', hbr⟩ := h.mem.ok r _ hrc
      rw [hβ] at hb'; cases hb'
      exact key cs d hbr hd hy
    · rename_i u cs d hrc hd
      obtain ⟨_, b', hb', _, hbr⟩ := h.mem.ok r _ hrc
      rw [hβ] at hb'; cases hb'
      exact key cs d hbr hd hy
    · cases hy

theorem results_ok (hT : TIok P E) {fn : Func} {st : St E.Ty} (h : Rel E cx [] st.t st.roots S β ω (fun x => x < st.nx) a w) (hn : cx.n = fn.ntmps) {us : List (V E.Ty)} (hy : resV fn.ntmps st fn.results.toList = some us) :
    ∃ vals : List Value, vals.length = us.length ∧ (results fn a.tmps).run P w = .ok (retVal vals) w ∧ (∀ (i : Nat) (u : V E.Ty) (v : Value), us[i]? = some u → vals[i]? = some v → RV E w S β (fun x => x < st.nx) u v) := by
  obtain ⟨vals, h1, h2, h3, h4⟩ := resV_ok hT h hn _ _ hy
  refine ⟨vals, h1, ?_, h4⟩
  unfold results
  rw [Sem.run_bind, run_mapM _ fn.results vals (by rw [h1, h2]; simp) (fun i hi hv => h3 i _ _ (by simp [hi]) (List.getElem?_eq_getElem hv))]
  simp only [Result.andThen_ok, Sem.run_pure, List.size_toArray]
  congr 1
  match vals with
  | [] => rfl
  | [v] => rfl
  | v :: u :: vs => simp [retVal]

theorem AskOk.runX {α : Type} {good : α → Prop} {st : St E.Ty} {e : α} : ∀ (m : Ask E α), AskOk O good st.roots m → Vx.runX st m = some e → good e
  | .fail, _, h => by simp [Vx.runX] at h
  | .ret e', hg, h => by
    simp only [Vx.runX, Option.some.injEq] at h
    subst h; exact hg
  | .ask r f, hg, h => by
    simp only [Vx.runX] at h
    cases hf : find st.roots r with
    | none => simp [hf] at h
    | some rc =>
      simp only [hf] at h
      exact AskOk.runX (f rc) (hg rc hf) h
  | .rd r f, hg, h => by
    simp only [Vx.runX] at h
    cases hf : find st.roots r with
    | none => simp [hf] at h
    | some rc =>
      simp only [hf] at h
      exact AskOk.runX (f (frzOf rc)) (hg rc hf) h
  | .chk _ _, _, h => by simp [Vx.runX] at h
  | .call _ _ _ _, _, h => by simp [Vx.runX] at h

theorem outPtrs_ok : ∀ (ps : List PK) (i : Nat) (os : List (V E.Ty)) (args : List Value), args.length = ps.length → outPtrs t i ps = some os →
    (∀ (k : Nat) (v : V E.Ty) (cv : Value), find t (i + k) = some v → args[k]? = some cv → RV E w S β D v cv) →
    os.length = (outsOf ps).length ∧ (outVals ps args).length = os.length ∧ ∀ (j : Nat) (v : V E.Ty) (cv : Value), os[j]? = some v → (outVals ps args)[j]? = some cv → RV E w S β D v cv
  | [], i, os, args, hl, h, _ => by
    simp only [outPtrs, Option.some.injEq] at h
    subst h
    have ha : args = [] := List.eq_nil_of_length_eq_zero (by simpa using hl)
    subst ha
    exact ⟨rfl, rfl, by simp⟩
  | p :: ps, i, os, [], hl, _, _ => by simp at hl
  | p :: ps, i, os, x :: args, hl, h, hpt => by
    have hl' : args.length = ps.length := by simpa using hl
    have hpt' : ∀ (k : Nat) (v : V E.Ty) (cv : Value), find t (i + 1 + k) = some v → args[k]? = some cv → RV E w S β D v cv := fun k v cv h1 h2 => hpt (k + 1) v cv (by rwa [Nat.add_comm k 1, ← Nat.add_assoc]) (by simpa using h2)
    simp only [outPtrs] at h
    cases hp : p.isBx with
    | false =>
      rw [hp] at h
      obtain ⟨h1, h2, h3⟩ := outPtrs_ok ps (i + 1) os args hl' h hpt'
      have e1 : outsOf (p :: ps) = outsOf ps := by simp [outsOf, hp]
      have e2 : outVals (p :: ps) (x :: args) = outVals ps args := by simp [outVals, hp]
      rw [e1, e2]
      exact ⟨h1, h2, h3⟩
    | true =>
      rw [hp] at h
      cases hf : find t i with
      | none => simp [hf] at h
      | some v =>
        cases ho : outPtrs t (i + 1) ps with
        | none => simp [hf, ho] at h
        | some vs =>
          simp only [hf, ho, Option.some.injEq] at h
          subst h
          obtain ⟨h1, h2, h3⟩ := outPtrs_ok ps (i + 1) vs args hl' ho hpt'
          have e1 : outsOf (p :: ps) = p :: outsOf ps := by simp [outsOf, hp]
          have e2 : outVals (p :: ps) (x :: args) = x :: outVals ps args := by simp [outVals, hp]
          rw [e1, e2]
          refine ⟨by simp [h1], by simp [h2], fun j v' cv hj hc => ?_⟩
          cases j with
          | zero =>
            simp only [List.getElem?_cons_zero, Option.some.injEq] at hj hc
            subst hj hc
            exact hpt 0 v x hf rfl
          | succ j => exact h3 j v' cv (by simpa using hj) (by simpa using hc)

def CxOf (w0 : World) (S0 : Nat → Prop) (args : List Value) (ob : List Nat) (n : Nat) : Cx := ⟨w0, S0, fun b => b ∈ ob, args.toArray, n⟩

theorem vback_ok (hT : TIok P E) (hG : Good E) {f : Nat} {fn : Func} {args : List Value} {ob : List Nat} {st : St E.Ty} {y : E.Res f} (h : Rel E (CxOf w0 S0 args ob fn.ntmps) [] st.t st.roots S β ω (fun x => x < st.nx) a w)
    (hl : args.length = (E.sig f).ps.length) (hy : vback (E.sig f).ps (E.sig f).rs fn.ntmps fn.results.toList st = some y) :
    ∃ rv vals S' ob', (results fn a.tmps).run P w = .ok rv w ∧ Post E f y args w0 S0 ob rv w vals S' ob' := by
  unfold vback at hy
  cases hr : resV fn.ntmps st fn.results.toList with
  | none => simp [hr] at hy
  | some us =>
    cases ho : outPtrs st.t fn.ntmps (E.sig f).ps with
    | none => simp [hr, ho] at hy
    | some os =>
      simp only [hr, ho] at hy
      obtain ⟨vals, k1, k2, k3⟩ := results_ok hT h rfl hr
      obtain ⟨o1, o2, o3⟩ := outPtrs_ok (w := w) (S := S) (β := β) (D := fun x => x < st.nx) (E.sig f).ps fn.ntmps os args hl ho (fun k v cv h1 h2 => by
        have := h.pt (fn.ntmps + k) v (Nat.le_add_right _ _) h1
        have he : (CxOf w0 S0 args ob fn.ntmps).args.getD (fn.ntmps + k - (CxOf w0 S0 args ob fn.ntmps).n) undef = cv := by
          simp [CxOf, h2]
        rwa [he] at this)
      have hm := h.mem
      have hask := expL_ok (O := Orc.no E) (good := fun y' => ∃ S' ob', Post E f y' args w0 S0 ob (retVal vals) w vals S' ob') hG hm ((E.sig f).rs ++ outsOf (E.sig f).ps) (us ++ os) (vals ++ outVals (E.sig f).ps args)
        (fun y ks ns => match nodup (boxes ((E.sig f).rs ++ outsOf (E.sig f).ps) (us ++ os) ++ ks) && disj (boxes ((E.sig f).rs ++ outsOf (E.sig f).ps) (us ++ os) ++ ks) ns with
          | true => .ret y
          | false => .fail)
        (by simp [k1, o2]) (fun i v cv h1 h2 => by
          by_cases hi : i < us.length
          · rw [List.getElem?_append_left hi] at h1
            rw [List.getElem?_append_left (by omega)] at h2
            exact k3 i v cv h1 h2
          · rw [List.getElem?_append_right (by omega)] at h1
            rw [List.getElem?_append_right (by omega), k1] at h2
            exact o3 _ v cv h1 h2)
        (fun x ks rs rl hB hks hrs hperm hprs => by
          split
          case h_2 => exact askOk_fail
          rename_i hcond
          simp only [Bool.and_eq_true] at hcond
          have hnd := (nodup_iff _).1 hcond.1
          have hdj := disj_ok hcond.2
          have hrl : There st.roots rl := fun r hr => by
            rcases List.mem_append.1 (hperm.mem_iff.1 hr) with h | h
            · obtain ⟨t, cs, h⟩ := hB r h; exact ⟨_, h⟩
            · exact hks r h
          have hrln : rl.Nodup := hperm.nodup_iff.2 hnd
          refine ⟨frozenS S ω rs, rl.flatMap ω, ?_⟩
          exact {
            ret := rfl
            len := by
              have := PRs.length hprs
              simp only [List.length_append] at this
              omega
            rel := hprs
            nd := blocks_nodup hm rl hrln hrl
            own := fun b hb => by
              obtain ⟨r, hr, hbr⟩ := List.mem_flatMap.1 hb
              obtain ⟨rc, hrc⟩ := hrl r hr
              have ho := hm.ob r rc hrc b hbr
              refine ⟨fun hs => ?_, ho.2.1, ho.2.2⟩
              rcases hs with hs | ⟨r', hr', hb'⟩
              · exact ho.1 hs
              · obtain ⟨rc', hrc'⟩ := hrs r' hr'
                exact hm.dis r r' rc rc' hrc hrc' (fun e => hdj r (hperm.mem_iff.1 hr) (e ▸ hr')) b hbr hb'
            s1 := fun b hb => .inl (hm.up b hb)
            s2 := fun b hb => by
              rcases hb with hb | ⟨r, hr, hb⟩
              · exact hm.sn b hb
              · obtain ⟨rc, hrc⟩ := hrs r hr
                exact .inr (hm.ob r rc hrc b hb).2.2
            s3 := fun b hb => by
              rcases hb with hb | ⟨r, hr, hb⟩
              · exact hm.sb b hb
              · obtain ⟨rc, hrc⟩ := hrs r hr
                exact (hm.ob r rc hrc b hb).2.1
            frame := fun b hb hM => hm.fr b hb hM
            sz := hm.sz
            os := hm.os
            tape := hm.tape
            out := hm.out })
      obtain ⟨S', ob', hp⟩ := hask.runX _ hy
      exact ⟨_, vals, S', ob', k2, hp⟩

end

end Go.Proofs.Ytejfpemjmpoddaa.Vx
/-! A function's run. -/
namespace Go.Proofs.Ytejfpemjmpoddaa.Vx
open Go

section
variable {P : Program} {E : Env} {O : Orc E}

def toItem : It → Item
  | .code c => .code c
  | .inBlock i => .inBlock i
  | .inLoop c => .inLoop c

/-- it comes to an end, and then something holds -/
def Ends (P : Program) (fn : Func) (b : Frame) (k : List Item) (cs : List Frame) (a : Act) (w : World) (R : Value → World → Prop) : Prop :=
  ∃ a' w' todo v, Steps P (lone (b.at a k) cs w) (lone { b.at a' todo with mode := .returning } cs w') ∧ a'.defers = [] ∧ (results fn a'.tmps).run P w' = .ok v w' ∧ R v w'

theorem Ends.of_steps {fn : Func} {b : Frame} {k k1 : List Item} {cs : List Frame} {a a1 : Act} {w w1 : World} {R : Value → World → Prop} (hs : Steps P (lone (b.at a k) cs w) (lone (b.at a1 k1) cs w1)) (h : Ends P fn b k1 cs a1 w1 R) : Ends P fn b k cs a w R := by
  obtain ⟨a', w', todo, v, h1, h2⟩ := h
  exact ⟨a', w', todo, v, hs.trans h1, h2⟩

theorem Ends.step {fn : Func} {b : Frame} {k k1 : List Item} {cs : List Frame} {a a1 : Act} {w w1 : World} {R : Value → World → Prop} (hs : step P (lone (b.at a k) cs w) = .next (lone (b.at a1 k1) cs w1)) (h : Ends P fn b k1 cs a1 w1 R) : Ends P fn b k cs a w R :=
  Ends.of_steps (.one hs) h

def RetOk (E : Env) (f : Nat) (y : E.Res f) (args : List Value) (w0 : World) (S0 : Nat → Prop) (ob : List Nat) : Value → World → Prop := fun rv w' => ∃ vals S' ob', Post E f y args w0 S0 ob rv w' vals S' ob'

structure OrcOk (P : Program) (E : Env) (O : Orc E) : Prop where
  call : ∀ f x y, O.call f x = some y → FnOk P E f x y
  loop : ∀ (f : Nat) (b : Code) (k : List It) (st : St E.Ty) (y : E.Res f) (fn : Func), O.loop f (.inLoop b :: k) st = some y → E.code f = some fn → ∀ (args : List Value), args.length = (E.sig f).ps.length →
    ∀ (w0 : World) (S0 : Nat → Prop) (ob : List Nat) (S : Nat → Prop) (β : Nat → Value) (ω : Nat → List Nat) (a : Act) (w : World), Rel E (CxOf w0 S0 args ob fn.ntmps) [] st.t st.roots S β ω (fun x => x < st.nx) a w →
    ∀ (fr : Frame) (cs : List Frame), Ends P fn fr (.code b :: .inLoop b :: k.map toItem) cs a w (RetOk E f y args w0 S0 ob)

/-- what is asked of a universe over a program -/
structure Uni (P : Program) (E : Env) : Prop where
  t : TIok P E
  g : Good E
  q : EqOk P E
  mix : P.follows .mixedOrders = true
  code : ∀ f fn, E.code f = some fn → P.funcs[f]? = some fn ∧ (fn.name == "runtime.NumGoroutine") = false
  prim : ∀ f g, E.prim f = some g → ∀ x y, g x = some y → FnOk P E f x y

theorem exitK_ok (id : Nat) : ∀ (k k' : List It), exitK id k = some k' → exitTo id (k.map toItem) = some (k'.map toItem)
  | [], k', h => by simp [exitK] at h
  | .inBlock i :: k, k', h => by
    simp only [exitK] at h
    simp only [List.map_cons, toItem, exitTo]
    cases hb : Nat.beq i id with
    | true =>
      rw [hb] at h
      have := Nat.eq_of_beq_eq_true hb
      subst this
      simp only [Option.some.injEq] at h
      subst h
      simp
    | false =>
      rw [hb] at h
      have hne : (i == id) = false := by
        cases h' : i == id with
        | false => rfl
        | true => rw [eq_of_beq h'] at hb; simp at hb
      simp only [hne, Bool.false_eq_true, if_false]
      exact exitK_ok id k k' h
  | .code c :: k, k', h => by
    simp only [exitK] at h
    simp only [List.map_cons, toItem, exitTo]
    exact exitK_ok id k k' h
  | .inLoop c :: k, k', h => by
    simp only [exitK] at h
    simp only [List.map_cons, toItem, exitTo]
    exact exitK_ok id k k' h

theorem vops_dst {R : Type} {n : Nat} {all : Array Oper} {k : RSt E.Ty → Option R} {y : R} {rs : RSt E.Ty} (h : vops O n all all.toList rs k = some y) : ∀ (j : Nat) (o' : Oper) (d : Nat), all[j]? = some o' → o'.dst = some d → d < n := by
  obtain ⟨recs, ho, hF, _⟩ := vops_recs _ _ h
  intro j o' d hj hd
  have h1 : (recs.map (·.o))[j]? = some o' := by rw [ho]; simpa using hj
  rw [List.getElem?_map] at h1
  cases hr : recs[j]? with
  | none => simp [hr] at h1
  | some r =>
    rw [hr] at h1
    simp at h1
    have := (Facts.at recs _ _ _ _ hF j r hr).2.d
    rw [h1, hd] at this
    simp only [dstOk, Bool.and_eq_true] at this
    exact Nat.le_of_ble_eq_true this.1

theorem vhead_ok (hU : Uni P E) (hO : OrcOk P E O) {f : Nat} {fn : Func} (hf : E.code f = some fn) {args : List Value} (hl : args.length = (E.sig f).ps.length) {w0 : World} {S0 : Nat → Prop} {ob : List Nat}
    {b : Code} {k : List It} {st : St E.Ty} {y : E.Res f} (h : vhead O f b k st = some y) {S : Nat → Prop} {β : Nat → Value} {ω : Nat → List Nat} {a : Act} {w : World}
    (hrel : Rel E (CxOf w0 S0 args ob fn.ntmps) [] st.t st.roots S β ω (fun x => x < st.nx) a w) (fr : Frame) (cs : List Frame) : Ends P fn fr (.code b :: .inLoop b :: k.map toItem) cs a w (RetOk E f y args w0 S0 ob) := by
  unfold vhead at h
  split at h
  · rename_i id k'
    cases h1 : cvtH st (E.hint f id) with
    | none => simp [h1] at h
    | some st1 =>
      simp only [h1] at h
      cases h2 : st1.canon ((E.hint f id).map (·.1)) with
      | none => simp [h2] at h
      | some st2 =>
        simp only [h2] at h
        obtain ⟨S1, β1, ω1, hr1⟩ := cvtH_ok hU.g _ _ _ h1 S β ω hrel
        obtain ⟨β2, ω2, hr2⟩ := canon_ok hU.g hr1 h2
        exact hO.loop f b _ st2 y fn h hf args hl w0 S0 ob S1 β2 ω2 a w hr2 fr cs
  · cases h

theorem vrun_ok (hU : Uni P E) (hO : OrcOk P E O) {f : Nat} {fn : Func} (hf : E.code f = some fn) {args : List Value} (hl : args.length = (E.sig f).ps.length) {w0 : World} {S0 : Nat → Prop} {ob : List Nat} {y : E.Res f} (fr : Frame) (cs : List Frame) :
    ∀ (n : Nat) (k : List It) (st : St E.Ty) (S : Nat → Prop) (β : Nat → Value) (ω : Nat → List Nat) (a : Act) (w : World), vrun O f fn n k st = some y →
    Rel E (CxOf w0 S0 args ob fn.ntmps) [] st.t st.roots S β ω (fun x => x < st.nx) a w → Ends P fn fr (k.map toItem) cs a w (RetOk E f y args w0 S0 ob) := by
  intro n
  induction n with
  | zero => intro k st S β ω a w h; simp [vrun] at h
  | succ n ih =>
    intro k st S β ω a w h hrel
    have hback : ∀ (k : List It), vback (E.sig f).ps (E.sig f).rs fn.ntmps fn.results.toList st = some y → step P (lone (fr.at a (k.map toItem)) cs w) = .next (lone { fr.at a (k.map toItem) with mode := .returning } cs w) →
        Ends P fn fr (k.map toItem) cs a w (RetOk E f y args w0 S0 ob) := by
      intro k hy hs
      obtain ⟨rv, vals, S', ob', h1, h2⟩ := vback_ok hU.t hU.g hrel hl hy
      exact ⟨a, w, k.map toItem, rv, .one hs, hrel.df, h1, vals, S', ob', h2⟩
    cases k with
    | nil =>
      simp only [vrun] at h
      exact hback [] h step_end
    | cons it k =>
      cases it with
      | inBlock i =>
        simp only [vrun] at h
        exact Ends.step step_inBlock (ih k st S β ω a w h hrel)
      | inLoop b =>
        simp only [vrun] at h
        exact Ends.step step_inLoop (vhead_ok hU hO hf hl h hrel fr cs)
      | code c =>
        cases c with
        | skip =>
          simp only [vrun] at h
          exact Ends.step step_skip (ih k st S β ω a w h hrel)
        | region id ops draw =>
          simp only [vrun] at h
          have hwp := region_ok (Q := fun e a' w' => e = .normal ∧ Ends P fn fr (k.map toItem) cs a' w' (RetOk E f y args w0 S0 ob)) hU.t hU.g hU.q hU.mix hO.call (vops_dst h) id draw (k := fun rs => vrun O f fn n k ⟨ungd rs.st.t rs.gd, rs.st.roots, rs.st.nx⟩) h hrel
            (fun rs S' β' ω' a' w' hk hrel' => ⟨rfl, ih k _ S' β' ω' a' w' hk hrel'.ungd⟩)
          obtain ⟨e, a', w', ⟨rfl, hq⟩, harr⟩ := hwp fr (k.map toItem) cs
          exact Ends.of_steps harr hq
        | seq x z =>
          simp only [vrun] at h
          exact Ends.step step_seq (ih (.code x :: .code z :: k) st S β ω a w h hrel)
        | cond c x z =>
          simp only [vrun] at h
          split at h
          · rename_i t hc
            have hrd := hrel.reads (ch := []) rfl st rfl
            have hv := (hrd.one _ _ hc).bool_inv
            refine Ends.step (step_cond hv) ?_
            cases t with
            | true => exact ih (.code x :: k) st S β ω a w (by simpa using h) hrel
            | false => exact ih (.code z :: k) st S β ω a w (by simpa using h) hrel
          · cases h
        | block id b =>
          simp only [vrun] at h
          exact Ends.step step_block (ih (.code b :: .inBlock id :: k) st S β ω a w h hrel)
        | loop b =>
          simp only [vrun] at h
          exact Ends.step step_loop (vhead_ok hU hO hf hl h hrel fr cs)
        | exit id =>
          simp only [vrun] at h
          cases he : exitK id k with
          | none => simp [he] at h
          | some k' =>
            simp only [he] at h
            exact Ends.step (step_exit (exitK_ok id k k' he)) (ih k' st S β ω a w h hrel)
        | ret =>
          simp only [vrun] at h
          exact hback (.code .ret :: k) h step_ret
        | _ => simp [vrun] at h

theorem impT_find : ∀ (vs : List (V E.Ty)) (i x : Nat), find (impT i vs) x = if i ≤ x ∧ x < i + vs.length then vs[x - i]? else none
  | [], i, x => by
    simp only [impT, find, List.length_nil]
    rw [if_neg (by omega)]
  | v :: vs, i, x => by
    simp only [impT, find]
    cases hb : Nat.beq i x with
    | true =>
      have := Nat.eq_of_beq_eq_true hb
      subst this
      simp
    | false =>
      have hne : i ≠ x := fun e => by subst e; simp at hb
      rw [impT_find vs (i + 1) x]
      by_cases h : i + 1 ≤ x ∧ x < i + 1 + vs.length
      · rw [if_pos h, if_pos (by simp; omega)]
        have : x - i = (x - (i + 1)) + 1 := by omega
        rw [this]; simp
      · rw [if_neg h, if_neg (by simp; omega)]

theorem impO_find : ∀ (ps : List PK) (vs : List (V E.Ty)) (i x : Nat) (v : V E.Ty), find (impO i ps vs) x = some v → i ≤ x ∧ vs[x - i]? = some v
  | [], [], i, x, v, h => by simp [impO, find] at h
  | [], _ :: _, i, x, v, h => by simp [impO, find] at h
  | p :: ps, [], i, x, v, h => by cases p <;> simp [impO, find] at h
  | p :: ps, u :: vs, i, x, v, h => by
    have hrec : find (impO (i + 1) ps vs) x = some v → i ≤ x ∧ (u :: vs)[x - i]? = some v := by
      intro h
      obtain ⟨h1, h2⟩ := impO_find ps vs (i + 1) x v h
      refine ⟨by omega, ?_⟩
      have : x - i = (x - (i + 1)) + 1 := by omega
      rw [this]; simpa using h2
    cases p with
    | bx κ m =>
      simp only [impO, find] at h
      cases hb : Nat.beq i x with
      | true =>
        rw [hb] at h
        have := Nat.eq_of_beq_eq_true hb
        subst this
        simp only [Option.some.injEq] at h
        subst h
        simp
      | false => rw [hb] at h; exact hrec h
    | _ => exact hrec h

theorem vfun_ok (hU : Uni P E) (hO : OrcOk P E O) {f : Nat} {x : E.Args f} {y : E.Res f} (h : vfun O f x = some y) : FnOk P E f x y := by
  unfold vfun at h
  split at h
  · rename_i g hg
    exact hU.prim f g hg x y h
  · split at h
    case h_2 => cases h
    rename_i fn hf
    split at h
    case h_2 => cases h
    rename_i c hb
    split at h
    case h_2 => cases h
    rename_i vs ns hle himp
    have hle := Nat.le_of_ble_eq_true hle
    obtain ⟨hfn, hname⟩ := hU.code f fn hf
    intro w S args ob hprs hnd hob hS o a K Q hK
    have hl := PRs.length hprs
    have hrun : (callFunc f args.toArray).run P w = .ok (.enter f args.toArray) w := by
      unfold callFunc
      simp only [Sem.run_bind, run_program, Result.andThen_ok, hfn, hname, hb, Option.isNone_some, Bool.false_eq_true, if_false, Sem.run_pure]
    rw [hrun]
    show Calls P f args.toArray w _
    obtain ⟨us, obs, i1, i2, i3, i4⟩ := impL_ok (E.sig f).ps x args ob 0 hprs
    rw [himp] at i1 i2 i4
    simp only [] at i1 i2 i4
    let β : Nat → Value := fun i => us.getD i undef
    let ω : Nat → List Nat := fun i => obs.getD i []
    obtain ⟨⟨g1, g2⟩, g3⟩ := i4 β (fun x => x < ns.length) (fun i u hi => by
      have := lt_of_getElem? hi
      rw [Nat.zero_add]
      refine ⟨?_, by omega⟩
      show us.getD i undef = u
      rw [List.getD_eq_getElem?_getD, hi]; rfl)
    have hroot : ∀ r rc, find (newL 0 ns) r = some rc → r < ns.length ∧ ns[r]? = some rc ∧ us[r]? = some (β r) ∧ obs[r]? = some (ω r) := by
      intro r rc hr
      rw [find_newL] at hr
      simp only [Nat.not_lt_zero, if_false, Nat.sub_zero] at hr
      have hlt := lt_of_getElem? hr
      refine ⟨hlt, hr, ?_, ?_⟩
      · have : r < us.length := by omega
        show us[r]? = some (us.getD r undef)
        rw [List.getD_eq_getElem?_getD, List.getElem?_eq_getElem this]; rfl
      · have : r < obs.length := by omega
        show obs[r]? = some (obs.getD r [])
        rw [List.getD_eq_getElem?_getD, List.getElem?_eq_getElem this]; rfl
    have hvl : vs.length = args.length := g1
    have hrel : Rel E (CxOf w S args ob fn.ntmps) [] (impT 0 vs ++ impO fn.ntmps (E.sig f).ps vs) (newL 0 ns) S β ω (fun x => x < ns.length) { tmps := args.toArray ++ Array.replicate (fn.ntmps - args.toArray.size) undef, defers := [] } w := by
      refine ⟨⟨fun r rc hr => (hroot r rc hr).1, fun r rc hr => ?_, fun r r' rc rc' hr hr' hne => ?_, fun r rc hr b hb => ?_, hS, fun b hb => .inl hb, fun b _ _ => rfl, Nat.le_refl _, rfl, rfl, rfl, fun b hb => hb⟩, fun x v hx hfd _ => ?_, fun x v hx hfd => ?_, fun x hc => ?_, fun x c hfd => ?_, ?_, rfl⟩
      · obtain ⟨_, h1, h2, h3⟩ := hroot r rc hr
        exact g3 r rc _ _ h1 h2 h3
      · obtain ⟨_, _, _, h3⟩ := hroot r rc hr
        obtain ⟨_, _, _, h3'⟩ := hroot r' rc' hr'
        exact fun b hb => flat_disj obs (by rw [i3]; exact hnd) r r' _ _ hne h3 h3' b hb
      · obtain ⟨_, _, _, h3⟩ := hroot r rc hr
        have hbo : b ∈ ob := by rw [← i3]; exact List.mem_flatten.2 ⟨_, List.mem_of_getElem? h3, hb⟩
        exact ⟨(hob b hbo).1, (hob b hbo).2, .inr hbo⟩
      · have hx : x < fn.ntmps := hx
        rw [find_append, impT_find] at hfd
        by_cases hxl : x < vs.length
        · rw [if_pos ⟨Nat.zero_le _, by omega⟩, Nat.sub_zero, List.getElem?_eq_getElem hxl] at hfd
          simp only [Option.some.injEq] at hfd
          subst hfd
          have hxa : x < args.length := by omega
          have := g2 x vs[x] args[x] (List.getElem?_eq_getElem hxl) (List.getElem?_eq_getElem hxa)
          have he : ((args.toArray ++ Array.replicate (fn.ntmps - args.toArray.size) undef).getD x undef) = args[x] := by
            simp [Array.getD_eq_getD_getElem?, Array.getElem?_append, hxa]
          rw [he]; exact this
        · rw [if_neg (by omega)] at hfd
          obtain ⟨h1, _⟩ := impO_find _ _ _ _ _ hfd
          omega
      · have hx : fn.ntmps ≤ x := hx
        rw [find_append, impT_find] at hfd
        rw [if_neg (by omega)] at hfd
        obtain ⟨_, h2⟩ := impO_find _ _ _ _ _ hfd
        have hlt := lt_of_getElem? h2
        have hxa : x - fn.ntmps < args.length := by omega
        have := g2 (x - fn.ntmps) v args[x - fn.ntmps] h2 (List.getElem?_eq_getElem hxa)
        have he : ((CxOf w S args ob fn.ntmps).args.getD (x - (CxOf w S args ob fn.ntmps).n) undef) = args[x - fn.ntmps] := by
          simp [CxOf, hxa]
        rw [he]; exact this
      · rw [chainOf_nil] at hc; cases hc
      · simp [find] at hfd
      · show (args.toArray ++ Array.replicate (fn.ntmps - args.toArray.size) undef).size = fn.ntmps
        simp; omega
    intro cs
    let fr : Frame := { (default : Frame) with fn := f, kind := .normal }
    have henter : Frame.enter P f args.toArray .normal = fr.at { tmps := args.toArray ++ Array.replicate (fn.ntmps - args.toArray.size) undef, defers := [] } [.code c] := by
      simp [Frame.enter, Frame.at, hfn, hb, fr]
    obtain ⟨a', w', todo, v, h1, h2, h3, vals, S', ob', h4⟩ := vrun_ok hU hO hf hl (ob := ob) (y := y) fr cs 10000 [.code c] _ S β ω _ w h hrel
    rw [henter]
    exact ⟨.returned v, w', _, hK v w' vals S' ob' h4, h1, rfl, rfl, h2, rfl, fn, hfn, h3⟩

theorem vround_ok (hU : Uni P E) (hO : OrcOk P E O) {f : Nat} {b : Code} {k : List It} {st : St E.Ty} {y : E.Res f} (h : vround O f (.inLoop b :: k) st = some y) {fn : Func} (hf : E.code f = some fn) {args : List Value} (hl : args.length = (E.sig f).ps.length)
    {w0 : World} {S0 : Nat → Prop} {ob : List Nat} {S : Nat → Prop} {β : Nat → Value} {ω : Nat → List Nat} {a : Act} {w : World} (hrel : Rel E (CxOf w0 S0 args ob fn.ntmps) [] st.t st.roots S β ω (fun x => x < st.nx) a w) (fr : Frame) (cs : List Frame) :
    Ends P fn fr (.code b :: .inLoop b :: k.map toItem) cs a w (RetOk E f y args w0 S0 ob) := by
  unfold vround at h
  simp only [hf] at h
  exact vrun_ok hU hO hf hl fr cs 10000 (.code b :: .inLoop b :: k) st S β ω a w h hrel

theorem orc_ok (hU : Uni P E) : ∀ n, OrcOk P E (orc E n)
  | 0 => ⟨fun f x y h => by simp [orc, Orc.bot] at h, fun f b k st y fn h => by simp [orc, Orc.bot] at h⟩
  | n + 1 => ⟨fun f x y h => vfun_ok hU (orc_ok hU n) h, fun f b k st y fn h hf args hl w0 S0 ob S β ω a w hrel fr cs => vround_ok hU (orc_ok hU n) h hf hl hrel fr cs⟩

end

end Go.Proofs.Ytejfpemjmpoddaa.Vx
/-! An oracle that answers as its own machine does. -/
namespace Go.Proofs.Ytejfpemjmpoddaa.Vx
open Go

section
variable {P : Program} {E : Env}

/-- what one oracle answers, some others answer from somewhere on -/
structure Conv (O : Orc E) (O' : Nat → Orc E) : Prop where
  call : ∀ f x y, O.call f x = some y → ∃ n, ∀ m, n ≤ m → (O' m).call f x = some y
  loop : ∀ f k st y, O.loop f k st = some y → ∃ n, ∀ m, n ≤ m → (O' m).loop f k st = some y

variable {O : Orc E} {O' : Nat → Orc E}

theorem runA_conv (h : Conv O O') {R α : Type} (st : St E.Ty) (cond : Bool) (k : α → List (Nat × Bool) → Option R) (k' : Nat → α → List (Nat × Bool) → Option R) (r : R) (hk : ∀ e t, k e t = some r → ∃ n, ∀ m, n ≤ m → k' m e t = some r) :
    ∀ (a : Ask E α) (t : List (Nat × Bool)), runA O st cond a t k = some r → ∃ n, ∀ m, n ≤ m → runA (O' m) st cond a t (k' m) = some r
  | .fail, t, hr => by simp [runA] at hr
  | .ret e, t, hr => hk e t hr
  | .ask x f, t, hr => by
    simp only [runA] at hr ⊢
    cases hf : find st.roots x with
    | none => simp [hf] at hr
    | some rc =>
      simp only [hf] at hr
      exact runA_conv h st cond k k' r hk (f rc) _ hr
  | .rd x f, t, hr => by
    simp only [runA] at hr ⊢
    cases hf : find st.roots x with
    | none => simp [hf] at hr
    | some rc =>
      simp only [hf] at hr
      exact runA_conv h st cond k k' r hk (f (frzOf rc)) _ hr
  | .chk b f, t, hr => by
    simp only [runA] at hr ⊢
    split at hr
    · rename_i hb
      obtain ⟨n, hn⟩ := runA_conv h st cond k k' r hk f t hr
      exact ⟨n, fun m hm => by rw [if_pos hb]; exact hn m hm⟩
    · cases hr
  | .call f x d g, t, hr => by
    simp only [runA] at hr ⊢
    cases hc : (if cond = true then O.call f x else d) with
    | none => rw [hc] at hr; simp at hr
    | some y =>
      rw [hc] at hr
      simp only [Option.bind_some] at hr
      obtain ⟨n, hn⟩ := runA_conv h st cond k k' r hk (g y) t hr
      cases hcond : cond with
      | true =>
        rw [hcond] at hc
        simp only [if_true] at hc
        obtain ⟨n2, hn2⟩ := h.call f x y hc
        refine ⟨max n n2, fun m hm => ?_⟩
        have := hn m (by omega)
        rw [hcond] at this
        simp only [if_true, hn2 m (by omega), Option.bind_some]
        exact this
      | false =>
        rw [hcond] at hc
        simp only [Bool.false_eq_true, if_false] at hc
        refine ⟨n, fun m hm => ?_⟩
        have := hn m hm
        rw [hcond] at this
        simp only [Bool.false_eq_true, if_false, hc, Option.bind_some]
        exact this

theorem vops_conv (h : Conv O O') {R : Type} (n : Nat) (all : Array Oper) (k : RSt E.Ty → Option R) (k' : Nat → RSt E.Ty → Option R) (r : R) (hk : ∀ rs, k rs = some r → ∃ n, ∀ m, n ≤ m → k' m rs = some r) :
    ∀ (ops : List Oper) (rs : RSt E.Ty), vops O n all ops rs k = some r → ∃ n0, ∀ m, n0 ≤ m → vops (O' m) n all ops rs (k' m) = some r
  | [], rs, hr => hk rs hr
  | o :: ops, rs, hr => by
    simp only [vops] at hr ⊢
    cases hg : guardOf all rs.gd o.guard with
    | none => simp [hg] at hr
    | some ch =>
      cases hd : dstOk n rs.gd o.dst with
      | false => simp [hg, hd] at hr
      | true =>
        simp only [hg, hd] at hr
        exact runA_conv h _ _ _ (fun m e tch => match okG n rs.st o ch e && sub (e.frz ++ e.kill ++ keys e.wr) (keys tch) && nodup (keys e.wr) with
          | true => vops (O' m) n all ops ⟨rs.st.eff o.dst e, match o.dst with | some d => put rs.gd d ch | none => rs.gd, ⟨keys tch, e.frz, keys e.wr ++ e.kill ++ asksOf tch ++ keys (newL rs.st.nx e.new), keys ch⟩ :: rs.log⟩ (k' m)
          | false => none) r (fun e t he => by
            split at he
            · rename_i hok
              obtain ⟨n0, hn0⟩ := vops_conv h n all k k' r hk ops _ he
              exact ⟨n0, fun m hm => by simp only [hok]; exact hn0 m hm⟩
            · cases he) _ _ hr

theorem vhead_conv (h : Conv O O') (f : Nat) (b : Code) (k : List It) (st : St E.Ty) (y : E.Res f) (hr : vhead O f b k st = some y) : ∃ n, ∀ m, n ≤ m → vhead (O' m) f b k st = some y := by
  unfold vhead at hr ⊢
  split at hr
  · rename_i id k'
    cases h1 : cvtH st (E.hint f id) with
    | none => simp [h1] at hr
    | some st1 =>
      simp only [h1] at hr
      cases h2 : st1.canon ((E.hint f id).map (·.1)) with
      | none => simp [h2] at hr
      | some st2 =>
        simp only [h2] at hr
        obtain ⟨n, hn⟩ := h.loop f _ st2 y hr
        exact ⟨n, fun m hm => by simp only [h1, h2]; exact hn m hm⟩
  · cases hr

theorem vrun_conv (h : Conv O O') (f : Nat) (fn : Func) (y : E.Res f) : ∀ (n : Nat) (k : List It) (st : St E.Ty), vrun O f fn n k st = some y → ∃ n0, ∀ m, n0 ≤ m → vrun (O' m) f fn n k st = some y := by
  intro n
  induction n with
  | zero => intro k st hr; simp [vrun] at hr
  | succ n ih =>
    intro k st hr
    cases k with
    | nil =>
      simp only [vrun] at hr ⊢
      exact ⟨0, fun _ _ => hr⟩
    | cons it k =>
      cases it with
      | inBlock i => simp only [vrun] at hr ⊢; exact ih k st hr
      | inLoop b => simp only [vrun] at hr ⊢; exact vhead_conv h f b k st y hr
      | code c =>
        cases c with
        | skip => simp only [vrun] at hr ⊢; exact ih k st hr
        | region id ops draw =>
          simp only [vrun] at hr ⊢
          exact vops_conv h fn.ntmps ops _ (fun m rs => match !draw || drawOk ops rs.log with
            | true => vrun (O' m) f fn n k ⟨ungd rs.st.t rs.gd, rs.st.roots, rs.st.nx⟩
            | false => none) y (fun rs hk => by
              split at hk
              · rename_i hd
                obtain ⟨n0, hn0⟩ := ih k _ hk
                exact ⟨n0, fun m hm => by simp only [hd]; exact hn0 m hm⟩
              · cases hk) _ _ hr
        | seq x z => simp only [vrun] at hr ⊢; exact ih _ st hr
        | cond c x z =>
          simp only [vrun] at hr ⊢
          split at hr
          · rename_i t hc
            cases t with
            | true =>
              obtain ⟨n0, hn0⟩ := ih _ st (by simpa using hr)
              exact ⟨n0, fun m hm => by simpa using hn0 m hm⟩
            | false =>
              obtain ⟨n0, hn0⟩ := ih _ st (by simpa using hr)
              exact ⟨n0, fun m hm => by simpa using hn0 m hm⟩
          · cases hr
        | block id b => simp only [vrun] at hr ⊢; exact ih _ st hr
        | loop b => simp only [vrun] at hr ⊢; exact vhead_conv h f b k st y hr
        | exit id =>
          simp only [vrun] at hr ⊢
          cases he : exitK id k with
          | none => simp [he] at hr
          | some k' =>
            simp only [he] at hr ⊢
            exact ih k' st hr
        | ret => simp only [vrun] at hr ⊢; exact ⟨0, fun _ _ => hr⟩
        | _ => simp [vrun] at hr

theorem vfun_conv (h : Conv O O') (f : Nat) (x : E.Args f) (y : E.Res f) (hr : vfun O f x = some y) : ∃ n, ∀ m, n ≤ m → vfun (O' m) f x = some y := by
  unfold vfun at hr ⊢
  cases hp : E.prim f with
  | some g =>
    simp only [hp] at hr ⊢
    exact ⟨0, fun _ _ => hr⟩
  | none =>
    simp only [hp] at hr ⊢
    cases hf : E.code f with
    | none => simp [hf] at hr
    | some fn =>
      simp only [hf] at hr ⊢
      cases hb : fn.body with
      | none => simp [hb] at hr
      | some c =>
        simp only [hb] at hr ⊢
        split at hr
        · rename_i vs ns h1 h2
          obtain ⟨n, hn⟩ := vrun_conv h f fn y _ _ _ hr
          exact ⟨n, fun m hm => hn m hm⟩
        · cases hr

theorem vround_conv (h : Conv O O') (f : Nat) (k : List It) (st : St E.Ty) (y : E.Res f) (hr : vround O f k st = some y) : ∃ n, ∀ m, n ≤ m → vround (O' m) f k st = some y := by
  unfold vround at hr ⊢
  split at hr
  · rename_i fn b k' hf
    obtain ⟨n, hn⟩ := vrun_conv h f fn y _ _ _ hr
    exact ⟨n, fun m hm => hn m hm⟩
  · cases hr

theorem orc_up : ∀ n, (∀ f x y, (orc E n).call f x = some y → (orc E (n + 1)).call f x = some y) ∧ (∀ f k st y, (orc E n).loop f k st = some y → (orc E (n + 1)).loop f k st = some y)
  | 0 => ⟨fun f x y h => by simp [orc, Orc.bot] at h, fun f k st y h => by simp [orc, Orc.bot] at h⟩
  | n + 1 => by
    obtain ⟨h1, h2⟩ := orc_up n
    have hc : Conv (orc E n) (fun _ => orc E (n + 1)) := ⟨fun f x y h => ⟨0, fun _ _ => h1 f x y h⟩, fun f k st y h => ⟨0, fun _ _ => h2 f k st y h⟩⟩
    constructor
    · intro f x y h
      obtain ⟨m, hm⟩ := vfun_conv hc f x y h
      exact hm m (Nat.le_refl _)
    · intro f k st y h
      obtain ⟨m, hm⟩ := vround_conv hc f k st y h
      exact hm m (Nat.le_refl _)

theorem orc_le {n m : Nat} (h : n ≤ m) : (∀ f x y, (orc E n).call f x = some y → (orc E m).call f x = some y) ∧ (∀ f k st y, (orc E n).loop f k st = some y → (orc E m).loop f k st = some y) := by
  induction h with
  | refl => exact ⟨fun _ _ _ h => h, fun _ _ _ _ h => h⟩
  | step h ih => exact ⟨fun f x y h' => (orc_up _).1 f x y (ih.1 f x y h'), fun f k st y h' => (orc_up _).2 f k st y (ih.2 f k st y h')⟩

open Classical in
/-- the answers of all these oracles -/
noncomputable def orcL (E : Env) : Orc E where
  call f x := if h : ∃ y, ∃ n, (orc E n).call f x = some y then some (Classical.choose h) else none
  loop f k st := if h : ∃ y, ∃ n, (orc E n).loop f k st = some y then some (Classical.choose h) else none

theorem orcL_call (f : Nat) (x : E.Args f) (y : E.Res f) : (orcL E).call f x = some y ↔ ∃ n, (orc E n).call f x = some y := by
  simp only [orcL]
  split
  · rename_i h
    have hc := Classical.choose_spec h
    constructor
    · intro e
      simp only [Option.some.injEq] at e
      rw [← e]; exact hc
    · rintro ⟨n, hn⟩
      obtain ⟨n2, hn2⟩ := hc
      have h1 := (orc_le (Nat.le_max_left n n2)).1 f x y hn
      have h2 := (orc_le (Nat.le_max_right n n2)).1 f x _ hn2
      rw [h1] at h2
      exact h2.symm
  · rename_i h
    constructor
    · intro e; cases e
    · rintro ⟨n, hn⟩; exact absurd ⟨y, n, hn⟩ h

theorem orcL_loop (f : Nat) (k : List It) (st : St E.Ty) (y : E.Res f) : (orcL E).loop f k st = some y ↔ ∃ n, (orc E n).loop f k st = some y := by
  simp only [orcL]
  split
  · rename_i h
    have hc := Classical.choose_spec h
    constructor
    · intro e
      simp only [Option.some.injEq] at e
      rw [← e]; exact hc
    · rintro ⟨n, hn⟩
      obtain ⟨n2, hn2⟩ := hc
      have h1 := (orc_le (Nat.le_max_left n n2)).2 f k st y hn
      have h2 := (orc_le (Nat.le_max_right n n2)).2 f k st _ hn2
      rw [h1] at h2
      exact h2.symm
  · rename_i h
    constructor
    · intro e; cases e
    · rintro ⟨n, hn⟩; exact absurd ⟨y, n, hn⟩ h

theorem orcL_conv : Conv (orcL E) (orc E) :=
  ⟨fun f x y h => by
    obtain ⟨n, hn⟩ := (orcL_call f x y).1 h
    exact ⟨n, fun m hm => (orc_le hm).1 f x y hn⟩,
   fun f k st y h => by
    obtain ⟨n, hn⟩ := (orcL_loop f k st y).1 h
    exact ⟨n, fun m hm => (orc_le hm).2 f k st y hn⟩⟩

theorem conv_orcL (n : Nat) : Conv (orc E n) (fun _ => orcL E) :=
  ⟨fun f x y h => ⟨0, fun _ _ => (orcL_call f x y).2 ⟨n, h⟩⟩, fun f k st y h => ⟨0, fun _ _ => (orcL_loop f k st y).2 ⟨n, h⟩⟩⟩

theorem opt_ext {α : Type} {a b : Option α} (h : ∀ y, a = some y ↔ b = some y) : a = b := by
  cases a with
  | none =>
    cases b with
    | none => rfl
    | some y => exact absurd ((h y).2 rfl) (by simp)
  | some x => exact ((h x).1 rfl).symm

theorem orcL_fix : (∀ f x, (orcL E).call f x = vfun (orcL E) f x) ∧ (∀ f k st, (orcL E).loop f k st = vround (orcL E) f k st) := by
  constructor
  · intro f x
    refine opt_ext (fun y => ⟨fun h => ?_, fun h => ?_⟩)
    · obtain ⟨n, hn⟩ := (orcL_call f x y).1 h
      cases n with
      | zero => simp [orc, Orc.bot] at hn
      | succ n =>
        obtain ⟨m, hm⟩ := vfun_conv (conv_orcL n) f x y hn
        exact hm m (Nat.le_refl _)
    · obtain ⟨n, hn⟩ := vfun_conv orcL_conv f x y h
      exact (orcL_call f x y).2 ⟨n + 1, hn n (Nat.le_refl _)⟩
  · intro f k st
    refine opt_ext (fun y => ⟨fun h => ?_, fun h => ?_⟩)
    · obtain ⟨n, hn⟩ := (orcL_loop f k st y).1 h
      cases n with
      | zero => simp [orc, Orc.bot] at hn
      | succ n =>
        obtain ⟨m, hm⟩ := vround_conv (conv_orcL n) f k st y hn
        exact hm m (Nat.le_refl _)
    · obtain ⟨n, hn⟩ := vround_conv orcL_conv f k st y h
      exact (orcL_loop f k st y).2 ⟨n + 1, hn n (Nat.le_refl _)⟩

theorem orcL_ok (hU : Uni P E) {f : Nat} {x : E.Args f} {y : E.Res f} (h : (orcL E).call f x = some y) : FnOk P E f x y := by
  obtain ⟨n, hn⟩ := (orcL_call f x y).1 h
  exact (orc_ok hU n).call f x y hn

end

end Go.Proofs.Ytejfpemjmpoddaa.Vx
/-! A universe's facts, out of closed ones. -/
namespace Go.Proofs.Ytejfpemjmpoddaa.Vx
open Go

section
variable {P : Program} {E : Env}

def AllP {α : Type} (p : α → Prop) : List α → Prop
  | [] => True
  | a :: l => p a ∧ AllP p l

theorem AllP.mem {α : Type} {p : α → Prop} : ∀ {l : List α}, AllP p l → ∀ {a : α}, a ∈ l → p a
  | [], _, a, h => by simp at h
  | b :: l, hp, a, h => by
    rcases List.mem_cons.1 h with h' | h'
    · subst h'; exact hp.1
    · exact AllP.mem hp.2 h'

/-! kinds, told as Bools -/

def eqz : Value → Value → Bool
  | .int k n, .int k' m => decide (k = k') && decide (n = m)
  | .bool a, .bool b => a == b
  | .string s, .string r => s.data.toList.isEmpty && r.data.toList.isEmpty
  | .slice none 0 0, .slice none 0 0 => true
  | _, _ => false

theorem eqz_ok {u v : Value} (h : eqz u v = true) : u = v := by
  unfold eqz at h
  split at h
  · simp only [Bool.and_eq_true, decide_eq_true_eq] at h; rw [h.1, h.2]
  · simp at h; rw [h]
  · rename_i s r
    simp only [Bool.and_eq_true, List.isEmpty_iff] at h
    obtain ⟨s⟩ := s
    obtain ⟨r⟩ := r
    have h1 : s = r := by
      apply Array.ext'
      rw [h.1, h.2]
    rw [h1]
  · rfl
  · cases h

def eqzL : List Value → List Value → Bool
  | [], [] => true
  | u :: us, v :: vs => match eqz u v with
    | true => eqzL us vs
    | false => false
  | _, _ => false

theorem eqzL_ok : ∀ {us vs : List Value}, eqzL us vs = true → us = vs
  | [], [], _ => rfl
  | [], _ :: _, h => by simp [eqzL] at h
  | _ :: _, [], h => by simp [eqzL] at h
  | u :: us, v :: vs, h => by
    simp only [eqzL] at h
    cases hz : eqz u v with
    | false => rw [hz] at h; cases h
    | true =>
      rw [hz] at h
      rw [eqz_ok hz, eqzL_ok h]

def infoB (P : Program) (E : Env) (t : Nat) (d : TD) : Bool := match P.info? t with
  | some i => Nat.beq i.size d.size && Nat.beq i.bytes d.bytes && (match zvL E d.leafs with
    | some zs => (match i.zero with
      | some z => eqzL z.cells.toList zs
      | none => false)
    | none => true)
  | none => false

def sizesB (P : Program) : List Field → Bool
  | [] => true
  | f :: fs => match P.info? f.type with
    | some i => match Nat.beq i.size 0 with
      | true => false
      | false => sizesB P fs
    | none => false

def eqFs : List (Nat × Nat) → List (Nat × Nat) → Bool
  | [], [] => true
  | (a, b) :: l, (c, d) :: m => match Nat.beq a c && Nat.beq b d with
    | true => eqFs l m
    | false => false
  | _, _ => false

theorem eqFs_ok : ∀ {l m : List (Nat × Nat)}, eqFs l m = true → l = m
  | [], [], _ => rfl
  | [], _ :: _, h => by simp [eqFs] at h
  | _ :: _, [], h => by simp [eqFs] at h
  | (a, b) :: l, (c, d) :: m, h => by
    simp only [eqFs] at h
    cases hz : Nat.beq a c && Nat.beq b d with
    | false => rw [hz] at h; cases h
    | true =>
      rw [hz] at h
      simp only [Bool.and_eq_true] at hz
      rw [Nat.eq_of_beq_eq_true hz.1, Nat.eq_of_beq_eq_true hz.2, eqFs_ok h]

def kindB (P : Program) (t : Nat) (k : TK) : Bool := match P.underlying t, k with
  | some (.int k), .int k' => decide (k = k')
  | some .bool, .bool => true
  | some .string, .string => true
  | some (.slice e), .slice e' => Nat.beq e e'
  | some (.pointer e), .pointer e' => Nat.beq e e'
  | some (.struct fields), .struct fs => eqFs (fields.toList.map (fun f => (f.offset, f.type))) fs && sizesB P fields.toList
  | _, .other => true
  | _, _ => false

theorem sizesB_ok : ∀ {l : List Field}, sizesB P l = true → ∀ f ∈ l, ∃ i, P.info? f.type = some i ∧ i.size ≠ 0
  | [], _, f, h => by simp at h
  | g :: l, hb, f, h => by
    simp only [sizesB] at hb
    cases hi : P.info? g.type with
    | none => rw [hi] at hb; cases hb
    | some i =>
      rw [hi] at hb
      simp only [] at hb
      cases hz : Nat.beq i.size 0 with
      | true => rw [hz] at hb; cases hb
      | false =>
        rw [hz] at hb
        rcases List.mem_cons.1 h with h' | h'
        · subst h'
          exact ⟨i, hi, fun e => by rw [e] at hz; simp at hz⟩
        · exact sizesB_ok hb f h'

theorem kindB_ok {t : Nat} {k : TK} (h : kindB P t k = true) : KindOk P t k := by
  unfold kindB at h
  split at h
  · rename_i h1; have := of_decide_eq_true h; subst this; exact h1
  · rename_i h1; exact h1
  · rename_i h1; exact h1
  · rename_i h1; have := Nat.eq_of_beq_eq_true h; subst this; exact h1
  · rename_i h1; have := Nat.eq_of_beq_eq_true h; subst this; exact h1
  · rename_i fields fs h1
    simp only [Bool.and_eq_true] at h
    exact ⟨fields, h1, eqFs_ok h.1, fun f hf => sizesB_ok h.2 f (by simpa using hf)⟩
  · trivial
  · cases h

/-- a struct's cells are its fields' cells, one field behind the other -/
def layB (E : Env) : List (Nat × Nat) → Nat → Option (List Nat)
  | [], _ => some []
  | (off, u) :: fs, o => match Nat.beq off o, E.ti u with
    | true, some d => match layB E fs (o + d.size) with
      | some l => some (d.leafs ++ l)
      | none => none
    | _, _ => none

def eqNs : List Nat → List Nat → Bool
  | [], [] => true
  | a :: l, b :: m => match Nat.beq a b with
    | true => eqNs l m
    | false => false
  | _, _ => false

theorem eqNs_ok : ∀ {l m : List Nat}, eqNs l m = true → l = m
  | [], [], _ => rfl
  | [], _ :: _, h => by simp [eqNs] at h
  | _ :: _, [], h => by simp [eqNs] at h
  | a :: l, b :: m, h => by
    simp only [eqNs] at h
    cases hz : Nat.beq a b with
    | false => rw [hz] at h; cases h
    | true => rw [hz] at h; rw [Nat.eq_of_beq_eq_true hz, eqNs_ok h]

def leafsB (E : Env) (t : Nat) (d : TD) : Bool := match d.kind with
  | .struct fs => match layB E fs 0 with
    | some l => eqNs l d.leafs
    | none => true
  | _ => eqNs d.leafs [t]

def tB (P : Program) (E : Env) (p : Nat × TD) : Bool := infoB P E p.1 p.2 && kindB P p.1 p.2.kind && Nat.beq p.2.leafs.length p.2.size && leafsB E p.1 p.2

theorem infoB_ok {t : Nat} {d : TD} (h : infoB P E t d = true) : ∃ i, P.info? t = some i ∧ i.size = d.size ∧ i.bytes = d.bytes ∧ (∀ zs, zvL E d.leafs = some zs → ∃ z, i.zero = some z ∧ z.cells.toList = zs) := by
  unfold infoB at h
  split at h
  · rename_i i hi
    simp only [Bool.and_eq_true] at h
    refine ⟨i, hi, Nat.eq_of_beq_eq_true h.1.1, Nat.eq_of_beq_eq_true h.1.2, fun zs hz => ?_⟩
    have h3 := h.2
    rw [hz] at h3
    simp only [] at h3
    cases hzz : i.zero with
    | none => rw [hzz] at h3; cases h3
    | some z => rw [hzz] at h3; exact ⟨z, rfl, eqzL_ok h3⟩
  · cases h

theorem tB_of {tL : List (Nat × TD)} (hmem : ∀ t d, E.ti t = some d → (t, d) ∈ tL) (hall : tL.all (tB P E) = true) {t : Nat} {d : TD} (h : E.ti t = some d) : tB P E (t, d) = true :=
  List.all_eq_true.1 hall _ (hmem t d h)

theorem TIok.of {tL : List (Nat × TD)} (hmem : ∀ t d, E.ti t = some d → (t, d) ∈ tL) (hall : tL.all (tB P E) = true) : TIok P E := by
  refine ⟨fun t d h => ?_, fun t d h => ?_, fun t d h => ?_⟩
  · have := tB_of hmem hall h
    simp only [tB, Bool.and_eq_true] at this
    exact infoB_ok this.1.1.1
  · have := tB_of hmem hall h
    simp only [tB, Bool.and_eq_true] at this
    exact kindB_ok this.1.1.2
  · have := tB_of hmem hall h
    simp only [tB, Bool.and_eq_true] at this
    exact Nat.eq_of_beq_eq_true this.1.2

/-! values of a type -/

def plainL {Ty : Nat → Type} : List (V Ty) → Bool
  | [] => true
  | .int _ _ :: cs => plainL cs
  | .bool _ :: cs => plainL cs
  | .str _ :: cs => plainL cs
  | .sl _ _ :: cs => plainL cs
  | _ => false

theorem plainL_ok {Ty : Nat → Type} {E : Env} (hE : E.Ty = Ty) : ∀ {cs : List (V E.Ty)}, plainL cs = true → ∀ c ∈ cs, Plain c
  | [], _, c, h => by simp at h
  | d :: cs, hp, c, h => by
    rcases List.mem_cons.1 h with h' | h'
    · subst h'
      cases c <;> first | trivial | (simp [plainL] at hp; done)
    · refine plainL_ok hE (cs := cs) ?_ c h'
      cases d <;> first | exact hp | (simp [plainL] at hp; done)

def leaf1 (E : Env) : V E.Ty → TK → Bool
  | .int k _, .int k' => decide (k = k')
  | .bool _, .bool => true
  | .str _, .string => true
  | .sl κ _, .slice e => Nat.beq κ e
  | _, _ => false

def leafOk (E : Env) : List (V E.Ty) → List Nat → Bool
  | [], _ => true
  | _ :: _, [] => false
  | c :: cs, t :: ts => match E.ti t with
    | some d => match leaf1 E c d.kind with
      | true => leafOk E cs ts
      | false => false
    | none => false

theorem leafOk_at : ∀ {cs : List (V E.Ty)} {ts : List Nat}, leafOk E cs ts = true → ∀ (j : Nat) (c : V E.Ty), cs[j]? = some c → ∃ t d, ts[j]? = some t ∧ E.ti t = some d ∧ leaf1 E c d.kind = true
  | [], ts, _, j, c, h => by simp at h
  | d :: cs, [], h, _, _, _ => by simp [leafOk] at h
  | d :: cs, t :: ts, hb, j, c, h => by
    simp only [leafOk] at hb
    cases ht : E.ti t with
    | none => rw [ht] at hb; cases hb
    | some td =>
      rw [ht] at hb
      simp only [] at hb
      cases hl : leaf1 E d td.kind with
      | false => rw [hl] at hb; cases hb
      | true =>
        rw [hl] at hb
        cases j with
        | zero => simp at h; subst h; exact ⟨t, td, rfl, ht, hl⟩
        | succ j =>
          obtain ⟨t', d', h1, h2, h3⟩ := leafOk_at hb j c (by simpa using h)
          exact ⟨t', d', by simpa using h1, h2, h3⟩

theorem leaf_cons {t n : Nat} {ts : List Nat} {d : TD} {cs : List (V E.Ty)} (ht : E.ti t = some d) (h : leafOk E cs (t :: ts) = true) (hl : cs.length = n + 1) : ∃ c cs', cs = c :: cs' ∧ leaf1 E c d.kind = true ∧ leafOk E cs' ts = true ∧ cs'.length = n := by
  cases cs with
  | nil => simp at hl
  | cons c cs =>
    simp only [leafOk, ht] at h
    cases h1 : leaf1 E c d.kind with
    | false => rw [h1] at h; cases h
    | true => rw [h1] at h; exact ⟨c, cs, rfl, h1, h, by simpa using hl⟩

theorem leaf_int {t n : Nat} {ts : List Nat} {d : TD} {k : IntKind} {cs : List (V E.Ty)} (ht : E.ti t = some d) (hk : d.kind = .int k) (h : leafOk E cs (t :: ts) = true) (hl : cs.length = n + 1) : ∃ x cs', cs = .int k x :: cs' ∧ leafOk E cs' ts = true ∧ cs'.length = n := by
  obtain ⟨c, cs', rfl, h1, h2, h3⟩ := leaf_cons ht h hl
  rw [hk] at h1
  cases c <;> first
    | (simp [leaf1] at h1; done)
    | skip
  rename_i k' x
  have := of_decide_eq_true h1
  subst this
  exact ⟨x, cs', rfl, h2, h3⟩

theorem leaf_bool {t n : Nat} {ts : List Nat} {d : TD} {cs : List (V E.Ty)} (ht : E.ti t = some d) (hk : d.kind = .bool) (h : leafOk E cs (t :: ts) = true) (hl : cs.length = n + 1) : ∃ x cs', cs = .bool x :: cs' ∧ leafOk E cs' ts = true ∧ cs'.length = n := by
  obtain ⟨c, cs', rfl, h1, h2, h3⟩ := leaf_cons ht h hl
  rw [hk] at h1
  cases c <;> first
    | (simp [leaf1] at h1; done)
    | exact ⟨_, cs', rfl, h2, h3⟩

theorem leaf_str {t n : Nat} {ts : List Nat} {d : TD} {cs : List (V E.Ty)} (ht : E.ti t = some d) (hk : d.kind = .string) (h : leafOk E cs (t :: ts) = true) (hl : cs.length = n + 1) : ∃ x cs', cs = .str x :: cs' ∧ leafOk E cs' ts = true ∧ cs'.length = n := by
  obtain ⟨c, cs', rfl, h1, h2, h3⟩ := leaf_cons ht h hl
  rw [hk] at h1
  cases c <;> first
    | (simp [leaf1] at h1; done)
    | exact ⟨_, cs', rfl, h2, h3⟩

theorem leaf_sl {t n κ : Nat} {ts : List Nat} {d : TD} {cs : List (V E.Ty)} (ht : E.ti t = some d) (hk : d.kind = .slice κ) (h : leafOk E cs (t :: ts) = true) (hl : cs.length = n + 1) : ∃ (x : List (E.Ty κ)) (cs' : _), cs = .sl κ x :: cs' ∧ leafOk E cs' ts = true ∧ cs'.length = n := by
  obtain ⟨c, cs', rfl, h1, h2, h3⟩ := leaf_cons ht h hl
  rw [hk] at h1
  cases c <;> first
    | (simp [leaf1] at h1; done)
    | skip
  have := Nat.eq_of_beq_eq_true h1
  subst this
  exact ⟨_, cs', rfl, h2, h3⟩

/-- cells told as a typed value's: nothing may be told as a row of nothing -/
def Sim {Ty : Nat → Type} : List (V Ty) → List (V Ty) → Prop
  | [], [] => True
  | c :: cs, d :: ds => (d = c ∨ (c = .nl ∧ ∃ κ, d = .sl κ [])) ∧ Sim cs ds
  | _, _ => False

theorem Sim.len {Ty : Nat → Type} : ∀ {cs ds : List (V Ty)}, Sim cs ds → cs.length = ds.length
  | [], [], _ => rfl
  | [], _ :: _, h => h.elim
  | _ :: _, [], h => h.elim
  | c :: cs, d :: ds, h => by simp [Sim.len h.2]

theorem Sim.at {Ty : Nat → Type} : ∀ {cs ds : List (V Ty)}, Sim cs ds → ∀ (i : Nat) (c : V Ty), cs[i]? = some c → ds[i]? = some c ∨ (c = .nl ∧ ∃ κ, ds[i]? = some (.sl κ []))
  | [], [], _, i, c, h => by simp at h
  | [], _ :: _, h, _, _, _ => h.elim
  | _ :: _, [], h, _, _, _ => h.elim
  | a :: cs, d :: ds, hs, i, c, h => by
    cases i with
    | zero =>
      simp at h; subst h
      rcases hs.1 with h1 | ⟨h1, κ, h2⟩
      · exact .inl (by simp [h1])
      · exact .inr ⟨h1, κ, by simp [h2]⟩
    | succ i => simpa using Sim.at hs.2 i c (by simpa using h)

theorem Sim.same {Ty : Nat → Type} : ∀ {cs ds : List (V Ty)}, Sim cs ds → (∀ c ∈ cs, c ≠ .nl) → ds = cs
  | [], [], _, _ => rfl
  | [], _ :: _, h, _ => h.elim
  | _ :: _, [], h, _ => h.elim
  | a :: cs, d :: ds, hs, hn => by
    rcases hs.1 with h1 | ⟨h1, _⟩
    · rw [h1, Sim.same hs.2 (fun c hc => hn c (by simp [hc]))]
    · exact absurd h1 (hn a (by simp))

structure TyF (E : Env) (κ : Nat) : Prop where
  ex : ∃ d, E.ti κ = some d ∧ (E.dflt κ).isSome = true ∧ (∀ x, (plainL (E.cells κ x) && leafOk E (E.cells κ x) d.leafs && Nat.beq (E.cells κ x).length d.size) = true) ∧
    ∀ cs, leafOk E cs d.leafs = true → cs.length = d.leafs.length → (E.dec κ cs).isSome = true
  dec : ∀ cs x, E.dec κ cs = some x → Sim cs (E.cells κ x)

structure UniF (E : Env) (tyL : List Nat) : Prop where
  all : AllP (TyF E) tyL
  no1 : ∀ κ, κ ∉ tyL → E.dflt κ = none
  no2 : ∀ κ, κ ∉ tyL → ∀ x, E.cells κ x = []
  no3 : ∀ κ, κ ∉ tyL → ∀ cs, E.dec κ cs = none

theorem Good.of {tyL : List Nat} {tL : List (Nat × TD)} (hU : UniF E tyL) (hmem : ∀ t d, E.ti t = some d → (t, d) ∈ tL) (hall : tL.all (tB P E) = true) : Good E := by
  refine ⟨fun κ x cv h => ?_, fun κ d h => ?_, fun κ x => ?_, fun κ d x j κ' ys hd hj => ?_, fun κ k s b l hi hd x => ?_, fun κ cs x h => ?_⟩
  · by_cases hκ : κ ∈ tyL
    · obtain ⟨d, _, _, h3, _⟩ := (hU.all.mem hκ).ex
      have := h3 x
      simp only [Bool.and_eq_true] at this
      exact plainL_ok rfl this.1.1 cv h
    · rw [hU.no2 κ hκ x] at h; simp at h
  · by_cases hκ : κ ∈ tyL
    · obtain ⟨d, h1, _⟩ := (hU.all.mem hκ).ex
      exact ⟨d, h1⟩
    · rw [hU.no1 κ hκ] at h; cases h
  · by_cases hκ : κ ∈ tyL
    · obtain ⟨d, h1, h2, h3, _⟩ := (hU.all.mem hκ).ex
      have := h3 x
      simp only [Bool.and_eq_true] at this
      unfold szOf
      cases hdf : E.dflt κ with
      | none => rw [hdf] at h2; cases h2
      | some z => simp only [h1]; exact Nat.eq_of_beq_eq_true this.2
    · rw [hU.no2 κ hκ x]
      unfold szOf
      rw [hU.no1 κ hκ]; rfl
  · by_cases hκ : κ ∈ tyL
    · obtain ⟨d', h1, _, h3, _⟩ := (hU.all.mem hκ).ex
      rw [hd] at h1; cases h1
      have := h3 x
      simp only [Bool.and_eq_true] at this
      obtain ⟨t, td, k1, k2, k3⟩ := leafOk_at this.1.2 j _ hj
      refine ⟨t, td, k1, k2, ?_⟩
      cases hk : td.kind <;> rw [hk] at k3 <;> first
        | (simp [leaf1] at k3; done)
        | (have := Nat.eq_of_beq_eq_true k3; rw [this])
    · rw [hU.no2 κ hκ x] at hj; simp at hj
  · by_cases hκ : κ ∈ tyL
    · obtain ⟨d', h1, _, h3, _⟩ := (hU.all.mem hκ).ex
      rw [hi] at h1; cases h1
      have hx := h3 x
      simp only [Bool.and_eq_true] at hx
      have ht := tB_of hmem hall hi
      simp only [tB, Bool.and_eq_true, leafsB] at ht
      have hl : l = [κ] := eqNs_ok ht.2
      subst hl
      have hlen : (E.cells κ x).length = 1 := by
        have h5 := Nat.eq_of_beq_eq_true hx.2
        have h6 := Nat.eq_of_beq_eq_true ht.1.2
        simp at h5 h6; omega
      obtain ⟨y, cs', h7, _, h8⟩ := leaf_int (n := 0) hi rfl hx.1.2 hlen
      refine ⟨y, ?_⟩
      rw [h7, List.eq_nil_of_length_eq_zero h8]
    · rw [hU.no1 κ hκ] at hd; cases hd
  · by_cases hκ : κ ∈ tyL
    · obtain ⟨d', h1, h2, _⟩ := (hU.all.mem hκ).ex
      have hs := (hU.all.mem hκ).dec cs x h
      exact ⟨h2, hs.len, hs.at⟩
    · rw [hU.no3 κ hκ cs] at h; cases h

theorem find_mem {α : Type} {l : List (Nat × α)} {t : Nat} {d : α} (h : find l t = some d) : (t, d) ∈ l := mem_of_find h

end

end Go.Proofs.Ytejfpemjmpoddaa.Vx
/-! Structs that are compared. -/
namespace Go.Proofs.Ytejfpemjmpoddaa.Vx
open Go

section
variable {P : Program} {E : Env}

/-- fields of one cell each, numbers, bools and texts, one behind the other -/
def fldsB (P : Program) (E : Env) : List Field → List Nat → Nat → Bool
  | [], [], _ => true
  | f :: fs, t :: ts, i => !(f.name == "_") && Nat.beq f.offset i && Nat.beq f.type t && (match E.ti t with
    | some ⟨.int _, _, _, _⟩ => fldsB P E fs ts (i + 1)
    | some ⟨.bool, _, _, _⟩ => fldsB P E fs ts (i + 1)
    | some ⟨.string, _, _, _⟩ => fldsB P E fs ts (i + 1)
    | _ => false)
  | _, _, _ => false

def eqTB (P : Program) (E : Env) (t : Nat) : Bool := match P.underlying t, E.ti t with
  | some (.struct fs), some d => !P.stoodInHeld t && !P.eqGuardType P.depth t && fldsB P E fs.toList d.leafs 0
  | _, _ => false

variable {w : World} {S : Nat → Prop} {β : Nat → Value} {D : Nat → Prop} {xs ys : Array Value}

theorem eqf_cons {d : Nat} {f : Field} {fs : List Field} {a b : Value} {r s : Bool} (hn : (f.name == "_") = false) (ha : (Go.part f.type xs f.offset).run P w = .ok a w) (hb : (Go.part f.type ys f.offset).run P w = .ok b w) (he : (Op.equalIn d f.type a b).run P w = .ok r w)
    (hr : (Op.eqFields d xs ys fs).run P w = .ok s w) : (Op.eqFields d xs ys (f :: fs)).run P w = .ok (r && s) w := by
  have hn' : f.name ≠ "_" := by simpa using hn
  rw [Op.eqFields]
  simp only [if_pos hn', Sem.run_bind, ha, hb, he, Result.andThen_ok]
  cases r
  · simp
  · simpa using hr

theorem run_part {t off : Nat} {v : Value} (hT : TIok P E) {td : TD} (ht : E.ti t = some td) (hk : ∀ fs, td.kind ≠ .struct fs) (ho : td.kind ≠ .other) (hx : xs[off]? = some v) : (Go.part t xs off).run P w = .ok v w := by
  unfold Go.part
  simp only [Sem.run_bind, isAgg_no hT ht hk ho w, Result.andThen_ok, Bool.false_eq_true, if_false, hx, Sem.run_pure]

theorem equalIn_int (d t : Nat) (k k' : IntKind) (p q : Int) (h : P.underlying t = some (.int k')) (w : World) : (Op.equalIn (d + 1) t (.int k p) (.int k q)).run P w = .ok (p == q) w := by
  simp only [Op.equalIn, Sem.run_bind, run_underlying_ok h, Result.andThen_ok, if_true, Sem.run_pure]

theorem equalIn_str (d t : Nat) (p q : List UInt8) (h : P.underlying t = some .string) (w : World) : (Op.equalIn (d + 1) t (.string ⟨p.toArray⟩) (.string ⟨q.toArray⟩)).run P w = .ok (p == q) w := by
  rw [run_equalIn_string w d t _ _ h]
  simp only [Go.ByteArray.toList_mk]

theorem eqF_ok (hT : TIok P E) (e : Nat) : ∀ (fs : List Field) (ts : List Nat) (i : Nat) (cs ds : List (V E.Ty)) (b : Bool), fldsB P E fs ts i = true → typedL cs ts = true → typedL ds ts = true → eqCells cs ds = some b →
    (∀ j c, cs[j]? = some c → RV E w S β D c (xs.getD (i + j) undef)) → (∀ j c, ds[j]? = some c → RV E w S β D c (ys.getD (i + j) undef)) → i + cs.length ≤ xs.size → i + ds.length ≤ ys.size →
    (Op.eqFields (e + 1) xs ys fs).run P w = .ok b w
  | [], [], i, cs, ds, b, _, h1, h2, hc, _, _, _, _ => by
    cases cs with
    | cons c cs => cases c <;> simp [typedL] at h1
    | nil =>
      cases ds with
      | cons c cs => cases c <;> simp [typedL] at h2
      | nil =>
        simp only [eqCells, Option.some.injEq] at hc
        subst hc
        simp [Op.eqFields]
  | [], _ :: _, _, _, _, _, h, _, _, _, _, _, _, _ => by simp [fldsB] at h
  | _ :: _, [], _, _, _, _, h, _, _, _, _, _, _, _ => by simp [fldsB] at h
  | f :: fs, t :: ts, i, [], ds, b, _, h1, _, _, _, _, _, _ => by simp [typedL] at h1
  | f :: fs, t :: ts, i, c :: cs, [], b, _, _, h2, _, _, _, _, _ => by simp [typedL] at h2
  | f :: fs, t :: ts, i, c :: cs, d :: ds, b, h, h1, h2, hc, hx, hy, hxs, hys => by
    simp only [fldsB, Bool.and_eq_true, Bool.not_eq_true'] at h
    obtain ⟨⟨⟨hn, ho⟩, ht⟩, hk⟩ := h
    have ho := Nat.eq_of_beq_eq_true ho
    have ht := Nat.eq_of_beq_eq_true ht
    have hx' : ∀ j c, cs[j]? = some c → RV E w S β D c (xs.getD (i + 1 + j) undef) := fun j c hj => by
      have := hx (j + 1) c (by simpa using hj); rwa [Nat.add_comm j 1, ← Nat.add_assoc] at this
    have hy' : ∀ j c, ds[j]? = some c → RV E w S β D c (ys.getD (i + 1 + j) undef) := fun j c hj => by
      have := hy (j + 1) c (by simpa using hj); rwa [Nat.add_comm j 1, ← Nat.add_assoc] at this
    have hx0 := hx 0 c rfl
    have hy0 := hy 0 d rfl
    simp only [Nat.add_zero] at hx0 hy0
    simp only [List.length_cons] at hxs hys
    have gx : xs[i]? = some (xs.getD i undef) := by
      have : i < xs.size := by omega
      simp [Array.getD_eq_getD_getElem?, this]
    have gy : ys[i]? = some (ys.getD i undef) := by
      have : i < ys.size := by omega
      simp [Array.getD_eq_getD_getElem?, this]
    have hrec := fun b' hb hh1 hh2 hcc => eqF_ok hT e fs ts (i + 1) cs ds b' hb hh1 hh2 hcc hx' hy' (by omega) (by omega)
    cases htd : E.ti t with
    | none => rw [htd] at hk; cases hk
    | some td =>
      obtain ⟨k, sz, by_, lf⟩ := td
      rw [htd] at hk
      have hpart := fun (zs : Array Value) (v : Value) (hz : zs[i]? = some v) (h1 : ∀ fs, k ≠ .struct fs) (h2 : k ≠ .other) => run_part (w := w) hT htd h1 h2 hz
      have hkind := hT.kind t _ htd
      cases c with
      | int k1 p =>
        cases d with
        | int k2 q =>
          cases k with
          | int k3 =>
            simp only [typedL, htd] at h1 h2
            split at h1
            case h_2 => cases h1
            rename_i e1
            split at h2
            case h_2 => cases h2
            rename_i e2
            have e1 := of_decide_eq_true e1
            have e2 := of_decide_eq_true e2
            subst e1 e2
            simp only [eqCells, decide_true] at hc
            cases hcc : eqCells cs ds with
            | none => simp [hcc] at hc
            | some b' =>
              simp only [hcc, Option.some.injEq] at hc
              subst hc
              rw [hx0.int_inv] at gx
              rw [hy0.int_inv] at gy
              refine eqf_cons hn (by rw [ht, ho]; exact hpart xs _ gx (by simp) (by simp)) (by rw [ht, ho]; exact hpart ys _ gy (by simp) (by simp)) (by rw [ht]; exact equalIn_int e t _ _ p q hkind w) (hrec b' hk h1 h2 hcc)
          | _ => simp [typedL, htd] at h1
        | _ => simp [eqCells] at hc
      | bool p =>
        cases d with
        | bool q =>
          cases k with
          | bool =>
            simp only [typedL, htd] at h1 h2
            simp only [eqCells] at hc
            cases hcc : eqCells cs ds with
            | none => simp [hcc] at hc
            | some b' =>
              simp only [hcc, Option.some.injEq] at hc
              subst hc
              rw [hx0.bool_inv] at gx
              rw [hy0.bool_inv] at gy
              refine eqf_cons hn (by rw [ht, ho]; exact hpart xs _ gx (by simp) (by simp)) (by rw [ht, ho]; exact hpart ys _ gy (by simp) (by simp)) (by rw [ht]; exact equalIn_bool e t p q hkind w) (hrec b' hk h1 h2 hcc)
          | _ => simp [typedL, htd] at h1
        | _ => simp [eqCells] at hc
      | str p =>
        cases d with
        | str q =>
          cases k with
          | string =>
            simp only [typedL, htd] at h1 h2
            simp only [eqCells] at hc
            cases hcc : eqCells cs ds with
            | none => simp [hcc] at hc
            | some b' =>
              simp only [hcc, Option.some.injEq] at hc
              subst hc
              rw [hx0.str_inv] at gx
              rw [hy0.str_inv] at gy
              refine eqf_cons hn (by rw [ht, ho]; exact hpart xs _ gx (by simp) (by simp)) (by rw [ht, ho]; exact hpart ys _ gy (by simp) (by simp)) (by rw [ht]; exact equalIn_str e t p q hkind w) (hrec b' hk h1 h2 hcc)
          | _ => simp [typedL, htd] at h1
        | _ => simp [eqCells] at hc
      | _ => simp [typedL] at h1

theorem EqOk.of (hT : TIok P E) (hall : E.eqt.all (eqTB P E) = true) : EqOk P E := by
  refine ⟨fun t ht cs ds b h1 h2 hc w S β D vs us hvl hul hv hu => ?_⟩
  have htb := List.all_eq_true.1 hall t ht
  unfold eqTB at htb
  split at htb
  case h_2 => cases htb
  rename_i fs d hun htd
  simp only [Bool.and_eq_true, Bool.not_eq_true'] at htb
  simp only [typedT, htd] at h1 h2
  have hf : P.fieldsOf t = fs := by simp [Program.fieldsOf, hun]
  constructor
  · have hmax : Op.maxDepth = 9998 + 1 + 1 := rfl
    unfold Op.equal
    rw [hmax, run_equalIn_struct (P := P) w _ t vs us (by rw [hf]; exact hun) htb.1.1, hf]
    exact eqF_ok hT 9998 fs.toList d.leafs 0 cs ds b htb.2 h1 h2 hc (fun j c hj => by rw [Nat.zero_add]; exact hv j c hj) (fun j c hj => by rw [Nat.zero_add]; exact hu j c hj) (by omega) (by omega)
  · intro op x y
    exact run_eqGuard_agg w op t x y vs us htb.1.2

end

end Go.Proofs.Ytejfpemjmpoddaa.Vx
/-! What came in, read as typed values. -/
namespace Go.Proofs.Ytejfpemjmpoddaa.Vx
open Go

section
variable {P : Program} {E : Env}

/-- numbers of their kinds, lengths that fit -/
inductive FitV (E : Env) : V E.Ty → Prop
  | int (k : IntKind) (n : Int) (h : (Lit.int k n).wf = true) : FitV E (.int k n)
  | bool (b : Bool) : FitV E (.bool b)
  | str (s : List UInt8) (h : s.length ≤ maxLen) : FitV E (.str s)
  | sl (κ : Nat) (xs : List (E.Ty κ)) (h : xs.length ≤ maxLen) (h2 : ∀ x ∈ xs, ∀ c ∈ E.cells κ x, FitV E c) : FitV E (.sl κ xs)

/-- types of plain data: with what they are made of among some -/
def dB (E : Env) (dL tyL : List Nat) (κ : Nat) : Bool := match E.ti κ with
  | some d => (match d.kind with
    | .int _ => true
    | .bool => true
    | .string => true
    | .slice e => mem dL e && mem tyL e && (match E.ti e with
      | some de => Nat.ble 1 de.size
      | none => false)
    | .struct fs => (match layB E fs 0 with
      | some l => eqNs l d.leafs && fs.all (fun p => mem dL p.2)
      | none => false)
    | _ => false)
  | none => false

theorem mapM_each {α γ : Type} {f : α → Option γ} : ∀ {l : List α} {ys : List γ}, l.mapM f = some ys → ys.length = l.length ∧ ∀ (i : Nat) (a : α), l[i]? = some a → ∃ y, f a = some y ∧ ys[i]? = some y
  | [], ys, h => by
    rw [List.mapM_nil] at h
    cases h
    exact ⟨rfl, by simp⟩
  | a :: l, ys, h => by
    rw [List.mapM_cons] at h
    cases hf : f a with
    | none => rw [hf] at h; simp at h
    | some y =>
      rw [hf] at h
      cases hr : l.mapM f with
      | none => rw [hr] at h; simp at h
      | some zs =>
        rw [hr] at h
        simp at h
        subst h
        obtain ⟨h1, h2⟩ := mapM_each hr
        refine ⟨by simp [h1], fun i b hb => ?_⟩
        cases i with
        | zero => simp at hb; subst hb; exact ⟨y, hf, rfl⟩
        | succ i => simpa using h2 i b (by simpa using hb)

theorem leafOk_app : ∀ {c1 c2 : List (V E.Ty)} {t1 t2 : List Nat}, c1.length = t1.length → leafOk E c1 t1 = true → leafOk E c2 t2 = true → leafOk E (c1 ++ c2) (t1 ++ t2) = true
  | [], c2, [], t2, _, _, h => h
  | [], _, _ :: _, _, h, _, _ => by simp at h
  | _ :: _, _, [], _, h, _, _ => by simp at h
  | c :: c1, c2, t :: t1, t2, hl, h1, h2 => by
    simp only [List.cons_append, leafOk] at h1 ⊢
    cases ht : E.ti t with
    | none => rw [ht] at h1; cases h1
    | some d =>
      rw [ht] at h1
      simp only [] at h1 ⊢
      cases hc : leaf1 E c d.kind with
      | false => rw [hc] at h1; cases h1
      | true =>
        rw [hc] at h1
        exact leafOk_app (by simpa using hl) h1 h2

variable {H : Type} {enc : TypeId × Value → H} {w : World} {base : Nat} {spare : Nat → Bool} {held : Bool}

/-- the blocks that are there -/
def Old (w : World) : Nat → Prop := fun b => b < w.heap.size

def Read (E : Env) (w : World) (l : List Nat) (cs : List Value) (vs : List (V E.Ty)) : Prop :=
  leafOk E vs l = true ∧ vs.length = l.length ∧ cs.length = vs.length ∧ (∀ (i : Nat) (c : V E.Ty) (v : Value), vs[i]? = some c → cs[i]? = some v → RV E w (Old w) β0 D0 c v) ∧ ∀ c ∈ vs, FitV E c

theorem cellsOf_ok (hT : TIok P E) {t : Nat} {d : TD} (h : E.ti t = some d) : P.cellsOf t = d.size := by
  obtain ⟨i, h1, h2, _⟩ := hT.info t d h
  unfold Program.cellsOf
  rw [h1]
  exact h2

theorem lay_ok (hT : TIok P E) {dL : List Nat} {fuel : Nat} (ih : ∀ (κ : Nat) (td : TD) (cs : List Value) (r : DataW H × List MemPlace), E.ti κ = some td → κ ∈ dL → DataW.trod enc P w base spare held fuel κ cs = some r → ∃ vs, Read E w td.leafs cs vs) (cs : List Value) :
    ∀ (fl : List Field) (o : Nat) (l : List Nat), layB E (fl.map (fun f => (f.offset, f.type))) o = some l → (∀ f ∈ fl, f.type ∈ dL) →
    (∀ f ∈ fl, ∃ r, DataW.trod enc P w base spare held fuel f.type ((cs.drop f.offset).take (P.cellsOf f.type)) = some r) → o + l.length ≤ cs.length →
    ∃ vs : List (V E.Ty), leafOk E vs l = true ∧ vs.length = l.length ∧ (∀ (i : Nat) (c : V E.Ty) (v : Value), vs[i]? = some c → cs[o + i]? = some v → RV E w (Old w) β0 D0 c v) ∧ ∀ c ∈ vs, FitV E c
  | [], o, l, h, _, _, _ => by
    simp only [List.map_nil, layB, Option.some.injEq] at h
    subst h
    exact ⟨[], rfl, rfl, by simp, by simp⟩
  | f :: fl, o, l, h, hd, hf, hle => by
    simp only [List.map_cons, layB] at h
    split at h
    case h_2 => cases h
    rename_i d ho htd
    have ho := Nat.eq_of_beq_eq_true ho
    cases hl : layB E (fl.map (fun f => (f.offset, f.type))) (o + d.size) with
    | none => rw [hl] at h; cases h
    | some l2 =>
      rw [hl] at h
      simp only [Option.some.injEq] at h
      subst h
      have hlf := hT.leafs _ _ htd
      obtain ⟨r, hr⟩ := hf f (by simp)
      obtain ⟨v1, a1, a2, a3, a4, a5⟩ := ih f.type d _ r htd (hd f (by simp)) hr
      simp only [List.length_append] at hle
      obtain ⟨v2, b1, b2, b3, b4⟩ := lay_ok hT ih cs fl (o + d.size) l2 hl (fun g hg => hd g (by simp [hg])) (fun g hg => hf g (by simp [hg])) (by omega)
      refine ⟨v1 ++ v2, leafOk_app a2 a1 b1, by simp [a2, b2], fun i c v hi hv => ?_, fun c hc => ?_⟩
      · by_cases hlt : i < v1.length
        · rw [List.getElem?_append_left hlt] at hi
          refine a4 i c v hi ?_
          rw [List.getElem?_take, List.getElem?_drop, ho, if_pos (by rw [cellsOf_ok hT htd]; omega)]
          exact hv
        · rw [List.getElem?_append_right (by omega)] at hi
          refine b3 _ c v hi ?_
          rw [← hv]
          congr 1; omega
      · rcases List.mem_append.1 hc with h' | h'
        · exact a5 c h'
        · exact b4 c h'

theorem nl_free {vs : List (V E.Ty)} {ts : List Nat} (h : leafOk E vs ts = true) : ∀ c ∈ vs, c ≠ .nl := by
  intro c hc e
  subst e
  obtain ⟨i, hi⟩ := List.getElem?_of_mem hc
  obtain ⟨t, d, _, _, h3⟩ := leafOk_at h i _ hi
  cases hk : d.kind <;> rw [hk] at h3 <;> simp [leaf1] at h3

theorem typed_of {tyL : List Nat} (hU : UniF E tyL) {κ : Nat} (hκ : κ ∈ tyL) {d : TD} (ht : E.ti κ = some d) {vs : List (V E.Ty)} (h1 : leafOk E vs d.leafs = true) (h2 : vs.length = d.leafs.length) : ∃ x, E.cells κ x = vs := by
  obtain ⟨d', k1, k2, k3, k4⟩ := (hU.all.mem hκ).ex
  rw [ht] at k1; cases k1
  have := k4 vs h1 h2
  cases hd : E.dec κ vs with
  | none => rw [hd] at this; cases this
  | some x => exact ⟨x, ((hU.all.mem hκ).dec vs x hd).same (nl_free h1)⟩

theorem bytes_mk (s : ByteArray) : (⟨s.data.toList.toArray⟩ : ByteArray) = s := by cases s; rfl

theorem cells_at {a : Addr} {n : Nat} {l : List Value} (h : w.cells? base a n = some l) : l.length = n ∧ ∀ j, j < n → w.cell? (a.add j) = l[j]? := by
  unfold World.cells? at h
  split at h
  · obtain ⟨h1, h2⟩ := mapM_each h
    refine ⟨by simpa using h1, fun j hj => ?_⟩
    obtain ⟨y, h3, h4⟩ := h2 j j (by simp [hj])
    rw [h3, h4]
  · cases h

theorem exL {α : Type} (Q : Nat → α → Prop) : ∀ (n : Nat), (∀ i, i < n → ∃ x, Q i x) → ∃ xs : List α, xs.length = n ∧ ∀ (i : Nat) (x : α), xs[i]? = some x → Q i x
  | 0, _ => ⟨[], rfl, by simp⟩
  | n + 1, h => by
    obtain ⟨xs, h1, h2⟩ := exL Q n (fun i hi => h i (by omega))
    obtain ⟨x, hx⟩ := h n (by omega)
    refine ⟨xs ++ [x], by simp [h1], fun i y hi => ?_⟩
    by_cases hlt : i < xs.length
    · rw [List.getElem?_append_left hlt] at hi
      exact h2 i y hi
    · rw [List.getElem?_append_right (by omega)] at hi
      have h0 : i - xs.length = 0 := by have := lt_of_getElem? hi; simp at this; omega
      rw [h0] at hi
      simp at hi; subst hi
      have : i = n := by omega
      subst this; exact hx

/-- a row that came in -/
theorem rowIn_ok (hT : TIok P E) (hG : Good E) {tyL : List Nat} (hU : UniF E tyL) {e : Nat} {de : TD} (hte : E.ti e = some de) (hsz : 1 ≤ de.size) (hey : e ∈ tyL) {fuel : Nat}
    (ih : ∀ (cs : List Value) (r : DataW H × List MemPlace), DataW.trod enc P w base spare held fuel e cs = some r → ∃ vs, Read E w de.leafs cs vs) {a : Addr} {len cap : Nat} (hlc : len ≤ cap) (hcm : cap ≤ maxLen)
    (hel : ∀ i, i < len → ∃ r, (w.cells? base (a.add (i * P.cellsOf e)) (P.cellsOf e)).bind (DataW.trod enc P w base spare held fuel e) = some r) :
    ∃ xs : List (E.Ty e), xs.length = len ∧ RV E w (Old w) β0 D0 (.sl e xs) (.slice (some a) len cap) ∧ FitV E (.sl e xs) := by
  have hco := cellsOf_ok hT hte
  have hll := hT.leafs e de hte
  have hszo : szOf E e = de.size := by
    unfold szOf
    obtain ⟨d', k1, k2, _⟩ := (hU.all.mem hey).ex
    rw [hte] at k1; cases k1
    cases hdf : E.dflt e with
    | none => rw [hdf] at k2; cases k2
    | some z => simp only [hte]
  obtain ⟨xs, hxl, hxs⟩ := exL (fun i (x : E.Ty e) => ∃ cs, w.cells? base (a.add (i * de.size)) de.size = some cs ∧ Read E w de.leafs cs (E.cells e x)) len (fun i hi => by
    obtain ⟨r, hr⟩ := hel i hi
    rw [hco] at hr
    cases hc : w.cells? base (a.add (i * de.size)) de.size with
    | none => rw [hc] at hr; cases hr
    | some cs =>
      rw [hc] at hr
      obtain ⟨vs, hvs⟩ := ih cs r hr
      obtain ⟨x, hx⟩ := typed_of hU hey hte hvs.1 hvs.2.1
      exact ⟨x, cs, rfl, by rw [hx]; exact hvs⟩)
  refine ⟨xs, hxl, ?_, .sl e xs (by omega) (fun x hx c hc => ?_)⟩
  · cases hlen : len with
    | zero =>
      have : xs = [] := List.eq_nil_of_length_eq_zero (by omega)
      rw [this]
      exact .slE e _ cap
    | succ n =>
      -- where it lies
      have h0 : 0 < xs.length := by omega
      obtain ⟨cs0, hc0, hr0⟩ := hxs 0 xs[0] (List.getElem?_eq_getElem h0)
      obtain ⟨hl0, hat0⟩ := cells_at hc0
      have hfirst := hat0 0 (by omega)
      have ha0 : (a.add (0 * de.size)).add 0 = a := by simp [Addr.add]
      rw [ha0] at hfirst
      have hlt0 : 0 < cs0.length := by omega
      rw [List.getElem?_eq_getElem hlt0] at hfirst
      obtain ⟨b, o, sp⟩ := a
      have hsp : sp = none := by
        unfold World.cell? at hfirst
        split at hfirst
        · cases sp with
          | none => rfl
          | some k => simp at hfirst
        · cases hfirst
      subst hsp
      have hb : b < w.heap.size := by
        unfold World.cell? at hfirst
        split at hfirst
        · rename_i hh
          simp only [] at hh
          rcases Nat.lt_or_ge b w.heap.size with h | h
          · exact h
          · rw [Array.getElem?_eq_none h] at hh; cases hh
        · cases hfirst
      have hcell : ∀ i x, xs[i]? = some x → ∀ j cv, (E.cells e x)[j]? = some cv → ∃ v, w.cell? ⟨b, o + (i * de.size + j), none⟩ = some v ∧ RV E w (Old w) β0 D0 cv v := by
        intro i x hx j cv hj
        obtain ⟨cs, hc, hr⟩ := hxs i x hx
        obtain ⟨hl, hat⟩ := cells_at hc
        have hjl := lt_of_getElem? hj
        have hjs : j < de.size := by have := hr.2.1; omega
        have h1 := hat j hjs
        rw [Addr.add_mid, Addr.add_mid, Nat.add_assoc] at h1
        have hlt : j < cs.length := by omega
        rw [List.getElem?_eq_getElem hlt] at h1
        exact ⟨cs[j], h1, hr.2.2.2.1 j cv cs[j] hj (List.getElem?_eq_getElem hlt)⟩
      have := RV.sl (E := E) (w := w) (S := Old w) (β := β0) (D := D0) e xs b o cap (fun i j => (w.cell? ⟨b, o + (i * de.size + j), none⟩).getD undef) (by omega) hb
        (fun i x hx j cv hj => by
          obtain ⟨v, hv, _⟩ := hcell i x hx j cv hj
          rw [hszo, hv]; rfl)
        (fun i x hx j cv hj => by
          obtain ⟨v, hv, hrv⟩ := hcell i x hx j cv hj
          simp only [hv, Option.getD_some]; exact hrv)
      rw [hxl, hlen] at this
      exact this
  · obtain ⟨i, hi⟩ := List.getElem?_of_mem hx
    obtain ⟨cs, _, hr⟩ := hxs i x hi
    exact hr.2.2.2.2 c hc

theorem trod_ok (hT : TIok P E) (hG : Good E) (hL : ∀ t d, E.ti t = some d → leafsB E t d = true) {dL tyL : List Nat} (hU : UniF E tyL) (hD : dL.all (dB E dL tyL) = true) : ∀ (fuel κ : Nat) (td : TD) (cs : List Value) (r : DataW H × List MemPlace), E.ti κ = some td → κ ∈ dL →
    DataW.trod enc P w base spare held fuel κ cs = some r → ∃ vs, Read E w td.leafs cs vs := by
  intro fuel
  induction fuel with
  | zero => intro κ td cs r _ _ h; simp [DataW.trod] at h
  | succ fuel ih =>
    intro κ td cs r ht hκ h
    have hdb := List.all_eq_true.1 hD κ hκ
    unfold dB at hdb
    simp only [ht] at hdb
    have hkind := hT.kind κ td ht
    have hlen := hT.leafs κ td ht
    have hlf := hL κ td ht
    -- a type of one cell
    have one : ∀ (c : V E.Ty) (v : Value), cs = [v] → td.leafs = [κ] → leaf1 E c td.kind = true → RV E w (Old w) β0 D0 c v → FitV E c → ∃ vs, Read E w td.leafs cs vs := by
      intro c v hcs hlt hlf hrv hfit
      subst hcs
      rw [hlt]
      refine ⟨[c], ?_, rfl, rfl, fun i c' v' hi hv => ?_, fun c' hc' => ?_⟩
      · simp only [leafOk, ht, hlf]
      · cases i with
        | zero => simp at hi hv; subst hi hv; exact hrv
        | succ i => simp at hi
      · simp at hc'; subst hc'; exact hfit
    unfold leafsB at hlf
    cases hk : td.kind with
    | int k =>
      rw [hk] at hkind hlf
      obtain ⟨n, h1, _, h2⟩ := DataW.trod_int hkind h
      exact one (.int k n) _ h1 (eqNs_ok hlf) (by rw [hk]; simp [leaf1]) (.int k n) (.int k n h2)
    | bool =>
      rw [hk] at hkind hlf
      obtain ⟨b, h1, _⟩ := DataW.trod_bool hkind h
      exact one (.bool b) _ h1 (eqNs_ok hlf) (by rw [hk]; rfl) (.bool b) (.bool b)
    | string =>
      rw [hk] at hkind hlf
      obtain ⟨s, h1, _, h2⟩ := DataW.trod_string hkind h
      refine one (.str s.data.toList) _ h1 (eqNs_ok hlf) (by rw [hk]; rfl) ?_ (.str _ (by
        have e : s.data.toList.length = s.size := Array.length_toList
        rw [e]; exact h2))
      have := RV.str (E := E) (w := w) (S := Old w) (β := β0) (D := D0) s.data.toList
      rwa [bytes_mk] at this
    | slice e =>
      rw [hk] at hkind hlf
      simp only [hk, Bool.and_eq_true] at hdb
      obtain ⟨⟨he1, he2⟩, he3⟩ := hdb
      cases hte : E.ti e with
      | none => rw [hte] at he3; cases he3
      | some de =>
        rw [hte] at he3
        have hsz := Nat.le_of_ble_eq_true he3
        rcases DataW.trod_slice hkind h with ⟨h1, _⟩ | ⟨a, len, cap, elems, rest, n, hf, h1, _, _, h3, h4, h5, h6, _⟩
        · exact one (.sl e []) _ h1 (eqNs_ok hlf) (by rw [hk]; simp [leaf1]) (.slE e none 0) (.sl e [] (Nat.zero_le _) (by simp))
        · obtain rfl : n = fuel := by omega
          obtain ⟨xs, _, hrv, hfit⟩ := rowIn_ok hT hG hU hte hsz ((mem_iff _ _).1 he2) (fun cs r hr => ih e de cs r hte ((mem_iff _ _).1 he1) hr) h3 h4 (fun i hi => by
            have := h6 i hi
            have hlt : i < elems.length := by omega
            rw [List.getElem?_eq_getElem hlt] at this
            exact ⟨_, this⟩)
          exact one (.sl e xs) _ h1 (eqNs_ok hlf) (by rw [hk]; simp [leaf1]) hrv hfit
    | struct fs =>
      rw [hk] at hkind
      simp only [hk] at hdb
      obtain ⟨fields, hu, hfs, _⟩ := hkind
      cases hlay : layB E fs 0 with
      | none => rw [hlay] at hdb; cases hdb
      | some l =>
        rw [hlay] at hdb
        simp only [Bool.and_eq_true] at hdb
        have hl := eqNs_ok hdb.1
        subst hl
        obtain ⟨xs, n, hf, _, hcl, hxl, hx⟩ := DataW.trod_struct hu h
        obtain rfl : n = fuel := by omega
        have hco := cellsOf_ok hT ht
        have hdL : ∀ f ∈ fields.toList, f.type ∈ dL := fun f hf => by
          have hm : (f.offset, f.type) ∈ fs := by rw [← hfs]; exact List.mem_map.2 ⟨f, hf, rfl⟩
          have := List.all_eq_true.1 hdb.2 _ hm
          exact (mem_iff _ _).1 this
        obtain ⟨vs, k1, k2, k3, k4⟩ := lay_ok hT (fun κ td cs r h1 h2 h3 => ih κ td cs r h1 h2 h3) cs fields.toList 0 td.leafs (by rw [hfs]; exact hlay) hdL (fun f hf => by
          obtain ⟨i, hi⟩ := List.getElem?_of_mem hf
          have := hx i f (by simpa using hi)
          have hlt : i < xs.length := by
            have := lt_of_getElem? hi
            simp at this; omega
          rw [List.getElem?_eq_getElem hlt] at this
          exact ⟨_, this⟩) (by omega)
        exact ⟨vs, k1, k2, by omega, fun i c v hi hv => k3 i c v hi (by rw [Nat.zero_add]; exact hv), k4⟩
    | pointer e => simp only [hk] at hdb; cases hdb
    | other => simp only [hk] at hdb; cases hdb

end

end Go.Proofs.Ytejfpemjmpoddaa.Vx
/-! A law's call. -/
namespace Go.Proofs.Ytejfpemjmpoddaa.Vx
open Go Go.RowKit

section
variable {P : Program} {E : Env}
variable {H : Type} {enc : TypeId × Value → H} {w : World} {base b0 : Nat} {spare : Nat → Bool} {held : Bool} {rc : Reach} {t : Nat} {v : Value} {d : DataW H} {p : List MemPlace} {td : TD}

theorem CR.mk {S : Nat → Prop} {β : Nat → Value} {D : Nat → Prop} {F : Nat → Value} : ∀ (cs : List (V E.Ty)) (q : Nat), (∀ (j : Nat) (c : V E.Ty), cs[j]? = some c → RV E w S β D c (F (q + j))) → CR E w S β D F q cs [] []
  | [], _, _ => rfl
  | c :: cs, q, h => ⟨h 0 c rfl, CR.mk cs (q + 1) (fun j c hj => by
    have := h (j + 1) c (by simpa using hj)
    rwa [Nat.add_comm j 1, ← Nat.add_assoc] at this)⟩

theorem arg_st (hT : TIok P E) (hG : Good E) (hL : ∀ t d, E.ti t = some d → leafsB E t d = true) {dL tyL : List Nat} (hU : UniF E tyL) (hD : dL.all (dB E dL tyL) = true) (ht : E.ti t = some td) {fs : List (Nat × Nat)} (hk : td.kind = .struct fs)
    (hd : t ∈ dL) (hy : t ∈ tyL) (hval : Value.okWide P w rc b0 t v) (h : DataW.Trod enc P w base spare held t v d p) : ∃ x : E.Ty t, PR E w (Old w) (.st t []) x v [] ∧ ∀ c ∈ E.cells t x, FitV E c := by
  obtain ⟨fuel, hf⟩ := h
  obtain ⟨vs, h1, h2, h3, h4, h5⟩ := trod_ok hT hG hL hU hD fuel t td _ _ ht hd hf
  have hkind := hT.kind t td ht
  rw [hk] at hkind
  obtain ⟨fields, hu, _⟩ := hkind
  have hv : ∃ cs, v = .agg cs := by
    simp only [Value.okWide, hu] at hval
    obtain ⟨cs, h, _⟩ := hval
    exact ⟨cs, h⟩
  obtain ⟨cs, rfl⟩ := hv
  obtain ⟨x, hx⟩ := typed_of hU hy ht h1 h2
  refine ⟨x, ⟨cs, rfl, ?_, ?_⟩, ?_⟩
  · rw [hx]; simpa [Value.cells] using h3
  · rw [hx]
    refine CR.mk vs 0 (fun j c hj => ?_)
    have hlt : j < cs.size := by have := lt_of_getElem? hj; simp [Value.cells] at h3; omega
    refine h4 j c _ hj ?_
    simp [Value.cells, Array.getD_eq_getD_getElem?, hlt]
  · rw [hx]; exact h5

theorem arg_sl (hT : TIok P E) (hG : Good E) (hL : ∀ t d, E.ti t = some d → leafsB E t d = true) {dL tyL : List Nat} (hU : UniF E tyL) (hD : dL.all (dB E dL tyL) = true) (ht : E.ti t = some td) {e : Nat} (hk : td.kind = .slice e)
    (hd : t ∈ dL) (hval : Value.okWide P w rc b0 t v) (h : DataW.Trod enc P w base spare held t v d p) : ∃ x : List (E.Ty e), PR E w (Old w) (.sl e) x v [] ∧ FitV E (.sl e x) := by
  obtain ⟨fuel, hf⟩ := h
  obtain ⟨vs, h1, h2, h3, h4, h5⟩ := trod_ok hT hG hL hU hD fuel t td _ _ ht hd hf
  have hkind := hT.kind t td ht
  rw [hk] at hkind
  obtain ⟨a, len, cap, rfl⟩ := WideShapes.okWide_slice hkind hval
  have hlf := hL t td ht
  unfold leafsB at hlf
  rw [hk] at hlf
  have hle := eqNs_ok hlf
  rw [hle] at h1 h2
  obtain ⟨x, cs', rfl, _, hl⟩ := leaf_sl (n := 0) ht hk h1 h2
  obtain rfl := List.eq_nil_of_length_eq_zero hl
  exact ⟨x, ⟨h4 0 _ _ rfl (by simp [Value.cells]), rfl⟩, h5 _ (by simp)⟩

theorem law_calls (hUni : Uni P E) {f : Nat} {fn : Func} (hc : E.code f = some fn) (hb : fn.body.isNone = false) {x : E.Args f} {y : E.Res f} (h : (orcL E).call f x = some y) {args : List Value} (hp : PRs E w (Old w) (E.sig f).ps x args []) :
    Calls P f args.toArray w (fun e w' => ∃ rv vals S' ob', e = .returned rv ∧ Post E f y args w (Old w) [] rv w' vals S' ob') := by
  obtain ⟨hfn, hname⟩ := hUni.code f fn hc
  have hup := orcL_ok hUni h w (Old w) args [] hp List.nodup_nil (by simp) (fun b hb => hb) { (default : Oper) with dst := some 0 } ⟨#[undef], []⟩
    (fun a' w' => ∃ vals S' ob', Post E f y args w (Old w) [] (a'.tmps.getD 0 undef) w' vals S' ob') (fun _ _ _ => False) (fun rv w' vals S' ob' hpost => ⟨vals, S', ob', by simpa [Act.put] using hpost⟩)
  have hrun : (callFunc f args.toArray).run P w = .ok (.enter f args.toArray) w := by
    unfold callFunc
    simp only [Sem.run_bind, run_program, Result.andThen_ok, hfn, hname, hb, Bool.false_eq_true, if_false, Sem.run_pure]
  rw [hrun] at hup
  refine Calls.mono hup (fun e w' he => ?_)
  cases e with
  | returned rv =>
    obtain ⟨vals, S', ob', hpost⟩ := he
    exact ⟨rv, vals, S', ob', rfl, by simpa [Act.put] using hpost⟩
  | panicked c => exact he.elim
  | outgrown =>
    obtain ⟨_, _, hf⟩ := he
    exact hf.elim

theorem bool_res {w' : World} {S' : Nat → Prop} {b : Bool} {vals : List Value} {ob' : List Nat} (h : PRs E w' S' [.bool] ((b, ()) : Bool × Unit) vals ob') : vals = [.bool b] := by
  match vals, h with
  | [], h => exact h.elim
  | [v], h =>
    obtain ⟨o1, o2, _, h1, _⟩ := h
    rw [h1.1]
  | v :: u :: vs, h =>
    obtain ⟨o1, o2, _, _, h2⟩ := h
    exact h2.elim

theorem post_below {f : Nat} {y : E.Res f} {args : List Value} {S' : Nat → Prop} {ob' : List Nat} {rv : Value} {w' : World} {vals : List Value} (h : Post E f y args w (Old w) [] rv w' vals S' ob') : Below w.heap.size w w' :=
  ⟨h.os, h.tape, h.out, h.sz, fun k hk => h.frame k hk (by simp)⟩

theorem leafs_of {tL : List (Nat × TD)} (hmem : ∀ t d, E.ti t = some d → (t, d) ∈ tL) (hall : tL.all (tB P E) = true) : ∀ t d, E.ti t = some d → leafsB E t d = true := fun t d h => by
  have := tB_of hmem hall h
  simp only [tB, Bool.and_eq_true] at this
  exact this.2

end

end Go.Proofs.Ytejfpemjmpoddaa.Vx
/-! Functions that are taken by a contract. -/
namespace Go.Proofs.Ytejfpemjmpoddaa.Vx
open Go Go.RowKit

section
variable {P : Program} {E : Env}

theorem callFunc_run {f : Nat} {fn : Func} (hf : P.funcs[f]? = some fn) (hname : (fn.name == "runtime.NumGoroutine") = false) (hb : fn.body.isNone = false) (args : Array Value) (w : World) : (callFunc f args).run P w = .ok (.enter f args) w := by
  unfold callFunc
  simp only [Sem.run_bind, run_program, Result.andThen_ok, hf, hname, hb, Bool.false_eq_true, if_false, Sem.run_pure]

/-- one that takes and hands back numbers, bools and texts alone, and leaves the world as it was -/
theorem FnOk.scal {f : Nat} {fn : Func} {x : E.Args f} {y : E.Res f} (hf : P.funcs[f]? = some fn) (hname : (fn.name == "runtime.NumGoroutine") = false) (hb : fn.body.isNone = false)
    (h : ∀ (w : World) (S : Nat → Prop) (args : List Value) (ob : List Nat), PRs E w S (E.sig f).ps x args ob → ∃ vals : List Value, vals.length = (E.sig f).rs.length ∧
      (∀ S, PRs E w S ((E.sig f).rs ++ outsOf (E.sig f).ps) y (vals ++ outVals (E.sig f).ps args) []) ∧ Calls P f args.toArray w fun e w' => e = .returned (retVal vals) ∧ w' = w) : FnOk P E f x y := by
  intro w S args ob hp hnd hob hS o a K Q hK
  obtain ⟨vals, h1, h2, h3⟩ := h w S args ob hp
  rw [callFunc_run hf hname hb]
  refine Calls.mono h3 (fun e w' he => ?_)
  obtain ⟨rfl, rfl⟩ := he
  refine hK (retVal vals) _ vals S [] ?_
  exact {
    ret := rfl
    len := h1
    rel := h2 S
    nd := List.nodup_nil
    own := by simp
    s1 := fun _ h => h
    s2 := fun _ h => .inl h
    s3 := hS
    frame := fun _ _ _ => rfl
    sz := Nat.le_refl _
    os := rfl
    tape := rfl
    out := rfl }

end

end Go.Proofs.Ytejfpemjmpoddaa.Vx
/-! Plain words: loops over rows, told as functions. -/
namespace Go.Proofs.Ytejfpemjmpoddaa.Vx
open Go

theorem w64 {n : Int} (h1 : -9223372036854775808 ≤ n) (h2 : n ≤ 9223372036854775807) : IntKind.i64.wrap n = n := by rw [IntKind.wrap_i64]; omega

theorem wi {i : Nat} (h : i < 9223372036854775807) : IntKind.i64.wrap ((i : Int) + 1) = ((i + 1 : Nat) : Int) := by
  rw [w64 (by omega) (by omega)]; omega

theorem wd {i : Nat} (h0 : 0 < i) (h : i < 9223372036854775807) : IntKind.i64.wrap ((i : Int) - 1) = ((i - 1 : Nat) : Int) := by
  rw [w64 (by omega) (by omega)]; omega

theorem inB {i n : Nat} (h : i < n) : (decide (0 ≤ (i : Int)) && decide ((i : Int) < (n : Int))) = true := by
  simp only [Bool.and_eq_true, decide_eq_true_eq]; omega

theorem ltT {i n : Nat} (h : i < n) : decide ((i : Int) < (n : Int)) = true := by simp only [decide_eq_true_eq]; omega
theorem ltF {i n : Nat} (h : ¬ i < n) : decide ((i : Int) < (n : Int)) = false := by simp only [decide_eq_false_iff_not]; omega

theorem nn (i : Nat) : decide (0 ≤ (i : Int)) = true := by simp only [decide_eq_true_eq]; omega

theorem gdPrev {i n : Nat} (h : i < n) (hn : n ≤ 9223372036854775807) (b : Bool) : (!(decide (0 < i) && b) || (decide (0 ≤ IntKind.i64.wrap ((i : Int) - 1)) && decide (IntKind.i64.wrap ((i : Int) - 1) < (n : Int)))) = true := by
  rw [w64 (by omega) (by omega)]
  by_cases h0 : 0 < i
  · simp only [Bool.or_eq_true, Bool.and_eq_true, decide_eq_true_eq]; right; omega
  · simp [h0]

theorem wpN {i : Nat} (h : i ≤ 9223372036854775807) : (IntKind.i64.wrap ((i : Int) - 1)).toNat = i - 1 := by
  rw [w64 (by omega) (by omega)]; omega

theorem gt0 (i : Nat) : decide ((i : Int) > 0) = decide (0 < i) := by
  by_cases h : 0 < i
  · simp only [h, decide_true, decide_eq_true_eq]; omega
  · simp only [h, decide_false, decide_eq_false_iff_not]; omega

theorem eq0 (i : Nat) : ((i : Int) == 0) = decide (i = 0) := by
  rw [Bool.eq_iff_iff]; simp

theorem ifN {α : Type} {c p : Bool} {x y : α} (h : c = !p) : (if c = true then x else y) = if p = true then y else x := by subst h; cases p <;> rfl
theorem ifN2 {α : Type} {c p x : Bool} {y z : α} (h : (c || !x) = !p) : (if c = true then y else if x = true then z else y) = if p = true then z else y := by
  cases c <;> cases x <;> cases p <;> first | rfl | (simp at h; done)
theorem ifN3 {α : Type} {c p x : Bool} {y z : α} (h : (c || x) = !p) : (if c = true then y else if x = true then y else z) = if p = true then z else y := by
  cases c <;> cases x <;> cases p <;> first | rfl | (simp at h; done)
theorem ifP {α : Type} {c p : Bool} {x y : α} (h : c = p) : (if c = true then x else y) = if p = true then x else y := by subst h; rfl

/-! what is left of a size -/

def szR (l : Int) (w : Nat) : Int := if l < w then -1 else l - w

theorem szR_zero {l : Int} (h : 0 ≤ l) : szR l 0 = l := by unfold szR; rw [if_neg (by omega)]; omega
theorem szR_le {l : Int} {w : Nat} (h : 0 ≤ l) : szR l w ≤ l := by unfold szR; split <;> omega
theorem szR_ge (l : Int) (w : Nat) : -1 ≤ szR l w := by unfold szR; split <;> omega
theorem szR_neg {l : Int} {w : Nat} (h : szR l w < 0) : l < w := by
  unfold szR at h; split at h <;> omega
theorem szR_nn {l : Int} {w : Nat} (h : ¬ szR l w < 0) : (w : Int) ≤ l ∧ szR l w = l - w := by
  unfold szR at h ⊢; split at h
  · exact absurd (by omega) h
  · rename_i h1; rw [if_neg h1]; omega

/-- one more part -/
theorem szR_step {l : Int} {a b : Nat} (hl : 0 ≤ l) : (if szR l a < 0 then (-1 : Int) else szR (szR l a) b) = szR l (a + b) := by
  unfold szR; split <;> split <;> (try split) <;> omega

theorem szB {l : Int} {a b : Nat} (hl : 0 ≤ l) : ((some (szR l a, ()) : Option (Int × Unit)).bind fun y => if decide (y.1 < 0) = true then some (-1, ()) else some (szR y.1 b, ())) = some (szR l (a + b), ()) := by
  rw [Option.bind_some, ← szR_step hl]
  by_cases h : szR l a < 0 <;> simp [h]

theorem szE {l : Int} {a : Nat} : ((some (szR l a, ()) : Option (Int × Unit)).bind fun y => if decide (y.1 < 0) = true then some (-1, ()) else some (y.1, ())) = some (szR l a, ()) := by
  rw [Option.bind_some]
  by_cases h : szR l a < 0
  · have h2 : szR l a = -1 := by unfold szR at h ⊢; split at h; · rename_i h1; rw [if_pos h1]
                                 · omega
    simp [h2]
  · simp [h]

theorem szI {l : Int} {a : Nat} (hl : 0 ≤ l) (hl2 : l ≤ 4611686018427387904) (ha : a ≤ 9223372036854775807) {α : Type} (x y : α) :
    (if decide (IntKind.i64.wrap (l - (a : Int)) < 0) = true then x else y) = if l < a then x else y := by
  rw [w64 (by omega) (by omega)]
  by_cases h : l < a
  · rw [if_pos h, if_pos (by simp only [decide_eq_true_eq]; omega)]
  · rw [if_neg h, if_neg (by simp only [decide_eq_true_eq]; omega)]

/-! loops -/

theorem loop_sz {α : Type} (L : Int → Int → Option (Int × Unit)) (xs : List α) (wf : α → Nat) (hstep : ∀ (i : Nat) (x : α) (l : Int), xs[i]? = some x → 0 ≤ l → l ≤ 4611686018427387904 →
      L l i = (some (szR l (wf x), ()) : Option (Int × Unit)).bind fun y => if decide (y.1 < 0) = true then some (-1, ()) else L y.1 ((i + 1 : Nat) : Int))
    (hend : ∀ l, L l xs.length = some (l, ())) : ∀ (k i : Nat), i + k = xs.length → ∀ l, 0 ≤ l → l ≤ 4611686018427387904 → L l i = some (szR l (((xs.drop i).map wf).sum), ()) := by
  intro k
  induction k with
  | zero =>
    intro i hi l h0 h1
    have : i = xs.length := by omega
    subst this
    rw [hend, List.drop_length]
    simp only [List.map_nil, List.sum_nil]
    rw [szR_zero h0]
  | succ k ih =>
    intro i hi l h0 h1
    have hlt : i < xs.length := by omega
    rw [hstep i xs[i] l (List.getElem?_eq_getElem hlt) h0 h1, Option.bind_some, List.drop_eq_getElem_cons hlt, List.map_cons, List.sum_cons, ← szR_step h0]
    by_cases h : szR l (wf xs[i]) < 0
    · simp [h]
    · have h2 := szR_nn h
      simp only [h, decide_false, Bool.false_eq_true, if_false]
      rw [ih (i + 1) (by omega) _ (by omega) (by omega)]

theorem loop_map {α β : Type} (L : Int → List β → Option (List β × Unit)) (xs : List α) (f : α → β) (hstep : ∀ (i : Nat) (x : α) (r : List β), xs[i]? = some x → r.length = xs.length → L i r = L ((i + 1 : Nat) : Int) (r.set i (f x)))
    (hend : ∀ r, L xs.length r = some (r, ())) : ∀ (k i : Nat), i + k = xs.length → ∀ r, r.length = xs.length → L i r = some (r.take i ++ (xs.drop i).map f, ()) := by
  intro k
  induction k with
  | zero =>
    intro i hi r hr
    have : i = xs.length := by omega
    subst this
    rw [hend, List.drop_length, ← hr]
    simp
  | succ k ih =>
    intro i hi r hr
    have hlt : i < xs.length := by omega
    rw [hstep i xs[i] r (List.getElem?_eq_getElem hlt) hr, ih (i + 1) (by omega) _ (by simpa using hr), List.drop_eq_getElem_cons hlt, List.map_cons]
    congr 2
    have h1 : (r.set i (f xs[i])).take (i + 1) = r.take i ++ [f xs[i]] := by
      have hir : i < r.length := by omega
      rw [List.take_add_one, List.take_set_of_le (Nat.le_refl _)]
      simp [hir]
    rw [h1]; simp

/-- a loop that tells whether all are as they should be -/
theorem loop_all (L : Int → Option (Bool × Unit)) (n : Nat) (p : Nat → Bool) (fin : Bool) (hstep : ∀ i, i < n → L i = if p i = true then L ((i + 1 : Nat) : Int) else some (false, ())) (hend : L n = some (fin, ())) :
    ∀ (k i : Nat), i + k = n → L i = some (((List.range' i k).all p && fin), ()) := by
  intro k
  induction k with
  | zero =>
    intro i hi
    have : i = n := by omega
    subst this
    rw [hend]; simp
  | succ k ih =>
    intro i hi
    rw [hstep i (by omega), ih (i + 1) (by omega), List.range'_succ, List.all_cons]
    cases p i <;> simp

theorem loop_allO (L : Int → Option (Bool × Unit)) (n : Nat) (p : Nat → Bool) (fin : Option (Bool × Unit)) (hstep : ∀ i, i < n → L i = if p i = true then L ((i + 1 : Nat) : Int) else some (false, ())) (hend : L n = fin) :
    ∀ (k i : Nat), i + k = n → L i = if (List.range' i k).all p = true then fin else some (false, ()) := by
  intro k
  induction k with
  | zero =>
    intro i hi
    have : i = n := by omega
    subst this
    rw [hend]; simp
  | succ k ih =>
    intro i hi
    rw [hstep i (by omega), ih (i + 1) (by omega), List.range'_succ, List.all_cons]
    cases p i
    · simp
    · simp only [Bool.true_and, if_true]

/-- a loop that looks for the first -/
theorem loop_find (L : Int → Option (Int × Unit)) (n : Nat) (p : Nat → Bool) (hstep : ∀ i, i < n → L i = if p i = true then some ((i : Int), ()) else L ((i + 1 : Nat) : Int)) (hend : L n = some (-1, ())) :
    ∀ (k i : Nat), i + k = n → ∃ r : Int, L i = some (r, ()) ∧ (decide (r ≥ 0)) = (List.range' i k).any p := by
  intro k
  induction k with
  | zero =>
    intro i hi
    have : i = n := by omega
    subst this
    exact ⟨-1, hend, by simp⟩
  | succ k ih =>
    intro i hi
    rw [hstep i (by omega), List.range'_succ, List.any_cons]
    cases hp : p i with
    | true => exact ⟨i, by simp, by simp⟩
    | false =>
      obtain ⟨r, h1, h2⟩ := ih (i + 1) (by omega)
      exact ⟨r, by simpa using h1, by simpa using h2⟩

theorem bif_some {c x y : Bool} : (if c = true then (some (x, ()) : Option (Bool × Unit)) else some (y, ())) = some (bif c then x else y, ()) := by cases c <;> rfl

theorem szNeg {l : Int} {w : Nat} (h : l < w) : (some ((-1 : Int), ()) : Option (Int × Unit)) = some (szR l w, ()) := by unfold szR; rw [if_pos h]
theorem szEnd {l m : Int} {w : Nat} (h : (w : Int) ≤ l) (e : m = l - w) : (some (m, ()) : Option (Int × Unit)) = some (szR l w, ()) := by unfold szR; rw [if_neg (by omega), e]

theorem sum_le {α : Type} (w : α → Nat) {x : α} : ∀ {l : List α}, x ∈ l → w x ≤ (l.map w).sum
  | [], h => by simp at h
  | y :: l, h => by
    simp only [List.map_cons, List.sum_cons]
    rcases List.mem_cons.1 h with h' | h'
    · subst h'; omega
    · have := sum_le w h'; omega

def maxI : Nat := 9223372036854775807
def i64In (n : Int) : Prop := -9223372036854775808 ≤ n ∧ n ≤ 9223372036854775807

theorem wT {a : Int} (h1 : -9223372036854775808 ≤ a) (h2 : a < 0) : decide (IntKind.i64.wrap a < 0) = true := by rw [w64 h1 (by omega)]; simpa using h2
theorem wF {a : Int} (h1 : 0 ≤ a) (h2 : a ≤ 9223372036854775807) : ¬ decide (IntKind.i64.wrap a < 0) = true := by rw [w64 (by omega) h2]; simpa using h1

end Go.Proofs.Ytejfpemjmpoddaa.Vx
/-! Functions that are taken by a contract, on: those that hand back a row of their own; what putting into a row, and taking out of it, make of its cells. -/
namespace Go.Proofs.Ytejfpemjmpoddaa.Vx
open Go Go.RowKit

section
variable {P : Program} {E : Env}

/-- by a contract in the kit's form -/
theorem FnOk.calls {f : Nat} {fn : Func} {x : E.Args f} {y : E.Res f} (hf : P.funcs[f]? = some fn) (hname : (fn.name == "runtime.NumGoroutine") = false) (hb : fn.body.isNone = false)
    (h : ∀ (w : World) (S : Nat → Prop) (args : List Value) (ob : List Nat), PRs E w S (E.sig f).ps x args ob → ob.Nodup → (∀ b ∈ ob, ¬ S b ∧ b < w.heap.size) → (∀ b, S b → b < w.heap.size) →
      Calls P f args.toArray w fun e w' => ∃ rv vals S' ob', e = .returned rv ∧ Post E f y args w S ob rv w' vals S' ob') : FnOk P E f x y := by
  intro w S args ob hp hnd hob hS o a K Q hK
  rw [callFunc_run hf hname hb]
  refine Calls.mono (h w S args ob hp hnd hob hS) (fun e w' he => ?_)
  obtain ⟨rv, vals, S', ob', rfl, hpost⟩ := he
  exact hK rv w' vals S' ob' hpost

/-- a row of one's own that is handed back -/
def Gave (E : Env) (w : World) (S : Nat → Prop) (ob : List Nat) (κ : Nat) (xs : List (E.Ty κ)) (e : Ending) (w' : World) : Prop :=
  ∃ v ob', e = .returned v ∧ OR E w' S β0 D0 κ xs v ob' ∧ (∀ b ∈ ob', b < w'.heap.size ∧ (w.heap.size ≤ b ∨ b ∈ ob)) ∧
    (∀ b, b < w.heap.size → b ∉ ob → w'.heap[b]? = w.heap[b]?) ∧ w.heap.size ≤ w'.heap.size ∧ w'.os = w.os ∧ w'.tape = w.tape ∧ w'.output = w.output

theorem OR.nodup {w : World} {S : Nat → Prop} {κ : Nat} {xs : List (E.Ty κ)} {v : Value} {ob : List Nat} (h : OR E w S β0 D0 κ xs v ob) : ob.Nodup := by
  rcases h with ⟨_, rfl, _⟩ | ⟨b, o, c, arr, e, rfl, _⟩ <;> simp

theorem Gave.post {f κ : Nat} {y : E.Res f} {xs : List (E.Ty κ)} (hrs : (E.sig f).rs = [.gsl κ]) (hout : outsOf (E.sig f).ps = []) {args : List Value} (ho : outVals (E.sig f).ps args = [])
    (hy : ∀ (w : World) (S : Nat → Prop) (v : Value) (ob : List Nat), PR E w S (.gsl κ) xs v ob → PRs E w S ((E.sig f).rs ++ outsOf (E.sig f).ps) y [v] ob)
    {w w' : World} {S : Nat → Prop} {ob : List Nat} {e : Ending} (hob : ∀ b ∈ ob, ¬ S b ∧ b < w.heap.size) (hS : ∀ b, S b → b < w.heap.size) (h : Gave E w S ob κ xs e w') :
    ∃ rv vals S' ob', e = .returned rv ∧ Post E f y args w S ob rv w' vals S' ob' := by
  obtain ⟨v, ob', rfl, h1, h2, h3, h4, h5, h6, h7⟩ := h
  refine ⟨v, [v], S, ob', rfl, ?_⟩
  exact {
    ret := rfl
    len := by rw [hrs]; rfl
    rel := by rw [ho]; exact hy w' S v ob' h1
    nd := h1.nodup
    own := fun b hb => ⟨fun hs => by
      rcases (h2 b hb).2 with h | h
      · have := hS b hs; omega
      · exact (hob b h).1 hs, h2 b hb⟩
    s1 := fun _ h => h
    s2 := fun _ h => .inl h
    s3 := fun b hb => Nat.lt_of_lt_of_le (hS b hb) h4
    frame := h3
    sz := h4
    os := h5
    tape := h6
    out := h7 }

/-- 'copy' into a row whose block is known whole -/
theorem copy_run (w : World) (dT sT ty elem : TypeId) (i : TypeInfo) (g o dLen dCap : Nat) (a : Addr) (sLen sCap : Nat) (cur : Array Value) (t : TypeId) (cs : List Value)
    (hu : P.underlying dT = some (.slice elem)) (hi : P.info? elem = some i) (hn : cs.length = Nat.min sLen dLen * i.size)
    (hg : w.heap[g]? = some (.cells cur t (0, 0))) (hfit : o + cs.length ≤ cur.size)
    (hsrc : ∀ j v, cs[j]? = some v → w.cell? (a.add j) = some v) (h1 : ∀ v ∈ cs, v.oneCell' = true) :
    (Builtin.copy_ #[dT, sT] ty #[.slice (some ⟨g, o, none⟩) dLen dCap, .slice (some a) sLen sCap]).run P w =
      .ok (goInt (Nat.min sLen dLen)) (w.setRow g (cur.toList.take o ++ cs ++ cur.toList.drop (o + cs.length)).toArray) := by
  have hl := run_loadCells_list (P := P) w a cs hsrc
  have hst := run_storeCells_at P g o t cs 0 cur w hg (by simpa using hfit) h1
  simp only [Nat.add_zero] at hst
  simp [Builtin.copy_, run_underlying hu, Builtin.lenOf, Builtin.firstCells, sizeOf, typeInfo, hi, ← hn, hl, hst]

/-- cells, a part of which is replaced -/
def spl (A : Array Value) (o : Nat) (vs : List Value) : Array Value := (A.toList.take o ++ vs ++ A.toList.drop (o + vs.length)).toArray

theorem spl_size {A : Array Value} {o : Nat} {vs : List Value} (h : o + vs.length ≤ A.size) : (spl A o vs).size = A.size := by
  simp only [spl, List.size_toArray, List.length_append, List.length_take, List.length_drop, Array.length_toList]
  omega

theorem getD_arr (A : Array Value) (k : Nat) : A.getD k undef = (A.toList[k]?).getD undef := by
  simp [Array.getD_eq_getD_getElem?]

theorem spl_in {A : Array Value} {o : Nat} {vs : List Value} (h : o + vs.length ≤ A.size) {j : Nat} {v : Value} (hj : vs[j]? = some v) : (spl A o vs).getD (o + j) undef = v := by
  have hj' := lt_of_getElem? hj
  have hl : (A.toList.take o).length = o := by simp; omega
  rw [getD_arr]
  simp only [spl]
  rw [List.append_assoc, List.getElem?_append_right (by omega), hl, Nat.add_sub_cancel_left, List.getElem?_append_left hj', hj]
  rfl

theorem spl_out {A : Array Value} {o : Nat} {vs : List Value} (h : o + vs.length ≤ A.size) {k : Nat} (hk : k < o ∨ o + vs.length ≤ k) : (spl A o vs).getD k undef = A.getD k undef := by
  have hl : (A.toList.take o).length = o := by simp; omega
  rw [getD_arr, getD_arr]
  simp only [spl]
  rcases hk with hk | hk
  · rw [List.append_assoc, List.getElem?_append_left (by omega), List.getElem?_take]
    simp [hk]
  · rw [List.append_assoc, List.getElem?_append_right (by omega), hl, List.getElem?_append_right (by omega), List.getElem?_drop]
    congr 2
    omega

/-- a row told by its cells -/
def RowNew (w : World) (b σ : Nat) (cells : List Value) (len : Nat) (e : Ending) (w' : World) : Prop :=
  ∃ b' o' c' arr' et', e = .returned (.slice (some ⟨b', o', none⟩) len c') ∧ len ≤ c' ∧ w'.heap[b']? = some (.cells arr' et' (0, 0)) ∧ o' + c' * σ ≤ arr'.size ∧
    (∀ (j : Nat) (u : Value), cells[j]? = some u → arr'.getD (o' + j) undef = u) ∧ (w.heap.size ≤ b' ∨ b' = b) ∧ b' < w'.heap.size ∧
    (∀ q, q < w.heap.size → q ≠ b → w'.heap[q]? = w.heap[q]?) ∧ w.heap.size ≤ w'.heap.size ∧ w'.os = w.os ∧ w'.tape = w.tape ∧ w'.output = w.output

/-- .. is a row of values, where its cells are theirs -/
theorem RowNew.gave (hG : Good E) {w : World} {S : Nat → Prop} {b κ : Nat} {xs : List (E.Ty κ)} {F : Nat → Nat → Value} {e : Ending} {w' : World} {ob : List Nat}
    (h : RowNew w b (szOf E κ) (flatF F xs.length (szOf E κ)) xs.length e w') (hb : b ∈ ob) (hbS : ∀ b, S b → b < w.heap.size) (hob : ∀ b ∈ ob, ¬ S b ∧ b < w.heap.size)
    (hF : ∀ i x, xs[i]? = some x → ∀ j cv, (E.cells κ x)[j]? = some cv → RV E w S β0 D0 cv (F i j)) : Gave E w S ob κ xs e w' := by
  obtain ⟨b', o', c', arr', et', rfl, h1, h2, h3, h4, h5, h6, h7, h8, h9, h10, h11⟩ := h
  have hSb : ∀ q, S q → w'.heap[q]? = w.heap[q]? := fun q hq => h7 q (hbS q hq) (fun e => (hob b hb).1 (e ▸ hq))
  refine ⟨_, [b'], rfl, .inr ⟨b', o', c', arr', et', rfl, rfl, h1, h2, h3, ?_⟩, ?_, ?_, h8, h9, h10, h11⟩
  · intro i x hi j cv hj
    have hi' := lt_of_getElem? hi
    have hj' := lt_of_getElem? hj
    rw [hG.len] at hj'
    rw [h4 _ _ (flatF_get F _ _ _ _ hi' hj')]
    exact (hF i x hi j cv hj).mono hSb (fun _ h => h) (fun _ h => h) (fun _ _ => rfl)
  · intro q hq
    simp at hq; subst hq
    refine ⟨h6, ?_⟩
    rcases h5 with h | h
    · exact .inl h
    · subst h; exact .inr hb
  · intro q hq hne
    exact h7 q hq (fun e => hne (e ▸ hb))

theorem flatF_append (F G : Nat → Nat → Value) (n m σ : Nat) : flatF F n σ ++ flatF G m σ = flatF (fun p j => if p < n then F p j else G (p - n) j) (n + m) σ := by
  apply List.ext_getElem?
  intro k
  by_cases hσ : σ = 0
  · subst hσ; simp [flatF]
  have hσ' : 0 < σ := by omega
  have hlt : k % σ < σ := Nat.mod_lt _ hσ'
  have hk : k / σ * σ + k % σ = k := by rw [Nat.mul_comm]; exact Nat.div_add_mod k σ
  by_cases h : k < n * σ
  · have hp : k / σ < n := (Nat.div_lt_iff_lt_mul hσ').2 h
    rw [List.getElem?_append_left (by rw [flatF_len]; exact h)]
    conv => lhs; rw [← hk]
    conv => rhs; rw [← hk]
    rw [flatF_get F _ _ _ _ hp hlt, flatF_get _ _ _ _ _ (by omega) hlt]
    simp [hp]
  · rw [List.getElem?_append_right (by rw [flatF_len]; omega), flatF_len]
    by_cases h2 : k < (n + m) * σ
    · have hp : k / σ < n + m := (Nat.div_lt_iff_lt_mul hσ').2 h2
      have hn : n ≤ k / σ := (Nat.le_div_iff_mul_le hσ').2 (by omega)
      have hk2 : k - n * σ = (k / σ - n) * σ + k % σ := by
        have : k / σ * σ = (k / σ - n) * σ + n * σ := by rw [← Nat.add_mul]; congr 1; omega
        omega
      rw [hk2, flatF_get G _ _ _ _ (by omega) hlt]
      conv => rhs; rw [← hk]
      rw [flatF_get _ _ _ _ _ hp hlt]
      simp [show ¬ k / σ < n by omega]
    · rw [List.getElem?_eq_none (by rw [flatF_len]; rw [Nat.add_mul] at h2; omega), List.getElem?_eq_none (by rw [flatF_len]; omega)]

/-- the cells of an owned row that is not empty -/
theorem OR.cellsOf (hG : Good E) {w : World} {S : Nat → Prop} {κ : Nat} {xs : List (E.Ty κ)} {v : Value} {ob : List Nat} (h : OR E w S β0 D0 κ xs v ob) (hne : xs ≠ []) :
    ∃ b o c arr e, ob = [b] ∧ v = .slice (some ⟨b, o, none⟩) xs.length c ∧ xs.length ≤ c ∧ w.heap[b]? = some (.cells arr e (0, 0)) ∧ o + c * szOf E κ ≤ arr.size ∧
      (∀ i x, xs[i]? = some x → ∀ j cv, (E.cells κ x)[j]? = some cv → RV E w S β0 D0 cv (arr.getD (o + (i * szOf E κ + j)) undef)) ∧
      (∀ p j, p < xs.length → j < szOf E κ → w.cell? ⟨b, o + (p * szOf E κ + j), none⟩ = some (arr.getD (o + (p * szOf E κ + j)) undef)) := by
  rcases h with ⟨rfl, _⟩ | ⟨b, o, c, arr, e, rfl, rfl, h2, h3, h4, h5⟩
  · exact absurd rfl hne
  · refine ⟨b, o, c, arr, e, rfl, rfl, h2, h3, h4, h5, fun p j hp hj => ?_⟩
    have h6 := pair_lt (Nat.lt_of_lt_of_le hp h2) hj
    have h7 : o + (p * szOf E κ + j) < arr.size := by omega
    simp [World.cell?, h3, h7]

/-- three pieces of rows, one behind the other -/
theorem three (hG : Good E) {w : World} {S : Nat → Prop} {κ : Nat} {xs ys : List (E.Ty κ)} {F G : Nat → Nat → Value} {i : Nat} (hi : i ≤ xs.length)
    (hF : ∀ p x, xs[p]? = some x → ∀ j cv, (E.cells κ x)[j]? = some cv → RV E w S β0 D0 cv (F p j))
    (hGG : ∀ p x, ys[p]? = some x → ∀ j cv, (E.cells κ x)[j]? = some cv → RV E w S β0 D0 cv (G p j)) :
    ∃ H : Nat → Nat → Value, flatF F i (szOf E κ) ++ flatF G ys.length (szOf E κ) ++ flatF (fun p j => F (i + p) j) (xs.length - i) (szOf E κ) = flatF H (xs.take i ++ ys ++ xs.drop i).length (szOf E κ) ∧
      (∀ p x, (xs.take i ++ ys ++ xs.drop i)[p]? = some x → ∀ j cv, (E.cells κ x)[j]? = some cv → RV E w S β0 D0 cv (H p j)) := by
  refine ⟨fun p j => if p < i + ys.length then (if p < i then F p j else G (p - i) j) else F (i + (p - (i + ys.length))) j, ?_, ?_⟩
  · rw [flatF_append, flatF_append]
    have : (xs.take i ++ ys ++ xs.drop i).length = i + ys.length + (xs.length - i) := by simp; omega
    rw [this]
  · intro p x hp j cv hj
    have hl : (xs.take i).length = i := by simp; omega
    by_cases h1 : p < i
    · rw [List.append_assoc, List.getElem?_append_left (by omega), List.getElem?_take] at hp
      simp only [h1, if_true] at hp
      simp only [show p < i + ys.length by omega, h1, if_true]
      exact hF p x hp j cv hj
    · rw [List.append_assoc, List.getElem?_append_right (by omega), hl] at hp
      by_cases h2 : p < i + ys.length
      · rw [List.getElem?_append_left (by omega)] at hp
        simp only [h2, h1, if_true, if_false]
        exact hGG _ x hp j cv hj
      · rw [List.getElem?_append_right (by omega), List.getElem?_drop] at hp
        simp only [h2, if_false]
        rw [show i + (p - (i + ys.length)) = i + (p - i - ys.length) by omega]
        exact hF _ x hp j cv hj

theorem flatF_cell {w : World} {F : Nat → Nat → Value} {n σ b o : Nat} (h : ∀ p j, p < n → j < σ → w.cell? ⟨b, o + (p * σ + j), none⟩ = some (F p j)) (k : Nat) (v : Value) (hk : (flatF F n σ)[k]? = some v) :
    w.cell? ⟨b, o + k, none⟩ = some v := by
  obtain ⟨p, j, hp, hj, rfl, rfl⟩ := flatF_inv hk
  exact h p j hp hj

theorem room_new {w w' : World} {b off n m i c σ : Nat} {arr : Array Value} {et : TypeId} {os cs vs : List Value} {e : Ending} (hin : i ≤ n) (hroom : n + m ≤ c)
    (hb : w.heap[b]? = some (.cells arr et (0, 0))) (hsz : off + c * σ ≤ arr.size) (hol : os.length = i * σ) (hcl : cs.length = (n - i) * σ) (hvl : vs.length = m * σ)
    (hos : ∀ (j : Nat) (v : Value), os[j]? = some v → w.cell? ⟨b, off + j, none⟩ = some v) (he : e = .returned (.slice (some ⟨b, off, none⟩) (n + m) c))
    (hw : w' = (w.drew.setRow b (spl arr (off + (i + m) * σ) cs)).setRow b (spl (spl arr (off + (i + m) * σ) cs) (off + i * σ) vs)) : RowNew w b σ (os ++ vs ++ cs) (n + m) e w' := by
  have hbl : b < w.heap.size := lt_of_getElem? (by simpa using hb)
  have hmul : (n + m) * σ ≤ c * σ := Nat.mul_le_mul_right _ hroom
  have hsum : i * σ + m * σ + (n - i) * σ = (n + m) * σ := by rw [← Nat.add_mul, ← Nat.add_mul]; congr 1; omega
  have him : (i + m) * σ = i * σ + m * σ := Nat.add_mul _ _ _
  have h1 : off + (i + m) * σ + cs.length ≤ arr.size := by omega
  have hs1 := spl_size h1
  have h2 : off + i * σ + vs.length ≤ (spl arr (off + (i + m) * σ) cs).size := by rw [hs1]; omega
  have hs2 := spl_size h2
  subst hw
  refine ⟨b, off, c, _, et, he, hroom, setRow_heap _ _ _ _ _ _ (setRow_heap _ _ _ _ _ _ hb), by rw [hs2, hs1]; exact hsz, ?_, .inr rfl, by rw [setRow_size, setRow_size]; exact hbl, ?_, by rw [setRow_size, setRow_size]; exact Nat.le_refl _, rfl, rfl, rfl⟩
  · intro j u hj
    by_cases c1 : j < i * σ
    · rw [List.append_assoc, List.getElem?_append_left (by omega)] at hj
      rw [spl_out h2 (.inl (by omega)), spl_out h1 (.inl (by omega))]
      have := hos j u hj
      unfold World.cell? at this
      simp only [hb, Option.isSome_none, Bool.false_eq_true, if_false] at this
      rw [Array.getD_eq_getD_getElem?, this]; rfl
    · by_cases c2 : j < i * σ + m * σ
      · rw [List.append_assoc, List.getElem?_append_right (by omega), hol, List.getElem?_append_left (by omega)] at hj
        have := spl_in h2 hj
        rw [show off + i * σ + (j - i * σ) = off + j by omega] at this
        exact this
      · rw [List.append_assoc, List.getElem?_append_right (by omega), hol, List.getElem?_append_right (by omega), hvl] at hj
        rw [spl_out h2 (.inr (by omega))]
        have := spl_in h1 hj
        rw [show off + (i + m) * σ + (j - i * σ - m * σ) = off + j by omega] at this
        exact this
  · intro q hq hne
    rw [setRow_other _ _ _ _ hne, setRow_other _ _ _ _ hne]
    rfl

theorem grow_new {w W w' : World} {b n m i G κ σ : Nat} {ROW : Array Value} {os cs vs : List Value} {e : Ending} (hin : i ≤ n) (hroom : n + m ≤ G)
    (hRs : ROW.size = G * σ) (hol : os.length = i * σ) (hcl : cs.length = (n - i) * σ) (hvl : vs.length = m * σ)
    (hos : ∀ (j : Nat) (v : Value), os[j]? = some v → ROW[j]? = some v) (he : e = .returned (.slice (some ⟨w.heap.size, 0, none⟩) (n + m) G))
    (hW : W.heap = (w.drew.alloc (.cells ROW κ)).heap) (ho : W.os = w.os) (ht : W.tape = w.tape) (hu : W.output = w.output)
    (hw : w' = (W.setRow w.heap.size (spl ROW (i * σ) vs)).setRow w.heap.size (spl (spl ROW (i * σ) vs) ((i + m) * σ) cs)) : RowNew w b σ (os ++ vs ++ cs) (n + m) e w' := by
  have hmul : (n + m) * σ ≤ G * σ := Nat.mul_le_mul_right _ hroom
  have hsum : i * σ + m * σ + (n - i) * σ = (n + m) * σ := by rw [← Nat.add_mul, ← Nat.add_mul]; congr 1; omega
  have him : (i + m) * σ = i * σ + m * σ := Nat.add_mul _ _ _
  have h1 : i * σ + vs.length ≤ ROW.size := by omega
  have hs1 := spl_size h1
  have h2 : (i + m) * σ + cs.length ≤ (spl ROW (i * σ) vs).size := by rw [hs1]; omega
  have hs2 := spl_size h2
  have hH : W.heap[w.heap.size]? = some (.cells ROW κ (0, 0)) := by rw [hW]; exact heap_alloc_new w.drew _
  have hsz : W.heap.size = w.heap.size + 1 := by rw [hW, size_alloc]; rfl
  subst hw
  refine ⟨w.heap.size, 0, G, _, κ, he, hroom, setRow_heap _ _ _ _ _ _ (setRow_heap _ _ _ _ _ _ hH), by rw [hs2, hs1, hRs]; omega, ?_, .inl (Nat.le_refl _), by rw [setRow_size, setRow_size, hsz]; omega, ?_, by rw [setRow_size, setRow_size, hsz]; omega, ho, ht, hu⟩
  · intro j u hj
    rw [Nat.zero_add]
    by_cases c1 : j < i * σ
    · rw [List.append_assoc, List.getElem?_append_left (by omega)] at hj
      rw [spl_out h2 (.inl (by omega)), spl_out h1 (.inl (by omega)), Array.getD_eq_getD_getElem?, hos j u hj]; rfl
    · by_cases c2 : j < i * σ + m * σ
      · rw [List.append_assoc, List.getElem?_append_right (by omega), hol, List.getElem?_append_left (by omega)] at hj
        rw [spl_out h2 (.inl (by omega))]
        have := spl_in h1 hj
        rw [show i * σ + (j - i * σ) = j by omega] at this
        exact this
      · rw [List.append_assoc, List.getElem?_append_right (by omega), hol, List.getElem?_append_right (by omega), hvl] at hj
        have := spl_in h2 hj
        rw [show (i + m) * σ + (j - i * σ - m * σ) = j by omega] at this
        exact this
  · intro q hq _
    rw [setRow_other _ _ _ _ (Nat.ne_of_lt hq), setRow_other _ _ _ _ (Nat.ne_of_lt hq), hW]
    exact heap_alloc_lt w.drew _ q hq

/-- what slices.Insert does, out of its ways through -/
theorem ins_calls (hT : TIok P E) (hG : Good E) {f t κ by_ σ : Nat} (ht : P.underlying t = some (.slice κ)) (hgr : growT (E := E) κ = some by_) (hσ : szOf E κ = σ)
    (hnone : ∀ (A B : Option Addr) (n c i d : Nat) (w : World), i ≤ n → n ≤ c → Calls P f #[.slice A n c, .int .i64 i, .slice B 0 d] w fun e w' => e = .returned (.slice A n c) ∧ w' = w)
    (hend : ∀ (A B : Option Addr) (n c m d : Nat) (w : World), n ≤ c → 0 < m → ∀ (v' : Value) (w1 : World), (∀ ty, (Builtin.append_ #[t, t] ty #[.slice A n c, .slice B m d]).run P w = .ok v' w1) →
      Calls P f #[.slice A n c, .int .i64 n, .slice B m d] w fun e w' => e = .returned v' ∧ w' = w1)
    (hroom : ∀ (b off n c i vb voff m vc : Nat) (arr : Array Value) (et : TypeId) (cs vs : List Value) (w : World), i < n → 0 < m → n + m ≤ c → n + m ≤ 140737488355328 → vb ≠ b →
      w.heap[b]? = some (.cells arr et (0, 0)) → off + c * σ ≤ arr.size → ∀ (varr : Array Value) (vt : TypeId), w.heap[vb]? = some (.cells varr vt (0, 0)) → cs.length = (n - i) * σ → vs.length = m * σ →
      (∀ j v, cs[j]? = some v → w.cell? ⟨b, off + i * σ + j, none⟩ = some v) → (∀ j v, vs[j]? = some v → w.cell? ⟨vb, voff + j, none⟩ = some v) → (∀ v ∈ cs, v.oneCell' = true) → (∀ v ∈ vs, v.oneCell' = true) →
      ∀ (A1 A2 : Array Value), A1 = spl arr (off + (i + m) * σ) cs → A2 = spl A1 (off + i * σ) vs →
      Calls P f #[.slice (some ⟨b, off, none⟩) n c, .int .i64 i, .slice (some ⟨vb, voff, none⟩) m vc] w fun e w' => e = .returned (.slice (some ⟨b, off, none⟩) (n + m) c) ∧ w' = (w.drew.setRow b A1).setRow b A2)
    (hgrow : ∀ (b off n c i vb voff m vc : Nat) (os cs vs : List Value) (w : World), i < n → 0 < m → n ≤ c → c < n + m → (n + m) * by_ ≤ 140737488355328 → b < w.heap.size → vb < w.heap.size →
      os.length = i * σ → cs.length = (n - i) * σ → vs.length = m * σ → (∀ j v, os[j]? = some v → w.cell? ⟨b, off + j, none⟩ = some v) → (∀ j v, cs[j]? = some v → w.cell? ⟨b, off + i * σ + j, none⟩ = some v) →
      (∀ j v, vs[j]? = some v → w.cell? ⟨vb, voff + j, none⟩ = some v) → (∀ v ∈ cs, v.oneCell' = true) → (∀ v ∈ vs, v.oneCell' = true) → ∀ (G : Nat), G = grownCap w (n + m) c κ →
      ∃ ROW A1 A2 : Array Value, ROW.size = G * σ ∧ A1 = spl ROW (i * σ) vs ∧ A2 = spl A1 ((i + m) * σ) cs ∧ (∀ (j : Nat) (v : Value), os[j]? = some v → ROW[j]? = some v) ∧
      Calls P f #[.slice (some ⟨b, off, none⟩) n c, .int .i64 i, .slice (some ⟨vb, voff, none⟩) m vc] w fun e w' =>
        e = .returned (.slice (some ⟨w.heap.size, 0, none⟩) (n + m) G) ∧ ∃ W : World, W.heap = (w.drew.alloc (.cells ROW κ)).heap ∧ W.os = w.os ∧ W.tape = w.tape ∧ W.output = w.output ∧ w' = (W.setRow w.heap.size A1).setRow w.heap.size A2)
    {w : World} {S : Nat → Prop} {xs ys : List (E.Ty κ)} {sv xv : Value} {o1 o2 : List Nat} {i : Int} (hx : OR E w S β0 D0 κ xs sv o1) (hy : OR E w S β0 D0 κ ys xv o2) (hnd : (o1 ++ o2).Nodup)
    (hob : ∀ b ∈ o1 ++ o2, ¬ S b ∧ b < w.heap.size) (hS : ∀ b, S b → b < w.heap.size) (h0 : 0 ≤ i) (h1 : i ≤ xs.length) (hbig : (xs.length + ys.length) * by_ ≤ 140737488355328) :
    Calls P f #[sv, .int .i64 i, xv] w (Gave E w S (o1 ++ o2) κ (xs.take i.toNat ++ ys ++ xs.drop i.toNat)) := by
  obtain ⟨k, rfl⟩ : ∃ k : Nat, i = k := ⟨i.toNat, by omega⟩
  simp only [Int.toNat_natCast]
  have hk : k ≤ xs.length := by omega
  have h47 : xs.length + ys.length ≤ 140737488355328 := by
    obtain ⟨d, i, z, hd, hdf, hi, his, hib, hb1, hz, hzs⟩ := growT_ok hT hgr
    exact Nat.le_trans (Nat.le_mul_of_pos_right _ (by omega)) hbig
  have hform : ∀ {zs : List (E.Ty κ)} {v : Value} {o : List Nat}, OR E w S β0 D0 κ zs v o → ∃ A c, v = .slice A zs.length c ∧ zs.length ≤ c := by
    intro zs v o h
    rcases h with ⟨rfl, _, A, rfl⟩ | ⟨b, q, c, arr, e, _, rfl, h2, _⟩
    · exact ⟨A, 0, rfl, Nat.le_refl _⟩
    · exact ⟨_, c, rfl, h2⟩
  obtain ⟨A, c, hsv, hnc⟩ := hform hx
  obtain ⟨B, d, hxv, _⟩ := hform hy
  by_cases hm : ys = []
  · subst hm
    simp only [List.append_nil, List.take_append_drop]
    subst hsv hxv
    refine (hnone A B _ c k d w hk hnc).mono (fun e w' he => ?_)
    obtain ⟨rfl, rfl⟩ := he
    exact ⟨_, o1, rfl, hx, fun b hb => ⟨(hob b (List.mem_append_left _ hb)).2, .inr (List.mem_append_left _ hb)⟩, fun _ _ _ => rfl, Nat.le_refl _, rfl, rfl, rfl⟩
  · have hmp : 0 < ys.length := List.length_pos_iff.2 hm
    by_cases hke : k = xs.length
    · subst hke
      rw [List.take_length, List.drop_length, List.append_nil]
      have hcore := append_core (ty := 0) (N := fun b => b ∈ o2) hT hG ht ht hgr hx (fun b hb => hob b (List.mem_append_left _ hb)) (S := S) (ys := ys) (xv := xv) ?_ hS hbig
      · obtain ⟨v, w', ob', hr, g1, g2, g3, g4, g5, g6, g7⟩ := hcore
        subst hsv hxv
        refine (hend A B _ c _ d w hnc hmp v w' (fun ty => hr)).mono (fun e w2 he => ?_)
        obtain ⟨rfl, rfl⟩ := he
        exact ⟨v, ob', rfl, g1, fun b hb => ⟨(g2 b hb).1, (g2 b hb).2.imp id (List.mem_append_left _)⟩, fun b hb hne => g3 b hb (fun h => hne (List.mem_append_left _ h)), g4, g5, g6, g7⟩
      · refine ⟨B, d, hxv, by assumption, .inr ?_⟩
        obtain ⟨vb, voff, vc, varr, vt, rfl, hxv', hvc, hvb, hvsz, hcy, hcye⟩ := hy.cellsOf hG hm
        rw [hxv] at hxv'
        cases hxv'
        exact ⟨vb, voff, _, rfl, by simp, fun p x hp j cv hj => ⟨hcye p j (lt_of_getElem? hp) (by have := lt_of_getElem? hj; rwa [hG.len] at this), hcy p x hp j cv hj⟩⟩
    · have hlt : k < xs.length := by omega
      obtain ⟨b, off, c', arr, et, rfl, hsv', hnc', hb, hsz, hcx, hce⟩ := hx.cellsOf hG (fun e => by subst e; simp at hlt)
      obtain ⟨vb, voff, vc, varr, vt, rfl, hxv', hvc, hvb, hvsz, hcy, hcye⟩ := hy.cellsOf hG hm
      have hne : vb ≠ b := by
        intro e; subst e; simp at hnd
      obtain ⟨H, hH1, hH2⟩ := three hG hk hcx hcy
      rw [hσ] at hsz hvsz hce hcye hH1
      have hone : ∀ v ∈ flatF (fun p j => arr.getD (off + ((k + p) * σ + j)) undef) (xs.length - k) σ, v.oneCell' = true := by
        have := flat_one hG (ys := xs.drop k) (w := w) (S := S) (F := fun p j => arr.getD (off + ((k + p) * szOf E κ + j)) undef) (fun p x hp j cv hj => hcx (k + p) x (by rw [List.getElem?_drop] at hp; exact hp) j cv hj)
        rw [hσ, List.length_drop] at this
        exact this
      have hone2 : ∀ v ∈ flatF (fun p j => varr.getD (voff + (p * σ + j)) undef) ys.length σ, v.oneCell' = true := by
        have := flat_one hG (w := w) (S := S) hcy
        rw [hσ] at this
        exact this
      have hcell1 := flatF_cell (w := w) (b := b) (o := off) (n := k) (σ := σ) (F := fun p j => arr.getD (off + (p * σ + j)) undef) (fun p j hp hj => hce p j (by omega) hj)
      have hcell2 := flatF_cell (w := w) (b := b) (o := off + k * σ) (n := xs.length - k) (σ := σ) (F := fun p j => arr.getD (off + ((k + p) * σ + j)) undef) (fun p j hp hj => by
        have := hce (k + p) j (by omega) hj
        rw [show off + k * σ + (p * σ + j) = off + ((k + p) * σ + j) by rw [Nat.add_mul]; omega]
        exact this)
      have hcell3 := flatF_cell (w := w) (b := vb) (o := voff) (n := ys.length) (σ := σ) (F := fun p j => varr.getD (voff + (p * σ + j)) undef) (fun p j hp hj => hcye p j hp hj)
      have hlen : (xs.take k ++ ys ++ xs.drop k).length = xs.length + ys.length := by simp; omega
      have hgave : ∀ e w', RowNew w b σ (flatF (fun p j => arr.getD (off + (p * σ + j)) undef) k σ ++ flatF (fun p j => varr.getD (voff + (p * σ + j)) undef) ys.length σ ++ flatF (fun p j => arr.getD (off + ((k + p) * σ + j)) undef) (xs.length - k) σ) (xs.length + ys.length) e w' →
          Gave E w S ([b] ++ [vb]) κ (xs.take k ++ ys ++ xs.drop k) e w' := by
        intro e w' hr
        rw [hH1, ← hlen, ← hσ] at hr
        exact RowNew.gave hG hr (by simp) hS hob hH2
      subst hsv' hxv'
      by_cases hr : xs.length + ys.length ≤ c'
      · refine (hroom b off _ c' k vb voff _ vc arr et _ _ w hlt hmp hr h47 hne hb hsz varr vt hvb (flatF_len _ _ _) (flatF_len _ _ _) hcell2 hcell3 hone hone2 _ _ rfl rfl).mono (fun e w' he => ?_)
        exact hgave e w' (room_new hk hr hb hsz (flatF_len _ _ _) (flatF_len _ _ _) (flatF_len _ _ _) hcell1 he.1 he.2)
      · obtain ⟨ROW, A1, A2, hRs, rfl, rfl, hRo, hcall⟩ := hgrow b off _ c' k vb voff _ vc _ _ _ w hlt hmp hnc' (by omega) hbig (hob b (by simp)).2 (hob vb (by simp)).2 (flatF_len _ _ _) (flatF_len _ _ _) (flatF_len _ _ _) hcell1 hcell2 hcell3 hone hone2 _ rfl
        refine hcall.mono (fun e w' he => ?_)
        obtain ⟨he1, W, e1, e2, e3, e4, e5⟩ := he
        exact hgave e w' (grow_new hk (grownCap_ge w _ _ _) hRs (flatF_len _ _ _) (flatF_len _ _ _) (flatF_len _ _ _) hRo he1 e1 e2 e3 e4 e5)

end

end Go.Proofs.Ytejfpemjmpoddaa.Vx
/-! Functions that are taken by a contract, on: what slices.Clone and slices.Delete do, out of their ways through. -/
namespace Go.Proofs.Ytejfpemjmpoddaa.Vx
open Go Go.RowKit

section
variable {P : Program} {E : Env}

/-- a row that may be read is one whose cells may be copied -/
theorem RV.src {w : World} {S : Nat → Prop} {κ : Nat} {xs : List (E.Ty κ)} {v : Value} (h : RV E w S β0 D0 (.sl κ xs) v) : Src E w S β0 D0 κ xs v S := by
  cases h with
  | slE => exact ⟨_, _, rfl, Nat.zero_le _, .inl rfl⟩
  | sl _ _ b o c F hc hS h1 h2 => exact ⟨_, c, rfl, hc, .inr ⟨b, o, F, rfl, hS, fun i x hx j cv hj => ⟨h1 i x hx j cv hj, h2 i x hx j cv hj⟩⟩⟩

theorem Src.move {w w' : World} {S N : Nat → Prop} {κ : Nat} {xs : List (E.Ty κ)} {v : Value} (h : Src E w S β0 D0 κ xs v N) (hN : ∀ b, N b → w'.heap[b]? = w.heap[b]?) (hS : ∀ b, S b → w'.heap[b]? = w.heap[b]?) :
    Src E w' S β0 D0 κ xs v N := by
  obtain ⟨A, c, h1, h2, h3⟩ := h
  refine ⟨A, c, h1, h2, h3.imp id ?_⟩
  rintro ⟨b, q, F, h4, h5, h6⟩
  exact ⟨b, q, F, h4, h5, fun i x hx j cv hj => ⟨(cell_of (hN b h5) _).trans (h6 i x hx j cv hj).1, (h6 i x hx j cv hj).2.mono hS (fun _ h => h) (fun _ h => h) (fun _ _ => rfl)⟩⟩

/-- 'append' as one step of a region that draws, where its run is known by an equation -/
theorem step_append_run {ops : Array Oper} {o : Oper} {a : Act} {w : World} {K : Act → World → Prop} {Q : Exit → Act → World → Prop} {E : Prop}
    (hg : o.guard = none) (d x : Operand) (dT sT : TypeId) (hop : o.op = Op.call { callee := Callee.builtin Builtin.append, args := #[d, x], argTypes := #[dT, sT] })
    (v u : Value) (hd : a.eval d = v) (hx : a.eval x = u) {v' : Value} {w' : World} (hr : (Builtin.append_ #[dT, sT] o.type #[v, u]).run P w = .ok v' w') (hK : K (a.put o.dst v') w') :
    if Region.wanted o (yielded ops a.tmps) = true then Oper.wp P o a w K Q else E := by
  have hw : Region.wanted o (yielded ops a.tmps) = true := by simp [Region.wanted, hg]
  rw [if_pos hw]
  unfold Oper.wp
  simp [execOp, hop, resolve, invoke, builtin, hd, hx, hr, Result.andThen]
  exact hK

/-- what slices.Clone does, out of its ways through -/
theorem clone_calls (hT : TIok P E) (hG : Good E) {f t κ by_ : Nat} (ht : P.underlying t = some (.slice κ)) (hgr : growT (E := E) κ = some by_)
    (hnil : ∀ (n c : Nat) (w : World), Calls P f #[.slice none n c] w fun e w' => e = .returned (.slice none 0 0) ∧ w' = w)
    (hrun : ∀ (a : Addr) (n c : Nat) (w : World) (v' : Value) (w1 : World), (∀ ty, (Builtin.append_ #[t, t] ty #[.slice (some ⟨w.heap.size, 0, none⟩) 0 0, .slice (some a) n c]).run P (w.alloc (.cells #[] κ)) = .ok v' w1) →
      Calls P f #[.slice (some a) n c] w fun e w' => e = .returned v' ∧ w' = w1)
    {w : World} {S : Nat → Prop} {xs : List (E.Ty κ)} {xv : Value} (hx : RV E w S β0 D0 (.sl κ xs) xv) (hS : ∀ b, S b → b < w.heap.size) (hbig : xs.length * by_ ≤ 140737488355328) :
    Calls P f #[xv] w (Gave E w S [] κ xs) := by
  obtain ⟨A, c, rfl, hc, hsrc⟩ := hx.src
  cases A with
  | none =>
    have hxs : xs = [] := by
      rcases hsrc with h | ⟨b, q, F, h, _⟩
      · exact h
      · cases h
    subst hxs
    refine (hnil _ _ w).mono (fun e w' he => ?_)
    obtain ⟨rfl, rfl⟩ := he
    exact ⟨_, [], rfl, .inl ⟨rfl, rfl, none, rfl⟩, by simp, fun _ _ _ => rfl, Nat.le_refl _, rfl, rfl, rfl⟩
  | some a =>
    have hst : ∀ b, S b → (w.alloc (.cells #[] κ)).heap[b]? = w.heap[b]? := fun b hb => heap_alloc_lt w _ b (hS b hb)
    have hsz : (w.alloc (.cells #[] κ)).heap.size = w.heap.size + 1 := size_alloc _ _
    have hcore := append_core (P := P) (ty := 0) (w := w.alloc (.cells #[] κ)) (S := S) (xs := ([] : List (E.Ty κ))) (sv := .slice (some ⟨w.heap.size, 0, none⟩) 0 0) (ob := []) (N := S) hT hG ht ht hgr (.inl ⟨rfl, rfl, _, rfl⟩) (by simp)
      (hx.src.move hst hst) (fun b hb => by have := hS b hb; omega) (by simpa using hbig)
    obtain ⟨v, w', ob', hr, g1, g2, g3, g4, g5, g6, g7⟩ := hcore
    refine (hrun a _ c w v w' (fun ty => hr)).mono (fun e w2 he => ?_)
    obtain ⟨rfl, rfl⟩ := he
    refine ⟨v, ob', rfl, g1, fun b hb => ⟨(g2 b hb).1, ?_⟩, fun b hb _ => ?_, by omega, g5, g6, g7⟩
    · rcases (g2 b hb).2 with h | h
      · exact .inl (by omega)
      · cases h
    · rw [g3 b (by omega) (by simp)]
      exact heap_alloc_lt w _ b hb

/-- 'clear' of a row whose block is known whole -/
theorem clear_run (w : World) (t ty elem : TypeId) (i : TypeInfo) (z : Value) (g o n c : Nat) (cur : Array Value) (et : TypeId) (hn : 0 < n)
    (hu : P.underlying t = some (.slice elem)) (hi : P.info? elem = some i) (hz : i.zero = some z) (hg : w.heap[g]? = some (.cells cur et (0, 0))) (hfit : o + (Builtin.zeroCells z.cells n).toList.length ≤ cur.size)
    (h1 : ∀ v ∈ (Builtin.zeroCells z.cells n).toList, v.oneCell' = true) :
    (Builtin.clear_ #[t] ty #[.slice (some ⟨g, o, none⟩) n c]).run P w = .ok (.tuple #[]) (w.setRow g (spl cur o (Builtin.zeroCells z.cells n).toList)) := by
  have hst := run_storeCells_at P g o et (Builtin.zeroCells z.cells n).toList 0 cur w hg (by simpa using hfit) h1
  simp only [Nat.add_zero] at hst
  obtain ⟨m, rfl⟩ : ∃ m, n = m + 1 := ⟨n - 1, by omega⟩
  simp [Builtin.clear_, run_underlying hu, zeroValue, typeInfo, hi, hz, spl] at hst ⊢
  rw [hst]
  rfl

theorem zeroCells_one {z : Array Value} (h : z.toList.all (fun v => v.oneCell') = true) (hs : 0 < z.size) (n : Nat) : ∀ v ∈ (Builtin.zeroCells z n).toList, v.oneCell' = true := by
  intro v hv
  simp only [Builtin.zeroCells, Array.toList_map, List.mem_map] at hv
  obtain ⟨k, _, rfl⟩ := hv
  have hk : k % z.size < z.size := Nat.mod_lt _ hs
  rw [List.all_eq_true] at h
  refine h _ ?_
  rw [getElem!_pos z _ hk]
  simp

theorem del_new {w w' : World} {b off n i j c σ : Nat} {arr : Array Value} {et : TypeId} {os cs zs : List Value} {e : Ending} (hij : i < j) (hj : j ≤ n) (hnc : n ≤ c)
    (hb : w.heap[b]? = some (.cells arr et (0, 0))) (hsz : off + c * σ ≤ arr.size) (hol : os.length = i * σ) (hcl : cs.length = (n - j) * σ) (hzl : zs.length = (j - i) * σ)
    (hos : ∀ (k : Nat) (v : Value), os[k]? = some v → w.cell? ⟨b, off + k, none⟩ = some v) (he : e = .returned (.slice (some ⟨b, off, none⟩) (n - (j - i)) c))
    {W : World} (hW : W.heap = w.heap) (ho : W.os = w.os) (ht : W.tape = w.tape) (hu : W.output = w.output)
    (hw : w' = (W.setRow b (spl arr (off + i * σ) cs)).setRow b (spl (spl arr (off + i * σ) cs) (off + (i + (n - j)) * σ) zs)) : RowNew w b σ (os ++ cs) (n - (j - i)) e w' := by
  have hbl : b < w.heap.size := lt_of_getElem? (by simpa using hb)
  have hmul : n * σ ≤ c * σ := Nat.mul_le_mul_right _ hnc
  have hsum : i * σ + (n - j) * σ + (j - i) * σ = n * σ := by rw [← Nat.add_mul, ← Nat.add_mul]; congr 1; omega
  have him : (i + (n - j)) * σ = i * σ + (n - j) * σ := Nat.add_mul _ _ _
  have h1 : off + i * σ + cs.length ≤ arr.size := by omega
  have hs1 := spl_size h1
  have h2 : off + (i + (n - j)) * σ + zs.length ≤ (spl arr (off + i * σ) cs).size := by rw [hs1]; omega
  have hs2 := spl_size h2
  have hb' : W.heap[b]? = some (.cells arr et (0, 0)) := by rw [hW]; exact hb
  subst hw
  refine ⟨b, off, c, _, et, he, by omega, setRow_heap _ _ _ _ _ _ (setRow_heap _ _ _ _ _ _ hb'), by rw [hs2, hs1]; exact hsz, ?_, .inr rfl, by rw [setRow_size, setRow_size, hW]; exact hbl, ?_, by rw [setRow_size, setRow_size, hW]; exact Nat.le_refl _, ho, ht, hu⟩
  · intro k u hk
    by_cases c1 : k < i * σ
    · rw [List.getElem?_append_left (by omega)] at hk
      rw [spl_out h2 (.inl (by omega)), spl_out h1 (.inl (by omega))]
      have := hos k u hk
      unfold World.cell? at this
      simp only [hb, Option.isSome_none, Bool.false_eq_true, if_false] at this
      rw [Array.getD_eq_getD_getElem?, this]; rfl
    · have hk' := lt_of_getElem? hk
      rw [List.length_append, hol, hcl] at hk'
      rw [List.getElem?_append_right (by omega), hol] at hk
      rw [spl_out h2 (.inl (by omega))]
      have := spl_in h1 hk
      rw [show off + i * σ + (k - i * σ) = off + k by omega] at this
      exact this
  · intro q hq hne
    rw [setRow_other _ _ _ _ hne, setRow_other _ _ _ _ hne, hW]

/-- what slices.Delete does, out of its ways through -/
theorem del_calls (hT : TIok P E) (hG : Good E) {f t κ by_ σ : Nat} (ht : P.underlying t = some (.slice κ)) (hgr : growT (E := E) κ = some by_) (hσ : szOf E κ = σ)
    (heq : ∀ (A : Option Addr) (n c i : Nat) (w : World), i ≤ n → n ≤ c → Calls P f #[.slice A n c, .int .i64 i, .int .i64 i] w fun e w' => e = .returned (.slice A n c) ∧ w' = w)
    (hlt : ∀ (b off n c i j : Nat) (arr : Array Value) (et : TypeId) (cs zs : List Value) (w : World), i < j → j ≤ n → n ≤ c → w.heap[b]? = some (.cells arr et (0, 0)) → off + c * σ ≤ arr.size →
      cs.length = (n - j) * σ → (∀ k v, cs[k]? = some v → w.cell? ⟨b, off + j * σ + k, none⟩ = some v) → (∀ v ∈ cs, v.oneCell' = true) →
      (∀ (W : World) (cur : Array Value) (et : TypeId) (o : Nat), W.heap[b]? = some (.cells cur et (0, 0)) → o + zs.length ≤ cur.size → ∀ ty d, (Builtin.clear_ #[t] ty #[.slice (some ⟨b, o, none⟩) (j - i) d]).run P W = .ok (.tuple #[]) (W.setRow b (spl cur o zs))) → zs.length = (j - i) * σ →
      ∀ (A1 A2 : Array Value), A1 = spl arr (off + i * σ) cs → A2 = spl A1 (off + (i + (n - j)) * σ) zs →
      Calls P f #[.slice (some ⟨b, off, none⟩) n c, .int .i64 i, .int .i64 j] w fun e w' => e = .returned (.slice (some ⟨b, off, none⟩) (n - (j - i)) c) ∧
        ∃ W : World, W.heap = w.heap ∧ W.os = w.os ∧ W.tape = w.tape ∧ W.output = w.output ∧ w' = (W.setRow b A1).setRow b A2)
    (hone : ∀ z : Value, (∃ i, P.info? κ = some i ∧ i.zero = some z) → ∀ n, ∀ v ∈ (Builtin.zeroCells z.cells n).toList, v.oneCell' = true)
    {w : World} {S : Nat → Prop} {xs : List (E.Ty κ)} {sv : Value} {o1 : List Nat} {i j : Int} (hx : OR E w S β0 D0 κ xs sv o1)
    (hob : ∀ b ∈ o1, ¬ S b ∧ b < w.heap.size) (hS : ∀ b, S b → b < w.heap.size) (h0 : 0 ≤ i) (h1 : i ≤ j) (h2 : j ≤ xs.length) :
    Calls P f #[sv, .int .i64 i, .int .i64 j] w (Gave E w S o1 κ (xs.take i.toNat ++ xs.drop j.toNat)) := by
  obtain ⟨p, rfl⟩ : ∃ k : Nat, i = k := ⟨i.toNat, by omega⟩
  obtain ⟨q, rfl⟩ : ∃ k : Nat, j = k := ⟨j.toNat, by omega⟩
  simp only [Int.toNat_natCast]
  have hpq : p ≤ q := by omega
  have hqn : q ≤ xs.length := by omega
  by_cases he : p = q
  · subst he
    rw [List.take_append_drop]
    have hform : ∃ A c, sv = .slice A xs.length c ∧ xs.length ≤ c := by
      rcases hx with ⟨rfl, _, A, rfl⟩ | ⟨b, q, c, arr, e, _, rfl, h2, _⟩
      · exact ⟨A, 0, rfl, Nat.le_refl _⟩
      · exact ⟨_, c, rfl, h2⟩
    obtain ⟨A, c, rfl, hnc⟩ := hform
    refine (heq A _ c p w hqn hnc).mono (fun e w' he => ?_)
    obtain ⟨rfl, rfl⟩ := he
    exact ⟨_, o1, rfl, hx, fun b hb => ⟨(hob b hb).2, .inr hb⟩, fun _ _ _ => rfl, Nat.le_refl _, rfl, rfl, rfl⟩
  · have hlt' : p < q := by omega
    obtain ⟨b, off, c, arr, et, rfl, rfl, hnc, hb, hsz, hcx, hce⟩ := hx.cellsOf hG (fun e => by subst e; simp at hqn; omega)
    rw [hσ] at hsz hce
    obtain ⟨d, i0, z, hd, hdf, hi, his, hib, hb1, hz, hzs⟩ := growT_ok hT hgr
    have hszd : d.size = σ := by rw [← hσ, szOf_eq hdf hd]
    have hzl : (Builtin.zeroCells z.cells (q - p)).toList.length = (q - p) * σ := by rw [Array.length_toList, size_zeroCells, hzs, hszd]
    have hone1 : ∀ v ∈ flatF (fun k j => arr.getD (off + ((q + k) * σ + j)) undef) (xs.length - q) σ, v.oneCell' = true := by
      have := flat_one hG (ys := xs.drop q) (w := w) (S := S) (F := fun p j => arr.getD (off + ((q + p) * szOf E κ + j)) undef) (fun p x hp j cv hj => hcx (q + p) x (by rw [List.getElem?_drop] at hp; exact hp) j cv hj)
      rw [hσ, List.length_drop] at this
      exact this
    have hcell1 := flatF_cell (w := w) (b := b) (o := off) (n := p) (σ := σ) (F := fun p j => arr.getD (off + (p * σ + j)) undef) (fun p j hp hj => hce p j (by omega) hj)
    have hcell2 := flatF_cell (w := w) (b := b) (o := off + q * σ) (n := xs.length - q) (σ := σ) (F := fun p j => arr.getD (off + ((q + p) * σ + j)) undef) (fun p j hp hj => by
      have := hce (q + p) j (by omega) hj
      rw [show off + q * σ + (p * σ + j) = off + ((q + p) * σ + j) by rw [Nat.add_mul]; omega]
      exact this)
    refine (hlt b off _ c p q arr et _ (Builtin.zeroCells z.cells (q - p)).toList w hlt' hqn hnc hb hsz (flatF_len _ _ _) hcell2 hone1
      (fun W cur et o hg hfit ty dd => clear_run W t ty κ i0 z b o (q - p) dd cur et (by omega) ht hi hz hg hfit (hone z ⟨i0, hi, hz⟩ _)) hzl _ _ rfl rfl).mono (fun e w' he => ?_)
    obtain ⟨he1, W, e1, e2, e3, e4, e5⟩ := he
    have hr := del_new hlt' hqn hnc hb hsz (flatF_len _ _ _) (flatF_len _ _ _) hzl hcell1 he1 e1 e2 e3 e4 e5
    have hlen : (xs.take p ++ xs.drop q).length = xs.length - (q - p) := by simp; omega
    rw [flatF_append, show p + (xs.length - q) = (xs.take p ++ xs.drop q).length by rw [hlen]; omega, ← hlen, ← hσ] at hr
    refine RowNew.gave hG hr (by simp) hS hob ?_
    intro k x hk j cv hj
    have hl : (xs.take p).length = p := by simp; omega
    rw [hσ]
    by_cases h1 : k < p
    · rw [List.getElem?_append_left (by omega), List.getElem?_take] at hk
      simp only [h1, if_true] at hk ⊢
      have := hcx k x hk j cv hj
      rw [hσ] at this
      exact this
    · rw [List.getElem?_append_right (by omega), hl, List.getElem?_drop] at hk
      simp only [h1, if_false]
      have := hcx _ x hk j cv hj
      rw [hσ] at this
      exact this

end

end Go.Proofs.Ytejfpemjmpoddaa.Vx
