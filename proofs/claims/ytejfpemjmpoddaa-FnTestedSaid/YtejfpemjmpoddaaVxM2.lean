/- The machine Vx, on: calls, and regions in any order. No conditions. -/
import Derived.Test.YtejfpemjmpoddaaVxM1
import Derived.Laws.Small
import Derived.Orders
/-! Calls: what a typed argument or result means in a world, and how values are handed over. -/
namespace Go.Proofs.Ytejfpemjmpoddaa.Vx
open Go

section
variable {P : Program} {E : Env}
variable {cx : Cx} {w w' : World} {S S' : Nat → Prop} {β β' : Nat → Value} {ω : Nat → List Nat} {D D' : Nat → Prop} {roots : List (Nat × RC E.Ty)} {nx : Nat} {a : Act} {o : Oper}
variable {O : Orc E} {rd : List (Nat × Bool) → Operand → Option (V E.Ty)} {g : Bool}

theorem Plain.free {v : V E.Ty} (h : Plain v) : Free v := by
  cases v <;> first
    | exact .int _ _
    | exact .bool _
    | exact .str _
    | exact .sl _ _
    | (simp [Plain] at h; done)

theorem RV.free (hG : Good E) {v : V E.Ty} {cv : Value} (h : RV E w S β D v cv) (hf : Free v) (β' : Nat → Value) (D' : Nat → Prop) : RV E w S β' D' v cv := by
  induction h with
  | int k x => exact .int k x
  | bool b => exact .bool b
  | str s => exact .str s
  | nl A => exact .nl A
  | slE κ A c => exact .slE κ A c
  | sl κ xs b o c F hc hS h1 h2 ih => exact .sl κ xs b o c F hc hS h1 (fun i x hx j cv hj => ih i x hx j cv hj (hG.cell κ x cv (List.mem_of_getElem? hj)).free)
  | own r A m c h e => cases hf
  | ptr r off b h e => cases hf
  | eptr κ r i off b o m c h e => cases hf
  | rptr κ x off b o F hS h1 h2 ih => exact .rptr κ x off b o F hS h1 (fun j cv hj => ih j cv hj (hG.cell κ x cv (List.mem_of_getElem? hj)).free)
  | fn f cs vs hl h ih =>
    cases hf with | fn _ _ hc => exact .fn f cs vs hl (fun i cv hi => ih i cv hi (hc cv (List.mem_of_getElem? hi)))
  | agg cs vs hl h ih =>
    cases hf with | agg _ hc => exact .agg cs vs hl (fun i cv hi => ih i cv hi (hc cv (List.mem_of_getElem? hi)))
  | tup cs vs hl h ih => cases hf
  | any v => cases hf

theorem OR.free (hG : Good E) {κ : Nat} {xs : List (E.Ty κ)} {v : Value} {ob : List Nat} (h : OR E w S β D κ xs v ob) (β' : Nat → Value) (D' : Nat → Prop) : OR E w S β' D' κ xs v ob := by
  rcases h with h | ⟨b, o, c, arr, e, rfl, h1, h2, h3, h4, h5⟩
  · exact .inl h
  · exact .inr ⟨b, o, c, arr, e, rfl, h1, h2, h3, h4, fun i x hx j cv hj => (h5 i x hx j cv hj).free hG (hG.cell κ x cv (List.mem_of_getElem? hj)).free _ _⟩

/-- cells, of which some own rows: the blocks that they own -/
def CR (E : Env) (w : World) (S : Nat → Prop) (β : Nat → Value) (D : Nat → Prop) (F : Nat → Value) : Nat → List (V E.Ty) → List Bool → List Nat → Prop
  | _, [], _, ob => ob = []
  | p, c :: cs, [], ob => RV E w S β D c (F p) ∧ CR E w S β D F (p + 1) cs [] ob
  | p, .sl κ xs :: cs, true :: m, ob => ∃ o1 o2, ob = o1 ++ o2 ∧ OR E w S β D κ xs (F p) o1 ∧ CR E w S β D F (p + 1) cs m o2
  | p, c :: cs, _ :: m, ob => RV E w S β D c (F p) ∧ CR E w S β D F (p + 1) cs m ob

def isSl : V E.Ty → Bool
  | .sl _ _ => true
  | _ => false

theorem CR.cons_other {F : Nat → Value} {p : Nat} {c : V E.Ty} {cs : List (V E.Ty)} {b : Bool} {m : List Bool} {ob : List Nat} (h : b = false ∨ isSl c = false) :
    CR E w S β D F p (c :: cs) (b :: m) ob ↔ RV E w S β D c (F p) ∧ CR E w S β D F (p + 1) cs m ob := by
  cases b with
  | false => cases c <;> exact Iff.rfl
  | true => cases c <;> first | exact Iff.rfl | (simp [isSl] at h; done)

theorem CR.mono {F : Nat → Value} (hb : ∀ b, S b → w'.heap[b]? = w.heap[b]?) (hs : ∀ b, S b → S' b) (hn : ∀ r, D r → D' r) (hβ : ∀ r, D r → β' r = β r) :
    ∀ {cs : List (V E.Ty)} {p : Nat} {m : List Bool} {ob : List Nat}, (∀ b ∈ ob, w'.heap[b]? = w.heap[b]?) → CR E w S β D F p cs m ob → CR E w' S' β' D' F p cs m ob
  | [], _, _, _, _, h => h
  | c :: cs, p, [], ob, h0, h => ⟨h.1.mono hb hs hn hβ, CR.mono hb hs hn hβ h0 h.2⟩
  | c :: cs, p, b :: m, ob, h0, h => by
    by_cases hc : b = false ∨ isSl c = false
    · rw [CR.cons_other hc] at h ⊢
      exact ⟨h.1.mono hb hs hn hβ, CR.mono hb hs hn hβ h0 h.2⟩
    · cases b with
      | false => exact absurd (.inl rfl) hc
      | true =>
        cases c <;> first
          | (exact absurd (.inr rfl) hc)
          | (obtain ⟨o1, o2, rfl, h1, h2⟩ := h
             exact ⟨o1, o2, rfl, h1.mono (fun b hb => h0 b (List.mem_append_left _ hb)) hb hs hn hβ, CR.mono hb hs hn hβ (fun b hb => h0 b (List.mem_append_right _ hb)) h2⟩)

theorem CR.free (hG : Good E) {F : Nat → Value} (β' : Nat → Value) (D' : Nat → Prop) : ∀ {cs : List (V E.Ty)} {p : Nat} {m : List Bool} {ob : List Nat}, (∀ c ∈ cs, Free c) →
    CR E w S β D F p cs m ob → CR E w S β' D' F p cs m ob
  | [], _, _, _, _, h => h
  | c :: cs, p, [], ob, hf, h => ⟨h.1.free hG (hf c (by simp)) _ _, CR.free hG β' D' (fun c hc => hf c (by simp [hc])) h.2⟩
  | c :: cs, p, b :: m, ob, hf, h => by
    by_cases hc : b = false ∨ isSl c = false
    · rw [CR.cons_other hc] at h ⊢
      exact ⟨h.1.free hG (hf c (by simp)) _ _, CR.free hG β' D' (fun c hc => hf c (by simp [hc])) h.2⟩
    · cases b with
      | false => exact absurd (.inl rfl) hc
      | true =>
        cases c <;> first
          | (exact absurd (.inr rfl) hc)
          | (obtain ⟨o1, o2, rfl, h1, h2⟩ := h
             exact ⟨o1, o2, rfl, h1.free hG _ _, CR.free hG β' D' (fun c hc => hf c (by simp [hc])) h2⟩)

/-- what is made of cells when they are told as a typed value -/
def Dn (c c' : V E.Ty) : Prop := c' = c ∨ (c = .nl ∧ ∃ κ, c' = .sl κ [])

theorem RV.dn {c c' : V E.Ty} (h : Dn c c') {v : Value} (hv : RV E w S β D c v) : RV E w S β D c' v := by
  rcases h with rfl | ⟨rfl, κ, rfl⟩
  · exact hv
  · obtain ⟨A, rfl⟩ := hv.nl_inv
    exact .slE κ A 0

theorem CR.dn {F : Nat → Value} : ∀ {cs ds : List (V E.Ty)} {p : Nat} {m : List Bool} {ob : List Nat}, ds.length = cs.length → (∀ (i : Nat) (c c' : V E.Ty), cs[i]? = some c → ds[i]? = some c' → Dn c c') →
    CR E w S β D F p cs m ob → CR E w S β D F p ds m ob
  | [], [], _, _, _, _, _, h => h
  | [], _ :: _, _, _, _, hl, _, _ => by simp at hl
  | _ :: _, [], _, _, _, hl, _, _ => by simp at hl
  | c :: cs, d :: ds, p, m, ob, hl, hd, h => by
    have h0 : Dn c d := hd 0 c d rfl rfl
    have hl' : ds.length = cs.length := by simpa using hl
    have hd' : ∀ (i : Nat) (c c' : V E.Ty), cs[i]? = some c → ds[i]? = some c' → Dn c c' := fun i c c' h1 h2 => hd (i + 1) c c' (by simpa using h1) (by simpa using h2)
    cases m with
    | nil => exact ⟨h.1.dn h0, CR.dn hl' hd' h.2⟩
    | cons b m =>
      by_cases hc : b = false ∨ isSl d = false
      · have hc' : b = false ∨ isSl c = false := by
          rcases hc with h3 | h3
          · exact .inl h3
          · rcases h0 with rfl | ⟨rfl, _⟩
            · exact .inr h3
            · exact .inr rfl
        rw [CR.cons_other hc'] at h
        rw [CR.cons_other hc]
        exact ⟨h.1.dn h0, CR.dn hl' hd' h.2⟩
      · cases b with
        | false => exact absurd (.inl rfl) hc
        | true =>
          rcases h0 with rfl | ⟨rfl, κ, rfl⟩
          · cases d <;> first
              | (exact absurd (.inr rfl) hc)
              | (obtain ⟨o1, o2, rfl, h1, h2⟩ := h
                 exact ⟨o1, o2, rfl, h1, CR.dn hl' hd' h2⟩)
          · obtain ⟨h1, h2⟩ := h
            obtain ⟨A, hA⟩ := h1.nl_inv
            exact ⟨[], ob, rfl, .inl ⟨rfl, rfl, A, hA⟩, CR.dn hl' hd' h2⟩

theorem dec_CR (hG : Good E) {κ : Nat} {ds : List (V E.Ty)} {x : E.Ty κ} (h : E.dec κ ds = some x) {F : Nat → Value} {p : Nat} {m : List Bool} {ob : List Nat} (hc : CR E w S β D F p ds m ob) :
    CR E w S β D F p (E.cells κ x) m ob := by
  obtain ⟨_, hl, h1⟩ := hG.dec κ ds x h
  refine CR.dn hl.symm ?_ hc
  intro i c c' hi hi'
  rcases h1 i c hi with h2 | ⟨rfl, κ', h2⟩
  · rw [h2] at hi'; cases hi'; exact .inl rfl
  · rw [h2] at hi'; cases hi'; exact .inr ⟨rfl, κ', rfl⟩

/-- which roots are there -/
def There (roots : List (Nat × RC E.Ty)) (rs : List Nat) : Prop := ∀ r ∈ rs, ∃ rc, find roots r = some rc

theorem There.app {r1 r2 : List Nat} (h1 : There roots r1) (h2 : There roots r2) : There roots (r1 ++ r2) := by
  intro r hr
  rcases List.mem_append.1 hr with h | h
  · exact h1 r h
  · exact h2 r h

theorem frozenS_left {r1 r2 : List Nat} {b : Nat} (h : frozenS S ω r1 b) : frozenS S ω (r1 ++ r2) b := by
  rcases h with h | ⟨r, hr, hb⟩
  · exact .inl h
  · exact .inr ⟨r, List.mem_append_left _ hr, hb⟩
theorem frozenS_right {r1 r2 : List Nat} {b : Nat} (h : frozenS S ω r2 b) : frozenS S ω (r1 ++ r2) b := by
  rcases h with h | ⟨r, hr, hb⟩
  · exact .inl h
  · exact .inr ⟨r, List.mem_append_right _ hr, hb⟩

theorem CR.more {S' : Nat → Prop} {F : Nat → Value} {cs : List (V E.Ty)} {p : Nat} {m : List Bool} {ob : List Nat} (h : CR E w S β D F p cs m ob) (hs : ∀ b, S b → S' b) : CR E w S' β D F p cs m ob :=
  CR.mono (fun _ _ => rfl) hs (fun _ h => h) (fun _ _ => rfl) (fun _ _ => rfl) h

theorem part_ok (hG : Good E) (hm : Mem E cx S β ω D roots w) {α : Type} {good : α → Prop} (F : Nat → Value) : ∀ (cs : List (V E.Ty)) (p : Nat) (m : List Bool) (k : List (V E.Ty) → List Nat → List Nat → Ask E α),
    (∀ (j : Nat) (c : V E.Ty), cs[j]? = some c → RV E w S β D c (F (p + j))) →
    (∀ ds ks rs, There roots ks → There roots rs → ds.length = cs.length → CR E w (frozenS S ω rs) β D F p ds m (ks.flatMap ω) → AskOk O good roots (k ds ks rs)) →
    AskOk O good roots (part cs m k)
  | [], p, m, k, _, hk => by
    unfold part
    exact hk [] [] [] (by simp [There]) (by simp [There]) rfl rfl
  | c :: cs, p, m, k, hcs, hk => by
    have hc := hcs 0 c rfl
    rw [Nat.add_zero] at hc
    have hrest : ∀ (j : Nat) (c : V E.Ty), cs[j]? = some c → RV E w S β D c (F (p + 1 + j)) := fun j c hj => by
      have := hcs (j + 1) c (by simpa using hj)
      rwa [Nat.add_assoc, Nat.add_comm 1 j]
    cases m with
    | nil =>
      unfold part
      refine plain_ok hG hm F (c :: cs) p _ hcs (fun ds rs hrs hl hds => hk ds [] rs (by simp [There]) hrs hl ?_)
      -- all are only read
      have : ∀ (ds : List (V E.Ty)) (p : Nat), (∀ (j : Nat) (c : V E.Ty), ds[j]? = some c → RV E w (frozenS S ω rs) β D c (F (p + j))) → CR E w (frozenS S ω rs) β D F p ds [] [] := by
        intro ds
        induction ds with
        | nil => intro p _; rfl
        | cons d ds ih =>
          intro p h
          refine ⟨by have := h 0 d rfl; rwa [Nat.add_zero] at this, ih (p + 1) (fun j c hj => ?_)⟩
          have := h (j + 1) c (by simpa using hj)
          rwa [Nat.add_assoc, Nat.add_comm 1 j]
      exact this ds p hds
    | cons b m =>
      -- a cell that is only read
      have hread : ∀ (d : V E.Ty) (r0 : List Nat), There roots r0 → RV E w (frozenS S ω r0) β D d (F p) → (b = false ∨ isSl d = false) →
          AskOk O good roots (part cs m fun ds ks rs => k (d :: ds) ks (r0 ++ rs)) := by
        intro d r0 hr0 hd hb
        refine part_ok hG hm F cs (p + 1) m _ hrest (fun ds ks rs hks hrs hl hcr => hk _ _ _ hks (hr0.app hrs) (by simp [hl]) ?_)
        rw [CR.cons_other hb]
        exact ⟨hd.more (fun b hb => frozenS_left hb), hcr.more (fun b hb => frozenS_right hb)⟩
      by_cases hown : ∃ r, c = .own r
      · obtain ⟨r, rfl⟩ := hown
        obtain ⟨hv, hr⟩ := hc.own_inv
        cases b with
        | true =>
          simp only [part]
          intro rc hrc
          have hok := hm.ok r rc hrc
          cases rc with
          | arr κ xs =>
            refine part_ok hG hm F cs (p + 1) m _ hrest (fun ds ks rs hks hrs hl hcr => hk _ _ _ ?_ hrs (by simp [hl]) ?_)
            · intro r' hr'
              rcases List.mem_cons.1 hr' with h | h
              · subst h; exact ⟨_, hrc⟩
              · exact hks r' h
            · refine ⟨ω r, ks.flatMap ω, by simp, ?_, hcr⟩
              have : OR E w S β D κ xs (F p) (ω r) := by rw [hv]; exact hok
              exact this.mono (fun _ _ => rfl) (fun _ _ => rfl) (fun b h => .inl h) (fun _ h => h) (fun _ _ => rfl)
          | _ => exact askOk_fail
        | false =>
          simp only [part]
          intro rc hrc
          have hok := hm.ok r rc hrc
          cases rc with
          | arr κ xs => exact hread (.sl κ xs) [r] (by intro r' hr'; simp at hr'; subst hr'; exact ⟨_, hrc⟩) (by rw [hv]; exact OR.froze hok (fun b h => .inl h) (fun b hb => .inr ⟨r, by simp, hb⟩) (fun i x _ => hG.len κ x)) (.inl rfl)
          | fz κ xs => exact hread (.sl κ xs) [r] (by intro r' hr'; simp at hr'; subst hr'; exact ⟨_, hrc⟩) (by rw [hv]; exact hok.2.more (fun b h => .inl h)) (.inl rfl)
          | _ => exact askOk_fail
      · by_cases hb : b = false ∨ isSl c = false
        · have he : part (c :: cs) (b :: m) k = part cs m fun ds ks rs => k (c :: ds) ks rs := by
            cases b with
            | false => cases c <;> first | rfl | exact absurd ⟨_, rfl⟩ hown
            | true => cases c <;> first | rfl | exact absurd ⟨_, rfl⟩ hown | (simp [isSl] at hb; done)
          rw [he]
          exact hread c [] (by simp [There]) (hc.more (fun b h => .inl h)) hb
        · cases b with
          | false => exact absurd (.inl rfl) hb
          | true =>
            cases c <;> first
              | (exact absurd (.inr rfl) hb)
              | exact askOk_fail

end

end Go.Proofs.Ytejfpemjmpoddaa.Vx
/-! Calls, on: arguments are handed over. -/
namespace Go.Proofs.Ytejfpemjmpoddaa.Vx
open Go

section
variable {P : Program} {E : Env}
variable {cx : Cx} {w w' : World} {S S' : Nat → Prop} {β β' : Nat → Value} {ω : Nat → List Nat} {D D' : Nat → Prop} {roots : List (Nat × RC E.Ty)} {nx : Nat} {a : Act} {o : Oper}
variable {O : Orc E} {rd : List (Nat × Bool) → Operand → Option (V E.Ty)} {g : Bool}

def β0 : Nat → Value := fun _ => undef
def D0 : Nat → Prop := fun _ => False

/-- what a typed value means that is handed over, and which blocks go with it -/
def PR (E : Env) (w : World) (S : Nat → Prop) : (p : PK) → p.T E.Ty → Value → List Nat → Prop
  | .int k, n, v, ob => v = .int k n ∧ ob = []
  | .bool, b, v, ob => v = .bool b ∧ ob = []
  | .str, s, v, ob => v = .string ⟨s.toArray⟩ ∧ ob = []
  | .sl κ, xs, v, ob => RV E w S β0 D0 (.sl κ xs) v ∧ ob = []
  | .gsl κ, xs, v, ob => OR E w S β0 D0 κ xs v ob
  | .st κ m, x, v, ob => ∃ vs, v = .agg vs ∧ vs.size = (E.cells κ x).length ∧ CR E w S β0 D0 (fun j => vs.getD j undef) 0 (E.cells κ x) m ob
  | .bx κ m, x, v, ob => ∃ b arr e o2, v = .pointer (some ⟨b, 0, none⟩) ∧ ob = b :: o2 ∧ w.heap[b]? = some (.cells arr e (0, 0)) ∧ arr.size = (E.cells κ x).length ∧
      CR E w S β0 D0 (fun j => arr.getD j undef) 0 (E.cells κ x) m o2
  | .rp κ, x, v, ob => RV E w S β0 D0 (.rptr κ x 0) v ∧ ob = []
  | .fn, c, v, ob => RV E w S β0 D0 c v ∧ Free c ∧ ob = []

def PRs (E : Env) (w : World) (S : Nat → Prop) : (ps : List PK) → PKs.T E.Ty ps → List Value → List Nat → Prop
  | [], _, [], ob => ob = []
  | p :: ps, (x, y), v :: vs, ob => ∃ o1 o2, ob = o1 ++ o2 ∧ PR E w S p x v o1 ∧ PRs E w S ps y vs o2
  | _, _, _, _ => False

theorem CR.zero (hG : Good E) {κ : Nat} {x : E.Ty κ} {F : Nat → Value} {m : List Bool} {ob : List Nat} (h : CR E w S β D F 0 (E.cells κ x) m ob) : CR E w S β0 D0 F 0 (E.cells κ x) m ob :=
  h.free hG β0 D0 (fun c hc => (hG.cell κ x c hc).free)

theorem PR.more {p : PK} {x : p.T E.Ty} {v : Value} {ob : List Nat} (hs : ∀ b, S b → S' b) (h : PR E w S p x v ob) : PR E w S' p x v ob := by
  cases p with
  | int k => exact h
  | bool => exact h
  | str => exact h
  | sl κ => exact ⟨h.1.more hs, h.2⟩
  | gsl κ => exact OR.mono h (fun _ _ => rfl) (fun _ _ => rfl) hs (fun _ h => h) (fun _ _ => rfl)
  | st κ m =>
    obtain ⟨vs, h1, h2, h3⟩ := h
    exact ⟨vs, h1, h2, h3.more hs⟩
  | bx κ m =>
    obtain ⟨b, arr, e, o2, h1, h2, h3, h4, h5⟩ := h
    exact ⟨b, arr, e, o2, h1, h2, h3, h4, h5.more hs⟩
  | rp κ => exact ⟨h.1.more hs, h.2⟩
  | fn => exact ⟨h.1.more hs, h.2⟩

theorem PRs.more (hs : ∀ b, S b → S' b) : ∀ {ps : List PK} {x : PKs.T E.Ty ps} {vs : List Value} {ob : List Nat}, PRs E w S ps x vs ob → PRs E w S' ps x vs ob
  | [], _, [], _, h => h
  | [], _, _ :: _, _, h => h.elim
  | _ :: _, _, [], _, h => h.elim
  | p :: ps, (x, y), v :: vs, ob, h => by
    obtain ⟨o1, o2, rfl, h1, h2⟩ := h
    exact ⟨o1, o2, rfl, h1.more hs, PRs.more hs h2⟩

/-- variables that are there -/
def ThereB (roots : List (Nat × RC E.Ty)) (rs : List Nat) : Prop := ∀ r ∈ rs, ∃ t cs, find roots r = some (.box t cs)

theorem ThereB.app {r1 r2 : List Nat} (h1 : ThereB roots r1) (h2 : ThereB roots r2) : ThereB roots (r1 ++ r2) := by
  intro r hr
  rcases List.mem_append.1 hr with h | h
  · exact h1 r h
  · exact h2 r h

/-- the variable among these, if it is one -/
def bx1 : PK → V E.Ty → List Nat
  | .bx _ _, .ptr r _ => [r]
  | _, _ => []

theorem boxes_cons (p : PK) (ps : List PK) (v : V E.Ty) (vs : List (V E.Ty)) : boxes (p :: ps) (v :: vs) = bx1 p v ++ boxes ps vs := by
  cases p <;> cases v <;> rfl

theorem caps_ok (hG : Good E) (hm : Mem E cx S β ω D roots w) {α : Type} {good : α → Prop} (F : Nat → Value) : ∀ (cs : List (V E.Ty)) (p : Nat) (k : List (V E.Ty) → List Nat → Ask E α),
    (∀ (j : Nat) (c : V E.Ty), cs[j]? = some c → RV E w S β D c (F (p + j))) →
    (∀ ds rs, There roots rs → ds.length = cs.length → (∀ c ∈ ds, Free c) → (∀ (j : Nat) (c : V E.Ty), ds[j]? = some c → RV E w (frozenS S ω rs) β D c (F (p + j))) → AskOk O good roots (k ds rs)) →
    AskOk O good roots (caps cs k)
  | [], p, k, _, hk => by
    unfold caps
    exact hk [] [] (by simp [There]) rfl (by simp) (by simp)
  | c :: cs, p, k, hcs, hk => by
    have hc := hcs 0 c rfl
    rw [Nat.add_zero] at hc
    have hrest : ∀ (j : Nat) (c : V E.Ty), cs[j]? = some c → RV E w S β D c (F (p + 1 + j)) := fun j c hj => by
      have := hcs (j + 1) c (by simpa using hj)
      rwa [Nat.add_assoc, Nat.add_comm 1 j]
    have hgen : ∀ (d : V E.Ty) (r0 : List Nat), There roots r0 → Free d → RV E w (frozenS S ω r0) β D d (F p) →
        AskOk O good roots (caps cs fun ds rs => k (d :: ds) (r0 ++ rs)) := by
      intro d r0 hr0 hf hd
      refine caps_ok hG hm F cs (p + 1) _ hrest (fun ds rs hrs hl hfr hds => hk _ _ (hr0.app hrs) (by simp [hl]) (by
        intro c hc
        rcases List.mem_cons.1 hc with h | h
        · rw [h]; exact hf
        · exact hfr c h) ?_)
      intro j c' hj
      cases j with
      | zero =>
        simp at hj; subst hj
        exact hd.more (fun b hb => frozenS_left hb)
      | succ j =>
        have := hds j c' (by simpa using hj)
        rw [Nat.add_comm j 1, ← Nat.add_assoc]
        exact this.more (fun b hb => frozenS_right hb)
    have hempty : There roots [] := by simp [There]
    cases c with
    | int i n => simp only [caps]; exact hgen _ [] hempty (.int _ _) (hc.more (fun b h => .inl h))
    | bool b => simp only [caps]; exact hgen _ [] hempty (.bool _) (hc.more (fun b h => .inl h))
    | str s => simp only [caps]; exact hgen _ [] hempty (.str _) (hc.more (fun b h => .inl h))
    | rptr κ x o => simp only [caps]; exact hgen _ [] hempty (.rptr _ _ _) (hc.more (fun b h => .inl h))
    | sl κ xs => simp only [caps]; exact hgen _ [] hempty (.sl _ _) (hc.more (fun b h => .inl h))
    | ptr r off =>
      cases off with
      | succ n => simp only [caps]; exact askOk_fail
      | zero =>
        simp only [caps]
        intro rc hrc
        obtain ⟨b, hb, hr, hβ⟩ := hc.ptr_inv
        have hok := hm.ok r rc hrc
        have hgo : ∀ (t : Nat) (ds : List (V E.Ty)), frozenS S ω [r] b → BR E w S β D ds b →
            AskOk O good roots (plain ds fun ds rs => match E.dec t ds with
              | some x => caps cs fun vs rs' => k (.rptr t x 0 :: vs) (r :: rs ++ rs')
              | none => .fail) := by
          intro t ds hbS hbr
          obtain ⟨arr, et, h1, h2, h3⟩ := hbr
          refine plain_ok hG hm (fun j => arr.getD j undef) ds 0 _ (fun j c hj => by rw [Nat.zero_add]; exact h3 j c hj) (fun es rs hrs hl hes => ?_)
          split
          · rename_i x hdec
            refine hgen (.rptr t x 0) (r :: rs) ?_ (.rptr _ _ _) ?_
            · intro r' hr'
              rcases List.mem_cons.1 hr' with h | h
              · subst h; exact ⟨_, hrc⟩
              · exact hrs r' h
            · have hcell := dec_RV hG hdec (F := fun j => arr.getD j undef) (fun j c hj => by have := hes j c hj; rwa [Nat.zero_add] at this)
              rw [hb]
              refine .rptr t x 0 b 0 (fun j => arr.getD j undef) (frozenS_left (r1 := [r]) (r2 := rs) hbS) (fun j cv hj => ?_) (fun j cv hj => (hcell j cv hj).more (fun b hb => frozenS_right (r1 := [r]) hb))
              have hj' := lt_of_getElem? hj
              have hlen := (hG.dec t es x hdec).2.1
              have hlt : 0 + j < arr.size := by omega
              rw [Nat.zero_add] at hlt ⊢
              simp [World.cell?, h1, hlt]
          · exact askOk_fail
        cases rc with
        | box t ds =>
          obtain ⟨b', hob, hb', hbr⟩ := hok
          rw [hβ] at hb'; cases hb'
          exact hgo t ds (.inr ⟨r, by simp, by rw [hob]; simp⟩) hbr
        | bfz t ds =>
          obtain ⟨_, b', hb', hbS, hbr⟩ := hok
          rw [hβ] at hb'; cases hb'
          exact hgo t ds (.inl hbS) hbr
        | _ => exact askOk_fail
    | _ => simp only [caps]; exact askOk_fail

theorem expP_ok (hG : Good E) (hm : Mem E cx S β ω D roots w) {α : Type} {good : α → Prop} (p : PK) (v : V E.Ty) (cv : Value) (hv : RV E w S β D v cv) (k : p.T E.Ty → List Nat → List Nat → Ask E α)
    (hk : ∀ x ks rs, ThereB roots (bx1 p v) → There roots ks → There roots rs → PR E w (frozenS S ω rs) p x cv ((bx1 p v ++ ks).flatMap ω) → AskOk O good roots (k x ks rs)) :
    AskOk O good roots (expP p v k) := by
  have hempty : There roots [] := by simp [There]
  have hemptB : ThereB roots [] := by simp [ThereB]
  have hb1 : ∀ (κ : Nat) (v : V E.Ty), bx1 (E := E) (.sl κ) v = [] := fun κ v => by cases v <;> rfl
  unfold expP
  split
  · split
    · rename_i h; subst h
      exact hk _ [] [] hemptB hempty hempty ⟨hv.int_inv, rfl⟩
    · exact askOk_fail
  · exact hk _ [] [] hemptB hempty hempty ⟨hv.bool_inv, rfl⟩
  · exact hk _ [] [] hemptB hempty hempty ⟨hv.str_inv, rfl⟩
  · refine row_ok hG hm hv _ (fun xs rs hrs h => hk xs [] rs ?_ hempty hrs ⟨h.free hG (.sl _ _) _ _, ?_⟩)
    · rw [hb1]; exact hemptB
    · rw [hb1]; rfl
  · obtain ⟨A, rfl⟩ := hv.nl_inv
    exact hk _ [] [] hemptB hempty hempty (.inl ⟨rfl, rfl, A, rfl⟩)
  · rename_i κ r _
    obtain ⟨rfl, hr⟩ := hv.own_inv
    intro rc hrc
    cases rc with
    | arr κ' xs =>
      simp only []
      split
      · rename_i h; subst h
        refine hk _ [r] [] hemptB (by intro r' hr'; simp at hr'; subst hr'; exact ⟨_, hrc⟩) hempty ?_
        have : OR E w S β D κ' xs (β r) (ω r) := hm.ok r _ hrc
        show OR E w _ β0 D0 κ' xs (β r) ((bx1 (E := E) (.gsl κ') (.own r) ++ [r]).flatMap ω)
        have he : (bx1 (E := E) (.gsl κ') (.own r) ++ [r]).flatMap ω = ω r := by simp [bx1]
        rw [he]
        exact (this.free hG β0 D0).mono (fun _ _ => rfl) (fun _ _ => rfl) (fun _ h => .inl h) (fun _ h => h) (fun _ _ => rfl)
      · exact askOk_fail
    | _ => exact askOk_fail
  · rename_i κ m cs _
    obtain ⟨vs, rfl, hl, hvs⟩ := hv.agg_inv
    refine part_ok hG hm (fun j => vs.getD j undef) cs 0 m _ (fun j c hj => by rw [Nat.zero_add]; exact hvs j c hj) (fun ds ks rs hks hrs hdl hcr => ?_)
    split
    · rename_i x hdec
      refine hk x ks rs hemptB hks hrs ⟨vs, rfl, ?_, (dec_CR hG hdec hcr).zero hG⟩
      have := (hG.dec κ ds x hdec).2.1
      omega
    · exact askOk_fail
  · rename_i κ m r _
    obtain ⟨b, rfl, hr, hβ⟩ := hv.ptr_inv
    intro rc hrc
    have hok := hm.ok r rc hrc
    cases rc with
    | box t cs =>
      simp only []
      split
      · rename_i ht
        have := Nat.eq_of_beq_eq_true ht
        subst this
        obtain ⟨b', hob, hb', arr, et, h1, h2, h3⟩ := hok
        rw [hβ] at hb'; cases hb'
        refine part_ok hG hm (fun j => arr.getD j undef) cs 0 m _ (fun j c hj => by rw [Nat.zero_add]; exact h3 j c hj) (fun ds ks rs hks hrs hdl hcr => ?_)
        split
        · rename_i x hdec
          refine hk x ks rs (by intro r' hr'; simp [bx1] at hr'; subst hr'; exact ⟨_, _, hrc⟩) hks hrs ⟨b, arr, et, ks.flatMap ω, rfl, ?_, h1, ?_, (dec_CR hG hdec hcr).zero hG⟩
          · simp [bx1, hob]
          · have := (hG.dec t ds x hdec).2.1
            omega
        · exact askOk_fail
      · exact askOk_fail
    | _ => exact askOk_fail
  · rename_i κ κ' x _
    split
    · rename_i h; subst h
      exact hk _ [] [] hemptB hempty hempty ⟨(hv.free hG (.rptr _ _ _) _ _).more (fun _ h => .inl h), rfl⟩
    · exact askOk_fail
  · rename_i f cs _
    obtain ⟨vs, rfl, hl, hvs⟩ := hv.fn_inv
    refine caps_ok hG hm (fun j => vs.getD j undef) cs 0 _ (fun j c hj => by rw [Nat.zero_add]; exact hvs j c hj) (fun ds rs hrs hdl hfr hds => ?_)
    refine hk _ [] rs hemptB hempty hrs ⟨?_, .fn _ _ hfr, rfl⟩
    refine RV.free hG (.fn f ds vs (by omega) (fun j c hj => by have := hds j c hj; rwa [Nat.zero_add] at this)) (.fn _ _ hfr) _ _
  · exact askOk_fail

end

end Go.Proofs.Ytejfpemjmpoddaa.Vx
/-! Calls, on: lists of arguments; what comes in. -/
namespace Go.Proofs.Ytejfpemjmpoddaa.Vx
open Go

section
variable {P : Program} {E : Env}
variable {cx : Cx} {w w' : World} {S S' : Nat → Prop} {β β' : Nat → Value} {ω : Nat → List Nat} {D D' : Nat → Prop} {roots : List (Nat × RC E.Ty)} {nx : Nat} {a : Act} {o : Oper}
variable {O : Orc E} {rd : List (Nat × Bool) → Operand → Option (V E.Ty)} {g : Bool}

theorem perm_swap4 {α : Type} (a b c d : List α) : ((a ++ b) ++ (c ++ d)).Perm ((a ++ c) ++ (b ++ d)) := by
  rw [List.append_assoc, List.append_assoc]
  refine List.Perm.append_left a ?_
  rw [← List.append_assoc, ← List.append_assoc]
  exact List.Perm.append_right d List.perm_append_comm

theorem expL_ok (hG : Good E) (hm : Mem E cx S β ω D roots w) {α : Type} {good : α → Prop} : ∀ (ps : List PK) (vs : List (V E.Ty)) (cvs : List Value) (k : PKs.T E.Ty ps → List Nat → List Nat → Ask E α),
    cvs.length = vs.length → (∀ (i : Nat) (v : V E.Ty) (cv : Value), vs[i]? = some v → cvs[i]? = some cv → RV E w S β D v cv) →
    (∀ x ks rs (rl : List Nat), ThereB roots (boxes ps vs) → There roots ks → There roots rs → rl.Perm (boxes ps vs ++ ks) → PRs E w (frozenS S ω rs) ps x cvs (rl.flatMap ω) → AskOk O good roots (k x ks rs)) →
    AskOk O good roots (expL ps vs k)
  | [], [], [], k, _, _, hk => by
    unfold expL
    exact hk () [] [] [] (by simp [ThereB, boxes]) (by simp [There]) (by simp [There]) (by simp [boxes]) rfl
  | [], [], _ :: _, _, hl, _, _ => by simp at hl
  | [], _ :: _, _, k, _, _, hk => by unfold expL; exact askOk_fail
  | _ :: _, [], _, k, _, _, hk => by unfold expL; exact askOk_fail
  | p :: ps, v :: vs, [], _, hl, _, _ => by simp at hl
  | p :: ps, v :: vs, cv :: cvs, k, hl, hv, hk => by
    unfold expL
    refine expP_ok hG hm p v cv (hv 0 v cv rfl rfl) _ (fun x ks rs hb hks hrs hpr => ?_)
    refine expL_ok hG hm ps vs cvs _ (by simpa using hl) (fun i v cv h1 h2 => hv (i + 1) v cv (by simpa using h1) (by simpa using h2)) (fun y ks' rs' rl hb' hks' hrs' hperm hprs => ?_)
    refine hk (x, y) (ks ++ ks') (rs ++ rs') ((bx1 p v ++ ks) ++ rl) ?_ (hks.app hks') (hrs.app hrs') ?_ ?_
    · rw [boxes_cons]; exact hb.app hb'
    · rw [boxes_cons]
      exact (List.Perm.append_left _ hperm).trans (perm_swap4 _ _ _ _)
    · refine ⟨(bx1 p v ++ ks).flatMap ω, rl.flatMap ω, by rw [List.flatMap_append], hpr.more (fun b hb => frozenS_left hb), hprs.more (fun b hb => frozenS_right hb)⟩

/-- what comes in makes roots: their values and their blocks -/
def Imp (E : Env) (w : World) (S : Nat → Prop) (base : Nat) (us : List Value) (obs : List (List Nat)) (ns : List (RC E.Ty)) (ob : List Nat) (G : (Nat → Value) → (Nat → Prop) → Prop) : Prop :=
  us.length = ns.length ∧ obs.length = ns.length ∧ obs.flatten = ob ∧
    ∀ (β1 : Nat → Value) (D1 : Nat → Prop), (∀ (i : Nat) (u : Value), us[i]? = some u → β1 (base + i) = u ∧ D1 (base + i)) →
      G β1 D1 ∧ ∀ (i : Nat) (rc : RC E.Ty) (u : Value) (o : List Nat), ns[i]? = some rc → us[i]? = some u → obs[i]? = some o → RootOk E w S β1 D1 u o rc

theorem Imp.nil {base : Nat} {G : (Nat → Value) → (Nat → Prop) → Prop} (h : ∀ β1 D1, G β1 D1) : Imp E w S base [] [] [] [] G :=
  ⟨rfl, rfl, rfl, fun β1 D1 _ => ⟨h β1 D1, by simp⟩⟩

theorem Imp.app {base : Nat} {us1 us2 : List Value} {obs1 obs2 : List (List Nat)} {ns1 ns2 : List (RC E.Ty)} {ob1 ob2 : List Nat} {G1 G2 G : (Nat → Value) → (Nat → Prop) → Prop}
    (h1 : Imp E w S base us1 obs1 ns1 ob1 G1) (h2 : Imp E w S (base + ns1.length) us2 obs2 ns2 ob2 G2) (h : ∀ β1 D1, G1 β1 D1 → G2 β1 D1 → G β1 D1) :
    Imp E w S base (us1 ++ us2) (obs1 ++ obs2) (ns1 ++ ns2) (ob1 ++ ob2) G := by
  obtain ⟨a1, a2, a3, a4⟩ := h1
  obtain ⟨b1, b2, b3, b4⟩ := h2
  refine ⟨by simp [a1, b1], by simp [a2, b2], by simp [a3, b3], fun β1 D1 hu => ?_⟩
  obtain ⟨g1, r1⟩ := a4 β1 D1 (fun i u hi => hu i u (by rw [List.getElem?_append_left (lt_of_getElem? hi)]; exact hi))
  obtain ⟨g2, r2⟩ := b4 β1 D1 (fun i u hi => by
    have := hu (us1.length + i) u (by rw [List.getElem?_append_right (by omega)]; simpa using hi)
    rw [a1, ← Nat.add_assoc] at this
    exact this)
  refine ⟨h _ _ g1 g2, fun i rc u o h1 h2 h3 => ?_⟩
  by_cases hi : i < ns1.length
  · rw [List.getElem?_append_left hi] at h1
    rw [List.getElem?_append_left (by omega)] at h2 h3
    exact r1 i rc u o h1 h2 h3
  · rw [List.getElem?_append_right (by omega)] at h1 h2 h3
    rw [a1] at h2
    rw [a2] at h3
    exact r2 _ rc u o h1 h2 h3

theorem Imp.one {base : Nat} {u : Value} {ob : List Nat} {rc : RC E.Ty} {G : (Nat → Value) → (Nat → Prop) → Prop}
    (h : ∀ (β1 : Nat → Value) (D1 : Nat → Prop), β1 base = u → D1 base → G β1 D1 ∧ RootOk E w S β1 D1 u ob rc) : Imp E w S base [u] [ob] [rc] ob G := by
  refine ⟨rfl, rfl, by simp, fun β1 D1 hu => ?_⟩
  obtain ⟨h1, h2⟩ := hu 0 u rfl
  obtain ⟨h3, h4⟩ := h β1 D1 h1 h2
  refine ⟨h3, fun i rc' u' o' e1 e2 e3 => ?_⟩
  have hi : i = 0 := by have := lt_of_getElem? e1; simpa using this
  subst hi
  simp at e1 e2 e3
  subst e1 e2 e3
  exact h4

theorem Imp.imp {base : Nat} {us : List Value} {obs : List (List Nat)} {ns : List (RC E.Ty)} {ob : List Nat} {G G' : (Nat → Value) → (Nat → Prop) → Prop} (h : Imp E w S base us obs ns ob G) (hg : ∀ β1 D1, G β1 D1 → G' β1 D1) :
    Imp E w S base us obs ns ob G' :=
  ⟨h.1, h.2.1, h.2.2.1, fun β1 D1 hu => ⟨hg _ _ (h.2.2.2 β1 D1 hu).1, (h.2.2.2 β1 D1 hu).2⟩⟩

theorem RV.up {v : V E.Ty} {cv : Value} (h : RV E w S β0 D0 v cv) : RV E w S β D v cv :=
  h.mono (fun _ _ => rfl) (fun _ h => h) (fun _ h => h.elim) (fun _ h => h.elim)
theorem OR.up {κ : Nat} {xs : List (E.Ty κ)} {v : Value} {ob : List Nat} (h : OR E w S β0 D0 κ xs v ob) : OR E w S β D κ xs v ob :=
  h.mono (fun _ _ => rfl) (fun _ _ => rfl) (fun _ h => h) (fun _ h => h.elim) (fun _ h => h.elim)

theorem CR.all {F : Nat → Value} : ∀ {cs : List (V E.Ty)} {p : Nat} {ob : List Nat}, CR E w S β D F p cs [] ob → ob = [] ∧ ∀ (j : Nat) (c : V E.Ty), cs[j]? = some c → RV E w S β D c (F (p + j))
  | [], _, _, h => ⟨h, by simp⟩
  | c :: cs, p, ob, h => by
    obtain ⟨h1, h2⟩ := CR.all h.2
    refine ⟨h1, fun j d hj => ?_⟩
    cases j with
    | zero => simp at hj; subst hj; exact h.1
    | succ j =>
      have := h2 j d (by simpa using hj)
      rwa [Nat.add_assoc, Nat.add_comm 1 j] at this

theorem owns_ok {F : Nat → Value} : ∀ (cs : List (V E.Ty)) (p base : Nat) (m : List Bool) (ob : List Nat), CR E w S β0 D0 F p cs m ob →
    ∃ us obs, Imp E w S base us obs (owns base cs m).2 ob (fun β1 D1 => (owns base cs m).1.length = cs.length ∧ ∀ (j : Nat) (c : V E.Ty), (owns base cs m).1[j]? = some c → RV E w S β1 D1 c (F (p + j)))
  | [], p, base, m, ob, h => by
    have : ob = [] := h
    subst this
    exact ⟨[], [], Imp.nil (fun _ _ => by simp [owns])⟩
  | c :: cs, p, base, [], ob, h => by
    obtain ⟨h1, h2⟩ := CR.all h
    subst h1
    exact ⟨[], [], Imp.nil (fun _ _ => ⟨rfl, fun j d hj => (h2 j d hj).up⟩)⟩
  | c :: cs, p, base, b :: m, ob, h => by
    by_cases hb : b = false ∨ isSl c = false
    · rw [CR.cons_other hb] at h
      obtain ⟨us, obs, hi⟩ := owns_ok cs (p + 1) base m ob h.2
      have he : owns base (c :: cs) (b :: m) = (c :: (owns base cs m).1, (owns base cs m).2) := by
        cases b with
        | false => cases c <;> rfl
        | true => cases c <;> first | rfl | (simp [isSl] at hb; done)
      rw [he]
      refine ⟨us, obs, hi.imp (fun β1 D1 hg => ⟨by simp [hg.1], fun j d hj => ?_⟩)⟩
      cases j with
      | zero => simp at hj; subst hj; exact h.1.up
      | succ j =>
        have := hg.2 j d (by simpa using hj)
        rwa [Nat.add_assoc, Nat.add_comm 1 j] at this
    · cases b with
      | false => exact absurd (.inl rfl) hb
      | true =>
        cases c <;> first
          | (exact absurd (.inr rfl) hb)
          | skip
        rename_i κ xs
        obtain ⟨o1, o2, rfl, h1, h2⟩ := h
        obtain ⟨us, obs, hi⟩ := owns_ok cs (p + 1) (base + 1) m o2 h2
        have he : owns base (.sl κ xs :: cs) (true :: m) = (.own base :: (owns (base + 1) cs m).1, .arr κ xs :: (owns (base + 1) cs m).2) := rfl
        rw [he]
        refine ⟨[F p] ++ us, [o1] ++ obs, Imp.app (ns1 := [.arr κ xs]) (G1 := fun β1 D1 => β1 base = F p ∧ D1 base) (Imp.one (fun β1 D1 e1 e2 => ⟨⟨e1, e2⟩, h1.up⟩)) hi (fun β1 D1 g1 g2 => ⟨by simp [g2.1], fun j d hj => ?_⟩)⟩
        cases j with
        | zero =>
          simp at hj; subst hj
          obtain ⟨A, c, hv⟩ := h1.kindOf
          rw [Nat.add_zero, hv]
          exact .own base A _ c g1.2 (g1.1.trans hv)
        | succ j =>
          have := g2.2 j d (by simpa using hj)
          rwa [Nat.add_assoc, Nat.add_comm 1 j] at this

theorem impP_ok (p : PK) (x : p.T E.Ty) (v : Value) (ob : List Nat) (base : Nat) (h : PR E w S p x v ob) :
    ∃ us obs, Imp E w S base us obs (impP false base p x).2 ob (fun β1 D1 => RV E w S β1 D1 (impP false base p x).1 v) := by
  cases p with
  | int k => obtain ⟨rfl, rfl⟩ := h; exact ⟨[], [], Imp.nil (fun _ _ => .int _ _)⟩
  | bool => obtain ⟨rfl, rfl⟩ := h; exact ⟨[], [], Imp.nil (fun _ _ => .bool _)⟩
  | str => obtain ⟨rfl, rfl⟩ := h; exact ⟨[], [], Imp.nil (fun _ _ => .str _)⟩
  | sl κ => obtain ⟨h, rfl⟩ := h; exact ⟨[], [], Imp.nil (fun _ _ => h.up)⟩
  | gsl κ =>
    have h : OR E w S β0 D0 κ x v ob := h
    refine ⟨[v], [ob], Imp.one (rc := .arr κ x) (fun β1 D1 e1 e2 => ⟨?_, h.up⟩)⟩
    obtain ⟨A, c, hv⟩ := h.kindOf
    rw [hv]
    exact .own base A _ c e2 (e1.trans hv)
  | st κ m =>
    obtain ⟨vs, rfl, h1, h2⟩ := h
    obtain ⟨us, obs, hi⟩ := owns_ok (E.cells κ x) 0 base m ob h2
    refine ⟨us, obs, hi.imp (fun β1 D1 hg => .agg _ vs (by rw [h1]; exact hg.1.symm) (fun j c hj => ?_))⟩
    have := hg.2 j c hj
    rwa [Nat.zero_add] at this
  | bx κ m =>
    obtain ⟨b, arr, e, o2, rfl, rfl, h1, h2, h3⟩ := h
    obtain ⟨us, obs, hi⟩ := owns_ok (E.cells κ x) 0 (base + 1) m o2 h3
    have hl := hi.1
    refine ⟨[.pointer (some ⟨b, 0, none⟩)] ++ us, [[b]] ++ obs, ?_⟩
    obtain ⟨i1, i2, i3, i4⟩ := hi
    refine ⟨by simp [impP, i1], by simp [impP, i2], by simp [i3], fun β1 D1 hu => ?_⟩
    obtain ⟨e1, e2⟩ := hu 0 _ rfl
    obtain ⟨g1, g2⟩ := i4 β1 D1 (fun i u hi => by
      have := hu (i + 1) u (by simpa using hi)
      rwa [Nat.add_assoc, Nat.add_comm 1 i])
    refine ⟨.ptr base 0 b e2 e1, fun i rc u o r1 r2 r3 => ?_⟩
    cases i with
    | zero =>
      simp [impP] at r1 r2 r3
      subst r1 r2 r3
      refine ⟨b, rfl, rfl, arr, e, h1, by rw [h2]; exact g1.1.symm, fun j c hj => ?_⟩
      have := g1.2 j c hj
      rwa [Nat.zero_add] at this
    | succ i => exact g2 i rc u o (by simpa [impP] using r1) (by simpa using r2) (by simpa using r3)
  | rp κ => obtain ⟨h, rfl⟩ := h; exact ⟨[], [], Imp.nil (fun _ _ => h.up)⟩
  | fn => obtain ⟨h, _, rfl⟩ := h; exact ⟨[], [], Imp.nil (fun _ _ => h.up)⟩

theorem impL_ok : ∀ (ps : List PK) (x : PKs.T E.Ty ps) (vs : List Value) (ob : List Nat) (base : Nat), PRs E w S ps x vs ob →
    ∃ us obs, Imp E w S base us obs (impL false base ps x).2 ob (fun β1 D1 => (impL false base ps x).1.length = vs.length ∧ ∀ (i : Nat) (u : V E.Ty) (v : Value), (impL false base ps x).1[i]? = some u → vs[i]? = some v → RV E w S β1 D1 u v)
  | [], x, [], ob, base, h => by
    have : ob = [] := h
    subst this
    exact ⟨[], [], Imp.nil (fun _ _ => by simp [impL])⟩
  | [], _, _ :: _, _, _, h => h.elim
  | _ :: _, _, [], _, _, h => h.elim
  | p :: ps, (x, y), v :: vs, ob, base, h => by
    obtain ⟨o1, o2, rfl, h1, h2⟩ := h
    obtain ⟨us1, obs1, i1⟩ := impP_ok p x v o1 base h1
    obtain ⟨us2, obs2, i2⟩ := impL_ok ps y vs o2 (base + (impP false base p x).2.length) h2
    refine ⟨us1 ++ us2, obs1 ++ obs2, ?_⟩
    have he : impL false base (p :: ps) (x, y) = ((impP false base p x).1 :: (impL false (base + (impP false base p x).2.length) ps y).1, (impP false base p x).2 ++ (impL false (base + (impP false base p x).2.length) ps y).2) := rfl
    rw [he]
    refine Imp.app i1 i2 (fun β1 D1 g1 g2 => ⟨by simp [g2.1], fun i u v' hi hv => ?_⟩)
    cases i with
    | zero => simp at hi hv; subst hi hv; exact g1
    | succ i => exact g2.2 i u v' (by simpa using hi) (by simpa using hv)

end

end Go.Proofs.Ytejfpemjmpoddaa.Vx
/-! Calls, on: variables that were handed in; results, parted. -/
namespace Go.Proofs.Ytejfpemjmpoddaa.Vx
open Go

section
variable {P : Program} {E : Env}
variable {cx : Cx} {w w' w0 : World} {S S' S0 : Nat → Prop} {β β' : Nat → Value} {ω : Nat → List Nat} {D D' : Nat → Prop} {roots : List (Nat × RC E.Ty)} {nx : Nat} {a : Act} {o : Oper}
variable {O : Orc E} {rd : List (Nat × Bool) → Operand → Option (V E.Ty)} {g : Bool}

/-- the arguments that are variables -/
def outVals : List PK → List Value → List Value
  | p :: ps, v :: vs => match p.isBx with
    | true => v :: outVals ps vs
    | false => outVals ps vs
  | _, _ => []

theorem PRs.length : ∀ {ps : List PK} {x : PKs.T E.Ty ps} {vs : List Value} {ob : List Nat}, PRs E w S ps x vs ob → vs.length = ps.length
  | [], _, [], _, _ => rfl
  | [], _, _ :: _, _, h => h.elim
  | _ :: _, _, [], _, h => h.elim
  | p :: ps, (x, y), v :: vs, ob, h => by
    obtain ⟨o1, o2, _, _, h2⟩ := h
    simp [PRs.length h2]

theorem PRs.split : ∀ (ps qs : List PK) (y : PKs.T E.Ty (ps ++ qs)) (us vs : List Value) (ob : List Nat), us.length = ps.length → PRs E w S (ps ++ qs) y (us ++ vs) ob →
    ∃ o1 o2, ob = o1 ++ o2 ∧ PRs E w S ps (splitR ps y).1 us o1 ∧ PRs E w S qs (splitR ps y).2 vs o2
  | [], qs, y, [], vs, ob, _, h => ⟨[], ob, rfl, rfl, h⟩
  | [], _, _, _ :: _, _, _, hl, _ => by simp at hl
  | _ :: _, _, _, [], _, _, hl, _ => by simp at hl
  | p :: ps, qs, (x, y), u :: us, vs, ob, hl, h => by
    obtain ⟨o1, o2, rfl, h1, h2⟩ := h
    obtain ⟨o3, o4, rfl, h3, h4⟩ := PRs.split ps qs y us vs o2 (by simpa using hl) h2
    exact ⟨o1 ++ o3, o4, by simp, ⟨o1, o3, rfl, h1, h3⟩, h4⟩

theorem wrOuts_skip {p : PK} (hp : p.isBx = false) (g : Bool) (base : Nat) (ps : List PK) (v : V E.Ty) (vs : List (V E.Ty)) (z : PKs.T E.Ty (outsOf (p :: ps))) (z' : PKs.T E.Ty (outsOf ps)) (hz : HEq z z') :
    wrOuts g base (p :: ps) (v :: vs) z = wrOuts g base ps vs z' := by
  cases p <;> first
    | (simp [PK.isBx] at hp; done)
    | (have hz' : z = z' := eq_of_heq hz
       subst hz'
       rfl)

theorem wrOuts_ok : ∀ (ps : List PK) (vs : List (V E.Ty)) (args : List Value) (z : PKs.T E.Ty (outsOf ps)) (ob : List Nat) (base : Nat) (ws : List (Nat × RC E.Ty)) (ms : List (RC E.Ty)),
    args.length = vs.length → (∀ (i : Nat) (v : V E.Ty) (cv : Value), vs[i]? = some v → args[i]? = some cv → RV E w0 S0 β D v cv) →
    PRs E w S (outsOf ps) z (outVals ps args) ob → wrOuts false base ps vs z = some (ws, ms) →
    ∃ us obs bl, ob.Perm (bl ++ obs.flatten) ∧ ws.map (·.1) = boxes ps vs ∧
      Imp E w S base us obs ms obs.flatten (fun β1 D1 => ∀ r rc, (r, rc) ∈ ws → ∃ b, b ∈ bl ∧ β r = .pointer (some ⟨b, 0, none⟩) ∧ RootOk E w S β1 D1 (β r) [b] rc) ∧
      (∀ b ∈ bl, ∃ r ∈ boxes ps vs, β r = .pointer (some ⟨b, 0, none⟩)) ∧ (∀ r ∈ boxes ps vs, ∃ b ∈ bl, β r = .pointer (some ⟨b, 0, none⟩))
  | [], [], args, z, ob, base, ws, ms, hl, _, h, hw => by
    simp only [wrOuts, Option.some.injEq, Prod.mk.injEq] at hw
    obtain ⟨rfl, rfl⟩ := hw
    have ha : args = [] := List.eq_nil_of_length_eq_zero (by simpa using hl)
    subst ha
    have : ob = [] := h
    subst this
    exact ⟨[], [], [], by simp, by simp [boxes], Imp.nil (fun _ _ => by simp), by simp, by simp [boxes]⟩
  | [], _ :: _, _, _, _, _, _, _, _, _, _, hw => by simp [wrOuts] at hw
  | p :: ps, [], _, _, _, _, _, _, _, _, _, hw => by cases p <;> simp [wrOuts] at hw
  | p :: ps, v :: vs, [], _, _, _, _, _, hl, _, _, _ => by simp at hl
  | p :: ps, v :: vs, cv :: args, z, ob, base, ws, ms, hl, hv, h, hw => by
    have hl' : args.length = vs.length := by simpa using hl
    have hv' : ∀ (i : Nat) (v : V E.Ty) (cv : Value), vs[i]? = some v → args[i]? = some cv → RV E w0 S0 β D v cv := fun i v cv h1 h2 => hv (i + 1) v cv (by simpa using h1) (by simpa using h2)
    have hskip : ∀ (z' : PKs.T E.Ty (outsOf ps)), p.isBx = false → wrOuts false base ps vs z' = some (ws, ms) → PRs E w S (outsOf ps) z' (outVals ps args) ob → boxes (p :: ps) (v :: vs) = boxes ps vs →
        ∃ us obs bl, ob.Perm (bl ++ obs.flatten) ∧ ws.map (·.1) = boxes (p :: ps) (v :: vs) ∧
          Imp E w S base us obs ms obs.flatten (fun β1 D1 => ∀ r rc, (r, rc) ∈ ws → ∃ b, b ∈ bl ∧ β r = .pointer (some ⟨b, 0, none⟩) ∧ RootOk E w S β1 D1 (β r) [b] rc) ∧
          (∀ b ∈ bl, ∃ r ∈ boxes (p :: ps) (v :: vs), β r = .pointer (some ⟨b, 0, none⟩)) ∧ (∀ r ∈ boxes (p :: ps) (v :: vs), ∃ b ∈ bl, β r = .pointer (some ⟨b, 0, none⟩)) := by
      intro z' _ h1 h2 h3
      rw [h3]
      exact wrOuts_ok ps vs args z' ob base ws ms hl' hv' h2 h1
    cases p with
    | bx κ m =>
      have hc := hv 0 v cv rfl rfl
      cases v with
      | ptr r off =>
        cases off with
        | succ n => simp [wrOuts] at hw
        | zero =>
          obtain ⟨x, y⟩ := z
          have hout : outVals (.bx κ m :: ps) (cv :: args) = cv :: outVals ps args := rfl
          rw [hout] at h
          obtain ⟨o1, o2, rfl, h1, h2⟩ := h
          obtain ⟨b, arr, e, o3, hb, rfl, hh, hsz, hcr⟩ := h1
          obtain ⟨b', hb', hr, hβ⟩ := hc.ptr_inv
          rw [hb] at hb'; cases hb'
          have hw : (match wrOuts false (base + (owns base (E.cells κ x) m).2.length) ps vs y with
            | some (ws, ms) => some ((r, RC.box κ (owns base (E.cells κ x) m).1) :: ws, (owns base (E.cells κ x) m).2 ++ ms)
            | none => none) = some (ws, ms) := hw
          cases hrec : wrOuts false (base + (owns base (E.cells κ x) m).2.length) ps vs y with
          | none => simp [hrec] at hw
          | some q =>
            obtain ⟨ws', ms'⟩ := q
            simp only [hrec, Option.some.injEq, Prod.mk.injEq] at hw
            obtain ⟨rfl, rfl⟩ := hw
            obtain ⟨us1, obs1, i1⟩ := owns_ok (E.cells κ x) 0 base m o3 hcr
            obtain ⟨us2, obs2, bl, hperm, hmap, i2, hbl, hbl2⟩ := wrOuts_ok ps vs args y o2 _ ws' ms' hl' hv' h2 hrec
            have hf1 := i1.2.2.1
            refine ⟨us1 ++ us2, obs1 ++ obs2, b :: bl, ?_, ?_, ?_, ?_, ?_⟩
            · simp only [List.cons_append, List.flatten_append, hf1]
              refine List.Perm.cons b ?_
              refine (List.Perm.append_left o3 hperm).trans ?_
              rw [← List.append_assoc, ← List.append_assoc]
              exact List.Perm.append_right _ List.perm_append_comm
            · rw [boxes_cons]; simp [bx1, hmap]
            · have := Imp.app i1 i2 (G := fun β1 D1 => ∀ r' rc, (r', rc) ∈ (r, .box κ (owns base (E.cells κ x) m).1) :: ws' → ∃ b', b' ∈ b :: bl ∧ β r' = .pointer (some ⟨b', 0, none⟩) ∧ RootOk E w S β1 D1 (β r') [b'] rc) (fun β1 D1 g1 g2 => ?_)
              · have hfl : (obs1 ++ obs2).flatten = o3 ++ obs2.flatten := by rw [List.flatten_append, hf1]
                rw [hfl]
                exact this
              · intro r' rc hmem
                rcases List.mem_cons.1 hmem with h | h
                · cases h
                  refine ⟨b, by simp, hβ, b, rfl, hβ, arr, e, hh, by rw [hsz]; exact g1.1.symm, fun j c hj => ?_⟩
                  have := g1.2 j c hj
                  rwa [Nat.zero_add] at this
                · obtain ⟨b', k1, k2, k3⟩ := g2 r' rc h
                  exact ⟨b', by simp [k1], k2, k3⟩
            · intro b' hb'
              rw [boxes_cons]
              rcases List.mem_cons.1 hb' with h | h
              · subst h; exact ⟨r, by simp [bx1], hβ⟩
              · obtain ⟨r', k1, k2⟩ := hbl b' h
                exact ⟨r', List.mem_append_right _ k1, k2⟩
            · intro r' hr'
              rw [boxes_cons] at hr'
              rcases List.mem_append.1 hr' with h | h
              · simp [bx1] at h; subst h; exact ⟨b, by simp, hβ⟩
              · obtain ⟨b', k1, k2⟩ := hbl2 r' h
                exact ⟨b', by simp [k1], k2⟩
      | _ => simp [wrOuts] at hw
    | int k => exact hskip z rfl hw h (by cases v <;> rfl)
    | bool => exact hskip z rfl hw h (by cases v <;> rfl)
    | str => exact hskip z rfl hw h (by cases v <;> rfl)
    | sl κ => exact hskip z rfl hw h (by cases v <;> rfl)
    | gsl κ => exact hskip z rfl hw h (by cases v <;> rfl)
    | st κ m => exact hskip z rfl hw h (by cases v <;> rfl)
    | rp κ => exact hskip z rfl hw h (by cases v <;> rfl)
    | fn => exact hskip z rfl hw h (by cases v <;> rfl)

end

end Go.Proofs.Ytejfpemjmpoddaa.Vx
/-! Calls, on: what needs no memory that is only read; lists without doubles. -/
namespace Go.Proofs.Ytejfpemjmpoddaa.Vx
open Go

section
variable {P : Program} {E : Env}
variable {cx : Cx} {w w' w0 : World} {S S' S0 S2 : Nat → Prop} {β β' : Nat → Value} {ω : Nat → List Nat} {D D' : Nat → Prop} {roots : List (Nat × RC E.Ty)} {nx : Nat} {a : Act} {o : Oper}
variable {O : Orc E} {rd : List (Nat × Bool) → Operand → Option (V E.Ty)} {g : Bool}

theorem nodup_iff (l : List Nat) : nodup l = true ↔ l.Nodup := by
  induction l with
  | nil => simp [nodup]
  | cons a l ih =>
    simp only [nodup, List.nodup_cons]
    cases h : mem l a with
    | true => have := (mem_iff l a).1 h; simp [this]
    | false => have := (mem_false_iff l a).1 h; simp [this, ih]

theorem disj_ok {l m : List Nat} (h : disj l m = true) : ∀ x ∈ l, x ∉ m := by
  induction l with
  | nil => simp
  | cons a l ih =>
    simp only [disj] at h
    cases hm : mem m a with
    | true => rw [hm] at h; cases h
    | false =>
      rw [hm] at h
      intro x hx
      rcases List.mem_cons.1 hx with h' | h'
      · subst h'; exact (mem_false_iff _ _).1 hm
      · exact ih h x h'

theorem flat_disj : ∀ (L : List (List Nat)), L.flatten.Nodup → ∀ (i j : Nat) (p q : List Nat), i ≠ j → L[i]? = some p → L[j]? = some q → ∀ x ∈ p, x ∉ q
  | [], _, i, _, _, _, _, h, _, _, _ => by simp at h
  | l :: L, hn, i, j, p, q, hij, hi, hj, x, hx => by
    simp only [List.flatten_cons, List.nodup_append] at hn
    obtain ⟨_, h2, h3⟩ := hn
    cases i with
    | zero =>
      simp at hi; subst hi
      cases j with
      | zero => exact absurd rfl hij
      | succ j =>
        intro hq
        have : x ∈ L.flatten := List.mem_flatten.2 ⟨q, List.mem_of_getElem? (by simpa using hj), hq⟩
        exact h3 x hx x this rfl
    | succ i =>
      cases j with
      | zero =>
        simp at hj; subst hj
        intro hq
        have : x ∈ L.flatten := List.mem_flatten.2 ⟨p, List.mem_of_getElem? (by simpa using hi), hx⟩
        exact h3 x hq x this rfl
      | succ j => exact flat_disj L h2 i j p q (by omega) (by simpa using hi) (by simpa using hj) x hx

theorem RootOk.few {v : Value} {ob : List Nat} {rc : RC E.Ty} (h : RootOk E w S β D v ob rc) : ob.Nodup := by
  cases rc with
  | box t cs => obtain ⟨b, rfl, _⟩ := h; simp
  | bfz t cs => obtain ⟨rfl, _⟩ := h; simp
  | arr κ xs =>
    rcases h with ⟨_, rfl, _⟩ | ⟨b, o, c, arr, e, rfl, _⟩
    · simp
    · simp
  | fz κ xs => obtain ⟨rfl, _⟩ := h; simp

theorem blocks_nodup (hm : Mem E cx S β ω D roots w) : ∀ (rl : List Nat), rl.Nodup → There roots rl → (rl.flatMap ω).Nodup
  | [], _, _ => by simp
  | r :: rl, hn, ht => by
    simp only [List.nodup_cons] at hn
    simp only [List.flatMap_cons, List.nodup_append]
    obtain ⟨rc, hrc⟩ := ht r (by simp)
    refine ⟨(hm.ok r rc hrc).few, blocks_nodup hm rl hn.2 (fun r' h => ht r' (by simp [h])), ?_⟩
    intro x hx y hy he
    subst he
    obtain ⟨r', hr', hx'⟩ := List.mem_flatMap.1 hy
    obtain ⟨rc', hrc'⟩ := ht r' (by simp [hr'])
    exact hm.dis r r' rc rc' hrc hrc' (fun e => hn.1 (e ▸ hr')) x hx hx'

/-! what needs no memory that is only read -/

def Scal : V E.Ty → Prop
  | .int _ _ => True
  | .bool _ => True
  | .str _ => True
  | _ => False

theorem RV.scal {c : V E.Ty} (hc : Scal c) {v : Value} (h : RV E w S β D c v) : RV E w S2 β D c v := by
  cases h <;> first
    | exact .int _ _
    | exact .bool _
    | exact .str _
    | (simp [Scal] at hc; done)

theorem flat_scal (hG : Good E) {κ : Nat} (hf : flat (E := E) κ = true) {x : E.Ty κ} {j : Nat} {c : V E.Ty} (hj : (E.cells κ x)[j]? = some c) : Scal c := by
  have hp := hG.cell κ x c (List.mem_of_getElem? hj)
  cases c <;> first
    | trivial
    | (simp [Plain] at hp; done)
    | skip
  rename_i κ' ys
  unfold flat at hf
  cases hd : E.ti κ with
  | none => simp [hd] at hf
  | some d =>
    simp only [hd, List.all_eq_true] at hf
    obtain ⟨t, td, h1, h2, h3⟩ := hG.nosl κ d x j κ' ys hd hj
    have := hf t (List.mem_of_getElem? h1)
    simp [h2, h3] at this

theorem OR.flat (hG : Good E) {κ : Nat} (hf : flat (E := E) κ = true) {xs : List (E.Ty κ)} {v : Value} {ob : List Nat} (h : OR E w S β D κ xs v ob) : OR E w S2 β D κ xs v ob := by
  rcases h with h | ⟨b, o, c, arr, e, rfl, h1, h2, h3, h4, h5⟩
  · exact .inl h
  · exact .inr ⟨b, o, c, arr, e, rfl, h1, h2, h3, h4, fun i x hx j cv hj => (h5 i x hx j cv hj).scal (flat_scal hG hf hj)⟩

theorem CR.flat (hG : Good E) {F : Nat → Value} : ∀ (cs : List (V E.Ty)) (ts : List Nat) (p : Nat) (m : List Bool) (ob : List Nat), (∀ c ∈ cs, Plain c) →
    (∀ (j κ' : Nat) (ys : List (E.Ty κ')), cs[j]? = some (.sl κ' ys) → ∃ t td, ts[j]? = some t ∧ E.ti t = some td ∧ td.kind = .slice κ') → needsL (E := E) ts m = false →
    CR E w S β D F p cs m ob → CR E w S2 β D F p cs m ob
  | [], _, _, _, _, _, _, _, h => h
  | c :: cs, ts, p, m, ob, hpl, hsl, hn, h => by
    have hpl' : ∀ c ∈ cs, Plain c := fun c hc => hpl c (by simp [hc])
    have hsl' : ∀ (j κ' : Nat) (ys : List (E.Ty κ')), cs[j]? = some (.sl κ' ys) → ∃ t td, ts.tail[j]? = some t ∧ E.ti t = some td ∧ td.kind = .slice κ' := by
      intro j κ' ys hj
      obtain ⟨t, td, h1, h2, h3⟩ := hsl (j + 1) κ' ys (by simpa using hj)
      refine ⟨t, td, ?_, h2, h3⟩
      cases ts with
      | nil => simp at h1
      | cons t ts => simpa using h1
    have hn' : needsL (E := E) ts.tail m.tail = false := by
      cases ts with
      | nil => rfl
      | cons t ts =>
        simp only [needsL, Bool.or_eq_false_iff] at hn
        exact hn.2
    have hnotsl : (∀ κ' ys, c ≠ .sl κ' ys) → Scal c := by
      intro h
      have := hpl c (by simp)
      cases c <;> first | trivial | exact absurd rfl (h _ _) | (simp [Plain] at this; done)
    -- a row's cell: its mask, and its elements
    have hrow : ∀ (κ' : Nat) (ys : List (E.Ty κ')), c = .sl κ' ys → ∃ m', m = true :: m' ∧ Vx.flat (E := E) κ' = true := by
      intro κ' ys hc
      obtain ⟨t, td, h1, h2, h3⟩ := hsl 0 κ' ys (by rw [hc]; rfl)
      cases ts with
      | nil => simp at h1
      | cons t' ts =>
        simp at h1; subst h1
        simp only [needsL, h2, h3, Bool.or_eq_false_iff] at hn
        cases m with
        | nil => simp at hn
        | cons b m =>
          cases b with
          | false => simp at hn
          | true => exact ⟨m, rfl, by simpa using hn.1⟩
    cases m with
    | nil =>
      refine ⟨h.1.scal (hnotsl (fun κ' ys hc => by obtain ⟨m', h1, _⟩ := hrow κ' ys hc; cases h1)), CR.flat hG cs ts.tail (p + 1) [] ob hpl' hsl' hn' h.2⟩
    | cons b m =>
      by_cases hc : b = false ∨ isSl c = false
      · rw [CR.cons_other hc] at h ⊢
        refine ⟨h.1.scal (hnotsl (fun κ' ys he => ?_)), CR.flat hG cs ts.tail (p + 1) m ob hpl' hsl' hn' h.2⟩
        obtain ⟨m', h1, _⟩ := hrow κ' ys he
        cases h1
        rcases hc with h | h
        · cases h
        · subst he; cases h
      · cases b with
        | false => exact absurd (.inl rfl) hc
        | true =>
          cases c <;> first
            | (exact absurd (.inr rfl) hc)
            | skip
          rename_i κ' ys
          obtain ⟨m', h1, h2⟩ := hrow κ' ys rfl
          cases h1
          obtain ⟨o1, o2, rfl, k1, k2⟩ := h
          exact ⟨o1, o2, rfl, k1.flat hG h2, CR.flat hG cs ts.tail (p + 1) m o2 hpl' hsl' hn' k2⟩

theorem PR.flat (hG : Good E) {p : PK} (hn : needsS (E := E) p = false) {x : p.T E.Ty} {v : Value} {ob : List Nat} (h : PR E w S p x v ob) : PR E w S2 p x v ob := by
  cases p with
  | int k => exact h
  | bool => exact h
  | str => exact h
  | sl κ => simp [needsS] at hn
  | gsl κ =>
    simp only [needsS, Bool.not_eq_false'] at hn
    exact OR.flat hG hn h
  | st κ m =>
    obtain ⟨vs, h1, h2, h3⟩ := h
    simp only [needsS] at hn
    cases hd : E.ti κ with
    | none => simp [hd] at hn
    | some d =>
      simp only [hd] at hn
      exact ⟨vs, h1, h2, CR.flat hG _ d.leafs 0 m ob (hG.cell κ x) (fun j κ' ys hj => hG.nosl κ d x j κ' ys hd hj) hn h3⟩
  | bx κ m =>
    obtain ⟨b, arr, e, o2, h1, h2, h3, h4, h5⟩ := h
    simp only [needsS] at hn
    cases hd : E.ti κ with
    | none => simp [hd] at hn
    | some d =>
      simp only [hd] at hn
      exact ⟨b, arr, e, o2, h1, h2, h3, h4, CR.flat hG _ d.leafs 0 m o2 (hG.cell κ x) (fun j κ' ys hj => hG.nosl κ d x j κ' ys hd hj) hn h5⟩
  | rp κ => simp [needsS] at hn
  | fn => simp [needsS] at hn

theorem PRs.flat (hG : Good E) : ∀ {ps : List PK} {x : PKs.T E.Ty ps} {vs : List Value} {ob : List Nat}, ps.any (needsS (E := E)) = false → PRs E w S ps x vs ob → PRs E w S2 ps x vs ob
  | [], _, [], _, _, h => h
  | [], _, _ :: _, _, _, h => h.elim
  | _ :: _, _, [], _, _, h => h.elim
  | p :: ps, (x, y), v :: vs, ob, hn, h => by
    simp only [List.any_cons, Bool.or_eq_false_iff] at hn
    obtain ⟨o1, o2, rfl, h1, h2⟩ := h
    exact ⟨o1, o2, rfl, h1.flat hG hn.1, PRs.flat hG hn.2 h2⟩

end

end Go.Proofs.Ytejfpemjmpoddaa.Vx
/-! Calls, on: a call that is carried out. -/
namespace Go.Proofs.Ytejfpemjmpoddaa.Vx
open Go

section
variable {P : Program} {E : Env}
variable {cx : Cx} {w w' w0 : World} {S S' S0 S2 : Nat → Prop} {β β' : Nat → Value} {ω : Nat → List Nat} {D D' : Nat → Prop} {roots : List (Nat × RC E.Ty)} {nx : Nat} {a : Act} {o : Oper}
variable {O : Orc E} {rd : List (Nat × Bool) → Operand → Option (V E.Ty)} {g : Bool}

def retVal : List Value → Value
  | [v] => v
  | vs => .tuple vs.toArray

/-- what holds behind a call -/
structure Post (E : Env) (f : Nat) (y : E.Res f) (args : List Value) (w : World) (S : Nat → Prop) (ob : List Nat) (rv : Value) (w' : World) (vals : List Value) (S' : Nat → Prop) (ob' : List Nat) : Prop where
  ret : rv = retVal vals
  len : vals.length = (E.sig f).rs.length
  rel : PRs E w' S' ((E.sig f).rs ++ outsOf (E.sig f).ps) y (vals ++ outVals (E.sig f).ps args) ob'
  nd : ob'.Nodup
  own : ∀ b ∈ ob', ¬ S' b ∧ b < w'.heap.size ∧ (w.heap.size ≤ b ∨ b ∈ ob)
  s1 : ∀ b, S b → S' b
  s2 : ∀ b, S' b → S b ∨ w.heap.size ≤ b ∨ b ∈ ob
  s3 : ∀ b, S' b → b < w'.heap.size
  frame : ∀ b, b < w.heap.size → b ∉ ob → w'.heap[b]? = w.heap[b]?
  sz : w.heap.size ≤ w'.heap.size
  os : w'.os = w.os
  tape : w'.tape = w.tape
  out : w'.output = w.output

/-- what a function answers -/
def FnOk (P : Program) (E : Env) (f : Nat) (x : E.Args f) (y : E.Res f) : Prop :=
  ∀ (w : World) (S : Nat → Prop) (args : List Value) (ob : List Nat), PRs E w S (E.sig f).ps x args ob → ob.Nodup → (∀ b ∈ ob, ¬ S b ∧ b < w.heap.size) → (∀ b, S b → b < w.heap.size) →
    ∀ (o : Oper) (a : Act) (K : Act → World → Prop) (Q : Exit → Act → World → Prop),
      (∀ rv w' vals S' ob', Post E f y args w S ob rv w' vals S' ob' → K (a.put o.dst rv) w') → o.upon P a K Q ((callFunc f args.toArray).run P w)

theorem oneOf_ok {us : List (V E.Ty)} {vals : List Value} (hl : us.length = vals.length) (h : ∀ (i : Nat) (u : V E.Ty) (v : Value), us[i]? = some u → vals[i]? = some v → RV E w S β D u v) : RV E w S β D (oneOf us) (retVal vals) := by
  have htup : RV E w S β D (.tup us) (.tuple vals.toArray) := by
    refine .tup us vals.toArray (by simp [hl]) (fun i c hi => ?_)
    have hlt : i < vals.length := by have := lt_of_getElem? hi; omega
    have := h i c vals[i] hi (List.getElem?_eq_getElem hlt)
    simpa [hlt] using this
  match us, vals, hl, h, htup with
  | [], [], _, _, ht => exact ht
  | [u], [v], _, h, _ => exact h 0 u v rfl rfl
  | [], _ :: _, hl, _, _ => simp at hl
  | _ :: _, [], hl, _, _ => simp at hl
  | [_], _ :: _ :: _, hl, _, _ => simp at hl
  | _ :: _ :: _, [_], hl, _, _ => simp at hl
  | _ :: _ :: _, _ :: _ :: _, _, _, ht => exact ht

theorem box_block (hm : Mem E cx S β ω D roots w) {r t : Nat} {cs : List (V E.Ty)} (h : find roots r = some (.box t cs)) : ∃ b, ω r = [b] ∧ β r = .pointer (some ⟨b, 0, none⟩) := by
  obtain ⟨b, h1, h2, _⟩ := hm.ok r _ h
  exact ⟨b, h1, h2⟩

theorem call_ok (hG : Good E) (hm : Mem E cx S β ω D roots w) (hO : ∀ f x y, O.call f x = some y → FnOk P E f x y) (f : Nat) (vs : List (V E.Ty)) (cvs : List Value) (hl : cvs.length = vs.length)
    (hv : ∀ (i : Nat) (v : V E.Ty) (cv : Value), vs[i]? = some v → cvs[i]? = some cv → RV E w S β D v cv) (hrun : (execOp a.eval o).run P w = (callFunc f cvs.toArray).run P w) :
    AskOk O (Okay P o a w S β ω D roots nx) roots (callA false f vs nx) := by
  unfold callA
  refine expL_ok hG hm _ vs cvs _ hl hv (fun x ks rs rl hB hks hrs hperm hprs => ?_)
  split
  case h_2 => exact askOk_fail
  rename_i hcond
  simp only [Bool.and_eq_true] at hcond
  have hnd := (nodup_iff _).1 hcond.1
  have hdj := disj_ok hcond.2
  have hnd' := List.nodup_append.1 hnd
  have hbk : ∀ r ∈ ks, r ∉ boxes (E.sig f).ps vs := fun r h1 h2 => hnd'.2.2 r h2 r h1 rfl
  intro y hy
  have hfn := hO f x y hy
  cases hw : wrOuts false (nx + (impL (E := E) false nx (E.sig f).rs (splitR (E.sig f).rs y).1).2.length) (E.sig f).ps vs (splitR (E.sig f).rs y).2 with
  | none =>
    show AskOk O _ roots (match wrOuts false (nx + (impL (E := E) false nx (E.sig f).rs (splitR (E.sig f).rs y).1).2.length) (E.sig f).ps vs (splitR (E.sig f).rs y).2 with
      | some (ws, ms) => _
      | none => _)
    rw [hw]
    exact askOk_fail
  | some q =>
    obtain ⟨ws, ms⟩ := q
    show AskOk O _ roots (match wrOuts false (nx + (impL (E := E) false nx (E.sig f).rs (splitR (E.sig f).rs y).1).2.length) (E.sig f).ps vs (splitR (E.sig f).rs y).2 with
      | some (ws, ms) => _
      | none => _)
    rw [hw]
    generalize hns : (impL (E := E) false nx (E.sig f).rs (splitR (E.sig f).rs y).1) = im at hw
    obtain ⟨us, ns⟩ := im
    suffices hsuff : ∀ fz : List Nat, (match ((E.sig f).rs ++ outsOf (E.sig f).ps).any (needsS (E := E)) with | true => rs | false => []) = fz →
        Okay P o a w S β ω D roots nx ⟨oneOf us, ws, ns ++ ms, ks, fz⟩ from hsuff _ rfl
    intro fz hfz K Q hfr h
    simp only [] at hw
    unfold Oper.wp
    rw [hrun]
    -- the blocks that are handed over
    have hrl : There roots rl := fun r hr => by
      rcases List.mem_append.1 (hperm.mem_iff.1 hr) with h | h
      · obtain ⟨t, cs, h⟩ := hB r h; exact ⟨_, h⟩
      · exact hks r h
    have hrln : rl.Nodup := hperm.nodup_iff.2 hnd
    have hobn := blocks_nodup hm rl hrln hrl
    have hS3 : ∀ b, frozenS S ω rs b → b < w.heap.size := by
      intro b hb
      rcases hb with h | ⟨r, hr, hb⟩
      · exact hm.sb b h
      · obtain ⟨rc, hrc⟩ := hrs r hr
        exact (hm.ob r rc hrc b hb).2.1
    have hobS : ∀ b ∈ rl.flatMap ω, ¬ frozenS S ω rs b ∧ b < w.heap.size := by
      intro b hb
      obtain ⟨r, hr, hbr⟩ := List.mem_flatMap.1 hb
      obtain ⟨rc, hrc⟩ := hrl r hr
      have ho := hm.ob r rc hrc b hbr
      refine ⟨fun hs => ?_, ho.2.1⟩
      rcases hs with hs | ⟨r', hr', hb'⟩
      · exact ho.1 hs
      · obtain ⟨rc', hrc'⟩ := hrs r' hr'
        exact hm.dis r r' rc rc' hrc hrc' (fun e => hdj r (hperm.mem_iff.1 hr) (e ▸ hr')) b hbr hb'
    refine hfn w (frozenS S ω rs) cvs (rl.flatMap ω) hprs hobn hobS hS3 o a K Q (fun rv w' vals S1 ob' hpost => ?_)
    obtain ⟨o1, o2, hob', hr1, hr2⟩ := PRs.split (E.sig f).rs (outsOf (E.sig f).ps) y vals _ ob' hpost.len hpost.rel
    -- what may be read then
    obtain ⟨S2, hS2, hS2a, hS2b, hfrz, hr1', hr2'⟩ : ∃ S2 : Nat → Prop, (∀ b, S b → S2 b) ∧ (∀ b, S2 b → S1 b) ∧ (∀ b, S2 b → S b ∨ (fz = rs ∧ S1 b)) ∧ (fz = [] ∨ (fz = rs ∧ S2 = S1)) ∧
        PRs E w' S2 (E.sig f).rs (splitR (E.sig f).rs y).1 vals o1 ∧ PRs E w' S2 (outsOf (E.sig f).ps) (splitR (E.sig f).rs y).2 (outVals (E.sig f).ps cvs) o2 := by
      cases hne : ((E.sig f).rs ++ outsOf (E.sig f).ps).any (needsS (E := E)) with
      | true =>
        rw [hne] at hfz
        exact ⟨S1, fun b hb => hpost.s1 b (.inl hb), fun _ h => h, fun b hb => .inr ⟨hfz.symm, hb⟩, .inr ⟨hfz.symm, rfl⟩, hr1, hr2⟩
      | false =>
        rw [hne] at hfz
        simp only [List.any_append, Bool.or_eq_false_iff] at hne
        exact ⟨S, fun _ h => h, fun b hb => hpost.s1 b (.inl hb), fun b hb => .inl hb, .inl hfz.symm, PRs.flat hG hne.1 hr1, PRs.flat hG hne.2 hr2⟩
    have hfzr : ∀ r ∈ fz, r ∈ rs := by
      intro r hr
      rcases hfrz with h | ⟨h, _⟩
      · rw [h] at hr; simp at hr
      · rw [h] at hr; exact hr
    obtain ⟨us1, obs1, i1⟩ := impL_ok (E.sig f).rs (splitR (E.sig f).rs y).1 vals o1 nx hr1'
    rw [hns] at i1
    obtain ⟨us2, obs2, bl, hperm2, hmap, i2, hbl, hbl2⟩ := wrOuts_ok (E.sig f).ps vs cvs (splitR (E.sig f).rs y).2 o2 _ ws ms hl hv hr2' hw
    have i3 := Imp.app i1 i2 (fun β1 D1 g1 g2 => And.intro g1 g2)
    obtain ⟨l1, l2, l3, l4⟩ := i3
    have l1 : (us1 ++ us2).length = (ns ++ ms).length := l1
    have l2 : (obs1 ++ obs2).length = (ns ++ ms).length := l2
    have hfr : ∀ k, k < (ns ++ ms).length → ¬ D (nx + k) := hfr
    have hobs : (obs1 ++ obs2).flatten = o1 ++ obs2.flatten := l3
    -- names
    have hfr' : ∀ r, D r → ¬ (nx ≤ r ∧ r < nx + (ns ++ ms).length) := fun r hr hh => hfr (r - nx) (by omega) (by
      have : nx + (r - nx) = r := by omega
      rw [this]; exact hr)
    let β' : Nat → Value := fun r => if nx ≤ r ∧ r < nx + (ns ++ ms).length then (us1 ++ us2).getD (r - nx) undef else β r
    let ω' : Nat → List Nat := fun r => if nx ≤ r ∧ r < nx + (ns ++ ms).length then (obs1 ++ obs2).getD (r - nx) [] else unown ω fz r
    have hβD : ∀ r, D r → β' r = β r := fun r hr => if_neg (hfr' r hr)
    have hωD : ∀ r, D r → ω' r = unown ω fz r := fun r hr => if_neg (hfr' r hr)
    obtain ⟨⟨g1, g2⟩, hroots⟩ := l4 β' (Grown D nx (ns ++ ms).length) (fun i u hi => by
      have hlt := lt_of_getElem? hi
      refine ⟨?_, .inr ⟨by omega, by omega⟩⟩
      show (if nx ≤ nx + i ∧ nx + i < nx + (ns ++ ms).length then (us1 ++ us2).getD (nx + i - nx) undef else β (nx + i)) = u
      rw [if_pos ⟨by omega, by omega⟩, Nat.add_sub_cancel_left, List.getD_eq_getElem?_getD, hi]; rfl)
    -- a block of a variable
    have hboxb : ∀ r ∈ boxes (E.sig f).ps vs, ∃ b ∈ bl, ω r = [b] := by
      intro r hr
      obtain ⟨b, hb, hβ⟩ := hbl2 r hr
      obtain ⟨t, cs, hrc⟩ := hB r hr
      obtain ⟨b', h1, h2⟩ := box_block hm hrc
      rw [hβ] at h2; cases h2
      exact ⟨b, hb, h1⟩
    have hblob : ∀ b ∈ bl, b ∈ ob' := fun b hb => by
      rw [hob']
      exact List.mem_append_right _ (hperm2.mem_iff.2 (List.mem_append_left _ hb))
    have hobsob : ∀ b ∈ (obs1 ++ obs2).flatten, b ∈ ob' := fun b hb => by
      rw [hobs] at hb
      rw [hob']
      rcases List.mem_append.1 hb with h | h
      · exact List.mem_append_left _ h
      · exact List.mem_append_right _ (hperm2.mem_iff.2 (List.mem_append_right _ h))
    have hnd2 : (o1 ++ (bl ++ obs2.flatten)).Nodup := by
      have := hpost.nd
      rw [hob'] at this
      exact (List.Perm.append_left o1 hperm2).nodup_iff.1 this
    have hnd3 := List.nodup_append.1 hnd2
    have hnd4 := List.nodup_append.1 hnd3.2.1
    have hblobs : ∀ b ∈ bl, b ∉ (obs1 ++ obs2).flatten := by
      intro b hb hb'
      rw [hobs] at hb'
      rcases List.mem_append.1 hb' with h | h
      · exact hnd3.2.2 b h b (List.mem_append_left _ hb) rfl
      · exact hnd4.2.2 b hb b h rfl
    have hobsn : (obs1 ++ obs2).flatten.Nodup := by
      rw [hobs]
      refine List.nodup_append.2 ⟨hnd3.1, hnd4.2.1, fun x hx y hy => hnd3.2.2 x hx y (List.mem_append_right _ hy)⟩
    have hSw : ∀ b, S b → w'.heap[b]? = w.heap[b]? := fun b hb => hpost.frame b (hm.sb b hb) (fun hb' => (hobS b hb').1 (.inl hb))
    refine h (retVal vals) S2 β' ω' w' ?_ ?_ |> fun hh => by rw [hpost.ret]; exact hh
    · -- an own block, that is one of those that are handed over or new
      have hnewb : ∀ (i : Nat) (b : Nat), i < (ns ++ ms).length → b ∈ ω' (nx + i) → b ∈ (obs1 ++ obs2).flatten ∧ (obs1 ++ obs2)[i]? = some (ω' (nx + i)) := by
        intro i b hi hb
        have he : ω' (nx + i) = (obs1 ++ obs2).getD i [] := by
          show (if nx ≤ nx + i ∧ nx + i < nx + (ns ++ ms).length then (obs1 ++ obs2).getD (nx + i - nx) [] else unown ω fz (nx + i)) = _
          rw [if_pos ⟨by omega, by omega⟩, Nat.add_sub_cancel_left]
        have hlt : i < (obs1 ++ obs2).length := by omega
        have hget : (obs1 ++ obs2)[i]? = some (ω' (nx + i)) := by
          rw [he, List.getD_eq_getElem?_getD, List.getElem?_eq_getElem hlt]; rfl
        exact ⟨List.mem_flatten.2 ⟨_, List.mem_of_getElem? hget, hb⟩, hget⟩
      have hkeep : ∀ b, b < w.heap.size → (∀ r ∈ boxes (E.sig f).ps vs, b ∉ ω r) → (∀ r ∈ ks, b ∉ ω r) → w'.heap[b]? = w.heap[b]? := by
        intro b hb h1 h2
        refine hpost.frame b hb (fun hb' => ?_)
        obtain ⟨r, hr, hbr⟩ := List.mem_flatMap.1 hb'
        rcases List.mem_append.1 (hperm.mem_iff.1 hr) with h | h
        · exact h1 r h hbr
        · exact h2 r h hbr
      have hkilled : ∀ b, b ∈ rl.flatMap ω → b ∉ bl → ∃ r ∈ ks, b ∈ ω r := by
        intro b hb hbl'
        obtain ⟨r, hr, hbr⟩ := List.mem_flatMap.1 hb
        rcases List.mem_append.1 (hperm.mem_iff.1 hr) with h | h
        · obtain ⟨b', k1, k2⟩ := hboxb r h
          rw [k2] at hbr
          simp at hbr; subst hbr
          exact absurd k1 hbl'
        · exact ⟨r, h, hbr⟩
      exact {
        hs := hS2
        hn := fun b hb => by
          rcases hS2b b hb with h | ⟨hfz', h1⟩
          · exact .inl h
          · rcases hpost.s2 b h1 with h2 | h2 | h2
            · rcases h2 with h2 | ⟨r, hr, hbr⟩
              · exact .inl h2
              · exact .inr (.inr ⟨r, .inl (by show r ∈ fz; rw [hfz']; exact hr), hrs r hr, hbr⟩)
            · exact .inr (.inl h2)
            · obtain ⟨r, hr, hbr⟩ := hkilled b h2 (fun hbl' => (hpost.own b (hblob b hbl')).1 h1)
              exact .inr (.inr ⟨r, .inr hr, hks r hr, hbr⟩)
        hb := fun b hb => hpost.s3 b (hS2a b hb)
        bt := hβD
        om := fun r hr => hωD r hr
        heap := fun b hb h1 h2 => hkeep b hb (fun r hr => h1 r (by show r ∈ ws.map (·.1); rw [hmap]; exact hr)) h2
        sz := hpost.sz
        os := hpost.os
        tape := hpost.tape
        out := hpost.out
        wr := fun r rc hmem => by
          have hr : r ∈ boxes (E.sig f).ps vs := by rw [← hmap]; exact List.mem_map.2 ⟨(r, rc), hmem, rfl⟩
          obtain ⟨t, cs, hrc⟩ := hB r hr
          refine ⟨⟨_, hrc⟩, ?_⟩
          obtain ⟨b, k1, k2, k3⟩ := g2 r rc hmem
          obtain ⟨b', k4, k5⟩ := box_block hm hrc
          rw [k2] at k5; cases k5
          rw [k4]; exact k3
        kl := fun r hr => hks r hr
        new := fun i rc hi => by
          have hlt : i < (ns ++ ms).length := lt_of_getElem? hi
          have hu : (us1 ++ us2)[i]? = some (β' (nx + i)) := by
            have he : β' (nx + i) = (us1 ++ us2).getD i undef := by
              show (if nx ≤ nx + i ∧ nx + i < nx + (ns ++ ms).length then (us1 ++ us2).getD (nx + i - nx) undef else β (nx + i)) = _
              rw [if_pos ⟨by omega, by omega⟩, Nat.add_sub_cancel_left]
            have hlt' : i < (us1 ++ us2).length := by omega
            rw [he, List.getD_eq_getElem?_getD, List.getElem?_eq_getElem hlt']; rfl
          have ho : (obs1 ++ obs2)[i]? = some (ω' (nx + i)) := by
            have he : ω' (nx + i) = (obs1 ++ obs2).getD i [] := by
              show (if nx ≤ nx + i ∧ nx + i < nx + (ns ++ ms).length then (obs1 ++ obs2).getD (nx + i - nx) [] else unown ω fz (nx + i)) = _
              rw [if_pos ⟨by omega, by omega⟩, Nat.add_sub_cancel_left]
            have hlt' : i < (obs1 ++ obs2).length := by omega
            rw [he, List.getD_eq_getElem?_getD, List.getElem?_eq_getElem hlt']; rfl
          exact hroots i rc _ _ hi hu ho
        newb := fun i hi b hb => by
          obtain ⟨h1, _⟩ := hnewb i b hi hb
          have ho := hpost.own b (hobsob b h1)
          refine ⟨fun hs => ho.1 (hS2a b hs), ho.2.1, ?_⟩
          rcases ho.2.2 with h2 | h2
          · exact .inl h2
          · exact .inr (hkilled b h2 (fun hbl' => hblobs b hbl' h1))
        newd := fun i j hi hj hij b hb hb' => by
          obtain ⟨_, h1⟩ := hnewb i b hi hb
          obtain ⟨_, h2⟩ := hnewb j b hj hb'
          exact flat_disj _ hobsn i j _ _ hij h1 h2 b hb hb'
        frz := fun r hr rc hrc => by
          have hr' := hfzr r hr
          have hrn : r ∉ rl := fun h => hdj r (hperm.mem_iff.1 h) hr'
          have hfz2 : fz = rs ∧ S2 = S1 := by
            rcases hfrz with h | h
            · have : r ∈ fz := hr
              rw [h] at this; simp at this
            · exact h
          have hbw : ∀ b ∈ ω r, w'.heap[b]? = w.heap[b]? := by
            intro b hb
            refine hpost.frame b (hm.ob r rc hrc b hb).2.1 (fun hb' => ?_)
            obtain ⟨r2, hr2, hbr⟩ := List.mem_flatMap.1 hb'
            obtain ⟨rc2, hrc2⟩ := hrl r2 hr2
            exact hm.dis r r2 rc rc2 hrc hrc2 (fun e => hrn (e ▸ hr2)) b hb hbr
          have h1 : RootOk E w' S β' (Grown D nx (ns ++ ms).length) (β r) (ω r) rc := (hm.ok r rc hrc).mono hbw hSw (fun _ h => h) (fun _ h => .inl h) hβD
          refine RootOk.frz hG h1 hS2 (fun b hb => ?_)
          rw [hfz2.2]
          exact hpost.s1 b (.inr ⟨r, hr', hb⟩)
        d1 := fun r hr hw' => by
          have : r ∈ boxes (E.sig f).ps vs := by rw [← hmap]; exact hw'
          exact hdj r (List.mem_append_left _ this) (hfzr r hr)
        d2 := fun r hr hw' => by
          have : r ∈ boxes (E.sig f).ps vs := by rw [← hmap]; exact hw'
          exact hbk r hr this
        d3 := fun r hr hf => hdj r (List.mem_append_right _ hr) (hfzr r hf)
        nd := by show (ws.map (·.1)).Nodup; rw [hmap]; exact hnd'.1 }
    · exact oneOf_ok g1.1 g1.2

end

end Go.Proofs.Ytejfpemjmpoddaa.Vx
/-! Each operation that stands behind no guard. -/
namespace Go.Proofs.Ytejfpemjmpoddaa.Vx
open Go

section
variable {P : Program} {E : Env}
variable {cx : Cx} {w w' w0 : World} {S S' S0 S2 : Nat → Prop} {β β' : Nat → Value} {ω : Nat → List Nat} {D D' : Nat → Prop} {roots : List (Nat × RC E.Ty)} {nx : Nat} {a : Act} {o : Oper}
variable {O : Orc E} {rd : List (Nat × Bool) → Operand → Option (V E.Ty)} {g : Bool}

theorem arr_one {α : Type} {x : Array α} {t : α} (h : x.toList = [t]) : x = #[t] := by
  apply Array.ext'; simpa using h
theorem arr_two {α : Type} {x : Array α} {t u : α} (h : x.toList = [t, u]) : x = #[t, u] := by
  apply Array.ext'; simpa using h

theorem len_two {α : Type} {l : List α} (h : l.length = 2) : ∃ x y, l = [x, y] := by
  match l, h with
  | [x, y], _ => exact ⟨x, y, rfl⟩

theorem rdL_vals (hrd : Reads a w S β D rd) : ∀ (os : List Operand) (vs : List (V E.Ty)), rdL (rd []) os = some vs →
    (os.map a.eval).length = vs.length ∧ ∀ (i : Nat) (v : V E.Ty) (cv : Value), vs[i]? = some v → (os.map a.eval)[i]? = some cv → RV E w S β D v cv := by
  intro os vs h
  obtain ⟨h1, h2⟩ := rdL_ok hrd os vs h
  refine ⟨by simp [h1], fun i v cv hi hc => ?_⟩
  obtain ⟨x, hx, hv⟩ := h2 i v hi
  simp [hx] at hc
  subst hc
  exact hv

theorem builtin_ok (hT : TIok P E) (hG : Good E) (hm : Mem E cx S β ω D roots w) (hrd : Reads a w S β D rd) (c : Call) (b : Builtin) (hc : c.callee = .builtin b) (ho : o.op = .call c) :
    AskOk O (Okay P o a w S β ω D roots nx) roots (opA o g rd nx) := by
  simp only [opA, ho]
  cases hr : rdL (rd []) c.args.toList with
  | none => exact askOk_fail
  | some vs =>
    simp only [hc]
    have hvals := rdL_vals hrd _ vs hr
    have hrun : (execOp a.eval o).run P w = (builtin b c.argTypes o.type (c.args.map fun | .const _ => true | _ => false) (c.args.map a.eval)).run P w := by
      simp only [execOp, ho, resolve, hc, Sem.run_bind, Sem.run_pure, Result.andThen_ok, invoke]
      rfl
    have hargs : (c.args.map a.eval).toList = c.args.toList.map a.eval := by simp
    unfold builtinA
    split
    · rename_i t x ht
      obtain ⟨y, hy⟩ : ∃ y, c.args.toList.map a.eval = [y] := List.length_eq_one_iff.1 (by rw [hvals.1]; rfl)
      have hx := hvals.2 0 x y rfl (by rw [hy]; rfl)
      have hA : c.args.map a.eval = #[y] := arr_one (by rw [hargs, hy])
      refine len_ok (ty := o.type) hT hm hx (fun v hv => ?_)
      rw [hrun, hA, arr_one ht]
      simp only [builtin, Sem.run_bind, hv, Result.andThen_ok, Sem.run_pure]
    · rename_i t u s x ht
      obtain ⟨y, z, hy⟩ : ∃ y z, c.args.toList.map a.eval = [y, z] := len_two (by rw [hvals.1]; rfl)
      have hs := hvals.2 0 s y rfl (by rw [hy]; rfl)
      have hx := hvals.2 1 x z rfl (by rw [hy]; rfl)
      have hA : c.args.map a.eval = #[y, z] := arr_two (by rw [hargs, hy])
      split
      · rename_i e2 _ _ _ hu
        refine append_ok (ty := o.type) hT hG hm ⟨e2, ti_kind hT hu⟩ hs hx (fun v w' hv => ?_)
        rw [hrun, hA, arr_two ht]
        simp only [builtin, Sem.run_bind, hv, Result.andThen_ok, Sem.run_pure]
      · exact askOk_fail
    · rename_i k p k' q
      obtain ⟨y, z, hy⟩ : ∃ y z, c.args.toList.map a.eval = [y, z] := len_two (by rw [hvals.1]; rfl)
      have h1 := (hvals.2 0 _ y rfl (by rw [hy]; rfl)).int_inv
      have h2 := (hvals.2 1 _ z rfl (by rw [hy]; rfl)).int_inv
      have hA : c.args.map a.eval = #[y, z] := arr_two (by rw [hargs, hy])
      split
      · rename_i hk
        have := of_decide_eq_true hk
        subst this
        refine Okay.val hm (cv := .int k (if q < p then q else p)) ?_ (.int _ _)
        rw [hrun, hA, h1, h2]
        simp only [builtin, Sem.run_bind, run_min_int2, Result.andThen_ok, Sem.run_pure]
      · exact askOk_fail
    · rename_i k p k' q
      obtain ⟨y, z, hy⟩ : ∃ y z, c.args.toList.map a.eval = [y, z] := len_two (by rw [hvals.1]; rfl)
      have h1 := (hvals.2 0 _ y rfl (by rw [hy]; rfl)).int_inv
      have h2 := (hvals.2 1 _ z rfl (by rw [hy]; rfl)).int_inv
      have hA : c.args.map a.eval = #[y, z] := arr_two (by rw [hargs, hy])
      split
      · rename_i hk
        have := of_decide_eq_true hk
        subst this
        refine Okay.val hm (cv := .int k (if p < q then q else p)) ?_ (.int _ _)
        rw [hrun, hA, h1, h2]
        simp only [builtin, Sem.run_bind, run_max_int2, Result.andThen_ok, Sem.run_pure]
      · exact askOk_fail
    · exact askOk_fail

theorem callOp_ok (hG : Good E) (hm : Mem E cx S β ω D roots w) (hrd : Reads a w S β D rd) (hO : ∀ f x y, O.call f x = some y → FnOk P E f x y) (c : Call) (fo : Operand) (hc : c.callee = .value fo) (ho : o.op = .call c) :
    AskOk O (Okay P o a w S β ω D roots nx) roots (opA o false rd nx) := by
  simp only [opA, ho]
  cases hr : rdL (rd []) c.args.toList with
  | none => exact askOk_fail
  | some vs =>
    simp only [hc]
    cases hf : rd [] fo with
    | none => exact askOk_fail
    | some v =>
      cases v with
      | fn f cs =>
        have hvals := rdL_vals hrd _ vs hr
        obtain ⟨us, hv, hul, hus⟩ := (hrd.one _ _ hf).fn_inv
        refine call_ok hG hm hO f (vs ++ cs) (c.args.toList.map a.eval ++ us.toList) (by simp only [List.length_append, hvals.1, Array.length_toList, hul]) ?_ ?_
        · intro i v cv h1 h2
          by_cases hi : i < vs.length
          · rw [List.getElem?_append_left hi] at h1
            rw [List.getElem?_append_left (by rw [hvals.1]; exact hi)] at h2
            exact hvals.2 i v cv h1 h2
          · rw [List.getElem?_append_right (by omega)] at h1
            rw [List.getElem?_append_right (by rw [hvals.1]; omega), hvals.1] at h2
            have h3 := hus _ v h1
            rw [Array.getElem?_toList] at h2
            have h4 : us.getD (i - vs.length) undef = cv := by
              simp only [Array.getD_eq_getD_getElem?, h2]; rfl
            rw [← h4]; exact h3
        · have ha : (c.args.toList.map a.eval ++ us.toList).toArray = c.args.map a.eval ++ us := by
            apply Array.ext'; simp
          rw [ha]
          simp only [execOp, ho, resolve, hc, hv, Deferred.ofValue, Sem.run_bind, Sem.run_pure, Result.andThen_ok, invoke, Array.empty_append]
      | _ => exact askOk_fail

theorem op_ok (hT : TIok P E) (hG : Good E) (hQ : EqOk P E) (hm : Mem E cx S β ω D roots w) (hrd : Reads a w S β D rd) (hO : ∀ f x y, O.call f x = some y → FnOk P E f x y) :
    AskOk O (Okay P o a w S β ω D roots nx) roots (opA o false rd nx) := by
  cases ho : o.op with
  | move x => exact move_ok hm hrd x ho
  | assign x => exact assign_ok hm hrd x ho
  | pick x y z => exact pick_ok hm hrd x y z ho
  | alloc t => exact alloc_ok hT hG hm t ho
  | box t x => exact box_ok hG hm hrd t x ho
  | build t ps => exact build_ok hT hm hrd t ps ho
  | buildSlice t n ps => exact buildSlice_ok hT hG hm hrd t n ps ho
  | load t x => exact load_ok hT hG hm hrd t x ho
  | store t x y => exact store_ok hT hG hm hrd t x y ho
  | nilCheck x => exact nilCheck_ok hm hrd x ho
  | binOp op t x y t' => exact binOp_ok hT hQ hm hrd op t x y t' ho
  | unOp op t x => exact unOp_ok hm hrd op t x ho
  | convert s d x => exact convert_ok hT hG hm hrd s d x ho
  | fieldAddr t x f => exact fieldAddr_ok hT hm hrd t x f ho
  | field t x f => exact field_ok hT hm hrd t x f ho
  | indexAddr t x i => exact indexAddr_ok hT hG hm hrd t x i ho
  | index t x i => exact index_ok hT hm hrd t x i ho
  | slice t x lo hi mx =>
    cases mx with
    | none => exact slice_ok hT hG hm hrd t x lo hi ho
    | some m => simp only [opA, ho]; exact askOk_fail
  | makeSlice t l c => exact makeSlice_ok hT hG hm hrd t l c ho
  | makeFunc fn first captured => exact makeFunc_ok hm hrd fn first captured ho
  | extract x i => exact extract_ok hm hrd x i ho
  | call c =>
    cases hc : c.callee with
    | builtin b => exact builtin_ok hT hG hm hrd c b hc ho
    | value f => exact callOp_ok hG hm hrd hO c f hc ho
    | invoke r n =>
      simp only [opA, ho, hc]
      split <;> exact askOk_fail
  | _ => simp only [opA, ho]; exact askOk_fail

/-- likewise behind a guard, where it is no call -/
theorem opg_ok (hnc : isCall o.op = false) (hT : TIok P E) (hG : Good E) (hQ : EqOk P E) (hm : Mem E cx S β ω D roots w) (hrd : Reads a w S β D rd) :
    AskOk O (Okay P o a w S β ω D roots nx) roots (opA o g rd nx) := by
  cases ho : o.op with
  | move x => exact move_ok hm hrd x ho
  | assign x => exact assign_ok hm hrd x ho
  | pick x y z => exact pick_ok hm hrd x y z ho
  | alloc t => exact alloc_ok hT hG hm t ho
  | box t x => exact box_ok hG hm hrd t x ho
  | build t ps => exact build_ok hT hm hrd t ps ho
  | buildSlice t n ps => exact buildSlice_ok hT hG hm hrd t n ps ho
  | load t x => exact load_ok hT hG hm hrd t x ho
  | store t x y => exact store_ok hT hG hm hrd t x y ho
  | nilCheck x => exact nilCheck_ok hm hrd x ho
  | binOp op t x y t' => exact binOp_ok hT hQ hm hrd op t x y t' ho
  | unOp op t x => exact unOp_ok hm hrd op t x ho
  | convert s d x => exact convert_ok hT hG hm hrd s d x ho
  | fieldAddr t x f => exact fieldAddr_ok hT hm hrd t x f ho
  | field t x f => exact field_ok hT hm hrd t x f ho
  | indexAddr t x i => exact indexAddr_ok hT hG hm hrd t x i ho
  | index t x i => exact index_ok hT hm hrd t x i ho
  | slice t x lo hi mx =>
    cases mx with
    | none => exact slice_ok hT hG hm hrd t x lo hi ho
    | some m => simp only [opA, ho]; exact askOk_fail
  | makeSlice t l c => exact makeSlice_ok hT hG hm hrd t l c ho
  | makeFunc fn first captured => exact makeFunc_ok hm hrd fn first captured ho
  | extract x i => exact extract_ok hm hrd x i ho
  | call c =>
    cases hc : c.callee with
    | builtin b => exact builtin_ok hT hG hm hrd c b hc ho
    | value f => rw [ho] at hnc; simp [isCall, hc] at hnc
    | invoke r n =>
      simp only [opA, ho, hc]
      split <;> exact askOk_fail
  | _ => simp only [opA, ho]; exact askOk_fail

end

end Go.Proofs.Ytejfpemjmpoddaa.Vx
/-! Calls behind a guard: what comes in is only read. -/
namespace Go.Proofs.Ytejfpemjmpoddaa.Vx
open Go

section
variable {P : Program} {E : Env}
variable {cx : Cx} {w w' w0 : World} {S S' S0 S2 : Nat → Prop} {β β' : Nat → Value} {ω : Nat → List Nat} {D D' : Nat → Prop} {roots : List (Nat × RC E.Ty)} {nx : Nat} {a : Act} {o : Oper}

theorem CR.froze (hG : Good E) {F : Nat → Value} (hs : ∀ b, S b → S2 b) : ∀ {cs : List (V E.Ty)} {p : Nat} {m : List Bool} {ob : List Nat}, (∀ b ∈ ob, S2 b) → CR E w S β D F p cs m ob →
    ∀ (j : Nat) (c : V E.Ty), cs[j]? = some c → RV E w S2 β D c (F (p + j))
  | [], _, _, _, _, _ => by simp
  | c :: cs, p, [], ob, ho, h => by
    intro j d hj
    cases j with
    | zero => simp at hj; subst hj; exact h.1.more hs
    | succ j =>
      have := CR.froze hG hs ho h.2 j d (by simpa using hj)
      rwa [Nat.add_assoc, Nat.add_comm 1 j] at this
  | c :: cs, p, b :: m, ob, ho, h => by
    by_cases hc : b = false ∨ isSl c = false
    · rw [CR.cons_other hc] at h
      intro j d hj
      cases j with
      | zero => simp at hj; subst hj; exact h.1.more hs
      | succ j =>
        have := CR.froze hG hs ho h.2 j d (by simpa using hj)
        rwa [Nat.add_assoc, Nat.add_comm 1 j] at this
    · cases b with
      | false => exact absurd (.inl rfl) hc
      | true =>
        cases c <;> first
          | (exact absurd (.inr rfl) hc)
          | skip
        rename_i κ xs
        obtain ⟨o1, o2, rfl, h1, h2⟩ := h
        intro j d hj
        cases j with
        | zero =>
          simp at hj; subst hj
          exact OR.froze h1 hs (fun b hb => ho b (List.mem_append_left _ hb)) (fun i x _ => hG.len κ x)
        | succ j =>
          have := CR.froze hG hs (fun b hb => ho b (List.mem_append_right _ hb)) h2 j d (by simpa using hj)
          rwa [Nat.add_assoc, Nat.add_comm 1 j] at this

theorem impT_ok (hG : Good E) (p : PK) (x : p.T E.Ty) (v : Value) (ob : List Nat) (base : Nat) (hp : p.isBx = false) (h : PR E w S p x v ob) (hs : ∀ b, S b → S2 b) (ho : ∀ b ∈ ob, S2 b) :
    (impP true base p x).2 = [] ∧ RV E w S2 β D (impP true base p x).1 v := by
  cases p with
  | int k => obtain ⟨rfl, rfl⟩ := h; exact ⟨rfl, .int _ _⟩
  | bool => obtain ⟨rfl, rfl⟩ := h; exact ⟨rfl, .bool _⟩
  | str => obtain ⟨rfl, rfl⟩ := h; exact ⟨rfl, .str _⟩
  | sl κ => obtain ⟨h, rfl⟩ := h; exact ⟨rfl, (h.more hs).up⟩
  | gsl κ => exact ⟨rfl, (OR.froze h hs ho (fun i x _ => hG.len κ x)).up⟩
  | st κ m =>
    obtain ⟨vs, rfl, h1, h2⟩ := h
    have h3 := CR.froze hG hs ho h2
    have he : owns (E := E) base (E.cells κ x) [] = (E.cells κ x, []) := by
      cases E.cells κ x <;> rfl
    have hi : impP true base (.st κ m) x = (.agg (E.cells κ x), []) := by
      show (match owns base (E.cells κ x) [] with | (cs, ns) => (V.agg cs, ns)) = _
      rw [he]
    rw [hi]
    exact ⟨rfl, .agg _ vs h1 (fun j c hj => by have := h3 j c hj; rw [Nat.zero_add] at this; exact this.up)⟩
  | bx κ m => simp [PK.isBx] at hp
  | rp κ => obtain ⟨h, rfl⟩ := h; exact ⟨rfl, (h.more hs).up⟩
  | fn => obtain ⟨h, _, rfl⟩ := h; exact ⟨rfl, (h.more hs).up⟩

theorem impLT_ok (hG : Good E) (hs : ∀ b, S b → S2 b) : ∀ (ps : List PK) (x : PKs.T E.Ty ps) (vs : List Value) (ob : List Nat) (base : Nat), (∀ p ∈ ps, p.isBx = false) → PRs E w S ps x vs ob → (∀ b ∈ ob, S2 b) →
    (impL true base ps x).2 = [] ∧ (impL true base ps x).1.length = vs.length ∧ ∀ (i : Nat) (u : V E.Ty) (v : Value), (impL true base ps x).1[i]? = some u → vs[i]? = some v → RV E w S2 β D u v
  | [], x, [], ob, base, _, _, _ => ⟨rfl, rfl, by simp⟩
  | [], _, _ :: _, _, _, _, h, _ => h.elim
  | _ :: _, _, [], _, _, _, h, _ => h.elim
  | p :: ps, (x, y), v :: vs, ob, base, hp, h, ho => by
    obtain ⟨o1, o2, rfl, h1, h2⟩ := h
    obtain ⟨i1, i2⟩ := impT_ok (β := β) (D := D) hG p x v o1 base (hp p (by simp)) h1 hs (fun b hb => ho b (List.mem_append_left _ hb))
    obtain ⟨j1, j2, j3⟩ := impLT_ok hG hs ps y vs o2 (base + (impP true base p x).2.length) (fun p hp' => hp p (by simp [hp'])) h2 (fun b hb => ho b (List.mem_append_right _ hb))
    have he : impL true base (p :: ps) (x, y) = ((impP true base p x).1 :: (impL true (base + (impP true base p x).2.length) ps y).1, (impP true base p x).2 ++ (impL true (base + (impP true base p x).2.length) ps y).2) := rfl
    rw [he]
    refine ⟨by show (impP true base p x).2 ++ (impL true (base + (impP true base p x).2.length) ps y).2 = []; rw [j1, i1]; rfl, by simp [j2], fun i u v' hi hv => ?_⟩
    cases i with
    | zero => simp at hi hv; subst hi hv; exact i2
    | succ i => exact j3 i u v' (by simpa using hi) (by simpa using hv)

end

end Go.Proofs.Ytejfpemjmpoddaa.Vx
/-! Calls behind a guard, on: variables that were handed in, the call carried out, the call not carried out. -/
namespace Go.Proofs.Ytejfpemjmpoddaa.Vx
open Go

section
variable {P : Program} {E : Env}
variable {cx : Cx} {w w' w0 : World} {S S' S0 S2 : Nat → Prop} {β β' : Nat → Value} {ω : Nat → List Nat} {D D' : Nat → Prop} {roots : List (Nat × RC E.Ty)} {nx : Nat} {a : Act} {o : Oper} {O : Orc E}

theorem owns_nil (base : Nat) (cs : List (V E.Ty)) : owns (E := E) base cs [] = (cs, []) := by cases cs <;> rfl

theorem wrOutsT_ok (hG : Good E) : ∀ (ps : List PK) (vs : List (V E.Ty)) (args : List Value) (z : PKs.T E.Ty (outsOf ps)) (ob : List Nat) (base : Nat) (ws : List (Nat × RC E.Ty)) (ms : List (RC E.Ty)),
    args.length = vs.length → (∀ (i r : Nat) (cv : Value) (κ : Nat) (m : List Bool), ps[i]? = some (.bx κ m) → vs[i]? = some (.ptr r 0) → args[i]? = some cv → ∃ b, cv = .pointer (some ⟨b, 0, none⟩) ∧ β r = .pointer (some ⟨b, 0, none⟩)) →
    PRs E w S (outsOf ps) z (outVals ps args) ob → wrOuts true base ps vs z = some (ws, ms) →
    ∃ rest bl, ob.Perm (bl ++ rest) ∧ ws.map (·.1) = boxes ps vs ∧ ms = [] ∧
      (∀ (S2 : Nat → Prop) (β1 : Nat → Value) (D1 : Nat → Prop), (∀ b, S b → S2 b) → (∀ b ∈ rest, S2 b) → ∀ r rc, (r, rc) ∈ ws → ∃ b, b ∈ bl ∧ β r = .pointer (some ⟨b, 0, none⟩) ∧ RootOk E w S2 β1 D1 (β r) [b] rc) ∧
      (∀ b ∈ bl, ∃ r ∈ boxes ps vs, β r = .pointer (some ⟨b, 0, none⟩)) ∧ (∀ r ∈ boxes ps vs, ∃ b ∈ bl, β r = .pointer (some ⟨b, 0, none⟩))
  | [], [], args, z, ob, base, ws, ms, hl, _, h, hw => by
    simp only [wrOuts, Option.some.injEq, Prod.mk.injEq] at hw
    obtain ⟨rfl, rfl⟩ := hw
    have ha : args = [] := List.eq_nil_of_length_eq_zero (by simpa using hl)
    subst ha
    have : ob = [] := h
    subst this
    exact ⟨[], [], by simp, by simp [boxes], rfl, by simp, by simp, by simp [boxes]⟩
  | [], _ :: _, _, _, _, _, _, _, _, _, _, hw => by simp [wrOuts] at hw
  | p :: ps, [], _, _, _, _, _, _, _, _, _, hw => by cases p <;> simp [wrOuts] at hw
  | p :: ps, v :: vs, [], _, _, _, _, _, hl, _, _, _ => by simp at hl
  | p :: ps, v :: vs, cv :: args, z, ob, base, ws, ms, hl, hv, h, hw => by
    have hl' : args.length = vs.length := by simpa using hl
    have hv' : ∀ (i r : Nat) (cv : Value) (κ : Nat) (m : List Bool), ps[i]? = some (.bx κ m) → vs[i]? = some (.ptr r 0) → args[i]? = some cv → ∃ b, cv = .pointer (some ⟨b, 0, none⟩) ∧ β r = .pointer (some ⟨b, 0, none⟩) :=
      fun i v cv κ m h0 h1 h2 => hv (i + 1) v cv κ m (by simpa using h0) (by simpa using h1) (by simpa using h2)
    have hskip : ∀ (z' : PKs.T E.Ty (outsOf ps)), wrOuts true base ps vs z' = some (ws, ms) → PRs E w S (outsOf ps) z' (outVals ps args) ob → boxes (p :: ps) (v :: vs) = boxes ps vs →
        ∃ rest bl, ob.Perm (bl ++ rest) ∧ ws.map (·.1) = boxes (p :: ps) (v :: vs) ∧ ms = [] ∧
          (∀ (S2 : Nat → Prop) (β1 : Nat → Value) (D1 : Nat → Prop), (∀ b, S b → S2 b) → (∀ b ∈ rest, S2 b) → ∀ r rc, (r, rc) ∈ ws → ∃ b, b ∈ bl ∧ β r = .pointer (some ⟨b, 0, none⟩) ∧ RootOk E w S2 β1 D1 (β r) [b] rc) ∧
          (∀ b ∈ bl, ∃ r ∈ boxes (p :: ps) (v :: vs), β r = .pointer (some ⟨b, 0, none⟩)) ∧ (∀ r ∈ boxes (p :: ps) (v :: vs), ∃ b ∈ bl, β r = .pointer (some ⟨b, 0, none⟩)) := by
      intro z' h1 h2 h3
      rw [h3]
      exact wrOutsT_ok hG ps vs args z' ob base ws ms hl' hv' h2 h1
    cases p with
    | bx κ m =>
      cases v with
      | ptr r off =>
        cases off with
        | succ n => simp [wrOuts] at hw
        | zero =>
          obtain ⟨x, y⟩ := z
          have hout : outVals (.bx κ m :: ps) (cv :: args) = cv :: outVals ps args := rfl
          rw [hout] at h
          obtain ⟨o1, o2, rfl, h1, h2⟩ := h
          obtain ⟨b, arr, e, o3, hb, rfl, hh, hsz, hcr⟩ := h1
          obtain ⟨b', hb', hβ⟩ := hv 0 r cv κ m rfl rfl rfl
          rw [hb] at hb'; cases hb'
          have hw : (match owns base (E.cells κ x) [] with
            | (cs, ns) => match wrOuts true (base + ns.length) ps vs y with
              | some (ws, ms) => some ((r, RC.box κ cs) :: ws, ns ++ ms)
              | none => none) = some (ws, ms) := hw
          rw [owns_nil] at hw
          simp only [List.length_nil, Nat.add_zero, List.nil_append] at hw
          cases hrec : wrOuts true base ps vs y with
          | none => simp [hrec] at hw
          | some q =>
            obtain ⟨ws', ms'⟩ := q
            simp only [hrec, Option.some.injEq, Prod.mk.injEq] at hw
            obtain ⟨rfl, rfl⟩ := hw
            obtain ⟨rest, bl, hperm, hmap, hms, i2, hbl, hbl2⟩ := wrOutsT_ok hG ps vs args y o2 _ ws' ms' hl' hv' h2 hrec
            refine ⟨o3 ++ rest, b :: bl, ?_, ?_, hms, ?_, ?_, ?_⟩
            · simp only [List.cons_append]
              refine List.Perm.cons b ?_
              refine (List.Perm.append_left o3 hperm).trans ?_
              rw [← List.append_assoc, ← List.append_assoc]
              exact List.Perm.append_right _ List.perm_append_comm
            · rw [boxes_cons]; simp [bx1, hmap]
            · intro S2 β1 D1 hs hrest r' rc hmem
              rcases List.mem_cons.1 hmem with h | h
              · cases h
                refine ⟨b, by simp, hβ, b, rfl, hβ, arr, e, hh, hsz, fun j c hj => ?_⟩
                have := CR.froze hG hs (fun b hb => hrest b (List.mem_append_left _ hb)) hcr j c hj
                rw [Nat.zero_add] at this
                exact this.up
              · obtain ⟨b', k1, k2, k3⟩ := i2 S2 β1 D1 hs (fun b hb => hrest b (List.mem_append_right _ hb)) r' rc h
                exact ⟨b', by simp [k1], k2, k3⟩
            · intro b' hb'
              rw [boxes_cons]
              rcases List.mem_cons.1 hb' with h | h
              · subst h; exact ⟨r, by simp [bx1], hβ⟩
              · obtain ⟨r', k1, k2⟩ := hbl b' h
                exact ⟨r', List.mem_append_right _ k1, k2⟩
            · intro r' hr'
              rw [boxes_cons] at hr'
              rcases List.mem_append.1 hr' with h | h
              · simp [bx1] at h; subst h; exact ⟨b, by simp, hβ⟩
              · obtain ⟨b', k1, k2⟩ := hbl2 r' h
                exact ⟨b', by simp [k1], k2⟩
      | _ => simp [wrOuts] at hw
    | int k => exact hskip z hw h (by cases v <;> rfl)
    | bool => exact hskip z hw h (by cases v <;> rfl)
    | str => exact hskip z hw h (by cases v <;> rfl)
    | sl κ => exact hskip z hw h (by cases v <;> rfl)
    | gsl κ => exact hskip z hw h (by cases v <;> rfl)
    | st κ m => exact hskip z hw h (by cases v <;> rfl)
    | rp κ => exact hskip z hw h (by cases v <;> rfl)
    | fn => exact hskip z hw h (by cases v <;> rfl)

theorem impL_bx : ∀ (ps : List PK) (x : PKs.T E.Ty ps) (base : Nat), (impL true base ps x).2 = [] → ∀ p ∈ ps, p.isBx = false
  | [], _, _, _ => by simp
  | p :: ps, (x, y), base, h => by
    have he : (impL true base (p :: ps) (x, y)).2 = (impP true base p x).2 ++ (impL true (base + (impP true base p x).2.length) ps y).2 := rfl
    rw [he] at h
    have h1 : (impP true base p x).2 = [] := List.append_eq_nil_iff.1 h |>.1
    have h2 := (List.append_eq_nil_iff.1 h).2
    intro q hq
    rcases List.mem_cons.1 hq with h' | h'
    · subst h'
      cases q <;> first | rfl | (rename_i κ m; simp [impP] at h1; done)
    · exact impL_bx ps y _ h2 q h'

theorem callG_ok (hG : Good E) (hm : Mem E cx S β ω D roots w) (hO : ∀ f x y, O.call f x = some y → FnOk P E f x y) (f : Nat) (vs : List (V E.Ty)) (cvs : List Value) (hl : cvs.length = vs.length)
    (hv : ∀ (i : Nat) (v : V E.Ty) (cv : Value), vs[i]? = some v → cvs[i]? = some cv → RV E w S β D v cv) (hrun : (execOp a.eval o).run P w = (callFunc f cvs.toArray).run P w) :
    AskOk O (fun e => e.new = [] → Okay P o a w S β ω D roots nx e) roots (callA true f vs nx) := by
  unfold callA
  refine expL_ok hG hm _ vs cvs _ hl hv (fun x ks rs rl hB hks hrs hperm hprs => ?_)
  split
  case h_2 => exact askOk_fail
  rename_i hcond
  simp only [Bool.and_eq_true] at hcond
  have hnd := (nodup_iff _).1 hcond.1
  have hdj := disj_ok hcond.2
  have hnd' := List.nodup_append.1 hnd
  have hbk : ∀ r ∈ ks, r ∉ boxes (E.sig f).ps vs := fun r h1 h2 => hnd'.2.2 r h2 r h1 rfl
  intro y hy
  have hfn := hO f x y hy
  cases hw : wrOuts true (nx + (impL (E := E) true nx (E.sig f).rs (splitR (E.sig f).rs y).1).2.length) (E.sig f).ps vs (splitR (E.sig f).rs y).2 with
  | none =>
    show AskOk O _ roots (match wrOuts true (nx + (impL (E := E) true nx (E.sig f).rs (splitR (E.sig f).rs y).1).2.length) (E.sig f).ps vs (splitR (E.sig f).rs y).2 with
      | some (ws, ms) => _
      | none => _)
    rw [hw]
    exact askOk_fail
  | some q =>
    obtain ⟨ws, ms⟩ := q
    show AskOk O _ roots (match wrOuts true (nx + (impL (E := E) true nx (E.sig f).rs (splitR (E.sig f).rs y).1).2.length) (E.sig f).ps vs (splitR (E.sig f).rs y).2 with
      | some (ws, ms) => _
      | none => _)
    rw [hw]
    have hbx := impL_bx (E := E) (E.sig f).rs (splitR (E.sig f).rs y).1 nx
    have himp := fun (S S2 : Nat → Prop) (w' : World) (hs : ∀ b, S b → S2 b) (vals : List Value) (ob : List Nat) (hp : ∀ p ∈ (E.sig f).rs, p.isBx = false) (h : PRs E w' S (E.sig f).rs (splitR (E.sig f).rs y).1 vals ob) (ho : ∀ b ∈ ob, S2 b) =>
      impLT_ok (w := w') (β := β) (D := D) hG hs (E.sig f).rs (splitR (E.sig f).rs y).1 vals ob nx hp h ho
    generalize hns : (impL (E := E) true nx (E.sig f).rs (splitR (E.sig f).rs y).1) = im at hw hbx himp
    obtain ⟨us, ns⟩ := im
    suffices hsuff : ∀ fz : List Nat, (match ((E.sig f).rs ++ outsOf (E.sig f).ps).any (needsS (E := E)) with | true => rs | false => []) = fz → ns ++ ms = [] →
        Okay P o a w S β ω D roots nx ⟨oneOf us, ws, ns ++ ms, ks, fz⟩ from fun hnew => hsuff _ rfl hnew
    intro fz hfz hnew K Q hfr h
    simp only [] at hw
    unfold Oper.wp
    rw [hrun]
    have hns0 : ns = [] := (List.append_eq_nil_iff.1 hnew).1
    have hms0 : ms = [] := (List.append_eq_nil_iff.1 hnew).2
    subst hns0 hms0
    have hbx' := hbx rfl
    -- the blocks that are handed over
    have hrl : There roots rl := fun r hr => by
      rcases List.mem_append.1 (hperm.mem_iff.1 hr) with h | h
      · obtain ⟨t, cs, h⟩ := hB r h; exact ⟨_, h⟩
      · exact hks r h
    have hrln : rl.Nodup := hperm.nodup_iff.2 hnd
    have hobn := blocks_nodup hm rl hrln hrl
    have hS3 : ∀ b, frozenS S ω rs b → b < w.heap.size := by
      intro b hb
      rcases hb with h | ⟨r, hr, hb⟩
      · exact hm.sb b h
      · obtain ⟨rc, hrc⟩ := hrs r hr
        exact (hm.ob r rc hrc b hb).2.1
    have hobS : ∀ b ∈ rl.flatMap ω, ¬ frozenS S ω rs b ∧ b < w.heap.size := by
      intro b hb
      obtain ⟨r, hr, hbr⟩ := List.mem_flatMap.1 hb
      obtain ⟨rc, hrc⟩ := hrl r hr
      have ho := hm.ob r rc hrc b hbr
      refine ⟨fun hs => ?_, ho.2.1⟩
      rcases hs with hs | ⟨r', hr', hb'⟩
      · exact ho.1 hs
      · obtain ⟨rc', hrc'⟩ := hrs r' hr'
        exact hm.dis r r' rc rc' hrc hrc' (fun e => hdj r (hperm.mem_iff.1 hr) (e ▸ hr')) b hbr hb'
    refine hfn w (frozenS S ω rs) cvs (rl.flatMap ω) hprs hobn hobS hS3 o a K Q (fun rv w' vals S1 ob' hpost => ?_)
    obtain ⟨o1, o2, hob', hr1, hr2⟩ := PRs.split (E.sig f).rs (outsOf (E.sig f).ps) y vals _ ob' hpost.len hpost.rel
    -- what may be read then
    obtain ⟨T, hT1, hTa, hTb, hfrz, hr1', hr2'⟩ : ∃ T : Nat → Prop, (∀ b, S b → T b) ∧ (∀ b, T b → S1 b) ∧ (∀ b, T b → S b ∨ (fz = rs ∧ S1 b)) ∧ (fz = [] ∨ (fz = rs ∧ T = S1)) ∧
        PRs E w' T (E.sig f).rs (splitR (E.sig f).rs y).1 vals o1 ∧ PRs E w' T (outsOf (E.sig f).ps) (splitR (E.sig f).rs y).2 (outVals (E.sig f).ps cvs) o2 := by
      cases hne : ((E.sig f).rs ++ outsOf (E.sig f).ps).any (needsS (E := E)) with
      | true =>
        rw [hne] at hfz
        exact ⟨S1, fun b hb => hpost.s1 b (.inl hb), fun _ h => h, fun b hb => .inr ⟨hfz.symm, hb⟩, .inr ⟨hfz.symm, rfl⟩, hr1, hr2⟩
      | false =>
        rw [hne] at hfz
        simp only [List.any_append, Bool.or_eq_false_iff] at hne
        exact ⟨S, fun _ h => h, fun b hb => hpost.s1 b (.inl hb), fun b hb => .inl hb, .inl hfz.symm, PRs.flat hG hne.1 hr1, PRs.flat hG hne.2 hr2⟩
    have hfzr : ∀ r ∈ fz, r ∈ rs := by
      intro r hr
      rcases hfrz with h | ⟨h, _⟩
      · rw [h] at hr; simp at hr
      · rw [h] at hr; exact hr
    obtain ⟨rest, bl, hperm2, hmap, _, i2, hbl, hbl2⟩ := wrOutsT_ok hG (E.sig f).ps vs cvs (splitR (E.sig f).rs y).2 o2 _ ws [] hl (fun i r cv κ m _ h1 h2 => by obtain ⟨b, k1, _, k3⟩ := (hv i _ cv h1 h2).ptr_inv; exact ⟨b, k1, k3⟩) hr2' hw
    -- a block of a variable
    have hboxb : ∀ r ∈ boxes (E.sig f).ps vs, ∃ b ∈ bl, ω r = [b] := by
      intro r hr
      obtain ⟨b, hb, hβ⟩ := hbl2 r hr
      obtain ⟨t, cs, hrc⟩ := hB r hr
      obtain ⟨b', h1, h2⟩ := box_block hm hrc
      rw [hβ] at h2; cases h2
      exact ⟨b, hb, h1⟩
    have hnd2 : (o1 ++ (bl ++ rest)).Nodup := by
      have := hpost.nd
      rw [hob'] at this
      exact (List.Perm.append_left o1 hperm2).nodup_iff.1 this
    have hnd3 := List.nodup_append.1 hnd2
    have hnd4 := List.nodup_append.1 hnd3.2.1
    have hblob : ∀ b ∈ bl, b ∈ ob' := fun b hb => by
      rw [hob']
      exact List.mem_append_right _ (hperm2.mem_iff.2 (List.mem_append_left _ hb))
    let S2 : Nat → Prop := fun b => T b ∨ (b ∈ ob' ∧ b ∉ bl)
    have ho1S : ∀ b ∈ o1, S2 b := fun b hb => .inr ⟨by rw [hob']; exact List.mem_append_left _ hb, fun h => hnd3.2.2 b hb b (List.mem_append_left _ h) rfl⟩
    have hrestS : ∀ b ∈ rest, S2 b := fun b hb => .inr ⟨by rw [hob']; exact List.mem_append_right _ (hperm2.mem_iff.2 (List.mem_append_right _ hb)), fun h => hnd4.2.2 b h b hb rfl⟩
    have hSw : ∀ b, S b → w'.heap[b]? = w.heap[b]? := fun b hb => hpost.frame b (hm.sb b hb) (fun hb' => (hobS b hb').1 (.inl hb))
    have hGr : Grown D nx (([] : List (RC E.Ty)) ++ []).length = D := by
      funext r; simp only [Grown]; apply propext; simp; omega
    obtain ⟨g0, g1, g2⟩ := himp T S2 w' (fun b h => .inl h) vals o1 hbx' hr1' ho1S
    have hkilled : ∀ b, b ∈ rl.flatMap ω → b ∉ bl → ∃ r ∈ ks, b ∈ ω r := by
      intro b hb hbl'
      obtain ⟨r, hr, hbr⟩ := List.mem_flatMap.1 hb
      rcases List.mem_append.1 (hperm.mem_iff.1 hr) with h | h
      · obtain ⟨b', k1, k2⟩ := hboxb r h
        rw [k2] at hbr
        simp at hbr; subst hbr
        exact absurd k1 hbl'
      · exact ⟨r, h, hbr⟩
    have hkeep : ∀ b, b < w.heap.size → (∀ r ∈ boxes (E.sig f).ps vs, b ∉ ω r) → (∀ r ∈ ks, b ∉ ω r) → w'.heap[b]? = w.heap[b]? := by
      intro b hb h1 h2
      refine hpost.frame b hb (fun hb' => ?_)
      obtain ⟨r, hr, hbr⟩ := List.mem_flatMap.1 hb'
      rcases List.mem_append.1 (hperm.mem_iff.1 hr) with h | h
      · exact h1 r h hbr
      · exact h2 r h hbr
    refine h (retVal vals) S2 β (unown ω fz) w' ?_ ?_ |> fun hh => by rw [hpost.ret]; exact hh
    · exact {
        hs := fun b hb => .inl (hT1 b hb)
        hn := fun b hb => by
          rcases hb with hb | ⟨hb, hnb⟩
          · rcases hTb b hb with h | ⟨hfz', h1⟩
            · exact .inl h
            · rcases hpost.s2 b h1 with h2 | h2 | h2
              · rcases h2 with h2 | ⟨r, hr, hbr⟩
                · exact .inl h2
                · exact .inr (.inr ⟨r, .inl (by show r ∈ fz; rw [hfz']; exact hr), hrs r hr, hbr⟩)
              · exact .inr (.inl h2)
              · obtain ⟨r, hr, hbr⟩ := hkilled b h2 (fun hbl' => (hpost.own b (hblob b hbl')).1 h1)
                exact .inr (.inr ⟨r, .inr hr, hks r hr, hbr⟩)
          · rcases (hpost.own b hb).2.2 with h2 | h2
            · exact .inr (.inl h2)
            · obtain ⟨r, hr, hbr⟩ := hkilled b h2 hnb
              exact .inr (.inr ⟨r, .inr hr, hks r hr, hbr⟩)
        hb := fun b hb => by
          rcases hb with hb | ⟨hb, _⟩
          · exact hpost.s3 b (hTa b hb)
          · exact (hpost.own b hb).2.1
        bt := fun r hr => rfl
        om := fun r hr => rfl
        heap := fun b hb h1 h2 => hkeep b hb (fun r hr => h1 r (by show r ∈ ws.map (·.1); rw [hmap]; exact hr)) h2
        sz := hpost.sz
        os := hpost.os
        tape := hpost.tape
        out := hpost.out
        wr := fun r rc hmem => by
          have hr : r ∈ boxes (E.sig f).ps vs := by rw [← hmap]; exact List.mem_map.2 ⟨(r, rc), hmem, rfl⟩
          obtain ⟨t, cs, hrc⟩ := hB r hr
          refine ⟨⟨_, hrc⟩, ?_⟩
          obtain ⟨b, k1, k2, k3⟩ := i2 S2 β (Grown D nx (([] : List (RC E.Ty)) ++ []).length) (fun b h => .inl h) hrestS r rc hmem
          obtain ⟨b', k4, k5⟩ := box_block hm hrc
          rw [k2] at k5; cases k5
          rw [k4]; exact k3
        kl := fun r hr => hks r hr
        new := fun i rc hi => by simp at hi
        newb := fun i hi => by simp at hi
        newd := fun i j hi => by simp at hi
        frz := fun r hr rc hrc => by
          have hr' := hfzr r hr
          have hrn : r ∉ rl := fun h => hdj r (hperm.mem_iff.1 h) hr'
          have hfz2 : fz = rs ∧ T = S1 := by
            rcases hfrz with h | h
            · have : r ∈ fz := hr
              rw [h] at this; simp at this
            · exact h
          have hbw : ∀ b ∈ ω r, w'.heap[b]? = w.heap[b]? := by
            intro b hb
            refine hpost.frame b (hm.ob r rc hrc b hb).2.1 (fun hb' => ?_)
            obtain ⟨r2, hr2, hbr⟩ := List.mem_flatMap.1 hb'
            obtain ⟨rc2, hrc2⟩ := hrl r2 hr2
            exact hm.dis r r2 rc rc2 hrc hrc2 (fun e => hrn (e ▸ hr2)) b hb hbr
          have h1 : RootOk E w' S β (Grown D nx (([] : List (RC E.Ty)) ++ []).length) (β r) (ω r) rc := (hm.ok r rc hrc).mono hbw hSw (fun _ h => h) (fun _ h => .inl h) (fun _ _ => rfl)
          refine RootOk.frz hG h1 (fun b hb => .inl (hT1 b hb)) (fun b hb => .inl ?_)
          rw [hfz2.2]
          exact hpost.s1 b (.inr ⟨r, hr', hb⟩)
        d1 := fun r hr hw' => by
          have : r ∈ boxes (E.sig f).ps vs := by rw [← hmap]; exact hw'
          exact hdj r (List.mem_append_left _ this) (hfzr r hr)
        d2 := fun r hr hw' => by
          have : r ∈ boxes (E.sig f).ps vs := by rw [← hmap]; exact hw'
          exact hbk r hr this
        d3 := fun r hr hf => hdj r (List.mem_append_right _ hr) (hfzr r hf)
        nd := by show (ws.map (·.1)).Nodup; rw [hmap]; exact hnd'.1 }
    · rw [hGr]
      exact oneOf_ok g1 g2

end

end Go.Proofs.Ytejfpemjmpoddaa.Vx
/-! Regions: an operation's run, as a relation. -/
namespace Go.Proofs.Ytejfpemjmpoddaa.Vx
open Go

section
variable {P : Program} {E : Env} {O : Orc E}

/-- a run of what an operation asks, over some roots -/
inductive RunsTo (O : Orc E) (roots : List (Nat × RC E.Ty)) (cond : Bool) {α : Type} : Ask E α → List (Nat × Bool) → α → List (Nat × Bool) → Prop
  | ret (e : α) (t : List (Nat × Bool)) : RunsTo O roots cond (.ret e) t e t
  | ask (r : Nat) (f : RC E.Ty → Ask E α) (rc : RC E.Ty) (t : List (Nat × Bool)) (e : α) (t' : List (Nat × Bool)) (h : find roots r = some rc) (h2 : RunsTo O roots cond (f rc) ((r, true) :: t) e t') : RunsTo O roots cond (.ask r f) t e t'
  | rd (r : Nat) (f : RC E.Ty → Ask E α) (rc : RC E.Ty) (t : List (Nat × Bool)) (e : α) (t' : List (Nat × Bool)) (h : find roots r = some rc) (h2 : RunsTo O roots cond (f (frzOf rc)) ((r, false) :: t) e t') : RunsTo O roots cond (.rd r f) t e t'
  | chk (b : Bool) (f : Ask E α) (t : List (Nat × Bool)) (e : α) (t' : List (Nat × Bool)) (h : cond = true → b = true) (h2 : RunsTo O roots cond f t e t') : RunsTo O roots cond (.chk b f) t e t'
  | call (f : Nat) (x : E.Args f) (d : Option (E.Res f)) (g : E.Res f → Ask E α) (y : E.Res f) (t : List (Nat × Bool)) (e : α) (t' : List (Nat × Bool)) (h : (if cond = true then O.call f x else d) = some y) (h2 : RunsTo O roots cond (g y) t e t') :
      RunsTo O roots cond (.call f x d g) t e t'

theorem runA_runs {R α : Type} (st : St E.Ty) (cond : Bool) (k : α → List (Nat × Bool) → Option R) (r : R) : ∀ (m : Ask E α) (t : List (Nat × Bool)), runA O st cond m t k = some r → ∃ e t', RunsTo O st.roots cond m t e t' ∧ k e t' = some r
  | .fail, t, h => by simp [runA] at h
  | .ret e, t, h => ⟨e, t, .ret e t, h⟩
  | .ask x f, t, h => by
    simp only [runA] at h
    cases hf : find st.roots x with
    | none => simp [hf] at h
    | some rc =>
      simp only [hf] at h
      obtain ⟨e, t', h1, h2⟩ := runA_runs st cond k r (f rc) ((x, true) :: t) h
      exact ⟨e, t', .ask x f rc t e t' hf h1, h2⟩
  | .rd x f, t, h => by
    simp only [runA] at h
    cases hf : find st.roots x with
    | none => simp [hf] at h
    | some rc =>
      simp only [hf] at h
      obtain ⟨e, t', h1, h2⟩ := runA_runs st cond k r (f (frzOf rc)) ((x, false) :: t) h
      exact ⟨e, t', .rd x f rc t e t' hf h1, h2⟩
  | .chk b f, t, h => by
    simp only [runA] at h
    split at h
    · rename_i hb
      obtain ⟨e, t', h1, h2⟩ := runA_runs st cond k r f t h
      exact ⟨e, t', .chk b f t e t' (fun hc => by simpa [hc] using hb) h1, h2⟩
    · cases h
  | .call f x d g, t, h => by
    simp only [runA] at h
    cases hc : (if cond = true then O.call f x else d) with
    | none => rw [hc] at h; simp at h
    | some y =>
      rw [hc] at h
      simp only [Option.bind_some] at h
      obtain ⟨e, t', h1, h2⟩ := runA_runs st cond k r (g y) t h
      exact ⟨e, t', .call f x d g y t e t' hc h1, h2⟩

/-- what an operation's run comes to is so -/
theorem AskOk.runs {roots : List (Nat × RC E.Ty)} {α : Type} {good : α → Prop} {m : Ask E α} {t t' : List (Nat × Bool)} {e : α} (h : AskOk O good roots m) (hr : RunsTo O roots true m t e t') : good e := by
  induction hr with
  | ret e t => exact h
  | ask r f rc t e t' hf _ ih => exact ih (h rc hf)
  | rd r f rc t e t' hf _ ih => exact ih (h rc hf)
  | chk b f t e t' hb _ ih => exact ih (h (hb rfl))
  | call f x d g y t e t' hy _ ih => exact ih (h y (by simpa using hy))

/-- a run depends on the roots that it asks for, modulo freezing where it only reads -/
theorem RunsTo.touched {roots : List (Nat × RC E.Ty)} {cond : Bool} {α : Type} {m : Ask E α} {t t' : List (Nat × Bool)} {e : α} (hr : RunsTo O roots cond m t e t') : ∀ r ∈ t, r ∈ t' := by
  induction hr with
  | ret e t => exact fun _ h => h
  | ask r f rc t e t' hf _ ih => exact fun x hx => ih x (by simp [hx])
  | rd r f rc t e t' hf _ ih => exact fun x hx => ih x (by simp [hx])
  | chk b f t e t' hb _ ih => exact ih
  | call f x d g y t e t' hy _ ih => exact ih

theorem mem_keys {α : Type} {l : List (Nat × α)} {r : Nat} : r ∈ keys l ↔ ∃ b, (r, b) ∈ l := by
  induction l with
  | nil => simp [keys]
  | cons q l ih =>
    obtain ⟨x, b⟩ := q
    simp only [keys, List.mem_cons, ih, Prod.mk.injEq]
    constructor
    · rintro (h | ⟨c, h⟩)
      · exact ⟨b, .inl ⟨h, rfl⟩⟩
      · exact ⟨c, .inr h⟩
    · rintro ⟨c, (⟨h, _⟩ | h)⟩
      · exact .inl h
      · exact .inr ⟨c, h⟩

/-- what a run has touched is there -/
theorem RunsTo.there {roots : List (Nat × RC E.Ty)} {cond : Bool} {α : Type} {m : Ask E α} {t t' : List (Nat × Bool)} {e : α} (hr : RunsTo O roots cond m t e t') : (∀ r b, (r, b) ∈ t → ∃ rc, find roots r = some rc) → ∀ r b, (r, b) ∈ t' → ∃ rc, find roots r = some rc := by
  induction hr with
  | ret e t => exact fun h => h
  | ask r f rc t e t' hf _ ih =>
    intro h
    refine ih (fun x b hx => ?_)
    rcases List.mem_cons.1 hx with h' | h'
    · cases h'; exact ⟨rc, hf⟩
    · exact h x b h'
  | rd r f rc t e t' hf _ ih =>
    intro h
    refine ih (fun x b hx => ?_)
    rcases List.mem_cons.1 hx with h' | h'
    · cases h'; exact ⟨rc, hf⟩
    · exact h x b h'
  | chk b f t e t' hb _ ih => exact ih
  | call f x d g y t e t' hy _ ih => exact ih

/-- a run depends on the roots that it touches alone, and modulo freezing where it only reads -/
theorem RunsTo.local {roots roots' : List (Nat × RC E.Ty)} {cond : Bool} {α : Type} {m : Ask E α} {t t' : List (Nat × Bool)} {e : α} (hr : RunsTo O roots cond m t e t')
    (h1 : ∀ r, (r, true) ∈ t' → find roots' r = find roots r) (h2 : ∀ r, (r, false) ∈ t' → (find roots' r).map frzOf = (find roots r).map frzOf) : RunsTo O roots' cond m t e t' := by
  induction hr with
  | ret e t => exact .ret e t
  | ask r f rc t e t' hf h ih => exact .ask r f rc t e t' ((h1 r (h.touched _ (by simp))).trans hf) (ih h1 h2)
  | rd r f rc t e t' hf h ih =>
    have h3 := h2 r (h.touched _ (by simp))
    rw [hf] at h3
    cases hf' : find roots' r with
    | none => rw [hf'] at h3; simp at h3
    | some rc' =>
      rw [hf'] at h3
      simp only [Option.map_some, Option.some.injEq] at h3
      refine .rd r f rc' t e t' hf' ?_
      rw [h3]
      exact ih h1 h2
  | chk b f t e t' hb _ ih => exact .chk b f t e t' hb (ih h1 h2)
  | call f x d g y t e t' hy _ ih => exact .call f x d g y t e t' hy (ih h1 h2)

end

end Go.Proofs.Ytejfpemjmpoddaa.Vx
/-! A call behind a guard that is not carried out. -/
namespace Go.Proofs.Ytejfpemjmpoddaa.Vx
open Go

section
variable {P : Program} {E : Env}
variable {cx : Cx} {w w' w0 : World} {S S' S0 S2 : Nat → Prop} {β β' : Nat → Value} {ω : Nat → List Nat} {D D' : Nat → Prop} {roots : List (Nat × RC E.Ty)} {nx : Nat} {a : Act} {o : Oper} {O O' : Orc E}

/-- what asks for no test, and whose calls answer as an oracle says -/
def Tame (O' : Orc E) {α : Type} : Ask E α → Prop
  | .fail => True
  | .ret _ => True
  | .ask _ k => ∀ rc, Tame O' (k rc)
  | .rd _ k => ∀ rc, Tame O' (k rc)
  | .chk _ _ => False
  | .call f x d k => O'.call f x = d ∧ ∀ y, Tame O' (k y)

theorem RunsTo.tame {α : Type} {m : Ask E α} {t t' : List (Nat × Bool)} {e : α} (h : RunsTo O roots false m t e t') (hm : Tame O' m) : RunsTo O' roots true m t e t' := by
  induction h with
  | ret e t => exact .ret e t
  | ask r f rc t e t' hf _ ih => exact .ask r f rc t e t' hf (ih (hm rc))
  | rd r f rc t e t' hf _ ih => exact .rd r f rc t e t' hf (ih (hm _))
  | chk b f t e t' hb _ ih => exact hm.elim
  | call f x d g y t e t' hy _ ih => exact .call f x d g y t e t' (by rw [if_pos rfl, hm.1]; simpa using hy) (ih (hm.2 y))

section
variable {α : Type}

theorem plain_tame : ∀ (cs : List (V E.Ty)) (k : List (V E.Ty) → List Nat → Ask E α), (∀ ds rs, Tame O' (k ds rs)) → Tame O' (plain cs k)
  | [], k, hk => by unfold plain; exact hk _ _
  | c :: cs, k, hk => by
    have ih := fun k' hk' => plain_tame cs k' hk'
    cases c <;> unfold plain <;> first
      | exact ih _ (fun ds rs => hk _ _)
      | (intro rc
         cases rc <;> first
           | trivial
           | exact ih _ (fun ds rs => hk _ _))

theorem part_tame : ∀ (cs : List (V E.Ty)) (m : List Bool) (k : List (V E.Ty) → List Nat → List Nat → Ask E α), (∀ ds ks rs, Tame O' (k ds ks rs)) → Tame O' (part cs m k)
  | [], m, k, hk => by unfold part; exact hk _ _ _
  | c :: cs, [], k, hk => by unfold part; exact plain_tame _ _ (fun ds rs => hk _ _ _)
  | c :: cs, b :: m, k, hk => by
    have ih := fun k' hk' => part_tame cs m k' hk'
    cases b <;> cases c <;> unfold part <;> first
      | trivial
      | exact ih _ (fun ds ks rs => hk _ _ _)
      | (intro rc
         cases rc <;> first
           | trivial
           | exact ih _ (fun ds ks rs => hk _ _ _))

theorem row_tame (κ : Nat) (v : V E.Ty) (k : List (E.Ty κ) → List Nat → Ask E α) (hk : ∀ xs rs, Tame O' (k xs rs)) : Tame O' (row κ v k) := by
  unfold row
  split
  · exact hk _ _
  · split
    · exact hk _ _
    · trivial
  · intro rc
    cases rc <;> simp only [] <;> first
      | trivial
      | (split
         · exact hk _ _
         · trivial)
  · trivial

theorem caps_tame : ∀ (cs : List (V E.Ty)) (k : List (V E.Ty) → List Nat → Ask E α), (∀ ds rs, Tame O' (k ds rs)) → Tame O' (caps cs k)
  | [], k, hk => by unfold caps; exact hk _ _
  | c :: cs, k, hk => by
    have ih := fun k' hk' => caps_tame cs k' hk'
    cases c with
    | ptr r o =>
      cases o with
      | zero =>
        unfold caps
        intro rc
        cases rc <;> simp only [] <;> first
          | trivial
          | (refine plain_tame _ _ (fun ds rs => ?_)
             split
             · exact ih _ (fun ds rs => hk _ _)
             · trivial)
      | succ o => unfold caps; trivial
    | _ => unfold caps; first | trivial | exact ih _ (fun ds rs => hk _ _)

theorem expP_tame (p : PK) (v : V E.Ty) (k : p.T E.Ty → List Nat → List Nat → Ask E α) (hk : ∀ x ks rs, Tame O' (k x ks rs)) : Tame O' (expP p v k) := by
  unfold expP
  split
  · split
    · exact hk _ _ _
    · trivial
  · exact hk _ _ _
  · exact hk _ _ _
  · exact row_tame _ _ _ (fun xs rs => hk _ _ _)
  · exact hk _ _ _
  · intro rc
    cases rc <;> simp only [] <;> first
      | trivial
      | (split
         · exact hk _ _ _
         · trivial)
  · refine part_tame _ _ _ (fun ds ks rs => ?_)
    split
    · exact hk _ _ _
    · trivial
  · intro rc
    cases rc <;> simp only [] <;> first
      | trivial
      | (split
         · refine part_tame _ _ _ (fun ds ks rs => ?_)
           split
           · exact hk _ _ _
           · trivial
         · trivial)
  · split
    · exact hk _ _ _
    · trivial
  · exact caps_tame _ _ (fun vs rs => hk _ _ _)
  · trivial

theorem expL_tame : ∀ (ps : List PK) (vs : List (V E.Ty)) (k : PKs.T E.Ty ps → List Nat → List Nat → Ask E α), (∀ x ks rs, Tame O' (k x ks rs)) → Tame O' (expL ps vs k)
  | [], [], k, hk => by unfold expL; exact hk _ _ _
  | [], _ :: _, k, hk => by unfold expL; trivial
  | _ :: _, [], k, hk => by unfold expL; trivial
  | p :: ps, v :: vs, k, hk => by
    unfold expL
    exact expP_tame _ _ _ (fun x ks rs => expL_tame ps vs _ (fun y ks' rs' => hk _ _ _))

end

theorem callA_tame (hO' : ∀ f x, O'.call f x = dfltR f x) (g : Bool) (f : Nat) (vs : List (V E.Ty)) : Tame O' (callA g f vs nx) := by
  unfold callA
  refine expL_tame _ _ _ (fun x ks rs => ?_)
  split
  · refine ⟨hO' f x, fun y => ?_⟩
    simp only []
    split
    · trivial
    · trivial
  · trivial

theorem splitR_joinR : ∀ (a : List PK) {b : List PK} (u : PKs.T E.Ty a) (v : PKs.T E.Ty b), splitR a (joinR a u v) = (u, v)
  | [], _, _, _ => rfl
  | _ :: a, b, (x, u), v => by simp only [joinR, splitR, splitR_joinR a u v]

section
variable {α : Type} {good : α → Prop}

theorem there_cons {r : Nat} {rc : RC E.Ty} {rs : List Nat} (h : find roots r = some rc) (hr : There roots rs) : There roots (r :: rs) := by
  intro x hx
  rcases List.mem_cons.1 hx with h' | h'
  · subst h'; exact ⟨rc, h⟩
  · exact hr x h'

theorem plain_there : ∀ (cs : List (V E.Ty)) (k : List (V E.Ty) → List Nat → Ask E α), (∀ ds rs, There roots rs → AskOk O good roots (k ds rs)) → AskOk O good roots (plain cs k)
  | [], k, hk => by unfold plain; exact hk _ _ (by simp [There])
  | c :: cs, k, hk => by
    have ih := fun k' hk' => plain_there cs k' hk'
    cases c <;> unfold plain <;> first
      | exact ih _ (fun ds rs h => hk _ _ h)
      | (intro rc hrc
         cases rc <;> first
           | exact askOk_fail
           | exact ih _ (fun ds rs h => hk _ _ (there_cons hrc h)))

theorem part_there : ∀ (cs : List (V E.Ty)) (m : List Bool) (k : List (V E.Ty) → List Nat → List Nat → Ask E α), (∀ ds ks rs, There roots ks → There roots rs → AskOk O good roots (k ds ks rs)) → AskOk O good roots (part cs m k)
  | [], m, k, hk => by unfold part; exact hk _ _ _ (by simp [There]) (by simp [There])
  | c :: cs, [], k, hk => by unfold part; exact plain_there _ _ (fun ds rs h => hk _ _ _ (by simp [There]) h)
  | c :: cs, b :: m, k, hk => by
    have ih := fun k' hk' => part_there cs m k' hk'
    cases b <;> cases c <;> unfold part <;> first
      | exact askOk_fail
      | exact ih _ (fun ds ks rs h1 h2 => hk _ _ _ h1 h2)
      | (intro rc hrc
         cases rc <;> first
           | exact askOk_fail
           | exact ih _ (fun ds ks rs h1 h2 => hk _ _ _ h1 (there_cons hrc h2))
           | exact ih _ (fun ds ks rs h1 h2 => hk _ _ _ (there_cons hrc h1) h2))

theorem row_there (κ : Nat) (v : V E.Ty) (k : List (E.Ty κ) → List Nat → Ask E α) (hk : ∀ xs rs, There roots rs → AskOk O good roots (k xs rs)) : AskOk O good roots (row κ v k) := by
  unfold row
  split
  · exact hk _ _ (by simp [There])
  · split
    · exact hk _ _ (by simp [There])
    · exact askOk_fail
  · intro rc hrc
    cases rc <;> simp only [frzOf] <;> first
      | exact askOk_fail
      | (split
         · exact hk _ _ (there_cons hrc (by simp [There]))
         · exact askOk_fail)
  · exact askOk_fail

theorem caps_there : ∀ (cs : List (V E.Ty)) (k : List (V E.Ty) → List Nat → Ask E α), (∀ ds rs, There roots rs → AskOk O good roots (k ds rs)) → AskOk O good roots (caps cs k)
  | [], k, hk => by unfold caps; exact hk _ _ (by simp [There])
  | c :: cs, k, hk => by
    have ih := fun k' hk' => caps_there cs k' hk'
    cases c with
    | ptr r o =>
      cases o with
      | zero =>
        unfold caps
        intro rc hrc
        cases rc <;> simp only [frzOf] <;> first
          | exact askOk_fail
          | (refine plain_there _ _ (fun ds rs h => ?_)
             split
             · exact ih _ (fun ds rs' h' => hk _ _ ((there_cons hrc h).app h'))
             · exact askOk_fail)
      | succ o => unfold caps; exact askOk_fail
    | _ => unfold caps; first | exact askOk_fail | exact ih _ (fun ds rs h => hk _ _ h)

theorem expP_there (p : PK) (hp : p.isBx = false) (v : V E.Ty) (k : p.T E.Ty → List Nat → List Nat → Ask E α) (hk : ∀ x ks rs, There roots ks → There roots rs → AskOk O good roots (k x ks rs)) : AskOk O good roots (expP p v k) := by
  have h0 : There roots [] := by simp [There]
  unfold expP
  split
  · split
    · exact hk _ _ _ h0 h0
    · exact askOk_fail
  · exact hk _ _ _ h0 h0
  · exact hk _ _ _ h0 h0
  · exact row_there _ _ _ (fun xs rs h => hk _ _ _ h0 h)
  · exact hk _ _ _ h0 h0
  · intro rc hrc
    cases rc <;> simp only [] <;> first
      | exact askOk_fail
      | (split
         · exact hk _ _ _ (there_cons hrc h0) h0
         · exact askOk_fail)
  · refine part_there _ _ _ (fun ds ks rs h1 h2 => ?_)
    split
    · exact hk _ _ _ h1 h2
    · exact askOk_fail
  · simp [PK.isBx] at hp
  · split
    · exact hk _ _ _ h0 h0
    · exact askOk_fail
  · exact caps_there _ _ (fun vs rs h => hk _ _ _ h0 h)
  · exact askOk_fail

end

/-- what stands for arguments that are not there: pointers to variables alone matter -/
def fa (β : Nat → Value) (vs : List (V E.Ty)) : List Value := vs.map fun v => match v with
  | .ptr r _ => β r
  | _ => undef

theorem expLN_ok (hG : Good E) (hm : Mem E cx S β ω D roots w) {α : Type} {good : α → Prop} : ∀ (ps : List PK) (vs : List (V E.Ty)) (k : PKs.T E.Ty ps → List Nat → List Nat → Ask E α),
    (∀ x ks rs (rl ob2 : List Nat), ThereB roots (boxes ps vs) → There roots ks → There roots rs → rl.Perm (boxes ps vs ++ ks) → ob2.Sublist (rl.flatMap ω) →
      PRs E w (frozenS S ω rs) (outsOf ps) (outsIn ps x) (outVals ps (fa β vs)) ob2 → AskOk O good roots (k x ks rs)) →
    AskOk O good roots (expL ps vs k)
  | [], [], k, hk => by
    unfold expL
    exact hk () [] [] [] [] (by simp [ThereB, boxes]) (by simp [There]) (by simp [There]) (by simp [boxes]) (by simp) rfl
  | [], _ :: _, k, hk => by unfold expL; exact askOk_fail
  | _ :: _, [], k, hk => by unfold expL; exact askOk_fail
  | p :: ps, v :: vs, k, hk => by
    unfold expL
    cases hp : p.isBx with
    | false =>
      refine expP_there p hp v _ (fun x ks rs hks hrs => ?_)
      refine expLN_ok hG hm ps vs _ (fun y ks' rs' rl ob2 hb' hks' hrs' hperm hsub hprs => ?_)
      have hbx : bx1 p v = [] := by cases p <;> first | rfl | (simp [PK.isBx] at hp; done)
      have hboxes : boxes (p :: ps) (v :: vs) = boxes ps vs := by rw [boxes_cons, hbx]; rfl
      refine hk (x, y) (ks ++ ks') (rs ++ rs') (ks ++ rl) ob2 (by rw [hboxes]; exact hb') (hks.app hks') (hrs.app hrs') ?_ ?_ ?_
      · rw [hboxes]
        refine (List.Perm.append_left ks hperm).trans ?_
        rw [← List.append_assoc, ← List.append_assoc]
        exact List.Perm.append_right _ List.perm_append_comm
      · rw [List.flatMap_append]
        exact hsub.trans (List.sublist_append_right _ _)
      · have h2 : PRs E w (frozenS S ω (rs ++ rs')) (outsOf ps) (outsIn ps y) (outVals ps (fa β vs)) ob2 := hprs.more (fun b hb => frozenS_right hb)
        cases p <;> first | exact h2 | (simp [PK.isBx] at hp; done)
    | true =>
      cases p with
      | bx κ m =>
        cases v with
        | ptr r off =>
          cases off with
          | succ n => unfold expP; exact askOk_fail
          | zero =>
            unfold expP
            intro rc hrc
            have hok := hm.ok r rc hrc
            cases rc with
            | box t cs =>
              simp only []
              split
              · rename_i ht
                have := Nat.eq_of_beq_eq_true ht
                subst this
                obtain ⟨b, hob, hβ, arr, et, h1, h2, h3⟩ := hok
                refine part_ok hG hm (fun j => arr.getD j undef) cs 0 m _ (fun j c hj => by rw [Nat.zero_add]; exact h3 j c hj) (fun ds ks rs hks hrs hdl hcr => ?_)
                split
                · rename_i x hdec
                  refine expLN_ok hG hm ps vs _ (fun y ks' rs' rl ob2 hb' hks' hrs' hperm hsub hprs => ?_)
                  refine hk (x, y) (ks ++ ks') (rs ++ rs') (([r] ++ ks) ++ rl) ((b :: ks.flatMap ω) ++ ob2) ?_ (hks.app hks') (hrs.app hrs') ?_ ?_ ?_
                  · intro r' hr'
                    rw [boxes_cons] at hr'
                    rcases List.mem_append.1 hr' with h | h
                    · simp [bx1] at h; subst h; exact ⟨_, _, hrc⟩
                    · exact hb' r' h
                  · rw [boxes_cons]
                    exact (List.Perm.append_left _ hperm).trans (perm_swap4 [r] ks (boxes ps vs) ks')
                  · have he : (([r] ++ ks) ++ rl).flatMap ω = (b :: ks.flatMap ω) ++ rl.flatMap ω := by simp [hob]
                    rw [he]
                    exact List.Sublist.append (List.Sublist.refl _) hsub
                  · refine ⟨b :: ks.flatMap ω, ob2, rfl, ⟨b, arr, et, ks.flatMap ω, hβ, rfl, h1, ?_, ?_⟩, hprs.more (fun b hb => frozenS_right hb)⟩
                    · have := (hG.dec t ds x hdec).2.1
                      omega
                    · exact ((dec_CR hG hdec hcr).zero hG).more (fun b hb => frozenS_left hb)
                · exact askOk_fail
              · exact askOk_fail
            | _ => exact askOk_fail
        | _ => unfold expP; exact askOk_fail
      | _ => simp [PK.isBx] at hp

theorem mem_boxes : ∀ (ps : List PK) (vs : List (V E.Ty)) (i r κ : Nat) (m : List Bool), ps[i]? = some (.bx κ m) → vs[i]? = some (.ptr r 0) → r ∈ boxes ps vs
  | [], _, _, _, _, _, h, _ => by simp at h
  | _ :: _, [], _, _, _, _, _, h => by simp at h
  | p :: ps, v :: vs, i, r, κ, m, h0, h1 => by
    rw [boxes_cons]
    cases i with
    | zero =>
      simp at h0 h1; subst h0 h1
      simp [bx1]
    | succ i => exact List.mem_append_right _ (mem_boxes ps vs i r κ m (by simpa using h0) (by simpa using h1))

theorem callN_ok (hG : Good E) (hm : Mem E cx S β ω D roots w) (hO' : ∀ f x, O'.call f x = dfltR f x) (f : Nat) (vs : List (V E.Ty)) :
    AskOk O' (fun e => e.new = [] → e.kill = [] → ∃ S' β' ω', Done E w S β ω D roots nx e S' β' ω' w) roots (callA true f vs nx) := by
  unfold callA
  refine expLN_ok hG hm _ vs _ (fun x ks rs rl ob2 hB hks hrs hperm hsub hr2 => ?_)
  split
  case h_2 => exact askOk_fail
  rename_i hcond
  simp only [Bool.and_eq_true] at hcond
  have hnd := (nodup_iff _).1 hcond.1
  have hdj := disj_ok hcond.2
  intro y hy
  rw [hO' f x] at hy
  have hsp : (splitR (E.sig f).rs y).2 = outsIn (E.sig f).ps x := by
    unfold dfltR at hy
    cases hs : scalarD (E := E) (E.sig f).rs with
    | none => simp [hs] at hy
    | some u =>
      simp only [hs, Option.some.injEq] at hy
      rw [← hy, splitR_joinR]
  cases hw : wrOuts true (nx + (impL (E := E) true nx (E.sig f).rs (splitR (E.sig f).rs y).1).2.length) (E.sig f).ps vs (splitR (E.sig f).rs y).2 with
  | none =>
    show AskOk O' _ roots (match wrOuts true (nx + (impL (E := E) true nx (E.sig f).rs (splitR (E.sig f).rs y).1).2.length) (E.sig f).ps vs (splitR (E.sig f).rs y).2 with
      | some (ws, ms) => _
      | none => _)
    rw [hw]
    exact askOk_fail
  | some q =>
    obtain ⟨ws, ms⟩ := q
    show AskOk O' _ roots (match wrOuts true (nx + (impL (E := E) true nx (E.sig f).rs (splitR (E.sig f).rs y).1).2.length) (E.sig f).ps vs (splitR (E.sig f).rs y).2 with
      | some (ws, ms) => _
      | none => _)
    rw [hw]
    generalize hns : (impL (E := E) true nx (E.sig f).rs (splitR (E.sig f).rs y).1) = im at hw
    obtain ⟨us, ns⟩ := im
    suffices hsuff : ∀ fz : List Nat, (match ((E.sig f).rs ++ outsOf (E.sig f).ps).any (needsS (E := E)) with | true => rs | false => []) = fz → ns ++ ms = [] → ks = [] →
        ∃ S' β' ω', Done E w S β ω D roots nx ⟨oneOf us, ws, ns ++ ms, ks, fz⟩ S' β' ω' w from fun hnew hkill => hsuff _ rfl hnew hkill
    intro fz hfz hnew hkill
    subst hkill
    simp only [] at hw
    rw [hsp] at hw
    rw [hnew]
    have hms0 : ms = [] := (List.append_eq_nil_iff.1 hnew).2
    subst hms0
    rw [List.append_nil] at hperm hnd hdj
    have hrl : There roots rl := fun r hr => by
      obtain ⟨t, cs, h⟩ := hB r (hperm.mem_iff.1 hr); exact ⟨_, h⟩
    have hrln : rl.Nodup := hperm.nodup_iff.2 hnd
    have hobn := blocks_nodup hm rl hrln hrl
    have hS3 : ∀ b, frozenS S ω rs b → b < w.heap.size := by
      intro b hb
      rcases hb with h | ⟨r, hr, hb⟩
      · exact hm.sb b h
      · obtain ⟨rc, hrc⟩ := hrs r hr
        exact (hm.ob r rc hrc b hb).2.1
    obtain ⟨T, hT1, hTa, hTb, hfrz, hr2'⟩ : ∃ T : Nat → Prop, (∀ b, S b → T b) ∧ (∀ b, T b → frozenS S ω rs b) ∧ (∀ b, T b → S b ∨ (fz = rs ∧ frozenS S ω rs b)) ∧ (fz = [] ∨ (fz = rs ∧ T = frozenS S ω rs)) ∧
        PRs E w T (outsOf (E.sig f).ps) (outsIn (E.sig f).ps x) (outVals (E.sig f).ps (fa β vs)) ob2 := by
      cases hne : ((E.sig f).rs ++ outsOf (E.sig f).ps).any (needsS (E := E)) with
      | true =>
        rw [hne] at hfz
        exact ⟨frozenS S ω rs, fun b hb => .inl hb, fun _ h => h, fun b hb => .inr ⟨hfz.symm, hb⟩, .inr ⟨hfz.symm, rfl⟩, hr2⟩
      | false =>
        rw [hne] at hfz
        simp only [List.any_append, Bool.or_eq_false_iff] at hne
        exact ⟨S, fun _ h => h, fun b hb => .inl hb, fun b hb => .inl hb, .inl hfz.symm, PRs.flat hG hne.2 hr2⟩
    have hfa : ∀ (i r : Nat) (cv : Value) (κ : Nat) (m : List Bool), (E.sig f).ps[i]? = some (.bx κ m) → vs[i]? = some (.ptr r 0) → (fa β vs)[i]? = some cv → ∃ b, cv = .pointer (some ⟨b, 0, none⟩) ∧ β r = .pointer (some ⟨b, 0, none⟩) := by
      intro i r cv κ m h0 h1 h2
      obtain ⟨t, cs, hrc⟩ := hB r (mem_boxes _ _ i r κ m h0 h1)
      obtain ⟨b, _, hβ⟩ := box_block hm hrc
      simp only [fa, List.getElem?_map, h1, Option.map_some, Option.some.injEq] at h2
      exact ⟨b, by rw [← h2]; exact hβ, hβ⟩
    have hfzr : ∀ r ∈ fz, r ∈ rs := by
      intro r hr
      rcases hfrz with h | ⟨h, _⟩
      · rw [h] at hr; simp at hr
      · rw [h] at hr; exact hr
    obtain ⟨rest, bl, hperm2, hmap, _, i2, hbl, hbl2⟩ := wrOutsT_ok hG (E.sig f).ps vs (fa β vs) (outsIn (E.sig f).ps x) ob2 _ ws [] (by simp [fa]) hfa hr2' hw
    have hboxb : ∀ r ∈ boxes (E.sig f).ps vs, ∃ b ∈ bl, ω r = [b] := by
      intro r hr
      obtain ⟨b, hb, hβ⟩ := hbl2 r hr
      obtain ⟨t, cs, hrc⟩ := hB r hr
      obtain ⟨b', h1, h2⟩ := box_block hm hrc
      rw [hβ] at h2; cases h2
      exact ⟨b, hb, h1⟩
    have hnd2 : (bl ++ rest).Nodup := hperm2.nodup_iff.1 (hsub.nodup hobn)
    have hrest : rest = [] := by
      cases hr : rest with
      | nil => rfl
      | cons b l =>
        have hb : b ∈ rest := by rw [hr]; simp
        have hbo : b ∈ rl.flatMap ω := hsub.subset (hperm2.mem_iff.2 (List.mem_append_right _ hb))
        obtain ⟨r, hr', hbr⟩ := List.mem_flatMap.1 hbo
        obtain ⟨b', k1, k2⟩ := hboxb r (hperm.mem_iff.1 hr')
        rw [k2] at hbr
        simp at hbr; subst hbr
        exact absurd rfl ((List.nodup_append.1 hnd2).2.2 b k1 b hb)
    refine ⟨T, β, unown ω fz, ?_⟩
    exact {
      hs := hT1
      hn := fun b hb => by
        rcases hTb b hb with h | ⟨hfz', h1⟩
        · exact .inl h
        · rcases h1 with h1 | ⟨r, hr, hbr⟩
          · exact .inl h1
          · exact .inr (.inr ⟨r, .inl (by show r ∈ fz; rw [hfz']; exact hr), hrs r hr, hbr⟩)
      hb := fun b hb => hS3 b (hTa b hb)
      bt := fun r hr => rfl
      om := fun r hr => rfl
      heap := fun b hb _ _ => rfl
      sz := Nat.le_refl _
      os := rfl
      tape := rfl
      out := rfl
      wr := fun r rc hmem => by
        have hr : r ∈ boxes (E.sig f).ps vs := by rw [← hmap]; exact List.mem_map.2 ⟨(r, rc), hmem, rfl⟩
        obtain ⟨t, cs, hrc⟩ := hB r hr
        refine ⟨⟨_, hrc⟩, ?_⟩
        obtain ⟨b, k1, k2, k3⟩ := i2 T β (Grown D nx 0) (fun b h => h) (by rw [hrest]; simp) r rc hmem
        obtain ⟨b', k4, k5⟩ := box_block hm hrc
        rw [k2] at k5; cases k5
        rw [k4]; exact k3
      kl := fun r hr => by simp at hr
      new := fun i rc hi => by simp at hi
      newb := fun i hi => by simp at hi
      newd := fun i j hi => by simp at hi
      frz := fun r hr rc hrc => by
        have hfz2 : fz = rs ∧ T = frozenS S ω rs := by
          rcases hfrz with h | h
          · have : r ∈ fz := hr
            rw [h] at this; simp at this
          · exact h
        have h1 : RootOk E w S β (Grown D nx 0) (β r) (ω r) rc := (hm.ok r rc hrc).mono (fun _ _ => rfl) (fun _ _ => rfl) (fun _ h => h) (fun _ h => .inl h) (fun _ _ => rfl)
        refine RootOk.frz hG h1 hT1 (fun b hb => ?_)
        rw [hfz2.2]
        exact .inr ⟨r, hfzr r hr, hb⟩
      d1 := fun r hr hw' => by
        have : r ∈ boxes (E.sig f).ps vs := by rw [← hmap]; exact hw'
        exact hdj r this (hfzr r hr)
      d2 := fun r hr => by simp at hr
      d3 := fun r hr => by simp at hr
      nd := by show (ws.map (·.1)).Nodup; rw [hmap]; exact hnd }

end

end Go.Proofs.Ytejfpemjmpoddaa.Vx
/-! Regions, on: a state's meaning in a frame, and whether an operation is carried out. -/
namespace Go.Proofs.Ytejfpemjmpoddaa.Vx
open Go

section
variable {P : Program} {E : Env} {O : Orc E}

/-- a state, read in a frame: temporaries, those behind a guard that does not hold, and memory; the variables that came in lie behind the temporaries -/
structure Rel (E : Env) (cx : Cx) (gd : List (Nat × List (Nat × Bool))) (t : List (Nat × V E.Ty)) (roots : List (Nat × RC E.Ty)) (S : Nat → Prop) (β : Nat → Value) (ω : Nat → List Nat) (D : Nat → Prop) (a : Act) (w : World) : Prop where
  mem : Mem E cx S β ω D roots w
  tm : ∀ x v, x < cx.n → find t x = some v → condOf t (chainOf gd x) = true → RV E w S β D v (a.tmps.getD x undef)
  pt : ∀ x v, cx.n ≤ x → find t x = some v → RV E w S β D v (cx.args.getD (x - cx.n) undef)
  gdo : ∀ x, condOf t (chainOf gd x) = false → a.tmps.getD x undef = undef
  gdn : ∀ x c, find gd x = some c → x < cx.n
  sz : a.tmps.size = cx.n
  df : a.defers = []

theorem condOf_cons (t : List (Nat × V E.Ty)) (d : Nat) (b : Bool) (l : List (Nat × Bool)) : condOf t ((d, b) :: l) = (litB t d b && condOf t l) := by
  cases l with
  | nil => simp [condOf]
  | cons q l => rfl

theorem mem_chains {gd : List (Nat × List (Nat × Bool))} {x : Nat} {c : List (Nat × Bool)} (h : find gd x = some c) {d : Nat} {b : Bool} (hd : (d, b) ∈ c) : d ∈ chains gd := by
  induction gd with
  | nil => simp [find] at h
  | cons q gd ih =>
    obtain ⟨y, c'⟩ := q
    simp only [find] at h
    simp only [chains, List.mem_append]
    cases hb : Nat.beq y x with
    | true =>
      rw [hb] at h
      simp only [Option.some.injEq] at h
      subst h
      exact .inl (List.mem_map.2 ⟨(d, b), hd, rfl⟩)
    | false =>
      rw [hb] at h
      exact .inr (ih h)

theorem chainOf_mem {gd : List (Nat × List (Nat × Bool))} {x d : Nat} {b : Bool} (hd : (d, b) ∈ chainOf gd x) : d ∈ chains gd := by
  unfold chainOf at hd
  cases h : find gd x with
  | none => rw [h] at hd; simp at hd
  | some c => rw [h] at hd; exact mem_chains h hd

theorem litB_put (t : List (Nat × V E.Ty)) (k : Nat) (v : V E.Ty) (d : Nat) (b : Bool) (h : d ≠ k) : litB (put t k v) d b = litB t d b := by
  simp [litB, find_put_ne t k d v h]

theorem condOf_put (t : List (Nat × V E.Ty)) (k : Nat) (v : V E.Ty) : ∀ (ch : List (Nat × Bool)), (∀ d b, (d, b) ∈ ch → d ≠ k) → condOf (put t k v) ch = condOf t ch
  | [], _ => rfl
  | (d, b) :: ch, h => by
    rw [condOf_cons, condOf_cons, litB_put t k v d b (h d b (by simp)), condOf_put t k v ch (fun d b hd => h d b (by simp [hd]))]

variable {cx : Cx} {gd : List (Nat × List (Nat × Bool))} {t : List (Nat × V E.Ty)} {roots : List (Nat × RC E.Ty)} {S : Nat → Prop} {β : Nat → Value} {ω : Nat → List Nat} {D : Nat → Prop} {a : Act} {w : World}

/-- is it carried out? -/
theorem wanted_ok (h : Rel E cx gd t roots S β ω D a w) {all : Array Oper} {o : Oper} {ch : List (Nat × Bool)} (hg : guardOf all gd o.guard = some ch) (hn : ∀ (j : Nat) (o' : Oper) (d : Nat), all[j]? = some o' → o'.dst = some d → d < cx.n)
    (hb : ∀ d b l, ch = (d, b) :: l → isB t d = true) : Region.wanted o (yielded all a.tmps) = condOf t ch := by
  unfold guardOf at hg
  unfold Region.wanted
  cases hgd : o.guard with
  | none =>
    rw [hgd] at hg
    simp only [Option.some.injEq] at hg
    subst hg
    rfl
  | some jw =>
    obtain ⟨j, wt⟩ := jw
    rw [hgd] at hg
    simp only [] at hg
    cases hj : all[j]? with
    | none => simp [hj] at hg
    | some oj =>
      simp only [hj] at hg
      cases hd : oj.dst with
      | none => simp [hd] at hg
      | some d =>
        simp only [hd, Option.some.injEq] at hg
        subst hg
        have hdn := hn j oj d hj hd
        have hisb := hb d wt _ rfl
        rw [condOf_cons]
        have hy : yielded all a.tmps j = match a.tmps.getD d undef with | .bool b => some b | _ => none := by
          unfold yielded
          have hlt : d < a.tmps.size := by rw [h.sz]; exact hdn
          simp [hj, hd, hlt]
          cases a.tmps[d] <;> rfl
        simp only [hy]
        cases hc : condOf t (chainOf gd d) with
        | false =>
          rw [h.gdo d hc]
          simp [undef]
        | true =>
          unfold isB at hisb
          cases hf : find t d with
          | none => simp [hf] at hisb
          | some v =>
            cases v with
            | bool b =>
              have hv := (h.tm d _ hdn hf hc).bool_inv
              rw [hv]
              simp only [litB, hf]
              cases b <;> cases wt <;> rfl
            | _ => simp [hf] at hisb

end

end Go.Proofs.Ytejfpemjmpoddaa.Vx
/-! Regions, on: a step keeps the state's meaning. -/
namespace Go.Proofs.Ytejfpemjmpoddaa.Vx
open Go

section
variable {P : Program} {E : Env} {O : Orc E}
variable {cx : Cx} {gd : List (Nat × List (Nat × Bool))} {t : List (Nat × V E.Ty)} {roots : List (Nat × RC E.Ty)} {S S' : Nat → Prop} {β β' : Nat → Value} {ω ω' : Nat → List Nat} {D : Nat → Prop} {a : Act} {w w' : World} {nx : Nat} {e : Eff E}

theorem Done.same (hm : Mem E cx S β ω D roots w) (hd : Done E w S β ω D roots nx e S' β' ω' w') : ∀ b, S b → w'.heap[b]? = w.heap[b]? := by
  intro b hb
  refine hd.heap b (hm.sb b hb) ?_ ?_
  · intro r hr hbr
    obtain ⟨⟨r', rc⟩, hm1, rfl⟩ := List.mem_map.1 hr
    obtain ⟨rc0, h0⟩ := (hd.wr r' rc hm1).1
    exact (hm.ob r' rc0 h0 b hbr).1 hb
  · intro r hr hbr
    obtain ⟨rc0, h0⟩ := hd.kl r hr
    exact (hm.ob r rc0 h0 b hbr).1 hb

theorem Done.rv (hm : Mem E cx S β ω D roots w) (hd : Done E w S β ω D roots nx e S' β' ω' w') {v : V E.Ty} {cv : Value} (h : RV E w S β D v cv) : RV E w' S' β' (Grown D nx e.new.length) v cv :=
  h.mono (hd.same hm) hd.hs (fun _ h => .inl h) hd.bt

def gdPut (gd : List (Nat × List (Nat × Bool))) (dst : Option Nat) (ch : List (Nat × Bool)) : List (Nat × List (Nat × Bool)) := match dst with
  | some d => put gd d ch
  | none => gd

def tPut (t : List (Nat × V E.Ty)) (dst : Option Nat) (v : V E.Ty) : List (Nat × V E.Ty) := match dst with
  | some d => put t d v
  | none => t

theorem chainOf_put (gd : List (Nat × List (Nat × Bool))) (d x : Nat) (ch : List (Nat × Bool)) : chainOf (put gd d ch) x = if x = d then ch else chainOf gd x := by
  unfold chainOf
  rw [find_put]
  by_cases h : x = d
  · simp [h]
  · simp [h]

theorem Rel.step (h : Rel E cx gd t roots S β ω D a w) (hd : Done E w S β ω D roots nx e S' β' ω' w') {dst : Option Nat} {ch : List (Nat × Bool)} {v : Value}
    (hdst : ∀ d, dst = some d → d < cx.n ∧ (∀ x y b, (y, b) ∈ chainOf gd x → y ≠ d) ∧ ∀ x b, (x, b) ∈ ch → x ≠ d)
    (hv1 : condOf t ch = true → RV E w' S' β' (Grown D nx e.new.length) e.val v) (hv2 : condOf t ch = false → v = undef) :
    Rel E cx (gdPut gd dst ch) (tPut t dst e.val) (effR nx roots e) S' β' ω' (Grown D nx e.new.length) (a.put dst v) w' := by
  have hrv := fun {v : V E.Ty} {cv : Value} (hh : RV E w S β D v cv) => hd.rv h.mem hh
  cases dst with
  | none =>
    exact ⟨h.mem.step hd, fun x u hx hf hc => hrv (h.tm x u hx hf hc), fun x u hx hf => hrv (h.pt x u hx hf), h.gdo, h.gdn, h.sz, h.df⟩
  | some d =>
    obtain ⟨h1, h2, h3⟩ := hdst d rfl
    have hch : condOf (put t d e.val) ch = condOf t ch := condOf_put t d e.val ch h3
    have hco : ∀ x, condOf (put t d e.val) (chainOf gd x) = condOf t (chainOf gd x) := fun x => condOf_put t d e.val _ (fun y b hy he => h2 x y b hy he)
    have hself : (a.put (some d) v).tmps.getD d undef = v := by
      have hlt : d < a.tmps.size := by rw [h.sz]; exact h1
      simp [Act.put, hlt]
    have hne : ∀ x, x ≠ d → (a.put (some d) v).tmps.getD x undef = a.tmps.getD x undef := by
      intro x hx
      simp only [Act.put, Array.getD_eq_getD_getElem?]
      rw [Array.getElem?_setIfInBounds_ne (fun e => hx e.symm)]
    refine ⟨h.mem.step hd, ?_, ?_, ?_, ?_, by simp [Act.put, h.sz], h.df⟩
    · intro x u hx hf hc
      simp only [gdPut, tPut, chainOf_put, find_put] at hf hc
      by_cases hxd : x = d
      · subst hxd
        rw [if_pos rfl] at hf hc
        cases hf
        rw [hch] at hc
        rw [hself]; exact hv1 hc
      · rw [if_neg hxd] at hf hc
        rw [hco] at hc
        rw [hne x hxd]
        exact hrv (h.tm x u hx hf hc)
    · intro x u hx hf
      have hxd : x ≠ d := by omega
      simp only [tPut, find_put] at hf
      rw [if_neg hxd] at hf
      exact hrv (h.pt x u hx hf)
    · intro x hc
      simp only [gdPut, tPut, chainOf_put] at hc
      by_cases hxd : x = d
      · subst hxd
        rw [if_pos rfl, hch] at hc
        rw [hself]; exact hv2 hc
      · rw [if_neg hxd, hco] at hc
        rw [hne x hxd]
        exact h.gdo x hc
    · intro x c hf
      simp only [gdPut, find_put] at hf
      by_cases hxd : x = d
      · omega
      · rw [if_neg hxd] at hf
        exact h.gdn x c hf

/-- what an operation reads -/
theorem Rel.reads (h : Rel E cx gd t roots S β ω D a w) {ch : List (Nat × Bool)} (hc : condOf t ch = true) (st : St E.Ty) (hst : st.t = t) : Reads a w S β D (rdf cx.n st gd ch) := by
  have hsub : ∀ (l m : List (Nat × Bool)), subB l m = true → condOf t m = true → condOf t l = true := by
    have hmem : ∀ (m : List (Nat × Bool)) (d : Nat) (b : Bool), memB m (d, b) = true → (d, b) ∈ m := by
      intro m
      induction m with
      | nil => intro d b h; simp [memB] at h
      | cons q m ih =>
        obtain ⟨d', b'⟩ := q
        intro d b h
        simp only [memB] at h
        split at h
        · rename_i hb; have := Nat.eq_of_beq_eq_true hb; subst this; simp
        · rename_i hb; have := Nat.eq_of_beq_eq_true hb; subst this; simp
        · exact List.mem_cons_of_mem _ (ih _ _ h)
    have hlit : ∀ (m : List (Nat × Bool)) (d : Nat) (b : Bool), (d, b) ∈ m → condOf t m = true → litB t d b = true := by
      intro m
      induction m with
      | nil => intro d b h; simp at h
      | cons q m ih =>
        obtain ⟨d', b'⟩ := q
        intro d b h hc
        rw [condOf_cons, Bool.and_eq_true] at hc
        rcases List.mem_cons.1 h with h | h
        · cases h; exact hc.1
        · exact ih d b h hc.2
    intro l
    induction l with
    | nil => intro m _ _; rfl
    | cons q l ih =>
      obtain ⟨d, b⟩ := q
      intro m h hm
      simp only [subB] at h
      split at h
      · rename_i hq
        rw [condOf_cons, Bool.and_eq_true]
        exact ⟨hlit m d b (hmem m d b hq) hm, ih m h hm⟩
      · cases h
  have hx : ∀ (more : List (Nat × Bool)) (x : Operand) (v : V E.Ty), rdf cx.n st gd ch more x = some v → condOf t (more ++ ch) = true → RV E w S β D v (a.eval x) := by
    intro more x v hr hcc
    cases x with
    | tmp i =>
      simp only [rdf] at hr
      split at hr
      · rename_i hlt hs
        rw [hst] at hr
        have hi : i < cx.n := Nat.le_of_ble_eq_true hlt
        exact h.tm i v hi hr (hsub _ _ hs hcc)
      · cases hr
    | const c =>
      simp only [rdf] at hr
      unfold cv at hr
      split at hr <;> first
        | (cases hr; done)
        | (cases hr; first
            | exact .int _ _
            | exact .bool _
            | exact .nl _
            | exact .any _
            | skip)
      rename_i s
      exact .str _
    | func f =>
      simp only [rdf, Option.some.injEq] at hr
      subst hr
      exact .fn f [] #[] rfl (by simp)
    | global g => simp [rdf] at hr
  refine ⟨fun x v hr => hx [] x v hr hc, fun c b x v hb hr => hx [(c, b)] x v hr ?_⟩
  rw [List.singleton_append, condOf_cons, hc, Bool.and_true]
  simp only [rdf] at hb
  split at hb
  · rw [hst] at hb
    cases b <;> simp [litB, hb]
  · cases hb

end

end Go.Proofs.Ytejfpemjmpoddaa.Vx
/-! Regions, on: one operation, carried out or not (calls behind a guard are left out here). -/
namespace Go.Proofs.Ytejfpemjmpoddaa.Vx
open Go

section
variable {P : Program} {E : Env} {O : Orc E}
variable {cx : Cx} {gd : List (Nat × List (Nat × Bool))} {t : List (Nat × V E.Ty)} {roots : List (Nat × RC E.Ty)} {S S' : Nat → Prop} {β β' : Nat → Value} {ω ω' : Nat → List Nat} {D : Nat → Prop} {a : Act} {w w' : World} {nx : Nat} {e : Eff E}

theorem keys_find {α : Type} {l : List (Nat × α)} {r : Nat} (h : r ∈ keys l) : ∃ x, find l r = some x := by
  induction l with
  | nil => simp [keys] at h
  | cons q l ih =>
    obtain ⟨k, x⟩ := q
    simp only [find]
    cases hb : Nat.beq k r with
    | true => exact ⟨x, rfl⟩
    | false =>
      simp only [keys, List.mem_cons] at h
      rcases h with h | h
      · subst h; simp at hb
      · exact ih h

theorem sub_ok {l m : List Nat} (h : sub l m = true) : ∀ x ∈ l, x ∈ m := by
  induction l with
  | nil => simp
  | cons y l ih =>
    simp only [sub] at h
    split at h
    · rename_i hm
      intro x hx
      rcases List.mem_cons.1 hx with h' | h'
      · subst h'; exact (mem_iff _ _).1 hm
      · exact ih h x h'
    · cases h

theorem skip_done (hG : Good E) (hm : Mem E cx S β ω D roots w) (h1 : e.wr = []) (h2 : e.new = []) (h3 : e.kill = []) (h4 : There roots e.frz) : Done E w S β ω D roots nx e (frozenS S ω e.frz) β (unown ω e.frz) w := by
  obtain ⟨v, wr, new, kill, frz⟩ := e
  simp only at h1 h2 h3
  subst h1 h2 h3
  exact Done.freeze hG hm v frz h4

theorem keys_mem {l : List (Nat × Bool)} {x : Nat} {b : Bool} (h : (x, b) ∈ l) : x ∈ keys l := mem_keys.2 ⟨b, h⟩

theorem dst_ok {o : Oper} (h : dstOk cx.n gd o.dst = true) : ∀ d, o.dst = some d → d < cx.n ∧ ∀ x y b, (y, b) ∈ chainOf gd x → y ≠ d := by
  intro d hd
  rw [hd] at h
  simp only [dstOk, Bool.and_eq_true, Bool.not_eq_true'] at h
  refine ⟨Nat.le_of_ble_eq_true h.1, fun x y b hy he => ?_⟩
  subst he
  exact (mem_false_iff _ _).1 h.2 (chainOf_mem hy)

theorem dstNot_ok {o : Oper} {ch : List (Nat × Bool)} (h2 : dstNot o ch = true) : ∀ d, o.dst = some d → ∀ x b, (x, b) ∈ ch → x ≠ d := by
  intro d hd x b hx he
  subst he
  simp only [dstNot, hd, Bool.not_eq_true'] at h2
  exact (mem_false_iff _ _).1 h2 (keys_mem hx)

end

end Go.Proofs.Ytejfpemjmpoddaa.Vx
/-! Regions, on: one operation's step. -/
namespace Go.Proofs.Ytejfpemjmpoddaa.Vx
open Go

section
variable {P : Program} {E : Env} {O : Orc E}
variable {cx : Cx} {gd : List (Nat × List (Nat × Bool))} {roots : List (Nat × RC E.Ty)} {S S' : Nat → Prop} {β β' : Nat → Value} {ω ω' : Nat → List Nat} {D : Nat → Prop} {a : Act} {w w' : World} {nx : Nat} {e : Eff E} {o : Oper}
variable {rd : List (Nat × Bool) → Operand → Option (V E.Ty)}

theorem isCall_inv (h : isCall o.op = true) : ∃ c fo, o.op = .call c ∧ c.callee = .value fo := by
  cases ho : o.op with
  | call c =>
    rw [ho] at h
    simp only [isCall] at h
    cases hc : c.callee with
    | value fo => exact ⟨c, fo, rfl, hc⟩
    | invoke r n => simp [hc] at h
    | builtin b => simp [hc] at h
  | _ => rw [ho] at h; simp [isCall] at h

theorem callOpG_ok (hG : Good E) (hm : Mem E cx S β ω D roots w) (hrd : Reads a w S β D rd) (hO : ∀ f x y, O.call f x = some y → FnOk P E f x y) (c : Call) (fo : Operand) (hc : c.callee = .value fo) (ho : o.op = .call c) :
    AskOk O (fun e => e.new = [] → Okay P o a w S β ω D roots nx e) roots (opA o true rd nx) := by
  simp only [opA, ho]
  cases hr : rdL (rd []) c.args.toList with
  | none => exact askOk_fail
  | some vs =>
    simp only [hc]
    cases hf : rd [] fo with
    | none => exact askOk_fail
    | some v =>
      cases v with
      | fn f cs =>
        have hvals := rdL_vals hrd _ vs hr
        obtain ⟨us, hv, hul, hus⟩ := (hrd.one _ _ hf).fn_inv
        refine callG_ok hG hm hO f (vs ++ cs) (c.args.toList.map a.eval ++ us.toList) (by simp only [List.length_append, hvals.1, Array.length_toList, hul]) ?_ ?_
        · intro i v cv h1 h2
          by_cases hi : i < vs.length
          · rw [List.getElem?_append_left hi] at h1
            rw [List.getElem?_append_left (by rw [hvals.1]; exact hi)] at h2
            exact hvals.2 i v cv h1 h2
          · rw [List.getElem?_append_right (by omega)] at h1
            rw [List.getElem?_append_right (by rw [hvals.1]; omega), hvals.1] at h2
            have h3 := hus _ v h1
            rw [Array.getElem?_toList] at h2
            have h4 : us.getD (i - vs.length) undef = cv := by
              simp only [Array.getD_eq_getD_getElem?, h2]; rfl
            rw [← h4]; exact h3
        · have ha : (c.args.toList.map a.eval ++ us.toList).toArray = c.args.map a.eval ++ us := by
            apply Array.ext'; simp
          rw [ha]
          simp only [execOp, ho, resolve, hc, hv, Deferred.ofValue, Sem.run_bind, Sem.run_pure, Result.andThen_ok, invoke, Array.empty_append]
      | _ => exact askOk_fail

/-- an oracle whose calls are not carried out -/
def Orc.no (E : Env) : Orc E := ⟨fun _ x => dfltR _ x, fun _ _ _ => none⟩

theorem callOpN_ok (hG : Good E) (hm : Mem E cx S β ω D roots w) (c : Call) (fo : Operand) (hc : c.callee = .value fo) (ho : o.op = .call c) {tch : List (Nat × Bool)}
    (hrun : RunsTo O roots false (opA o true rd nx) [] e tch) (h1 : e.new = []) (h2 : e.kill = []) : ∃ S' β' ω', Done E w S β ω D roots nx e S' β' ω' w := by
  simp only [opA, ho] at hrun
  cases hr : rdL (rd []) c.args.toList with
  | none => rw [hr] at hrun; cases hrun
  | some vs =>
    simp only [hr, hc] at hrun
    cases hf : rd [] fo with
    | none => rw [hf] at hrun; cases hrun
    | some v =>
      rw [hf] at hrun
      cases v with
      | fn f cs => exact (callN_ok hG hm (O' := Orc.no E) (fun _ _ => rfl) f (vs ++ cs)).runs (hrun.tame (callA_tame (fun _ _ => rfl) _ _ _)) h1 h2
      | _ => cases hrun

theorem vstep_ok (hT : TIok P E) (hG : Good E) (hQ : EqOk P E) (hO : ∀ f x y, O.call f x = some y → FnOk P E f x y) {st : St E.Ty} (h : Rel E cx gd st.t st.roots S β ω D a w) {all : Array Oper} {i : Nat} (hi : all[i]? = some o)
    {ch : List (Nat × Bool)} (hg : guardOf all gd o.guard = some ch) (hn : ∀ (j : Nat) (o' : Oper) (d : Nat), all[j]? = some o' → o'.dst = some d → d < cx.n)
    (hdst : ∀ d, o.dst = some d → d < cx.n ∧ ∀ x y b, (y, b) ∈ chainOf gd x → y ≠ d) {tch : List (Nat × Bool)}
    (hrun : RunsTo O st.roots (condOf st.t ch) (opA o (isG ch) (rdf cx.n st gd ch) nx) [] e tch) (hok : okG cx.n st o ch e = true) (hfz : ∀ r ∈ e.frz, r ∈ keys tch) (hfr : ∀ k, k < e.new.length → ¬ D (nx + k))
    {K : Act → World → Prop} {Q : Exit → Act → World → Prop}
    (hK : ∀ S' β' ω' a' w', Rel E cx (gdPut gd o.dst ch) (tPut st.t o.dst e.val) (effR nx st.roots e) S' β' ω' (Grown D nx e.new.length) a' w' → K a' w') : wpOp P all Q i K a w := by
  have hb : ∀ d b l, ch = (d, b) :: l → isB st.t d = true := by
    intro d b l hc
    subst hc
    simp only [okG, Bool.and_eq_true] at hok
    exact hok.1.1.2
  have hdn : dstNot o ch = true := by
    cases ch with
    | nil => unfold dstNot; cases o.dst <;> rfl
    | cons q l =>
      obtain ⟨d, b⟩ := q
      simp only [okG, Bool.and_eq_true] at hok
      exact hok.1.2
  have hd : ∀ d, o.dst = some d → d < cx.n ∧ (∀ x y b, (y, b) ∈ chainOf gd x → y ≠ d) ∧ ∀ x b, (x, b) ∈ ch → x ≠ d := fun d hd => ⟨(hdst d hd).1, (hdst d hd).2, dstNot_ok hdn d hd⟩
  have hw := wanted_ok h hg hn hb
  have hnewG : ch ≠ [] → isCall o.op = true → e.new = [] ∧ e.kill = [] := by
    intro hne hcl
    cases ch with
    | nil => exact absurd rfl hne
    | cons q l =>
      obtain ⟨d, b⟩ := q
      simp only [okG, Bool.and_eq_true] at hok
      have hsh := hok.2
      cases hn : e.new <;> cases hk : e.kill <;> cases hw : e.wr <;> simp [hn, hk, hw] at hsh ⊢
  unfold wpOp
  simp only [hi, hw]
  cases hc : condOf st.t ch with
  | true =>
    rw [hc] at hrun
    simp only [if_true]
    refine .inl ?_
    have hrd := h.reads hc st rfl
    have hgood : Okay P o a w S β ω D st.roots nx e := by
      by_cases hch : ch = []
      · subst hch; exact (op_ok hT hG hQ h.mem hrd hO).runs hrun
      · cases hcl : isCall o.op with
        | false => exact (opg_ok hcl hT hG hQ h.mem hrd).runs hrun
        | true =>
          obtain ⟨c, fo, h1, h2⟩ := isCall_inv hcl
          have hgt : isG ch = true := by cases ch with | nil => exact absurd rfl hch | cons q l => rfl
          rw [hgt] at hrun
          exact (callOpG_ok hG h.mem hrd hO c fo h2 h1).runs hrun (hnewG hch hcl).1
    refine hgood K Q hfr (fun v S' β' ω' w' hdone hrv => hK S' β' ω' _ w' (h.step hdone hd (fun _ => hrv) (fun hf => ?_)))
    rw [hc] at hf; cases hf
  | false =>
    simp only [Bool.false_eq_true, if_false]
    cases hcl : isCall o.op with
    | true =>
      have hne : ch ≠ [] := fun h0 => by subst h0; simp [condOf] at hc
      obtain ⟨c, fo, h1, h2⟩ := isCall_inv hcl
      have hgt : isG ch = true := by cases ch with | nil => exact absurd rfl hne | cons q l => rfl
      rw [hgt, hc] at hrun
      obtain ⟨S', β', ω', hdone⟩ := callOpN_ok hG h.mem c fo h2 h1 hrun (hnewG hne hcl).1 (hnewG hne hcl).2
      refine hK _ _ _ _ w (h.step hdone hd (fun ht => ?_) (fun _ => rfl))
      rw [hc] at ht; cases ht
    | false =>
    cases ch with
    | nil => simp [condOf] at hc
    | cons q l =>
      obtain ⟨d, b⟩ := q
      have hthere : There st.roots e.frz := fun r hr => by
        obtain ⟨b, hb⟩ := mem_keys.1 (hfz r hr)
        exact hrun.there (fun _ _ h => by simp at h) r b hb
      simp only [okG, Bool.and_eq_true] at hok
      have hsh := hok.2
      obtain ⟨v, wr, new, kill, frz⟩ := e
      simp only [hcl] at hsh
      have hempty : new = [] ∧ kill = [] ∧ wr = [] := by
        cases new <;> cases kill <;> cases wr <;> simp at hsh ⊢
      obtain ⟨rfl, rfl, rfl⟩ := hempty
      have hdone := Done.freeze (nx := nx) hG h.mem v frz hthere
      refine hK _ _ _ _ w (h.step hdone hd (fun ht => ?_) (fun _ => rfl))
      rw [hc] at ht; cases ht

end

end Go.Proofs.Ytejfpemjmpoddaa.Vx
/-! Regions, on: a run in the text's order, as a list of records; what a state holds at one number. -/
namespace Go.Proofs.Ytejfpemjmpoddaa.Vx
open Go

section
variable {P : Program} {E : Env} {O : Orc E}

structure Rec (E : Env) where
  o : Oper
  ch : List (Nat × Bool)
  e : Eff E
  nx : Nat
  tch : List (Nat × Bool)

def tRun (t : List (Nat × V E.Ty)) (l : List (Rec E)) : List (Nat × V E.Ty) := l.foldl (fun t r => tPut t r.o.dst r.e.val) t
def gRun (gd : List (Nat × List (Nat × Bool))) (l : List (Rec E)) : List (Nat × List (Nat × Bool)) := l.foldl (fun g r => gdPut g r.o.dst r.ch) gd
def rRun (roots : List (Nat × RC E.Ty)) (l : List (Rec E)) : List (Nat × RC E.Ty) := l.foldl (fun rs r => effR r.nx rs r.e) roots
def nRun (nx : Nat) (l : List (Rec E)) : Nat := l.foldl (fun n r => n + r.e.new.length) nx

def leOf (r : Rec E) : LE := ⟨keys r.tch, r.e.frz, keys r.e.wr ++ r.e.kill ++ asksOf r.tch ++ keys (newL r.nx r.e.new), keys r.ch⟩

structure Fact (O : Orc E) (n : Nat) (all : Array Oper) (t : List (Nat × V E.Ty)) (gd : List (Nat × List (Nat × Bool))) (roots : List (Nat × RC E.Ty)) (r : Rec E) : Prop where
  g : guardOf all gd r.o.guard = some r.ch
  d : dstOk n gd r.o.dst = true
  run : RunsTo O roots (condOf t r.ch) (opA r.o (isG r.ch) (rdf n ⟨t, roots, r.nx⟩ gd r.ch) r.nx) [] r.e r.tch
  ok : okG n ⟨t, roots, r.nx⟩ r.o r.ch r.e = true
  sub : sub (r.e.frz ++ r.e.kill ++ keys r.e.wr) (keys r.tch) = true
  nd : nodup (keys r.e.wr) = true

def Facts (O : Orc E) (n : Nat) (all : Array Oper) : List (Nat × V E.Ty) → List (Nat × List (Nat × Bool)) → List (Nat × RC E.Ty) → Nat → List (Rec E) → Prop
  | _, _, _, _, [] => True
  | t, gd, roots, nx, r :: rs => r.nx = nx ∧ Fact O n all t gd roots r ∧ Facts O n all (tPut t r.o.dst r.e.val) (gdPut gd r.o.dst r.ch) (effR r.nx roots r.e) (nx + r.e.new.length) rs

theorem vops_recs {R : Type} {n : Nat} {all : Array Oper} {k : RSt E.Ty → Option R} {y : R} : ∀ (ops : List Oper) (rs : RSt E.Ty), vops O n all ops rs k = some y →
    ∃ recs : List (Rec E), recs.map (·.o) = ops ∧ Facts O n all rs.st.t rs.gd rs.st.roots rs.st.nx recs ∧
      k ⟨⟨tRun rs.st.t recs, rRun rs.st.roots recs, nRun rs.st.nx recs⟩, gRun rs.gd recs, (recs.map leOf).reverse ++ rs.log⟩ = some y
  | [], rs, h => ⟨[], rfl, trivial, h⟩
  | o :: ops, rs, h => by
    simp only [vops] at h
    split at h
    · rename_i ch hg hdst
      obtain ⟨e, tch, hrun, h2⟩ := runA_runs _ _ _ _ _ _ h
      split at h2
      · rename_i hok
        simp only [Bool.and_eq_true] at hok
        obtain ⟨recs, h3, h4, h5⟩ := vops_recs ops _ h2
        refine ⟨⟨o, ch, e, rs.st.nx, tch⟩ :: recs, by simp [h3], ⟨rfl, ⟨hg, hdst, hrun, hok.1.1, hok.1.2, hok.2⟩, ?_⟩, ?_⟩
        · cases hd : o.dst with
          | none => simpa [St.eff, hd, gdPut, tPut] using h4
          | some d => simpa [St.eff, hd, gdPut, tPut] using h4
        · cases hd : o.dst with
          | none => simpa [St.eff, hd, gdPut, tPut, tRun, gRun, rRun, nRun, leOf] using h5
          | some d => simpa [St.eff, hd, gdPut, tPut, tRun, gRun, rRun, nRun, leOf] using h5
      · cases h2
    · cases h

theorem Facts.at {n : Nat} {all : Array Oper} : ∀ (recs : List (Rec E)) (t : List (Nat × V E.Ty)) (gd : List (Nat × List (Nat × Bool))) (roots : List (Nat × RC E.Ty)) (nx : Nat), Facts O n all t gd roots nx recs →
    ∀ (i : Nat) (r : Rec E), recs[i]? = some r → r.nx = nRun nx (recs.take i) ∧ Fact O n all (tRun t (recs.take i)) (gRun gd (recs.take i)) (rRun roots (recs.take i)) r
  | [], _, _, _, _, _, i, r, h => by simp at h
  | q :: recs, t, gd, roots, nx, h, i, r, hi => by
    obtain ⟨h1, h2, h3⟩ := h
    cases i with
    | zero =>
      simp at hi; subst hi
      exact ⟨h1, h2⟩
    | succ i =>
      obtain ⟨k1, k2⟩ := Facts.at recs _ _ _ _ h3 i r (by simpa using hi)
      exact ⟨k1, k2⟩

/-! at one number -/

def tS (r : Rec E) (x : Nat) (c : Option (V E.Ty)) : Option (V E.Ty) := if r.o.dst = some x then some r.e.val else c
def gS (r : Rec E) (x : Nat) (c : Option (List (Nat × Bool))) : Option (List (Nat × Bool)) := if r.o.dst = some x then some r.ch else c
def rS (r : Rec E) (x : Nat) (c : Option (RC E.Ty)) : Option (RC E.Ty) := match find r.e.wr x with
  | some rc => some rc
  | none => match (if x ∈ r.e.kill then none else c.map fun rc => if x ∈ r.e.frz then frzOf rc else rc) with
    | some rc => some rc
    | none => if x < r.nx then none else r.e.new[x - r.nx]?

theorem find_tPut (t : List (Nat × V E.Ty)) (r : Rec E) (x : Nat) : find (tPut t r.o.dst r.e.val) x = tS r x (find t x) := by
  unfold tPut tS
  cases hd : r.o.dst with
  | none => simp
  | some d =>
    simp only [find_put, Option.some.injEq]
    by_cases h : d = x
    · simp [h]
    · rw [if_neg (fun e => h e.symm), if_neg h]

theorem find_gdPut (gd : List (Nat × List (Nat × Bool))) (r : Rec E) (x : Nat) : find (gdPut gd r.o.dst r.ch) x = gS r x (find gd x) := by
  unfold gdPut gS
  cases hd : r.o.dst with
  | none => simp
  | some d =>
    simp only [find_put, Option.some.injEq]
    by_cases h : d = x
    · simp [h]
    · rw [if_neg (fun e => h e.symm), if_neg h]

theorem keys_map {α : Type} (l : List (Nat × α)) : keys l = l.map (·.1) := by
  induction l with
  | nil => rfl
  | cons q l ih => obtain ⟨a, b⟩ := q; simp [keys, ih]

theorem find_effR (roots : List (Nat × RC E.Ty)) (r : Rec E) (hnd : nodup (keys r.e.wr) = true) (x : Nat) : find (effR r.nx roots r.e) x = rS r x (find roots x) := by
  have hnd' : (r.e.wr.map (·.1)).Nodup := by rw [← keys_map]; exact (nodup_iff _).1 hnd
  unfold effR rS
  rw [find_append, find_putL _ _ hnd', find_frzR, find_delL, find_newL]
  cases find r.e.wr x with
  | some rc => rfl
  | none =>
    simp only []
    by_cases hk : x ∈ r.e.kill
    · simp only [hk, if_true, Option.map_none]
    · simp only [hk, if_false]
      cases (find roots x).map (fun rc => if x ∈ r.e.frz then frzOf rc else rc) <;> rfl

theorem find_tRun (x : Nat) : ∀ (l : List (Rec E)) (t : List (Nat × V E.Ty)), find (tRun t l) x = l.foldl (fun c r => tS r x c) (find t x)
  | [], t => rfl
  | r :: l, t => by
    have := find_tRun x l (tPut t r.o.dst r.e.val)
    simp only [tRun, List.foldl_cons] at this ⊢
    rw [this, find_tPut]

theorem find_gRun (x : Nat) : ∀ (l : List (Rec E)) (t : List (Nat × List (Nat × Bool))), find (gRun t l) x = l.foldl (fun c r => gS r x c) (find t x)
  | [], t => rfl
  | r :: l, t => by
    have := find_gRun x l (gdPut t r.o.dst r.ch)
    simp only [gRun, List.foldl_cons] at this ⊢
    rw [this, find_gdPut]

theorem find_rRun (x : Nat) : ∀ (l : List (Rec E)) (t : List (Nat × RC E.Ty)), (∀ r ∈ l, nodup (keys r.e.wr) = true) → find (rRun t l) x = l.foldl (fun c r => rS r x c) (find t x)
  | [], t, _ => rfl
  | r :: l, t, h => by
    have := find_rRun x l (effR r.nx t r.e) (fun r hr => h r (by simp [hr]))
    simp only [rRun, List.foldl_cons] at this ⊢
    rw [this, find_effR _ _ (h r (by simp))]

/-! some of the records -/

def sel (p : Nat → Bool) : Nat → List (Rec E) → List (Rec E)
  | _, [] => []
  | i, r :: l => match p i with
    | true => r :: sel p (i + 1) l
    | false => sel p (i + 1) l

theorem sel_sub (p : Nat → Bool) : ∀ (l : List (Rec E)) (i0 : Nat) (r : Rec E), r ∈ sel p i0 l → ∃ i, p (i0 + i) = true ∧ l[i]? = some r
  | [], _, r, h => by simp [sel] at h
  | q :: l, i0, r, h => by
    have hrec : r ∈ sel p (i0 + 1) l → ∃ i, p (i0 + i) = true ∧ (q :: l)[i]? = some r := by
      intro h
      obtain ⟨i, h1, h2⟩ := sel_sub p l (i0 + 1) r h
      exact ⟨i + 1, by rw [Nat.add_comm i 1, ← Nat.add_assoc]; exact h1, by simpa using h2⟩
    simp only [sel] at h
    cases hp : p i0 with
    | false => rw [hp] at h; exact hrec h
    | true =>
      rw [hp] at h
      rcases List.mem_cons.1 h with h' | h'
      · subst h'; exact ⟨0, hp, rfl⟩
      · exact hrec h'

theorem sel_take : ∀ (l : List (Rec E)) (i0 j : Nat), sel (fun i => decide (i < i0 + j)) i0 l = l.take j
  | [], _, _ => by simp [sel]
  | q :: l, i0, 0 => by
    have hnone : ∀ (l : List (Rec E)) (k : Nat), i0 ≤ k → sel (fun i => decide (i < i0 + 0)) k l = [] := by
      intro l
      induction l with
      | nil => intro k _; rfl
      | cons q l ih =>
        intro k hk
        simp only [sel]
        have : decide (k < i0 + 0) = false := by simp; omega
        rw [this]
        exact ih (k + 1) (by omega)
    rw [hnone _ _ (Nat.le_refl _)]; rfl
  | q :: l, i0, j + 1 => by
    have h1 : decide (i0 < i0 + (j + 1)) = true := by simp
    have h2 := sel_take l (i0 + 1) j
    have h3 : (fun i => decide (i < i0 + 1 + j)) = (fun i => decide (i < i0 + (j + 1))) := by
      funext i; congr 2; omega
    rw [h3] at h2
    simp only [sel, h1, List.take_succ_cons, h2]

theorem sel_all (p : Nat → Bool) : ∀ (l : List (Rec E)) (i0 : Nat), (∀ i, i < l.length → p (i0 + i) = true) → sel p i0 l = l
  | [], _, _ => rfl
  | q :: l, i0, h => by
    have h0 := h 0 (by simp)
    simp only [Nat.add_zero] at h0
    simp only [sel, h0]
    rw [sel_all p l (i0 + 1) (fun i hi => by have := h (i + 1) (by simp; omega); rwa [Nat.add_comm i 1, ← Nat.add_assoc] at this)]

theorem sel_len (p : Nat → Bool) : ∀ (l : List (Rec E)) (i0 : Nat), (sel p i0 l).length ≤ l.length ∧ (l.length ≤ (sel p i0 l).length → ∀ i, i < l.length → p (i0 + i) = true)
  | [], _ => by simp [sel]
  | q :: l, i0 => by
    obtain ⟨h1, h2⟩ := sel_len p l (i0 + 1)
    simp only [sel]
    cases hp : p i0 with
    | true =>
      refine ⟨by simp; omega, fun h i hi => ?_⟩
      cases i with
      | zero => exact hp
      | succ i =>
        have := h2 (by simp at h; omega) i (by simpa using hi)
        rwa [Nat.add_comm i 1, ← Nat.add_assoc]
    | false => exact ⟨by simp; omega, fun h => by simp at h; omega⟩

/-- two choices, told apart by those alone that do nothing here -/
theorem fold_same {α γ : Type} (f : Rec E → α → α) (g : α → γ) (p q : Nat → Bool) : ∀ (l : List (Rec E)) (i0 : Nat) (c c' : α), g c = g c' →
    (∀ (i : Nat) (r : Rec E), l[i]? = some r → p (i0 + i) ≠ q (i0 + i) → ∀ c, g (f r c) = g c) → (∀ (i : Nat) (r : Rec E), l[i]? = some r → ∀ c c', g c = g c' → g (f r c) = g (f r c')) →
    g ((sel p i0 l).foldl (fun c r => f r c) c) = g ((sel q i0 l).foldl (fun c r => f r c) c')
  | [], _, _, _, h, _, _ => h
  | r :: l, i0, c, c', h, h1, h2 => by
    have h1' : ∀ (i : Nat) (r : Rec E), l[i]? = some r → p (i0 + 1 + i) ≠ q (i0 + 1 + i) → ∀ c, g (f r c) = g c := fun i r hi hp => h1 (i + 1) r (by simpa using hi) (by rwa [Nat.add_comm i 1, ← Nat.add_assoc])
    have h2' : ∀ (i : Nat) (r : Rec E), l[i]? = some r → ∀ c c', g c = g c' → g (f r c) = g (f r c') := fun i r hi => h2 (i + 1) r (by simpa using hi)
    have ih := fun c c' h => fold_same f g p q l (i0 + 1) c c' h h1' h2'
    have h10 := h1 0 r rfl
    have h20 := h2 0 r rfl
    simp only [Nat.add_zero] at h10
    simp only [sel]
    cases hp : p i0 <;> cases hq : q i0
    · exact ih _ _ h
    · simp only [List.foldl_cons]
      exact ih _ _ (h.trans (h10 (by simp [hp, hq]) c').symm)
    · simp only [List.foldl_cons]
      exact ih _ _ ((h10 (by simp [hp, hq]) c).trans h)
    · simp only [List.foldl_cons]
      exact ih _ _ (h20 _ _ h)

theorem fold_comm {α : Type} (f : Rec E → α → α) (rj : Rec E) : ∀ (l : List (Rec E)), (∀ r ∈ l, ∀ c, f r (f rj c) = f rj (f r c)) → ∀ c, l.foldl (fun c r => f r c) (f rj c) = f rj (l.foldl (fun c r => f r c) c)
  | [], _, _ => rfl
  | r :: l, h, c => by
    simp only [List.foldl_cons]
    rw [h r (by simp) c, fold_comm f rj l (fun r hr => h r (by simp [hr]))]

/-- one more of them -/
theorem fold_more {α : Type} (f : Rec E → α → α) (p : Nat → Bool) (j : Nat) (rj : Rec E) : ∀ (l : List (Rec E)) (i0 : Nat) (c : α), l[j]? = some rj → p (i0 + j) = false →
    (∀ (i : Nat) (r : Rec E), l[i]? = some r → j < i → p (i0 + i) = true → ∀ c, f r (f rj c) = f rj (f r c)) →
    (sel (fun i => p i || decide (i = i0 + j)) i0 l).foldl (fun c r => f r c) c = f rj ((sel p i0 l).foldl (fun c r => f r c) c)
  | [], _, _, h, _, _ => by simp at h
  | r :: l, i0, c, h, hp, hc => by
    cases j with
    | zero =>
      simp at h; subst h
      simp only [Nat.add_zero] at hp
      have hsel : ∀ (l : List (Rec E)) (k : Nat), i0 < k → sel (fun i => p i || decide (i = i0 + 0)) k l = sel p k l := by
        intro l
        induction l with
        | nil => intro k _; rfl
        | cons q l ih =>
          intro k hk
          have : (p k || decide (k = i0 + 0)) = p k := by
            have : decide (k = i0 + 0) = false := by simp; omega
            rw [this, Bool.or_false]
          simp only [sel, this, ih (k + 1) (by omega)]
      have h0 : sel (fun i => p i || decide (i = i0 + 0)) i0 (r :: l) = r :: sel p (i0 + 1) l := by
        rw [← hsel l (i0 + 1) (by omega)]
        simp [sel]
      have h00 : sel p i0 (r :: l) = sel p (i0 + 1) l := by simp [sel, hp]
      rw [h0, h00, List.foldl_cons]
      refine fold_comm f r _ (fun r' hr' => ?_) c
      obtain ⟨i, h1, h2⟩ := sel_sub p l (i0 + 1) r' hr'
      exact hc (i + 1) r' (by simpa using h2) (by omega) (by rwa [Nat.add_comm i 1, ← Nat.add_assoc])
    | succ j =>
      have h' : l[j]? = some rj := by simpa using h
      have hp' : p (i0 + 1 + j) = false := by rw [Nat.add_assoc, Nat.add_comm 1 j]; exact hp
      have hc' : ∀ (i : Nat) (r : Rec E), l[i]? = some r → j < i → p (i0 + 1 + i) = true → ∀ c, f r (f rj c) = f rj (f r c) := fun i r hi hj hpi => hc (i + 1) r (by simpa using hi) (by omega) (by rwa [Nat.add_comm i 1, ← Nat.add_assoc])
      have hfun : (fun i => p i || decide (i = i0 + 1 + j)) = (fun i => p i || decide (i = i0 + (j + 1))) := by
        funext i; congr 2; simp only [eq_iff_iff]; omega
      have ih := fun c => fold_more f p j rj l (i0 + 1) c h' hp' hc'
      rw [hfun] at ih
      have hi0 : (p i0 || decide (i0 = i0 + (j + 1))) = p i0 := by
        have : decide (i0 = i0 + (j + 1)) = false := by simp
        rw [this, Bool.or_false]
      simp only [sel, hi0]
      cases hpi : p i0 with
      | true => simp only [List.foldl_cons]; exact ih _
      | false => exact ih _

end

end Go.Proofs.Ytejfpemjmpoddaa.Vx
/-! Regions, on: which operations mind each other; what a step depends on. -/
namespace Go.Proofs.Ytejfpemjmpoddaa.Vx
open Go

section
variable {P : Program} {E : Env} {O : Orc E}

theorem rdL_congr {rd rd' : Operand → Option (V E.Ty)} : ∀ (os : List Operand), (∀ x ∈ os, rd x = rd' x) → rdL rd os = rdL rd' os
  | [], _ => rfl
  | o :: os, h => by simp only [rdL, h o (by simp), rdL_congr os (fun x hx => h x (by simp [hx]))]

theorem rdP_congr {rd rd' : Operand → Option (V E.Ty)} : ∀ (os : List (Nat × Operand)), (∀ x ∈ os.map (·.2), rd x = rd' x) → rdP rd os = rdP rd' os
  | [], _ => rfl
  | (i, o) :: os, h => by
    have h1 := h o (by simp)
    have h2 := rdP_congr os (fun x hx => h x (by simp only [List.map_cons, List.mem_cons]; exact .inr hx))
    simp only [rdP, h1, h2]

theorem opA_congr (o : Oper) (g : Bool) (b : Nat) {rd rd' : List (Nat × Bool) → Operand → Option (V E.Ty)} (h : ∀ x ∈ o.op.operands, ∀ m, rd m x = rd' m x) : opA o g rd b = opA o g rd' b := by
  obtain ⟨dst, op, type, pos, after, guard⟩ := o
  simp only at h
  cases op with
  | pick c a b' =>
    cases c with
    | tmp t => simp only [opA, h (.tmp t) (by simp [Op.operands]), h a (by simp [Op.operands]), h b' (by simp [Op.operands])]
    | _ => rfl
  | build t ps => simp only [opA, rdP_congr (rd := rd []) (rd' := rd' []) ps.toList (fun x hx => h x (by simpa [Op.operands] using hx) _)]
  | buildSlice t n ps => simp only [opA, rdP_congr (rd := rd []) (rd' := rd' []) ps.toList (fun x hx => h x (by simpa [Op.operands] using hx) _)]
  | slice t x lo hi mx =>
    cases mx with
    | some m => rfl
    | none => cases lo <;> cases hi <;> simp_all [opA, Op.operands, rdO]
  | makeFunc fn first captured =>
    cases fn with
    | func f => simp only [opA, rdL_congr (rd := rd []) (rd' := rd' []) captured.toList (fun x hx => h x (by simp [Op.operands] at hx ⊢; exact .inr hx) _)]
    | _ => rfl
  | call c =>
    have h1 := rdL_congr (rd := rd []) (rd' := rd' []) c.args.toList (fun x hx => h x (by simp [Op.operands, Call.operands] at hx ⊢; first | exact .inl hx | exact .inr hx) _)
    simp only [opA, h1]
    cases hc : c.callee with
    | value f => simp only [h f (by simp [Op.operands, Call.operands, hc]) []]
    | _ => rfl
  | _ => first
    | rfl
    | (simp only [Op.operands] at h; simp_all [opA]; done)

theorem condOf_congr {t t' : List (Nat × V E.Ty)} : ∀ (ch : List (Nat × Bool)), (∀ d ∈ keys ch, find t' d = find t d) → condOf t' ch = condOf t ch
  | [], _ => rfl
  | (d, b) :: ch, h => by
    rw [condOf_cons, condOf_cons, condOf_congr ch (fun d hd => h d (by simp [keys, hd]))]
    have := h d (by simp [keys])
    simp only [litB, this]

/-- neither minds the other -/
structure Ind (ri rj : Rec E) : Prop where
  d1 : ∀ d, ri.o.dst = some d → rj.o.dst ≠ some d ∧ d ∉ tmpsOf rj.o ∧ d ∉ keys rj.ch
  d2 : ∀ d, rj.o.dst = some d → ri.o.dst ≠ some d ∧ d ∉ tmpsOf ri.o ∧ d ∉ keys ri.ch
  w1 : ∀ x ∈ (leOf ri).wr, x ∉ (leOf rj).tch ∧ x ∉ (leOf rj).frz ∧ x ∉ (leOf rj).wr
  w2 : ∀ x ∈ (leOf rj).wr, x ∉ (leOf ri).tch ∧ x ∉ (leOf ri).frz ∧ x ∉ (leOf ri).wr

theorem Ind.symm {ri rj : Rec E} (h : Ind ri rj) : Ind rj ri := ⟨h.d2, h.d1, h.w2, h.w1⟩

theorem dstIn_false {o : Oper} {l : List Nat} (h : dstIn o l = false) : ∀ d, o.dst = some d → d ∉ l := by
  intro d hd
  simp only [dstIn, hd] at h
  exact (mem_false_iff _ _).1 h

theorem pairOk_ind {ri rj : Rec E} {bj i : Nat} (h : pairOk ri.o rj.o bj i (leOf ri) (leOf rj) = true) :
    (∀ d, rj.o.dst = some d → d ∉ keys ri.ch) ∧ (bj.testBit i = true ∨ Ind ri rj) := by
  simp only [pairOk, Bool.and_eq_true, Bool.or_eq_true, Bool.not_eq_true'] at h
  obtain ⟨h0, h⟩ := h
  refine ⟨dstIn_false h0, ?_⟩
  rcases h with h | ⟨⟨⟨h1, h2⟩, h3⟩, h4⟩
  · exact .inl h
  · right
    have e1 := dstIn_false h1
    have e2 := dstIn_false h2
    have e3 := disj_ok h3
    have e4 := disj_ok h4
    refine ⟨fun d hd => ?_, fun d hd => ?_, fun x hx => ?_, fun x hx => ?_⟩
    · have := e1 d hd
      simp only [List.mem_append, not_or] at this
      refine ⟨fun hj => this.1.1 (by rw [hj]; simp), this.1.2, this.2⟩
    · have h5 := e2 d hd
      simp only [List.mem_append, not_or] at h5
      refine ⟨fun hi => ?_, h5.1, h5.2⟩
      have := e1 d hi
      simp only [List.mem_append, not_or] at this
      exact this.1.1 (by rw [hd]; simp)
    · have := e3 x hx
      simp only [List.mem_append, not_or] at this
      exact ⟨this.1.1, this.1.2, this.2⟩
    · have := e4 x hx
      simp only [List.mem_append, not_or] at this
      exact ⟨this.1.1, this.1.2, this.2⟩

theorem rowOk_at {o : Oper} {b : Nat} {le : LE} : ∀ (l : List DE) (i0 : Nat), rowOk o b le i0 l = true → ∀ (i : Nat) (d : DE), l[i]? = some d → pairOk d.o o b (i0 + i) d.le le = true
  | [], _, _, i, d, h => by simp at h
  | q :: l, i0, h, i, d, hi => by
    simp only [rowOk] at h
    split at h
    · rename_i hp
      cases i with
      | zero => simp at hi; subst hi; exact hp
      | succ i =>
        have := rowOk_at l (i0 + 1) h i d (by simpa using hi)
        rwa [Nat.add_assoc, Nat.add_comm 1 i] at this
    · cases h

theorem pairsOk_at : ∀ (l pre : List DE), pairsOk pre l = true → ∀ (j : Nat) (d : DE), l[j]? = some d → rowOk d.o d.bits d.le 0 (pre ++ l.take j) = true
  | [], _, _, j, d, h => by simp at h
  | q :: l, pre, h, j, d, hj => by
    simp only [pairsOk] at h
    split at h
    · rename_i hp
      cases j with
      | zero => simp at hj; subst hj; simpa using hp
      | succ j =>
        have := pairsOk_at l _ h j d (by simpa using hj)
        simpa using this
    · cases h

theorem zipD_at : ∀ (os : List Oper) (bs : List Nat) (ls : List LE) (j : Nat) (o : Oper) (b : Nat) (l : LE), os[j]? = some o → bs[j]? = some b → ls[j]? = some l → (zipD os bs ls)[j]? = some ⟨o, b, l⟩
  | [], _, _, _, _, _, _, h, _, _ => by simp at h
  | _ :: _, [], _, _, _, _, _, _, h, _ => by simp at h
  | _ :: _, _ :: _, [], _, _, _, _, _, _, h => by simp at h
  | o' :: os, b' :: bs, l' :: ls, j, o, b, l, h1, h2, h3 => by
    simp only [zipD]
    cases j with
    | zero => simp at h1 h2 h3 ⊢; simp [h1, h2, h3]
    | succ j => simpa using zipD_at os bs ls j o b l (by simpa using h1) (by simpa using h2) (by simpa using h3)

/-! what must stand behind what -/

def DepsIn (p : Nat → Bool) (o : Oper) : Prop := ∀ e ∈ o.after.toList, Region.binds .any e = true → p e.on = true
def ClosedP (os : List Oper) (p : Nat → Bool) : Prop := ∀ (j : Nat) (o : Oper), os[j]? = some o → p j = true → DepsIn p o

theorem bits_fold (acc : List Nat) (i : Nat) : ∀ (l : List Edge) (s0 : Nat), (l.foldl (fun s e => match Region.binds .any e with | true => s ||| 2 ^ e.on ||| acc.getD e.on 0 | false => s) s0).testBit i = true →
    s0.testBit i = true ∨ ∃ e ∈ l, Region.binds .any e = true ∧ (e.on = i ∨ (acc.getD e.on 0).testBit i = true)
  | [], s0, h => .inl h
  | e :: l, s0, h => by
    rw [List.foldl_cons] at h
    rcases bits_fold acc i l _ h with h1 | ⟨e', he', h1⟩
    · cases hb : Region.binds .any e with
      | true =>
        rw [hb] at h1
        simp only [Nat.testBit_or, Bool.or_eq_true] at h1
        rcases h1 with (h1 | h1) | h1
        · exact .inl h1
        · rw [Nat.testBit_two_pow] at h1
          exact .inr ⟨e, by simp, hb, .inl (of_decide_eq_true h1)⟩
        · exact .inr ⟨e, by simp, hb, .inr h1⟩
      | false =>
        rw [hb] at h1
        exact .inl h1
    · exact .inr ⟨e', by simp [he'], h1⟩

def BInv (all : List Oper) (pre : List Oper) (acc : List Nat) : Prop := acc.length = pre.length ∧
  ∀ (j : Nat) (o : Oper) (b i : Nat), pre[j]? = some o → acc[j]? = some b → b.testBit i = true → ∀ p, ClosedP all p → DepsIn p o → p i = true

theorem bits_inv (ops : Array Oper) (all : List Oper) : ∀ (os pre : List Oper) (acc : List Nat), all = pre ++ os → BInv all pre acc → BInv all all (bitAfter ops os acc)
  | [], pre, acc, ha, h => by
    rw [List.append_nil] at ha
    subst ha
    exact h
  | o :: os, pre, acc, ha, h => by
    unfold bitAfter
    refine bits_inv ops all os (pre ++ [o]) _ (by rw [ha]; simp) ⟨by simp [h.1], ?_⟩
    intro j o' b i ho hb hi p hp hd
    by_cases hj : j < pre.length
    · rw [List.getElem?_append_left hj] at ho
      rw [List.getElem?_append_left (by rw [h.1]; exact hj)] at hb
      exact h.2 j o' b i ho hb hi p hp hd
    · rw [List.getElem?_append_right (by omega)] at ho
      rw [List.getElem?_append_right (by rw [h.1]; omega), h.1] at hb
      have hj0 : j - pre.length = 0 := by
        have := lt_of_getElem? ho
        simp at this; omega
      rw [hj0] at ho hb
      simp only [List.getElem?_cons_zero, Option.some.injEq] at ho hb
      subst ho hb
      rcases bits_fold acc i _ 0 hi with h1 | ⟨e, he, hbd, h1⟩
      · simp at h1
      · have hpe := hd e he hbd
        rcases h1 with h1 | h1
        · subst h1; exact hpe
        · have hlt : e.on < acc.length := by
            rcases Nat.lt_or_ge e.on acc.length with h2 | h2
            · exact h2
            · rw [List.getD_eq_getElem?_getD, List.getElem?_eq_none h2] at h1
              simp at h1
          have hlt2 : e.on < pre.length := by rw [← h.1]; exact hlt
          have hget : pre[e.on]? = some pre[e.on] := List.getElem?_eq_getElem hlt2
          rw [List.getD_eq_getElem?_getD, List.getElem?_eq_getElem hlt] at h1
          refine h.2 e.on pre[e.on] acc[e.on] i hget (List.getElem?_eq_getElem hlt) (by simpa using h1) p hp ?_
          exact hp e.on _ (by rw [ha, List.getElem?_append_left hlt2]; exact hget) hpe

theorem backOk_at : ∀ (os : List Oper) (j0 : Nat), backOk j0 os = true → ∀ (j : Nat) (o : Oper), os[j]? = some o → ∀ e ∈ o.after.toList, Region.binds .any e = true → e.on < j0 + j
  | [], _, _, j, o, h => by simp at h
  | q :: os, j0, h, j, o, hj => by
    simp only [backOk] at h
    split at h
    · rename_i hq
      cases j with
      | zero =>
        simp at hj; subst hj
        intro e he hb
        have := List.all_eq_true.1 hq e he
        rw [hb] at this
        simp only [Bool.not_true, Bool.false_or] at this
        exact Nat.le_of_ble_eq_true this
      | succ j =>
        intro e he hb
        have := backOk_at os (j0 + 1) h j o (by simpa using hj) e he hb
        omega
    · cases h

/-- of two operations the later one stands behind the first in every order, or neither minds the other -/
theorem drawOk_ind {ops : Array Oper} {recs : List (Rec E)} (ho : recs.map (·.o) = ops.toList) (h : drawOk ops (recs.map leOf).reverse = true) {i j : Nat} {ri rj : Rec E} (hi : recs[i]? = some ri) (hj : recs[j]? = some rj) (hij : i < j) :
    (∀ d, rj.o.dst = some d → d ∉ keys ri.ch) ∧ ((∀ p, ClosedP ops.toList p → DepsIn p rj.o → p i = true) ∨ Ind ri rj) := by
  simp only [drawOk, Bool.and_eq_true, List.reverse_reverse] at h
  obtain ⟨_, h⟩ := h
  have hb : BInv ops.toList ops.toList (bitAfter ops ops.toList []) := bits_inv ops ops.toList ops.toList [] [] rfl ⟨rfl, by simp⟩
  have hoi : ops.toList[i]? = some ri.o := by rw [← ho, List.getElem?_map, hi]; rfl
  have hoj : ops.toList[j]? = some rj.o := by rw [← ho, List.getElem?_map, hj]; rfl
  obtain ⟨bi, hbi⟩ : ∃ b, (bitAfter ops ops.toList [])[i]? = some b := by
    have hlt : i < (bitAfter ops ops.toList []).length := by rw [hb.1]; exact lt_of_getElem? hoi
    exact ⟨_, List.getElem?_eq_getElem hlt⟩
  obtain ⟨bj, hbj⟩ : ∃ b, (bitAfter ops ops.toList [])[j]? = some b := by
    have hlt : j < (bitAfter ops ops.toList []).length := by rw [hb.1]; exact lt_of_getElem? hoj
    exact ⟨_, List.getElem?_eq_getElem hlt⟩
  have hli : (recs.map leOf)[i]? = some (leOf ri) := by rw [List.getElem?_map, hi]; rfl
  have hlj : (recs.map leOf)[j]? = some (leOf rj) := by rw [List.getElem?_map, hj]; rfl
  have zi := zipD_at _ _ _ i _ _ _ hoi hbi hli
  have zj := zipD_at _ _ _ j _ _ _ hoj hbj hlj
  have h1 := pairsOk_at _ _ h j _ zj
  rw [List.nil_append] at h1
  have h2 := rowOk_at _ 0 h1 i _ (by rw [List.getElem?_take, if_pos hij]; exact zi)
  rw [Nat.zero_add] at h2
  obtain ⟨k1, k2⟩ := pairOk_ind h2
  refine ⟨k1, ?_⟩
  rcases k2 with k2 | k2
  · exact .inl (fun p hp hd => hb.2 j _ _ i hoj hbj k2 p hp hd)
  · exact .inr k2

/-! what one operation makes of a root -/

theorem find_none_of {α : Type} {l : List (Nat × α)} {x : Nat} (h : x ∉ keys l) : find l x = none := by
  cases hf : find l x with
  | none => rfl
  | some v => exact absurd (mem_keys.2 ⟨v, mem_of_find hf⟩) h

theorem keys_newL : ∀ (l : List (RC E.Ty)) (b x : Nat), x ∈ keys (newL b l) ↔ b ≤ x ∧ x < b + l.length
  | [], b, x => by simp [newL, keys]
  | rc :: l, b, x => by
    simp only [newL, keys, List.mem_cons, keys_newL l (b + 1) x, List.length_cons]
    omega

theorem rS_off {r : Rec E} {x : Nat} (h : x ∉ (leOf r).wr) (c : Option (RC E.Ty)) : rS r x c = c.map fun rc => if x ∈ r.e.frz then frzOf rc else rc := by
  simp only [leOf, List.mem_append, not_or] at h
  obtain ⟨⟨⟨h1, h2⟩, _⟩, h4⟩ := h
  rw [keys_newL] at h4
  unfold rS
  rw [find_none_of h1]
  simp only [h2, if_false]
  cases c with
  | some rc => rfl
  | none =>
    simp only [Option.map_none]
    by_cases hx : x < r.nx
    · simp [hx]
    · simp only [hx, if_false]
      exact List.getElem?_eq_none (by omega)

theorem frzOf_frzOf (rc : RC E.Ty) : frzOf (frzOf rc) = frzOf rc := by cases rc <;> rfl

theorem rS_comm {ri rj : Rec E} (h : Ind ri rj) (x : Nat) (c : Option (RC E.Ty)) : rS ri x (rS rj x c) = rS rj x (rS ri x c) := by
  by_cases hi : x ∈ (leOf ri).wr
  · obtain ⟨_, h2, h3⟩ := h.w1 x hi
    have hid : ∀ c, rS rj x c = c := fun c => by
      rw [rS_off h3]
      have h2' : x ∉ rj.e.frz := h2
      simp [h2']
    rw [hid, hid]
  · by_cases hj : x ∈ (leOf rj).wr
    · obtain ⟨_, h2, h3⟩ := h.w2 x hj
      have hid : ∀ c, rS ri x c = c := fun c => by
        rw [rS_off h3]
        have h2' : x ∉ ri.e.frz := h2
        simp [h2']
      rw [hid, hid]
    · rw [rS_off hi, rS_off hj, rS_off hi, rS_off hj]
      cases c with
      | none => rfl
      | some rc =>
        simp only [Option.map_some]
        by_cases h1 : x ∈ ri.e.frz <;> by_cases h2 : x ∈ rj.e.frz <;> simp [h1, h2]

theorem rS_mod (r : Rec E) (x : Nat) (c c' : Option (RC E.Ty)) (h : c.map frzOf = c'.map frzOf) : (rS r x c).map frzOf = (rS r x c').map frzOf := by
  unfold rS
  cases find r.e.wr x with
  | some rc => rfl
  | none =>
    simp only []
    by_cases hk : x ∈ r.e.kill
    · simp [hk]
    · simp only [hk, if_false]
      cases c with
      | none =>
        cases c' with
        | none => rfl
        | some rc' => simp at h
      | some rc =>
        cases c' with
        | none => simp at h
        | some rc' =>
          simp only [Option.map_some, Option.some.injEq] at h ⊢
          by_cases hf : x ∈ r.e.frz
          · simp [hf, h]
          · simp [hf, h]

end

end Go.Proofs.Ytejfpemjmpoddaa.Vx
/-! Regions, on: one that is run in the text's order, and one that draws its order. -/
namespace Go.Proofs.Ytejfpemjmpoddaa.Vx
open Go

section
variable {P : Program} {E : Env} {O : Orc E} {cx : Cx}

/-! nothing but what stands at each number matters -/

theorem Rel.congr {gd gd' : List (Nat × List (Nat × Bool))} {t t' : List (Nat × V E.Ty)} {roots roots' : List (Nat × RC E.Ty)} {S : Nat → Prop} {β : Nat → Value} {ω : Nat → List Nat} {D D' : Nat → Prop} {a : Act} {w : World}
    (h : Rel E cx gd t roots S β ω D a w) (ht : ∀ x, find t' x = find t x) (hg : ∀ x, find gd' x = find gd x) (hr : ∀ x, find roots' x = find roots x) (hD : ∀ r, D r ↔ D' r) : Rel E cx gd' t' roots' S β ω D' a w := by
  have hDD : D = D' := funext fun r => propext (hD r)
  subst hDD
  have hch : ∀ x, chainOf gd' x = chainOf gd x := fun x => by unfold chainOf; rw [hg]
  have hco : ∀ ch, condOf t' ch = condOf t ch := fun ch => condOf_congr ch (fun d _ => ht d)
  have hm := h.mem
  refine ⟨⟨fun r rc hf => hm.lt r rc (by rwa [← hr]), fun r rc hf => hm.ok r rc (by rwa [← hr]), fun r r' rc rc' h1 h2 => hm.dis r r' rc rc' (by rwa [← hr]) (by rwa [← hr]), fun r rc hf => hm.ob r rc (by rwa [← hr]), hm.sb, hm.sn, hm.fr, hm.sz, hm.os, hm.tape, hm.out, hm.up⟩,
    fun x v hx hf hc => h.tm x v hx (by rwa [← ht]) (by rwa [← hco, ← hch]), fun x v hx hf => h.pt x v hx (by rwa [← ht]), fun x hc => h.gdo x (by rwa [← hco, ← hch]), fun x c hf => h.gdn x c (by rwa [← hg]), h.sz, h.df⟩

theorem RV.heap {w w' : World} (hh : w'.heap = w.heap) {S : Nat → Prop} {β : Nat → Value} {D : Nat → Prop} {v : V E.Ty} {cv : Value} (h : RV E w S β D v cv) : RV E w' S β D v cv :=
  h.mono (fun b _ => by rw [hh]) (fun _ h => h) (fun _ h => h) (fun _ _ => rfl)

/-- a world that differs in no memory -/
theorem Rel.heap {w w' : World} {gd : List (Nat × List (Nat × Bool))} {t : List (Nat × V E.Ty)} {roots : List (Nat × RC E.Ty)} {S : Nat → Prop} {β : Nat → Value} {ω : Nat → List Nat} {D : Nat → Prop} {a : Act}
    (h : Rel E cx gd t roots S β ω D a w) (hh : w'.heap = w.heap) (ho : w'.os = w.os) (htp : w'.tape = w.tape) (hout : w'.output = w.output) : Rel E cx gd t roots S β ω D a w' := by
  have hm := h.mem
  refine ⟨⟨hm.lt, fun r rc hf => (hm.ok r rc hf).mono (fun b _ => by rw [hh]) (fun b _ => by rw [hh]) (fun _ h => h) (fun _ h => h) (fun _ _ => rfl), hm.dis, fun r rc hf b hb => by rw [hh]; exact hm.ob r rc hf b hb, fun b hb => by rw [hh]; exact hm.sb b hb, hm.sn,
    fun b hb hM => by rw [hh]; exact hm.fr b hb hM, by rw [hh]; exact hm.sz, ho.trans hm.os, htp.trans hm.tape, hout.trans hm.out, hm.up⟩,
    fun x v hx hf hc => (h.tm x v hx hf hc).heap hh, fun x v hx hf => (h.pt x v hx hf).heap hh, h.gdo, h.gdn, h.sz, h.df⟩

variable {all : Array Oper} {Q : Exit → Act → World → Prop}

/-- in the text's order -/
theorem seq_ok (hT : TIok P E) (hG : Good E) (hQ : EqOk P E) (hO : ∀ f x y, O.call f x = some y → FnOk P E f x y) (hn : ∀ (j : Nat) (o' : Oper) (d : Nat), all[j]? = some o' → o'.dst = some d → d < cx.n) :
    ∀ (recs : List (Rec E)) (i0 : Nat) (t : List (Nat × V E.Ty)) (gd : List (Nat × List (Nat × Bool))) (roots : List (Nat × RC E.Ty)) (nx : Nat) (S : Nat → Prop) (β : Nat → Value) (ω : Nat → List Nat) (a : Act) (w : World),
    recs.map (·.o) = all.toList.drop i0 → Facts O cx.n all t gd roots nx recs → Rel E cx gd t roots S β ω (fun x => x < nx) a w →
    (∀ S' β' ω' a' w', Rel E cx (gRun gd recs) (tRun t recs) (rRun roots recs) S' β' ω' (fun x => x < nRun nx recs) a' w' → Q .normal a' w') → wpOps P all Q (List.range' i0 recs.length) a w
  | [], i0, t, gd, roots, nx, S, β, ω, a, w, _, _, hrel, hK => hK S β ω a w hrel
  | r :: recs, i0, t, gd, roots, nx, S, β, ω, a, w, hdrop, hF, hrel, hK => by
    obtain ⟨hnx, hf, hF'⟩ := hF
    simp only [List.length_cons, List.range'_succ]
    rw [wpOps_cons]
    have hi : all[i0]? = some r.o := by
      have : (all.toList.drop i0)[0]? = some r.o := by rw [← hdrop]; rfl
      rw [List.getElem?_drop] at this
      simpa using this
    have hdrop' : recs.map (·.o) = all.toList.drop (i0 + 1) := by
      rw [← List.drop_drop, ← hdrop]; rfl
    have hsub := sub_ok hf.sub
    subst hnx
    refine vstep_ok (st := ⟨t, roots, r.nx⟩) (nx := r.nx) (e := r.e) hT hG hQ hO hrel hi hf.g hn (dst_ok hf.d) hf.run hf.ok (fun x hx => hsub x (by simp [hx])) (fun k _ hlt => by omega) (fun S' β' ω' a' w' hrel' => ?_)
    have hgr : Grown (fun x => x < r.nx) r.nx r.e.new.length = fun x => x < r.nx + r.e.new.length := by
      funext x; simp only [Grown]; apply propext; omega
    rw [hgr] at hrel'
    exact seq_ok hT hG hQ hO hn recs (i0 + 1) _ _ _ _ S' β' ω' a' w' hdrop' hF' hrel' hK

theorem nRun_le : ∀ (l : List (Rec E)) (nx : Nat), nx ≤ nRun nx l
  | [], nx => Nat.le_refl _
  | r :: l, nx => Nat.le_trans (Nat.le_add_right _ _) (nRun_le l (nx + r.e.new.length))

theorem nRun_app (l m : List (Rec E)) (nx : Nat) : nRun nx (l ++ m) = nRun (nRun nx l) m := by simp [nRun]

theorem nRun_lt {recs : List (Rec E)} {i j : Nat} {ri : Rec E} (hi : recs[i]? = some ri) (hij : i < j) (nx : Nat) : nRun nx (recs.take i) + ri.e.new.length ≤ nRun nx (recs.take j) := by
  have h1 : recs.take j = (recs.take i ++ [ri]) ++ (recs.drop (i + 1)).take (j - (i + 1)) := by
    have h2 : recs.take (i + 1) = recs.take i ++ [ri] := by
      rw [List.take_add_one, hi]; rfl
    rw [← h2, ← List.take_add]
    congr 1; omega
  rw [h1, nRun_app, nRun_app]
  exact nRun_le _ _

/-- which numbers are in use when some operations have come to pass -/
def DL (nx : Nat) (recs : List (Rec E)) (p : Nat → Bool) : Nat → Prop := fun x => x < nx ∨ ∃ i r, recs[i]? = some r ∧ p i = true ∧ r.nx ≤ x ∧ x < r.nx + r.e.new.length

theorem tRun_local {recs : List (Rec E)} {p : Nat → Bool} {j x : Nat} (t : List (Nat × V E.Ty)) (h : ∀ i r, recs[i]? = some r → p i ≠ decide (i < j) → r.o.dst ≠ some x) : find (tRun t (sel p 0 recs)) x = find (tRun t (recs.take j)) x := by
  rw [find_tRun, find_tRun, ← sel_take recs 0 j]
  refine fold_same (fun r c => tS r x c) id p _ recs 0 _ _ rfl (fun i r hi hp c => ?_) (fun _ _ _ c c' h => by have h : c = c' := h; rw [h])
  simp only [Nat.zero_add] at hp
  simp [tS, h i r hi hp]

theorem gRun_local {recs : List (Rec E)} {p : Nat → Bool} {j x : Nat} (t : List (Nat × List (Nat × Bool))) (h : ∀ i r, recs[i]? = some r → p i ≠ decide (i < j) → r.o.dst ≠ some x) : find (gRun t (sel p 0 recs)) x = find (gRun t (recs.take j)) x := by
  rw [find_gRun, find_gRun, ← sel_take recs 0 j]
  refine fold_same (fun r c => gS r x c) id p _ recs 0 _ _ rfl (fun i r hi hp c => ?_) (fun _ _ _ c c' h => by have h : c = c' := h; rw [h])
  simp only [Nat.zero_add] at hp
  simp [gS, h i r hi hp]

theorem rRun_local {recs : List (Rec E)} {p : Nat → Bool} {j x : Nat} (t : List (Nat × RC E.Ty)) (hnd : ∀ r ∈ recs, nodup (keys r.e.wr) = true) (h : ∀ i r, recs[i]? = some r → p i ≠ decide (i < j) → x ∉ (leOf r).wr) :
    (find (rRun t (sel p 0 recs)) x).map frzOf = (find (rRun t (recs.take j)) x).map frzOf ∧
    ((∀ i r, recs[i]? = some r → p i ≠ decide (i < j) → x ∉ r.e.frz) → find (rRun t (sel p 0 recs)) x = find (rRun t (recs.take j)) x) := by
  have hsub : ∀ r ∈ sel p 0 recs, nodup (keys r.e.wr) = true := fun r hr => by
    obtain ⟨i, _, h2⟩ := sel_sub p recs 0 r hr
    exact hnd r (List.mem_of_getElem? h2)
  rw [find_rRun _ _ _ hsub, find_rRun _ _ _ (fun r hr => hnd r (List.mem_of_mem_take hr)), ← sel_take recs 0 j]
  constructor
  · refine fold_same (fun r c => rS r x c) (fun c => c.map frzOf) p _ recs 0 _ _ rfl (fun i r hi hp c => ?_) (fun _ r _ c c' h => rS_mod r x c c' h)
    simp only [Nat.zero_add] at hp
    simp only [rS_off (h i r hi hp)]
    cases c with
    | none => rfl
    | some rc =>
      simp only [Option.map_some]
      by_cases hf : x ∈ r.e.frz
      · simp [hf, frzOf_frzOf]
      · simp [hf]
  · intro hf
    refine fold_same (fun r c => rS r x c) id p _ recs 0 _ _ rfl (fun i r hi hp c => ?_) (fun _ r _ c c' h => by have h : c = c' := h; rw [h])
    simp only [Nat.zero_add] at hp
    simp only [rS_off (h i r hi hp), hf i r hi hp, if_false, Option.map_id', id]

theorem asksOf_mem {l : List (Nat × Bool)} {r : Nat} (h : (r, true) ∈ l) : r ∈ asksOf l := by
  induction l with
  | nil => simp at h
  | cons q l ih =>
    obtain ⟨x, b⟩ := q
    cases b with
    | true =>
      simp only [asksOf, List.mem_cons]
      rcases List.mem_cons.1 h with h' | h'
      · cases h'; exact .inl rfl
      · exact .inr (ih h')
    | false =>
      simp only [asksOf]
      rcases List.mem_cons.1 h with h' | h'
      · cases h'
      · exact ih h'

theorem chain_sel {l : List (Rec E)} {x : Nat} {q : Nat × Bool} (h : q ∈ chainOf (gRun [] l) x) : ∃ r ∈ l, q ∈ r.ch := by
  have hfold : ∀ (l : List (Rec E)) (c0 c : Option (List (Nat × Bool))), l.foldl (fun c r => gS r x c) c0 = c → c = c0 ∨ ∃ r ∈ l, c = some r.ch := by
    intro l
    induction l with
    | nil => intro c0 c h; exact .inl h.symm
    | cons r l ih =>
      intro c0 c h
      rw [List.foldl_cons] at h
      rcases ih _ c h with h' | ⟨r', hr', h'⟩
      · unfold gS at h'
        split at h'
        · exact .inr ⟨r, by simp, h'⟩
        · exact .inl h'
      · exact .inr ⟨r', by simp [hr'], h'⟩
  unfold chainOf at h
  cases hf : find (gRun [] l) x with
  | none => rw [hf] at h; simp at h
  | some c =>
    rw [hf] at h
    rw [find_gRun] at hf
    rcases hfold l _ _ hf with h' | ⟨r, hr, h'⟩
    · simp [find] at h'
    · cases h'
      exact ⟨r, hr, h⟩

end

end Go.Proofs.Ytejfpemjmpoddaa.Vx
/-! Regions, on: any order. -/
namespace Go.Proofs.Ytejfpemjmpoddaa.Vx
open Go

section
variable {P : Program} {E : Env} {O : Orc E} {cx : Cx} {ops : Array Oper} {Q : Exit → Act → World → Prop}

theorem getD_set (l : Array Bool) (i j : Nat) (hi : i < l.size) : (l.setIfInBounds i true).getD j false = (l.getD j false || decide (j = i)) := by
  by_cases h : j = i
  · subst h
    simp [Array.getD_eq_getD_getElem?, hi]
  · have hne : i ≠ j := fun e => h e.symm
    simp [Array.getD_eq_getD_getElem?, Array.getElem?_setIfInBounds_ne hne, h]

theorem draw_any (hT : TIok P E) (hG : Good E) (hQ : EqOk P E) (hO : ∀ f x y, O.call f x = some y → FnOk P E f x y) (hn : ∀ (j : Nat) (o' : Oper) (d : Nat), ops[j]? = some o' → o'.dst = some d → d < cx.n)
    {recs : List (Rec E)} {t : List (Nat × V E.Ty)} {roots : List (Nat × RC E.Ty)} {nx : Nat} (ho : recs.map (·.o) = ops.toList) (hF : Facts O cx.n ops t [] roots nx recs) (hdr : drawOk ops (recs.map leOf).reverse = true)
    (hK : ∀ S' β' ω' a' w', Rel E cx (gRun [] recs) (tRun t recs) (rRun roots recs) S' β' ω' (fun x => x < nRun nx recs) a' w' → Q .normal a' w') :
    ∀ (fuel : Nat) (listed : Array Bool) (S : Nat → Prop) (β : Nat → Value) (ω : Nat → List Nat) (a : Act) (w : World), listed.size = ops.size → ClosedP ops.toList (fun i => listed.getD i false) →
      ops.size ≤ (sel (fun i => listed.getD i false) 0 recs).length + fuel →
      Rel E cx (gRun [] (sel (fun i => listed.getD i false) 0 recs)) (tRun t (sel (fun i => listed.getD i false) 0 recs)) (rRun roots (sel (fun i => listed.getD i false) 0 recs)) S β ω (DL nx recs (fun i => listed.getD i false)) a w →
      wpAny P .any ops Q fuel listed a w := by
  have hat := Facts.at recs t [] roots nx hF
  have hlen : recs.length = ops.size := by
    have := congrArg List.length ho
    simpa using this
  have hnd : ∀ r ∈ recs, nodup (keys r.e.wr) = true := fun r hr => by
    obtain ⟨i, hi⟩ := List.getElem?_of_mem hr
    exact (hat i r hi).2.nd
  have hop : ∀ (i : Nat) (r : Rec E), recs[i]? = some r → ops[i]? = some r.o := fun i r hi => by
    have : ops.toList[i]? = some r.o := by rw [← ho, List.getElem?_map, hi]; rfl
    simpa using this
  have hop' : ∀ (i : Nat) (o : Oper), ops[i]? = some o → ∃ r, recs[i]? = some r ∧ r.o = o := fun i o hi => by
    have h1 : (recs.map (·.o))[i]? = some o := by rw [ho]; simpa using hi
    rw [List.getElem?_map] at h1
    cases hr : recs[i]? with
    | none => simp [hr] at h1
    | some r => rw [hr] at h1; simp at h1; exact ⟨r, rfl, h1⟩
  -- all are listed
  have hfull : ∀ (listed : Array Bool) (S : Nat → Prop) (β : Nat → Value) (ω : Nat → List Nat) (a : Act) (w : World), (∀ i, i < recs.length → listed.getD i false = true) →
      Rel E cx (gRun [] (sel (fun i => listed.getD i false) 0 recs)) (tRun t (sel (fun i => listed.getD i false) 0 recs)) (rRun roots (sel (fun i => listed.getD i false) 0 recs)) S β ω (DL nx recs (fun i => listed.getD i false)) a w → Q .normal a w := by
    intro listed S β ω a w hl hrel
    rw [sel_all _ recs 0 (fun i hi => by rw [Nat.zero_add]; exact hl i hi)] at hrel
    refine hK S β ω a w (hrel.congr (fun _ => rfl) (fun _ => rfl) (fun _ => rfl) (fun x => ?_))
    constructor
    · rintro (h | ⟨i, r, hi, _, h1, h2⟩)
      · exact Nat.lt_of_lt_of_le h (nRun_le _ _)
      · have h3 := nRun_lt hi (Nat.lt_add_one i) nx
        have h4 := (hat i r hi).1
        have h5 : nRun nx (recs.take (i + 1)) ≤ nRun nx recs := by
          conv => rhs; rw [← List.take_append_drop (i + 1) recs]
          rw [nRun_app]; exact nRun_le _ _
        omega
    · intro h
      have : ∀ (l : List (Rec E)) (i0 n0 : Nat), (∀ i r, l[i]? = some r → recs[i0 + i]? = some r ∧ r.nx = nRun n0 (l.take i)) → x < nRun n0 l → x < n0 ∨ ∃ i r, recs[i]? = some r ∧ listed.getD i false = true ∧ r.nx ≤ x ∧ x < r.nx + r.e.new.length := by
        intro l
        induction l with
        | nil => intro i0 n0 _ h; exact .inl h
        | cons r l ih =>
          intro i0 n0 hr h
          obtain ⟨h1, h2⟩ := hr 0 r rfl
          have h2 : r.nx = n0 := h2
          rcases ih (i0 + 1) (n0 + r.e.new.length) (fun i r' hi => by
            obtain ⟨k1, k2⟩ := hr (i + 1) r' (by simpa using hi)
            exact ⟨by rw [Nat.add_assoc, Nat.add_comm 1 i]; exact k1, k2⟩) h with h3 | h3
          · by_cases hx : x < n0
            · exact .inl hx
            · exact .inr ⟨i0, r, by simpa using h1, hl i0 (lt_of_getElem? (by simpa using h1)), by omega, by omega⟩
          · exact .inr h3
      exact this recs 0 nx (fun i r hi => ⟨by rw [Nat.zero_add]; exact hi, (hat i r hi).1⟩) h
  have hback : ∀ (j : Nat) (o : Oper), ops[j]? = some o → ∀ e ∈ o.after.toList, Region.binds .any e = true → e.on < j := fun j o hj e he hb => by
    simp only [drawOk, Bool.and_eq_true] at hdr
    have := backOk_at _ 0 hdr.1 j o (by simpa using hj) e he hb
    omega
  -- none is ready: all are listed
  have hnone : ∀ (listed : Array Bool), listed.size = ops.size → Region.ready .any ops listed = [] → ∀ i, i < recs.length → listed.getD i false = true := by
    intro listed hsz hr
    have : ∀ n, ∀ i, i < n → i < recs.length → listed.getD i false = true := by
      intro n
      induction n with
      | zero => intro i h; omega
      | succ n ih =>
        intro i hin hi
        cases hl : listed.getD i false with
        | true => rfl
        | false =>
          exfalso
          have hio : i < ops.size := by omega
          have hmem : i ∈ Region.ready .any ops listed := by
            rw [mem_ready]
            refine ⟨?_, ops[i], by simp [hio], fun e he hb => ?_⟩
            · have : i < listed.size := by omega
              simpa [Array.getD_eq_getD_getElem?, this] using hl
            · have h1 := hback i ops[i] (by simp [hio]) e (by simpa using he) hb
              exact ih e.on (by omega) (by omega)
          rw [hr] at hmem
          simp at hmem
    exact fun i hi => this (i + 1) i (by omega) hi
  intro fuel
  induction fuel with
  | zero =>
    intro listed S β ω a w hsz hcl hfuel hrel
    have hall : ∀ i, i < recs.length → listed.getD i false = true := fun i hi => by
      have := (sel_len (fun i => listed.getD i false) recs 0).2 (by omega) i hi
      rwa [Nat.zero_add] at this
    refine ⟨?_, hfull listed S β ω a w hall hrel⟩
    cases hr : Region.ready .any ops listed with
    | nil => rfl
    | cons i l =>
      have hmem : i ∈ Region.ready .any ops listed := by rw [hr]; simp
      rw [mem_ready] at hmem
      obtain ⟨h1, o, h2, _⟩ := hmem
      have hio : i < ops.size := (Array.getElem?_eq_some_iff.1 h2).1
      have h3 := hall i (by omega)
      have : i < listed.size := by omega
      simp [Array.getD_eq_getD_getElem?, this] at h1 h3
      rw [h1] at h3; cases h3
  | succ fuel ih =>
    intro listed S β ω a w hsz hcl hfuel hrel
    refine ⟨fun hr => hfull listed S β ω a w (hnone listed hsz hr) hrel, fun j hj => ?_⟩
    rw [mem_ready] at hj
    obtain ⟨hj1, o, hjo, hdeps⟩ := hj
    obtain ⟨rj, hrj, hrjo⟩ := hop' j o hjo
    have hjs : j < ops.size := (Array.getElem?_eq_some_iff.1 hjo).1
    have hjl : listed.getD j false = false := by
      have : j < listed.size := by omega
      simpa [Array.getD_eq_getD_getElem?, this] using hj1
    generalize hp : (fun i => listed.getD i false) = p at *
    have hpj : p j = false := by rw [← hp]; exact hjl
    have hdeps' : DepsIn p rj.o := by
      rw [hrjo, ← hp]
      exact fun e he hb => hdeps e (by simpa using he) hb
    -- who is told apart from the text's order minds it not
    have hind : ∀ (i : Nat) (r : Rec E), recs[i]? = some r → p i ≠ decide (i < j) → Ind r rj := by
      intro i r hi hpi
      rcases Nat.lt_trichotomy i j with h | h | h
      · have hpf : p i = false := by simpa [h] using hpi
        rcases (drawOk_ind ho hdr hi hrj h).2 with h1 | h1
        · rw [h1 p hcl hdeps'] at hpf; cases hpf
        · exact h1
      · subst h
        simp [hpj] at hpi
      · have hpt : p i = true := by
          have : decide (i < j) = false := by simp; omega
          rw [this] at hpi
          simpa using hpi
        rcases (drawOk_ind ho hdr hrj hi h).2 with h1 | h1
        · have hd : DepsIn p r.o := hcl i r.o (by have := hop i r hi; simpa using this) hpt
          rw [h1 p hcl hd] at hpj; cases hpj
        · exact h1.symm
    obtain ⟨hnx, hfj⟩ := hat j rj hrj
    have tloc : ∀ x, (x ∈ tmpsOf rj.o ∨ x ∈ keys rj.ch) → find (tRun t (sel p 0 recs)) x = find (tRun t (recs.take j)) x := fun x hx => tRun_local t (fun i r hi hpi hd => by
      have h1 := (hind i r hi hpi).d1 x hd
      rcases hx with h | h
      · exact h1.2.1 h
      · exact h1.2.2 h)
    have gloc : ∀ x, (x ∈ tmpsOf rj.o ∨ x ∈ keys rj.ch) → find (gRun [] (sel p 0 recs)) x = find (gRun [] (recs.take j)) x := fun x hx => gRun_local [] (fun i r hi hpi hd => by
      have h1 := (hind i r hi hpi).d1 x hd
      rcases hx with h | h
      · exact h1.2.1 h
      · exact h1.2.2 h)
    have rloc := fun x (hx : x ∈ keys rj.tch) => rRun_local (j := j) (x := x) (p := p) roots hnd (fun i r hi hpi hw => ((hind i r hi hpi).w1 x hw).1 hx)
    have hcond : condOf (tRun t (sel p 0 recs)) rj.ch = condOf (tRun t (recs.take j)) rj.ch := condOf_congr _ (fun d hd => tloc d (.inr hd))
    have hgd : guardOf ops (gRun [] (sel p 0 recs)) rj.o.guard = some rj.ch := by
      have h1 := hfj.g
      unfold guardOf at h1 ⊢
      cases hg : rj.o.guard with
      | none => rw [hg] at h1; exact h1
      | some q =>
        obtain ⟨g, b⟩ := q
        rw [hg] at h1
        simp only [] at h1 ⊢
        cases hog : ops[g]? with
        | none => rw [hog] at h1; exact h1
        | some og =>
          rw [hog] at h1
          simp only [] at h1 ⊢
          cases hd : og.dst with
          | none => rw [hd] at h1; exact h1
          | some d =>
            rw [hd] at h1
            simp only [Option.some.injEq] at h1 ⊢
            have hdk : d ∈ keys rj.ch := by rw [← h1]; simp [keys]
            have hcg : chainOf (gRun [] (sel p 0 recs)) d = chainOf (gRun [] (recs.take j)) d := by unfold chainOf; rw [gloc d (.inr hdk)]
            rw [hcg]; exact h1
    have hrd : ∀ x ∈ rj.o.op.operands, ∀ m, rdf cx.n ⟨tRun t (sel p 0 recs), rRun roots (sel p 0 recs), rj.nx⟩ (gRun [] (sel p 0 recs)) rj.ch m x = rdf cx.n ⟨tRun t (recs.take j), rRun roots (recs.take j), rj.nx⟩ (gRun [] (recs.take j)) rj.ch m x := by
      intro x hx m
      cases x with
      | tmp i =>
        have hi : i ∈ tmpsOf rj.o := by
          unfold tmpsOf
          exact List.mem_filterMap.2 ⟨.tmp i, by simpa using hx, rfl⟩
        have hcg : chainOf (gRun [] (sel p 0 recs)) i = chainOf (gRun [] (recs.take j)) i := by unfold chainOf; rw [gloc i (.inl hi)]
        simp only [rdf, hcg, tloc i (.inl hi)]
      | _ => rfl
    have hrun : RunsTo O (rRun roots (sel p 0 recs)) (condOf (tRun t (sel p 0 recs)) rj.ch) (opA rj.o (isG rj.ch) (rdf cx.n ⟨tRun t (sel p 0 recs), rRun roots (sel p 0 recs), rj.nx⟩ (gRun [] (sel p 0 recs)) rj.ch) rj.nx) [] rj.e rj.tch := by
      rw [hcond, opA_congr rj.o _ _ hrd]
      refine hfj.run.local (fun r hr => ?_) (fun r hr => (rloc r (mem_keys.2 ⟨_, hr⟩)).1)
      refine (rloc r (mem_keys.2 ⟨_, hr⟩)).2 (fun i r' hi hpi => ?_)
      have : r ∈ (leOf rj).wr := by
        simp only [leOf, List.mem_append]
        exact .inl (.inr (asksOf_mem hr))
      exact ((hind i r' hi hpi).w2 r this).2.1
    have hok : okG cx.n ⟨tRun t (sel p 0 recs), rRun roots (sel p 0 recs), rj.nx⟩ rj.o rj.ch rj.e = true := by
      have h1 := hfj.ok
      unfold okG at h1 ⊢
      cases hch : rj.ch with
      | nil => rfl
      | cons q l =>
        obtain ⟨d, b⟩ := q
        rw [hch] at h1
        have : find (tRun t (sel p 0 recs)) d = find (tRun t (recs.take j)) d := tloc d (.inr (by rw [hch]; simp [keys]))
        simp only [isB, this] at h1 ⊢
        exact h1
    have hsub := sub_ok hfj.sub
    have hdst : ∀ d, rj.o.dst = some d → d < cx.n ∧ ∀ x y b, (y, b) ∈ chainOf (gRun [] (sel p 0 recs)) x → y ≠ d := by
      intro d hd
      refine ⟨(dst_ok hfj.d d hd).1, fun x y b hy he => ?_⟩
      subst he
      obtain ⟨r, hr, hq⟩ := chain_sel hy
      obtain ⟨i, hpi, hi⟩ := sel_sub p recs 0 r hr
      rw [Nat.zero_add] at hpi
      have hyk : y ∈ keys r.ch := mem_keys.2 ⟨b, hq⟩
      rcases Nat.lt_trichotomy i j with h | h | h
      · exact (drawOk_ind ho hdr hi hrj h).1 y hd hyk
      · subst h; rw [hpj] at hpi; cases hpi
      · have : Ind r rj := hind i r hi (by
          have : decide (i < j) = false := by simp; omega
          rw [this, hpi]; simp)
        exact (this.d2 y hd).2.2 hyk
    have hdis : ∀ (i : Nat) (r : Rec E), recs[i]? = some r → i ≠ j → r.nx + r.e.new.length ≤ rj.nx ∨ rj.nx + rj.e.new.length ≤ r.nx := by
      intro i r hi hij
      have h1 := (hat i r hi).1
      rcases Nat.lt_or_gt_of_ne hij with h | h
      · left; have := nRun_lt hi h nx; omega
      · right; have := nRun_lt hrj h nx; omega
    have hnxj : nx ≤ rj.nx := by rw [hnx]; exact nRun_le _ _
    have hrj' : ops[j]? = some rj.o := by rw [hrjo]; exact hjo
    refine vstep_ok (st := ⟨tRun t (sel p 0 recs), rRun roots (sel p 0 recs), rj.nx⟩) (nx := rj.nx) (e := rj.e) hT hG hQ hO hrel hrj' hgd hn hdst hrun hok (fun x hx => hsub x (by simp [hx])) (fun k hk hD => ?_) (fun S' β' ω' a' w' hrel' => ?_)
    · rcases hD with h | ⟨i, r, hi, hpi, h1, h2⟩
      · omega
      · have hij : i ≠ j := fun e => by subst e; rw [hpj] at hpi; cases hpi
        rcases hdis i r hi hij with h | h <;> omega
    · have hp' : (fun i => (listed.setIfInBounds j true).getD i false) = fun i => p i || decide (i = 0 + j) := by
        funext i
        rw [getD_set _ _ _ (by omega), Nat.zero_add, ← hp]
      have hcommI : ∀ (i : Nat) (r : Rec E), recs[i]? = some r → j < i → p (0 + i) = true → Ind r rj := fun i r hi hji hpi => hind i r hi (by
        rw [Nat.zero_add] at hpi
        have : decide (i < j) = false := by simp; omega
        rw [this, hpi]; simp)
      have hp0 : p (0 + j) = false := by rw [Nat.zero_add]; exact hpj
      have tmore : ∀ x, find (tRun t (sel (fun i => p i || decide (i = 0 + j)) 0 recs)) x = find (tPut (tRun t (sel p 0 recs)) rj.o.dst rj.e.val) x := by
        intro x
        rw [find_tPut, find_tRun, find_tRun]
        refine fold_more (fun r c => tS r x c) p j rj recs 0 _ hrj hp0 (fun i r hi hji hpi c => ?_)
        have h1 := hcommI i r hi hji hpi
        simp only [tS]
        by_cases hd : rj.o.dst = some x
        · have := (h1.d2 x hd).1
          simp [hd, this]
        · simp [hd]
      have gmore : ∀ x, find (gRun [] (sel (fun i => p i || decide (i = 0 + j)) 0 recs)) x = find (gdPut (gRun [] (sel p 0 recs)) rj.o.dst rj.ch) x := by
        intro x
        rw [find_gdPut, find_gRun, find_gRun]
        refine fold_more (fun r c => gS r x c) p j rj recs 0 _ hrj hp0 (fun i r hi hji hpi c => ?_)
        have h1 := hcommI i r hi hji hpi
        simp only [gS]
        by_cases hd : rj.o.dst = some x
        · have := (h1.d2 x hd).1
          simp [hd, this]
        · simp [hd]
      have hselnd : ∀ (q : Nat → Bool) (r : Rec E), r ∈ sel q 0 recs → nodup (keys r.e.wr) = true := fun q r hr => by
        obtain ⟨i, _, h2⟩ := sel_sub q recs 0 r hr
        exact hnd r (List.mem_of_getElem? h2)
      have rmore : ∀ x, find (rRun roots (sel (fun i => p i || decide (i = 0 + j)) 0 recs)) x = find (effR rj.nx (rRun roots (sel p 0 recs)) rj.e) x := by
        intro x
        rw [find_effR _ _ hfj.nd, find_rRun _ _ _ (hselnd _), find_rRun _ _ _ (hselnd _)]
        exact fold_more (fun r c => rS r x c) p j rj recs 0 _ hrj hp0 (fun i r hi hji hpi c => rS_comm (hcommI i r hi hji hpi) x c)
      have hlenm : (sel (fun i => p i || decide (i = 0 + j)) 0 recs).length = (sel p 0 recs).length + 1 := by
        have hl : ∀ (l : List (Rec E)) (c : Nat), l.foldl (fun c _ => c + 1) c = c + l.length := by
          intro l
          induction l with
          | nil => intro c; rfl
          | cons r l ih => intro c; rw [List.foldl_cons, ih, List.length_cons]; omega
        have := fold_more (α := Nat) (fun _ c => c + 1) p j rj recs 0 0 hrj hp0 (fun _ _ _ _ _ _ => rfl)
        rw [hl, hl] at this
        omega
      refine ih (listed.setIfInBounds j true) S' β' ω' a' w' (by simp [hsz]) ?_ ?_ ?_
      · rw [hp']
        intro i o' hi hpi e he hb
        simp only [Nat.zero_add, Bool.or_eq_true, decide_eq_true_eq] at hpi ⊢
        rcases hpi with hpi | hpi
        · exact .inl (hcl i o' hi hpi e he hb)
        · subst hpi
          have : o' = rj.o := by
            have h1 : ops[i]? = some o' := by simpa using hi
            rw [hrj'] at h1; cases h1; rfl
          subst this
          exact .inl (hdeps' e he hb)
      · rw [hp', hlenm]; omega
      · rw [hp']
        refine hrel'.congr tmore gmore rmore (fun x => ?_)
        simp only [Grown, DL]
        constructor
        · rintro ((h | ⟨i, r, hi, hpi, h1, h2⟩) | ⟨h1, h2⟩)
          · exact .inl h
          · exact .inr ⟨i, r, hi, by simp [hpi], h1, h2⟩
          · exact .inr ⟨j, rj, hrj, by simp, h1, h2⟩
        · rintro (h | ⟨i, r, hi, hpi, h1, h2⟩)
          · exact .inl (.inl h)
          · simp only [Nat.zero_add, Bool.or_eq_true, decide_eq_true_eq] at hpi
            rcases hpi with hpi | hpi
            · exact .inl (.inr ⟨i, r, hi, hpi, h1, h2⟩)
            · subst hpi
              rw [hrj] at hi; cases hi
              exact .inr ⟨h1, h2⟩

/-- a region, whatever its order -/
theorem region_ok (hT : TIok P E) (hG : Good E) (hQ : EqOk P E) (hMix : P.follows .mixedOrders = true) (hO : ∀ f x y, O.call f x = some y → FnOk P E f x y) (hn : ∀ (j : Nat) (o' : Oper) (d : Nat), ops[j]? = some o' → o'.dst = some d → d < cx.n)
    {R : Type} {k : RSt E.Ty → Option R} {y : R} {st : St E.Ty} {S : Nat → Prop} {β : Nat → Value} {ω : Nat → List Nat} {a : Act} {w : World} (id : Nat) (draw : Bool)
    (h : vops O cx.n ops ops.toList ⟨st, [], []⟩ (fun rs => match !draw || drawOk ops rs.log with | true => k rs | false => none) = some y) (hrel : Rel E cx [] st.t st.roots S β ω (fun x => x < st.nx) a w)
    (hK : ∀ rs S' β' ω' a' w', k rs = some y → Rel E cx rs.gd rs.st.t rs.st.roots S' β' ω' (fun x => x < rs.st.nx) a' w' → Q .normal a' w') : (Code.region id ops draw).wp P Q a w := by
  obtain ⟨recs, ho, hF, hk⟩ := vops_recs _ _ h
  simp only [List.append_nil] at hk
  have hlen : recs.length = ops.size := by
    have := congrArg List.length ho
    simpa using this
  cases draw with
  | false =>
    simp only [Bool.not_false, Bool.true_or] at hk
    refine wp_region ?_
    have := seq_ok (Q := Q) hT hG hQ hO hn recs 0 st.t [] st.roots st.nx S β ω a w (by simpa using ho) hF hrel (fun S' β' ω' a' w' hrel' => hK _ S' β' ω' a' w' hk hrel')
    rwa [hlen, ← List.range_eq_range'] at this
  | true =>
    simp only [Bool.not_true, Bool.false_or] at hk
    split at hk
    · rename_i hdr
      refine wp_region_any hMix ?_
      have hrep : (fun i => (Array.replicate ops.size false).getD i false) = fun _ => false := by
        funext i
        simp only [Array.getD_eq_getD_getElem?, Array.getElem?_replicate]
        split <;> rfl
      have hsel : ∀ (l : List (Rec E)) (i : Nat), sel (fun _ => false) i l = [] := by
        intro l
        induction l with
        | nil => intro i; rfl
        | cons r l ih => intro i; simp [sel, ih]
      refine draw_any hT hG hQ hO hn ho hF hdr (fun S' β' ω' a' w' hrel' => hK _ S' β' ω' a' w' hk hrel') ops.size (Array.replicate ops.size false) S β ω a _ (by simp) ?_ ?_ ?_
      · rw [hrep]; intro j o hj hp; cases hp
      · omega
      · rw [hrep, hsel]
        refine Rel.congr (hrel.heap (w' := { w with drawn := w.drawn + 1 }) rfl rfl rfl rfl) (fun _ => rfl) (fun _ => rfl) (fun _ => rfl) (fun x => ?_)
        simp [DL]
    · cases hk

end

end Go.Proofs.Ytejfpemjmpoddaa.Vx
