/- What is drawn: it is there, and it is right. -/
import Derived.Test.YtejfpemjmpoddaaVxTX6
namespace Go.Proofs.Ytejfpemjmpoddaa.Vx
open Go Go.Proofs

/-- where a drawing stands -/
def Cu (c : DL1Cur) : Prop := 0 ≤ c.i ∧ c.i ≤ c.b.length ∧ c.b.length ≤ 4611686018427387904

theorem and255 (x : Int) : ∃ n : Nat, IntKind.i64.wrap (BitVec.ofInt IntKind.i64.bits x &&& BitVec.ofInt IntKind.i64.bits 255).toNat = (n : Int) ∧ n ≤ 255 := by
  refine ⟨(BitVec.ofInt IntKind.i64.bits x &&& BitVec.ofInt IntKind.i64.bits 255).toNat, ?_, ?_⟩
  · have : (BitVec.ofInt IntKind.i64.bits x &&& BitVec.ofInt IntKind.i64.bits 255).toNat ≤ 255 := by
      rw [BitVec.toNat_and]; exact Nat.and_le_right
    exact w64 (by omega) (by omega)
  · rw [BitVec.toNat_and]; exact Nat.and_le_right

theorem asc_split {p : Str} : ∀ {l : List Str}, Asc l → p ∉ l → ∃ a b, l = a ++ b ∧ (∀ x ∈ a, Op.bytesLess x p = true) ∧ (∀ x ∈ b, Op.bytesLess p x = true)
  | [], _, _ => ⟨[], [], rfl, by simp, by simp⟩
  | x :: l, h, hp => by
    unfold Asc at h
    rw [List.pairwise_cons] at h
    simp only [List.mem_cons, not_or] at hp
    rcases bl_total x p with h1 | h1 | h1
    · obtain ⟨a, b, rfl, h2, h3⟩ := asc_split h.2 hp.2
      exact ⟨x :: a, b, rfl, fun y hy => by
        rcases List.mem_cons.1 hy with h4 | h4
        · subst h4; exact h1
        · exact h2 y h4, h3⟩
    · exact absurd h1.symm hp.1
    · exact ⟨[], x :: l, rfl, by simp, fun y hy => by
        rcases List.mem_cons.1 hy with h4 | h4
        · subst h4; exact h1
        · exact bl_trans h1 (h.1 y h4)⟩

theorem asc_ins {p : Str} {l : List Str} (h : Asc l) (hp : p ∉ l) : Asc (insAt l (gtFrom p l 0) p) := by
  obtain ⟨a, b, rfl, h1, h2⟩ := asc_split h hp
  have hg : gtFrom p (a ++ b) 0 = a.length := by rw [gtFrom_mid a b 0 h1 h2]; omega
  rw [hg]
  unfold insAt
  rw [List.take_left' rfl, List.drop_left' rfl]
  unfold Asc at h ⊢
  rw [List.pairwise_append] at h
  rw [List.append_assoc, List.pairwise_append]
  refine ⟨h.1, ?_, ?_⟩
  · rw [List.singleton_append, List.pairwise_cons]; exact ⟨h2, h.2.1⟩
  · intro x hx y hy
    simp only [List.singleton_append, List.mem_cons] at hy
    rcases hy with rfl | hy
    · exact h1 x hx
    · exact h.2.2 x hx y hy

/-- the first place at which a text is not ahead -/
theorem gtFrom_nlt {p : Str} : ∀ (l : List Str) (i : Nat), p ∉ l → gtFrom p l i = (match l with
    | [] => i
    | x :: xs => if Op.bytesLess x p = true then gtFrom p xs (i + 1) else i)
  | [], i, _ => rfl
  | x :: xs, i, h => by
    simp only [List.mem_cons, not_or] at h
    rw [gtFrom]
    have : (x == p) = false := by rw [beq_eq_false_iff_ne]; exact fun e => h.1 e.symm
    rw [this, Bool.or_false]
    show _ = if Op.bytesLess x p = true then gtFrom p xs (i + 1) else i
    cases Op.bytesLess x p
    · rw [if_pos (by rfl), if_neg (by simp)]
    · rw [if_neg (by simp), if_pos rfl]

section
variable {O : Orc E} (hO : Fix O)
include hO

theorem spec_l1Byte (c : DL1Cur) (h : Cu c) : ∃ (n : Nat) (c' : DL1Cur), k_spec_l1Byte O c = some ((n : Int), c', ()) ∧ n ≤ 255 ∧ Cu c' := by
  obtain ⟨h1, h2, h3⟩ := h
  rw [e_spec_l1Byte O hO]
  rw [if_pos (by decide), if_pos (by decide)]
  by_cases hi : c.i < (c.b.length : Int)
  · rw [if_pos (by simpa using hi), if_pos (by simp only [Bool.and_eq_true, decide_eq_true_eq]; exact ⟨h1, hi⟩)]
    obtain ⟨n, hn, hl⟩ := and255 (IntKind.i64.wrap ((IntKind.i64.wrap (BitVec.ofInt IntKind.i64.bits (IntKind.i64.wrap (BitVec.ofInt IntKind.i64.bits ((IntKind.i64.wrap ((IntKind.i64.wrap (c.h * 6364136223846793005)) + 1442695040888963407)).fdiv (2 ^ (min (33 : Int).toNat IntKind.i64.bits))) ^^^ BitVec.ofInt IntKind.i64.bits ((IntKind.i64.wrap ((IntKind.i64.wrap (c.h * 6364136223846793005)) + 1442695040888963407)).fdiv (2 ^ (min (45 : Int).toNat IntKind.i64.bits)))).toNat) &&& BitVec.ofInt IntKind.i64.bits 255).toNat) + (IntKind.i64.wrap (c.b.getD c.i.toNat 0))))
    rw [hn]
    refine ⟨n, _, rfl, hl, ?_, ?_, h3⟩
    · show 0 ≤ IntKind.i64.wrap (c.i + 1); rw [w64 (by omega) (by omega)]; omega
    · show IntKind.i64.wrap (c.i + 1) ≤ (c.b.length : Int); rw [w64 (by omega) (by omega)]; omega
  · rw [if_neg (by simpa using hi)]
    obtain ⟨n, hn, hl⟩ := and255 (IntKind.i64.wrap (BitVec.ofInt IntKind.i64.bits ((IntKind.i64.wrap ((IntKind.i64.wrap (c.h * 6364136223846793005)) + 1442695040888963407)).fdiv (2 ^ (min (33 : Int).toNat IntKind.i64.bits))) ^^^ BitVec.ofInt IntKind.i64.bits ((IntKind.i64.wrap ((IntKind.i64.wrap (c.h * 6364136223846793005)) + 1442695040888963407)).fdiv (2 ^ (min (45 : Int).toNat IntKind.i64.bits)))).toNat)
    rw [hn]
    exact ⟨n, _, rfl, hl, h1, h2, h3⟩

theorem spec_l1Below (c : DL1Cur) (m : Int) (h : Cu c) : ∃ (n : Nat) (c' : DL1Cur), k_spec_l1Below O c m = some ((n : Int), c', ()) ∧ Cu c' ∧ (0 < m → (n : Int) < m) ∧ (m ≤ 0 → n = 0) := by
  rw [e_spec_l1Below O hO]
  by_cases h0 : m ≤ 0
  · rw [if_pos (by simpa using h0)]; exact ⟨0, c, rfl, h, by omega, fun _ => rfl⟩
  · rw [if_neg (by simpa using h0)]
    have hz : (!((m : Int) == 0)) = true := by simp; omega
    have hmod : ∀ x : Nat, ∃ n : Nat, Int.tmod (x : Int) m = (n : Int) ∧ (n : Int) < m := by
      intro x
      have h1 : Int.tmod (x : Int) m = (x : Int) % m := Int.tmod_eq_emod_of_nonneg (by omega)
      have h2 := Int.emod_nonneg (x : Int) (show m ≠ 0 by omega)
      have h3 := Int.emod_lt_of_pos (x : Int) (show 0 < m by omega)
      exact ⟨((x : Int) % m).toNat, by rw [h1]; omega, by omega⟩
    by_cases h1 : m ≤ 256
    · rw [if_pos (by simpa using h1)]
      obtain ⟨x, c1, e1, _, hc⟩ := spec_l1Byte hO c h
      rw [e1, Option.bind_some, if_pos hz]
      obtain ⟨n, hn, hl⟩ := hmod x
      rw [hn]
      exact ⟨n, c1, rfl, hc, fun _ => hl, fun h => absurd h h0⟩
    · rw [if_neg (by simpa using h1)]
      obtain ⟨x1, c1, e1, b1, hc1⟩ := spec_l1Byte hO c h
      rw [e1, Option.bind_some]
      obtain ⟨x2, c2, e2, b2, hc2⟩ := spec_l1Byte hO c1 hc1
      rw [e2, Option.bind_some]
      obtain ⟨x3, c3, e3, b3, hc3⟩ := spec_l1Byte hO c2 hc2
      rw [e3, Option.bind_some]
      obtain ⟨x4, c4, e4, b4, hc4⟩ := spec_l1Byte hO c3 hc3
      rw [e4, Option.bind_some, if_pos hz]
      dsimp only
      have : IntKind.i64.wrap ((IntKind.i64.wrap ((IntKind.i64.wrap ((IntKind.i64.wrap ((x1 : Int) * 16777216)) + (IntKind.i64.wrap ((x2 : Int) * 65536)))) + (IntKind.i64.wrap ((x3 : Int) * 256)))) + (x4 : Int)) = ((x1 * 16777216 + x2 * 65536 + x3 * 256 + x4 : Nat) : Int) := by
        rw [w64 (n := (x1 : Int) * 16777216) (by omega) (by omega), w64 (n := (x2 : Int) * 65536) (by omega) (by omega), w64 (n := (x3 : Int) * 256) (by omega) (by omega), w64 (n := (x1 : Int) * 16777216 + (x2 : Int) * 65536) (by omega) (by omega),
          w64 (n := (x1 : Int) * 16777216 + (x2 : Int) * 65536 + (x3 : Int) * 256) (by omega) (by omega), w64 (by omega) (by omega)]
        omega
      rw [this]
      obtain ⟨n, hn, hl⟩ := hmod (x1 * 16777216 + x2 * 65536 + x3 * 256 + x4)
      rw [hn]
      exact ⟨n, c4, rfl, hc4, fun _ => hl, fun h => absurd h h0⟩

theorem spec_l1Once (c : DL1Cur) (m : Int) (h : Cu c) : ∃ (b : Bool) (c' : DL1Cur), k_spec_l1Once O c m = some (b, c', ()) ∧ Cu c' := by
  rw [e_spec_l1Once O hO]
  obtain ⟨n, c', e, hc, _⟩ := spec_l1Below hO c m h
  rw [e]
  exact ⟨_, c', rfl, hc⟩

theorem spec_l1Pick (c : DL1Cur) (l : List Str) (h : Cu c) (hl : l ≠ []) : ∃ (s : Str) (c' : DL1Cur), k_spec_l1Pick O c l = some (s, c', ()) ∧ Cu c' ∧ s ∈ l := by
  rw [e_spec_l1Pick O hO]
  obtain ⟨n, c', e, hc, hb, _⟩ := spec_l1Below hO c (l.length : Int) h
  have hp : 0 < l.length := List.length_pos_iff.2 hl
  have hn : n < l.length := by have := hb (by omega); omega
  rw [e, Option.bind_some, if_pos (inB hn)]
  exact ⟨_, c', rfl, hc, by rw [Int.toNat_natCast, gdN hn]; exact List.getElem_mem hn⟩

theorem spec_l1PickInt (c : DL1Cur) (l : List Int) (h : Cu c) (hl : l ≠ []) : ∃ (s : Int) (c' : DL1Cur), k_spec_l1PickInt O c l = some (s, c', ()) ∧ Cu c' := by
  rw [e_spec_l1PickInt O hO]
  obtain ⟨n, c', e, hc, hb, _⟩ := spec_l1Below hO c (l.length : Int) h
  have hp : 0 < l.length := List.length_pos_iff.2 hl
  have hn : n < l.length := by have := hb (by omega); omega
  rw [e, Option.bind_some, if_pos (inB hn)]
  exact ⟨_, c', rfl, hc⟩

theorem spec_l3DrawKey (c : DL1Cur) (h : Cu c) : ∃ (s : Str) (c' : DL1Cur), k_spec_l3DrawKey O c = some (s, c', ()) ∧ Cu c' := by
  rw [e_spec_l3DrawKey O hO]
  obtain ⟨s, c', e, hc, _⟩ := spec_l1Pick hO c [[97], [98], [110, 97, 109, 101], [109, 97, 120], [120, 32, 121], [], [97, 58, 98], [45]] h (by simp)
  rw [e]; exact ⟨s, c', rfl, hc⟩

theorem spec_l3DrawText (c : DL1Cur) (h : Cu c) : ∃ (s : Str) (c' : DL1Cur), k_spec_l3DrawText O c = some (s, c', ()) ∧ Cu c' := by
  rw [e_spec_l3DrawText O hO]
  obtain ⟨s, c', e, hc, _⟩ := spec_l1Pick hO c [[], [97], [119, 101, 98], [116, 114, 117, 101], [49, 50], [115, 97, 121, 32, 34, 110, 111, 34], [98, 97, 99, 107, 92], [97, 58, 32, 98], [45, 32, 120], [35], [53, 109], [110, 117, 108, 108], [32, 120]] h (by simp)
  rw [e]; exact ⟨s, c', rfl, hc⟩

theorem spec_l1New (code : List Int) (h : code.length ≤ 1048576) : ∃ c', k_spec_l1New O code = some (c', ()) ∧ Cu c' := by
  rw [e_spec_l1New O hO]
  have loop : ∀ (k i : Nat), i + k = code.length → ∀ x3, ∃ y, l_spec_l1New_0 O code x3 (i : Int) = some (DL1Cur.mk code 0 y, ()) := by
    intro k
    induction k with
    | zero =>
      intro i hi x3
      have : i = code.length := by omega
      subst this
      rw [e_spec_l1New_0 O hO code _ ((code.length : Nat) : Int)]
      exact ⟨x3, by simp⟩
    | succ k ih =>
      intro i hi x3
      have hlt : i < code.length := by omega
      rw [e_spec_l1New_0 O hO code _ (i : Int)]
      rw [ltT hlt, cond_true]
      by_cases h4 : i < 4000
      · rw [if_pos (by simp only [decide_eq_true_eq]; omega), if_pos (by rw [nn]; rfl), wi (by omega)]
        exact ih (i + 1) (by omega) _
      · rw [if_neg (by simp only [decide_eq_true_eq]; omega)]
        exact ⟨x3, rfl⟩
  obtain ⟨y, hy⟩ := loop code.length 0 (by omega) (IntKind.i64.wrap (27212 + (code.length : Int)))
  exact ⟨_, hy, by show (0 : Int) ≤ 0; omega, by show (0 : Int) ≤ code.length; omega, by show code.length ≤ _; omega⟩

theorem spec_Set (t : DNode) (p : Str) (x : DNode) (h : Sm BB t) (hx : Sm BB x) : k_spec_Set O t p x = some (setF t p x, ()) := by
  have hk := h.keys
  have hl := h.len
  rw [e_spec_Set O hO]
  simp only [DNode.cp_eq, spec_l3Copy hO t h, Option.bind_some]
  unfold setF
  by_cases h5 : t.kind = 5
  · have e5 : (t.kind != 5) = false := by simp [h5]
    by_cases hlen : t.keys.length = t.kids.length
    · have hm : isMapF t = true := by simp [isMapF, h5, hlen]
      have e6 : ((t.keys.length : Int) != (t.kids.length : Int)) = false := by simp [hlen]
      rw [if_pos hm, e5, e6, cond_false, if_neg (by simp), spec_l3At hO t p h h5, bind_optI]
      have hkf : kidF t p = idxFrom p t.keys 0 := by
        unfold kidF
        rw [if_pos h5]
        cases hi : idxFrom p t.keys 0 with
        | none => rfl
        | some k => have := (idxFrom_le hi).2; simp only []; rw [if_pos (by omega)]
      rw [hkf]
      cases hi : idxFrom p t.keys 0 with
      | some k =>
        have hlt := (idxFrom_le hi).2
        dsimp only
        rw [if_pos (by simp only [decide_eq_true_eq]; omega), spec_l3Copy hO x hx, Option.bind_some, if_pos (inB (show k < t.kids.length by omega)), Int.toNat_natCast, if_pos (by simp only [decide_eq_true_eq]; omega)]
      | none =>
        have hp := idxFrom_none.1 hi
        dsimp only
        rw [if_neg (by simp)]
        unfold BB at hk hl
        have loop : ∀ (k i : Nat), i + k = t.keys.length → ∀ c1 c2 c3, l_spec_Set_0 O p (i : Int) t x c1 c2 c3 t = some (⟨t.kind, t.n, t.s, insAt t.keys (gtFrom p (t.keys.drop i) i) p, insAt t.kids (gtFrom p (t.keys.drop i) i) x⟩, ()) := by
          have stop : ∀ (i : Nat), i ≤ t.keys.length → ∀ c1 c2 c3, (bif (decide ((i : Int) < (t.keys.length : Int))) then (Op.bytesLess (t.keys.getD (i : Int).toNat []) p) else false) = false →
              l_spec_Set_0 O p (i : Int) t x c1 c2 c3 t = some (⟨t.kind, t.n, t.s, insAt t.keys i p, insAt t.kids i x⟩, ()) := by
            intro i hi c1 c2 c3 hc
            have g0 : (!(decide ((i : Int) < (t.keys.length : Int))) || (decide (0 ≤ (i : Int)) && decide ((i : Int) < (t.keys.length : Int)))) = true := by
              by_cases hlt : i < t.keys.length
              · rw [inB hlt, Bool.or_true]
              · rw [ltF hlt]; rfl
            have d0 : ∀ {α : Type} (l : List α), l.drop (0 : Int).toNat = l := fun l => rfl
            rw [e_spec_Set_0 O hO p (i : Int), if_pos g0, hc, if_neg (by simp)]
            simp only [DNode.cp_eq, spec_l3Copy hO x hx, Option.bind_some, Int.toNat_natCast, d0, List.take_length, List.length_take, List.length_append, List.length_drop, List.length_singleton]
            rw [if_pos (by simp only [Bool.and_eq_true, decide_eq_true_eq]; omega), if_pos (by simp only [decide_eq_true_eq]; omega), if_pos (by simp only [decide_eq_true_eq]; omega),
              if_pos (by simp only [Bool.and_eq_true, decide_eq_true_eq]; omega), if_pos (by simp only [decide_eq_true_eq]; omega), if_pos (by simp only [decide_eq_true_eq]; omega),
              if_pos (by simp only [Bool.and_eq_true, decide_eq_true_eq]; omega), if_pos (by simp only [decide_eq_true_eq]; omega),
              if_pos (by simp only [Bool.and_eq_true, decide_eq_true_eq]; omega), if_pos (by simp only [decide_eq_true_eq]; omega)]
            rfl
          intro k
          induction k with
          | zero =>
            intro i hi c1 c2 c3
            have : i = t.keys.length := by omega
            subst this
            rw [stop _ (Nat.le_refl _) _ _ _ (by simp), List.drop_length]; rfl
          | succ k ih =>
            intro i hi c1 c2 c3
            have hlt : i < t.keys.length := by omega
            have hnot : p ∉ t.keys.drop i := fun hm => hp (List.mem_of_mem_drop hm)
            rw [gtFrom_nlt _ _ hnot, List.drop_eq_getElem_cons hlt]
            simp only []
            cases hb : Op.bytesLess t.keys[i] p with
            | false => rw [stop i (by omega) _ _ _ (by rw [Int.toNat_natCast, gdN hlt, hb]; cases decide ((i : Int) < (t.keys.length : Int)) <;> rfl)]; simp
            | true =>
              rw [e_spec_Set_0 O hO p (i : Int), if_pos (by rw [inB hlt, Bool.or_true]), if_pos (by rw [ltT hlt, Int.toNat_natCast, gdN hlt, hb]; rfl), wi (by omega), DNode.cp_eq, DNode.cp_eq, ih (i + 1) (by omega)]
              simp
        have := loop t.keys.length 0 (by omega) 0 0 []
        simpa using this
    · have hm : isMapF t = false := by simp [isMapF, h5, hlen]
      have e6 : ((t.keys.length : Int) != (t.kids.length : Int)) = true := by simp [bne_iff_ne]; omega
      rw [e5, e6, hm]; rfl
  · have e5 : (t.kind != 5) = true := by simp [h5]
    have hm : isMapF t = false := by simp [isMapF, h5]
    rw [e5, hm]; rfl

/-- a node that is being filled -/
structure Fil (d i : Nat) (kd : Int) (t : DNode) : Prop where
  kind : t.kind = kd
  kids : t.kids.length ≤ i
  keys : t.keys.length ≤ i
  all : ∀ x ∈ t.kids, Rt d x
  map : kd = 5 → t.keys.length = t.kids.length ∧ Asc t.keys

end

theorem mem_insAt {α : Type} {l : List α} {k : Nat} {x y : α} (h : y ∈ insAt l k x) : y = x ∨ y ∈ l := by
  unfold insAt at h
  simp only [List.mem_append, List.mem_singleton] at h
  rcases h with (h | h) | h
  · exact .inr (List.mem_of_mem_take h)
  · exact .inl h
  · exact .inr (List.mem_of_mem_drop h)

theorem Fil.set {d i : Nat} {t x : DNode} {p : Str} (h : Fil d i 5 t) (hx : Rt d x) : Fil d (i + 1) 5 (setF t p x) := by
  obtain ⟨hl, ha⟩ := h.map rfl
  have hm : isMapF t = true := by simp [isMapF, h.kind, hl]
  have h1 := h.kids
  have h2 := h.keys
  unfold setF
  rw [if_pos hm]
  cases hi : idxFrom p t.keys 0 with
  | some k =>
    refine ⟨h.kind, by simp; omega, by simp only []; omega, fun y hy => ?_, fun _ => ⟨by simpa using hl, ha⟩⟩
    rcases List.mem_or_eq_of_mem_set hy with h4 | h4
    · exact h.all y h4
    · subst h4; exact hx
  | none =>
    have hg := gtFrom_le p t.keys 0
    refine ⟨h.kind, ?_, ?_, fun y hy => ?_, fun _ => ⟨?_, asc_ins ha (idxFrom_none.1 hi)⟩⟩
    · simp only []; rw [insAt_len _ _ _ (by omega)]; omega
    · simp only []; rw [insAt_len _ _ _ (by omega)]; omega
    · rcases mem_insAt hy with h4 | h4
      · subst h4; exact hx
      · exact h.all y h4
    · simp only []; rw [insAt_len _ _ _ (by omega), insAt_len _ _ _ (by omega), hl]

theorem Fil.add {d i : Nat} {kd : Int} {t x : DNode} (h : Fil d i kd t) (hk : kd ≠ 5) (hx : Rt d x) : Fil d (i + 1) kd ⟨t.kind, t.n, t.s, t.keys, t.kids ++ [x]⟩ := by
  have h1 := h.kids
  have h2 := h.keys
  refine ⟨h.kind, by simp; omega, by simp only []; omega, fun y hy => ?_, fun e => absurd e hk⟩
  simp only [List.mem_append, List.mem_singleton] at hy
  rcases hy with h4 | h4
  · exact h.all y h4
  · subst h4; exact hx

theorem Fil.sm {d i : Nat} {kd : Int} {t : DNode} (h : Fil d i kd t) (hi : i ≤ 3) : Sm BB t :=
  .mk t (by have := h.keys; unfold BB; omega) (by have := h.kids; unfold BB; omega) (fun x hx => (h.all x hx).sm.mono (by unfold BB; omega))

theorem Fil.rt {d i : Nat} {kd : Int} {t : DNode} (h : Fil d i kd t) (hi : i ≤ 3) : Rt (d + 1) t :=
  ⟨fun h5 => h.map (h.kind.symm.trans h5), by have := h.kids; omega, by have := h.keys; omega, h.all⟩

theorem leafRt (d : Nat) (k n : Int) (s : Str) : Rt d ⟨k, n, s, [], []⟩ := by
  cases d with
  | zero => exact ⟨rfl, rfl⟩
  | succ d => exact ⟨fun _ => ⟨rfl, List.Pairwise.nil⟩, by simp, by simp, by simp⟩

end Go.Proofs.Ytejfpemjmpoddaa.Vx
