/- Trees and paths that are drawn. -/
import Derived.Test.YtejfpemjmpoddaaVxTX7
namespace Go.Proofs.Ytejfpemjmpoddaa.Vx
open Go Go.Proofs

section
variable {O : Orc E} (hO : Fix O)
include hO

theorem leafs (kd : Nat) (hk : kd < 4) (c : DL1Cur) (hc : Cu c) (X : Option (DNode × DL1Cur × Unit)) : ∃ t c', (if ((kd : Int) == 0) = true then some (DNode.mk 0 0 [] [] [], c, ()) else if ((kd : Int) == 1) = true then (k_spec_l1Once O c 2).bind fun y3 => (k_spec_FlagOf O y3.1).bind fun y4 => some (DNode.cp y4.1, y3.2.1, ()) else if ((kd : Int) == 2) = true then (k_spec_l1PickInt O c [0, 7, -3, 1000, 1000000000000]).bind fun y5 => (k_spec_IntOf O y5.1).bind fun y6 => some (DNode.cp y6.1, y5.2.1, ()) else if ((kd : Int) == 3) = true then (k_spec_l3DrawText O c).bind fun y7 => (k_spec_TextOf O y7.1).bind fun y8 => some (DNode.cp y8.1, y7.2.1, ()) else X) = some (t, c', ()) ∧ Cu c' ∧ ∀ d, Rt d t := by
  rcases (show kd = 0 ∨ kd = 1 ∨ kd = 2 ∨ kd = 3 by omega) with rfl | rfl | rfl | rfl
  · exact ⟨_, c, rfl, hc, fun d => leafRt d _ _ _⟩
  · rw [if_neg (by decide), if_pos (by decide)]
    obtain ⟨b, c', e, h⟩ := spec_l1Once hO c 2 hc
    rw [e, Option.bind_some, e_spec_FlagOf O hO, e_spec_l1Bit O hO]
    cases b
    · exact ⟨_, c', rfl, h, fun d => leafRt d _ _ _⟩
    · exact ⟨_, c', rfl, h, fun d => leafRt d _ _ _⟩
  · rw [if_neg (by decide), if_neg (by decide), if_pos (by decide)]
    obtain ⟨b, c', e, h⟩ := spec_l1PickInt hO c [0, 7, -3, 1000, 1000000000000] hc (by simp)
    rw [e, Option.bind_some, e_spec_IntOf O hO]
    exact ⟨_, c', rfl, h, fun d => leafRt d _ _ _⟩
  · rw [if_neg (by decide), if_neg (by decide), if_neg (by decide), if_pos (by decide)]
    obtain ⟨b, c', e, h⟩ := spec_l3DrawText hO c hc
    rw [e, Option.bind_some, e_spec_TextOf O hO]
    exact ⟨_, c', rfl, h, fun d => leafRt d _ _ _⟩

theorem spec_l3DrawRight : ∀ (d : Nat), d ≤ 100 → ∀ (c : DL1Cur), Cu c → ∃ t c', k_spec_l3DrawRight O c (d : Int) = some (t, c', ()) ∧ Cu c' ∧ Rt d t
  | 0, _, c, hc => by
    rw [e_spec_l3DrawRight O hO]
    obtain ⟨n, c1, e1, h1, _⟩ := spec_l1Below hO c 6 hc
    rw [e1, Option.bind_some, if_pos (by decide)]
    obtain ⟨m, c2, e2, h2, hb, _⟩ := spec_l1Below hO c1 4 h1
    rw [e2, Option.bind_some]
    have hm : m < 4 := by have := hb (by omega); omega
    obtain ⟨t, c', h3, h4, h5⟩ := leafs hO m hm c2 h2 ((k_spec_l1Below O c2 4).bind fun y9 => l_spec_l3DrawRight_1 O ((0 : Nat) : Int) (m : Int) y9.1 0 y9.2.1 0 0 [] (DNode.mk (m : Int) 0 [] [] []))
    exact ⟨t, c', h3, h4, h5 0⟩
  | d + 1, hd, c, hc => by
    rw [e_spec_l3DrawRight O hO]
    obtain ⟨n, c1, e1, h1, hb1, _⟩ := spec_l1Below hO c 6 hc
    rw [e1, Option.bind_some, if_neg (by simp; omega)]
    have hn : n < 6 := by have := hb1 (by omega); omega
    by_cases h4 : n < 4
    · obtain ⟨t, c', h3, h4, h5⟩ := leafs hO n h4 c1 h1 ((k_spec_l1Below O c1 4).bind fun y16 => l_spec_l3DrawRight_1 O ((d + 1 : Nat) : Int) (n : Int) y16.1 0 y16.2.1 0 0 [] (DNode.mk (n : Int) 0 [] [] []))
      exact ⟨t, c', h3, h4, h5 _⟩
    · dsimp only
      rw [if_neg (by simp; omega), if_neg (by simp; omega), if_neg (by simp; omega), if_neg (by simp; omega)]
      obtain ⟨m, c2, e2, h2, hb2, _⟩ := spec_l1Below hO c1 4 h1
      rw [e2, Option.bind_some]
      have hm : m < 4 := by have := hb2 (by omega); omega
      have loop : ∀ (k i : Nat), i + k = m → ∀ (c : DL1Cur) (b2 : DNode) (x1 x2 : Int) (x3 : Str), Cu c → Fil d i (n : Int) b2 →
          ∃ t c', l_spec_l3DrawRight_1 O ((d + 1 : Nat) : Int) (n : Int) (m : Int) (i : Int) c x1 x2 x3 b2 = some (t, c', ()) ∧ Cu c' ∧ Fil d m (n : Int) t := by
        intro k
        induction k with
        | zero =>
          intro i hi c b2 x1 x2 x3 hc hf
          have : i = m := by omega
          subst this
          rw [e_spec_l3DrawRight_1 O hO _ _ _ (i : Int), if_neg (by simp), DNode.cp_eq]
          exact ⟨b2, c, rfl, hc, hf⟩
        | succ k ih =>
          intro i hi c b2 x1 x2 x3 hc hf
          have hlt : i < m := by omega
          obtain ⟨x, c3, e3, h3, hx⟩ := spec_l3DrawRight d (by omega) c hc
          have hw : IntKind.i64.wrap (((d + 1 : Nat) : Int) - 1) = (d : Int) := by rw [w64 (by omega) (by omega)]; omega
          rw [e_spec_l3DrawRight_1 O hO _ _ _ (i : Int), if_pos (ltT hlt), hw, e3, Option.bind_some, wi (by omega)]
          by_cases h5 : n = 5
          · rw [if_pos (by simp [h5])]
            obtain ⟨s, c4, e4, h9⟩ := spec_l3DrawKey hO c3 h3
            subst h5
            simp only [DNode.cp_eq, e4, Option.bind_some, spec_Set hO b2 s x (hf.sm (by omega)) (hx.sm.mono (by unfold BB; omega))]
            exact ih (i + 1) (by omega) c4 _ _ _ _ h9 (Fil.set hf hx)
          · rw [if_neg (by simp; omega), if_pos (by have := hf.kids; simp only [decide_eq_true_eq, List.length_singleton]; omega)]
            simp only [DNode.cp_eq]
            exact ih (i + 1) (by omega) c3 _ _ _ _ h3 (Fil.add hf (by omega) hx)
      obtain ⟨t, c', h3, h4, h5⟩ := loop m 0 (by omega) c2 (DNode.mk (n : Int) 0 [] [] []) 0 0 [] h2 ⟨rfl, by simp, by simp, by simp, fun _ => ⟨rfl, List.Pairwise.nil⟩⟩
      exact ⟨t, c', h3, h4, h5.rt (by omega)⟩

theorem spec_AllPtrs_2L (t : DNode) (x4 : Int) (x5 : Str) (r2 : List (List Str)) (hr2 : ∀ p ∈ r2, p.length ≤ 1000000) (hl2 : r2.length ≤ 1000000000) (B : Nat) (hB : B ≤ 1000000000) :
    ∀ (k i : Nat), i + k = r2.length → ∀ r1 : List (List Str), r1.length + k ≤ B → l_spec_AllPtrs_2 O x4 x5 (i : Int) t r1 r2 = l_spec_AllPtrs_0 O (IntKind.i64.wrap (x4 + 1)) t (r1 ++ (r2.drop i).map (x5 :: ·)) := by
  intro k
  induction k with
  | zero =>
    intro i hi r1 hr1
    have : i = r2.length := by omega
    subst this
    rw [e_spec_AllPtrs_2 O hO _ _ ((r2.length : Nat) : Int), if_neg (by simp), List.drop_length, DNode.cp_eq]
    simp
  | succ k ih =>
    intro i hi r1 hr1
    have hlt : i < r2.length := by omega
    have hp := hr2 r2[i] (List.getElem_mem hlt)
    rw [e_spec_AllPtrs_2 O hO _ _ (i : Int), if_pos (ltT hlt), if_pos (inB hlt), Int.toNat_natCast, if_pos (by simp only [decide_eq_true_eq]; omega)]
    simp only [gdN hlt, DNode.cp_eq, wi (show i < 9223372036854775807 by omega)]
    rw [if_pos (by simp only [decide_eq_true_eq, List.length_singleton]; omega), if_pos (by simp only [decide_eq_true_eq, List.length_singleton]; omega), ih (i + 1) (by omega) _ (by simp; omega), List.drop_eq_getElem_cons hlt, List.map_cons, List.append_assoc]
    rfl

theorem spec_AllPtrs_b : ∀ (d : Nat), d ≤ 10 → ∀ (t : DNode), Rt d t → ∃ r, k_spec_AllPtrs O t = some (r, ()) ∧ r ≠ [] ∧ r.length ≤ 4 ^ d ∧ ∀ p ∈ r, p.length ≤ d := by
  intro d
  induction d with
  | zero =>
    intro _ t ht
    rw [e_spec_AllPtrs O hO, DNode.cp_eq, e_spec_AllPtrs_0 O hO, ht.1, if_neg (by simp)]
    exact ⟨_, rfl, by simp, by simp, by simp⟩
  | succ d ih =>
    intro hd t ht
    have h3 := ht.2.1
    have hpow : 4 ^ d ≤ 4 ^ 9 := Nat.pow_le_pow_right (by omega) (by omega)
    have hpow1 : 1 ≤ 4 ^ d := Nat.one_le_pow _ _ (by omega)
    rw [e_spec_AllPtrs O hO, DNode.cp_eq]
    have loop : ∀ (k i : Nat), i + k = t.kids.length → ∀ r1 : List (List Str), r1 ≠ [] → r1.length ≤ 1 + i * 4 ^ d → (∀ p ∈ r1, p.length ≤ d + 1) →
        ∃ r, l_spec_AllPtrs_0 O (i : Int) t r1 = some (r, ()) ∧ r ≠ [] ∧ r.length ≤ 1 + t.kids.length * 4 ^ d ∧ ∀ p ∈ r, p.length ≤ d + 1 := by
      intro k
      induction k with
      | zero =>
        intro i hi r1 h1 h2 h4
        have : i = t.kids.length := by omega
        subst this
        rw [e_spec_AllPtrs_0 O hO ((t.kids.length : Nat) : Int), if_neg (by simp)]
        exact ⟨r1, rfl, h1, h2, h4⟩
      | succ k ih2 =>
        intro i hi r1 h1 h2 h4
        have hlt : i < t.kids.length := by omega
        obtain ⟨r2, e2, g1, g2, g3⟩ := ih (by omega) t.kids[i] (ht.2.2.2 _ (List.getElem_mem hlt))
        have hmul : i * 4 ^ d ≤ 3 * 4 ^ d := Nat.mul_le_mul_right _ (by omega)
        have hstep : ∀ x5 : Str, ∃ r, l_spec_AllPtrs_2 O (i : Int) x5 0 t r1 r2 = some (r, ()) ∧ r ≠ [] ∧ r.length ≤ 1 + t.kids.length * 4 ^ d ∧ ∀ p ∈ r, p.length ≤ d + 1 := by
          intro x5
          have := spec_AllPtrs_2L hO t (i : Int) x5 r2 (fun p hp => by have := g3 p hp; omega) (by omega) 1000000000 (Nat.le_refl _) r2.length 0 (by omega) r1 (by omega)
          simp only [List.drop_zero] at this
          have h0 : l_spec_AllPtrs_2 O (i : Int) x5 0 t r1 r2 = _ := this
          rw [h0, wi (by omega)]
          refine ih2 (i + 1) (by omega) _ ?_ ?_ ?_
          · simp [h1]
          · simp only [List.length_append, List.length_map, Nat.add_mul, Nat.one_mul]; omega
          · intro p hp
            rcases List.mem_append.1 hp with h5 | h5
            · exact h4 p h5
            · obtain ⟨q, hq, rfl⟩ := List.mem_map.1 h5
              have := g3 q hq
              simp; omega
        rw [e_spec_AllPtrs_0 O hO (i : Int), if_pos (ltT hlt), spec_DigitsN hO i (by omega), Option.bind_some]
        simp only [DNode.cp_eq, Int.toNat_natCast, gdN hlt, inB hlt, if_true, e2, Option.bind_some]
        by_cases hc : (bif (t.kind == 5) then (decide ((i : Int) < (t.keys.length : Int))) else false) = true
        · have hk : i < t.keys.length := by
            cases h5 : (t.kind == 5) with
            | false => rw [h5] at hc; simp at hc
            | true => rw [h5] at hc; simp at hc; omega
          rw [if_pos hc, if_pos (inB hk)]
          exact hstep _
        · rw [if_neg hc]
          exact hstep _
    obtain ⟨r, e, g1, g2, g3⟩ := loop t.kids.length 0 (by omega) [[]] (by simp) (by simp) (by simp)
    refine ⟨r, e, g1, ?_, g3⟩
    have : t.kids.length * 4 ^ d ≤ 3 * 4 ^ d := Nat.mul_le_mul_right _ h3
    rw [Nat.pow_succ]; omega

/-- a path into a tree: not long -/
theorem spec_l22DrawPath_of (c : DL1Cur) (t : DNode) (hc : Cu c) (r : List (List Str)) (hr : k_spec_AllPtrs O t = some (r, ())) (h0 : r ≠ []) (d : Nat) (hd : d ≤ 1000000) (hl : r.length ≤ 1000000000) (hp : ∀ p ∈ r, p.length ≤ d) :
    ∃ p c', k_spec_l22DrawPath O c t = some (p, c', ()) ∧ Cu c' ∧ p.length ≤ d + 1 := by
  rw [e_spec_l22DrawPath O hO, DNode.cp_eq, hr, Option.bind_some]
  obtain ⟨n, c1, e1, h1, hb, _⟩ := spec_l1Below hO c (r.length : Int) hc
  have hpos : 0 < r.length := List.length_pos_iff.2 h0
  have hn : n < r.length := by have := hb (by omega); omega
  have hlen := hp r[n] (List.getElem_mem hn)
  rw [e1, Option.bind_some, if_pos (inB hn), Int.toNat_natCast, if_pos (by simp only [decide_eq_true_eq]; omega)]
  simp only [gdN hn]
  rw [if_pos (by simp only [decide_eq_true_eq]; omega)]
  obtain ⟨m, c2, e2, h2, _⟩ := spec_l1Below hO c1 5 h1
  rw [e2, Option.bind_some]
  dsimp only
  split
  · obtain ⟨s, c3, e3, h3⟩ := spec_l3DrawKey hO c2 h2
    rw [e3, Option.bind_some, if_pos (by simp only [decide_eq_true_eq, List.length_singleton]; omega)]
    exact ⟨_, c3, rfl, h3, by simp; omega⟩
  · split
    · obtain ⟨s, c3, e3, h3, _⟩ := spec_l1Pick hO c2 [[48], [49], [45], [48, 48], [57]] h2 (by simp)
      rw [e3, Option.bind_some, if_pos (by simp only [decide_eq_true_eq, List.length_singleton]; omega)]
      exact ⟨_, c3, rfl, h3, by simp; omega⟩
    · exact ⟨_, c2, rfl, h2, by omega⟩

theorem spec_DrawTree (code : List Int) (h : code.length ≤ 1048576) : ∃ t p x, k_spec_DrawTree O code = some (t, p, x, ()) ∧ Rt 3 t ∧ p.length ≤ 4 := by
  rw [e_spec_DrawTree O hO]
  obtain ⟨c1, e1, h1⟩ := spec_l1New hO code h
  rw [e1, Option.bind_some]
  obtain ⟨t, c2, e2, h2, ht⟩ := spec_l3DrawRight hO 3 (by omega) c1 h1
  have e2' : k_spec_l3DrawRight O c1 3 = some (t, c2, ()) := e2
  rw [e2', Option.bind_some]
  obtain ⟨r, er, g1, g2, g3⟩ := spec_AllPtrs_b hO 3 (by omega) t ht
  obtain ⟨p, c3, e3, h3, hp⟩ := spec_l22DrawPath_of hO c2 t h2 r er g1 3 (by omega) (by omega) g3
  simp only [DNode.cp_eq, e3, Option.bind_some]
  obtain ⟨x, c4, e4, _, _⟩ := spec_l3DrawRight hO 2 (by omega) c3 h3
  have e4' : k_spec_l3DrawRight O c3 2 = some (x, c4, ()) := e4
  rw [e4', Option.bind_some]
  exact ⟨t, p, x, rfl, ht, hp⟩

end
end Go.Proofs.Ytejfpemjmpoddaa.Vx
