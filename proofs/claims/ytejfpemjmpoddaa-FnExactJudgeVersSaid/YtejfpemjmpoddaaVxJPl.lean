/- What the program's and the reference's predicates tell, on: worlds; the two laws. -/
import Derived.Test.YtejfpemjmpoddaaVxJH
import Derived.Test.YtejfpemjmpoddaaVxJP
namespace Go.Proofs.Ytejfpemjmpoddaa.Vx
open Go Go.Proofs
section
variable {O : Orc E} (hO : Fix O)
include hO

theorem spec_l18Log (w : DWorld) (h : F_World w) : k_spec_l18Log O w = some (((List.range' 0 w.log.length).all (logCh w) && decide ((w.log.length : Int) ≤ 40)), ()) := by
  have b : w.log.length ≤ 9223372036854775807 := h.log.1
  rw [e_spec_l18Log O hO]
  exact loop_all (fun i => l_spec_l18Log_0 O i w) w.log.length (logCh w) (decide ((w.log.length : Int) ≤ 40)) (fun i hi => by
    show l_spec_l18Log_0 O (i : Int) w = _
    rw [e_spec_l18Log_0 O hO (i : Int) w]
    try simp only [rng_eq, gt0, eq0]
    have hf := h.log.2 _ (getD_mem hi zDTold)
    simp only [ltT hi, nn, Bool.and_self, Bool.or_true, if_true, wi (show i < 9223372036854775807 by omega), spec_l1In hO, Int.toNat_natCast, spec_NameOk hO _ hf.name, bif_some, Option.bind_some, gdPrev hi b, wpN (show i ≤ 9223372036854775807 by omega)]
    refine ifN ?_
    simp only [logCh]
    cases rng (w.log.getD i zDTold).time 0 w.time <;> cases nameOk (w.log.getD i zDTold).name <;> cases rng (w.log.getD i zDTold).n 0 1000 <;> cases decide (0 < i) <;> first | rfl | (simp; done)) (by
    show l_spec_l18Log_0 O (w.log.length : Int) w = _
    rw [e_spec_l18Log_0 O hO (w.log.length : Int) w]
    simp only [Int.lt_irrefl, decide_false, Bool.false_eq_true, if_false]) w.log.length 0 (by omega)

omit hO in
theorem recLast (rs : List DRec) (b : rs.length ≤ 9223372036854775807) (X : Bool) : (!((decide (0 < rs.length)) && X) || (decide (0 ≤ IntKind.i64.wrap ((rs.length : Int) - 1)) && decide (IntKind.i64.wrap ((rs.length : Int) - 1) < (rs.length : Int)))) = true := by
  rw [w64 (by omega) (by omega)]
  by_cases h : 0 < rs.length
  · simp only [Bool.or_eq_true, Bool.and_eq_true, decide_eq_true_eq]; right; omega
  · simp [h]

theorem spec_WorldOk (w : DWorld) (h : F_World w) : k_spec_WorldOk O w = some (worldOk w, ()) := by
  have b : w.scales.length ≤ 9223372036854775807 := h.scales.1
  rw [e_spec_WorldOk O hO]
  simp only [spec_StoreOk hO _ h.store, spec_l1In hO, bif_some, Option.bind_some]
  by_cases hn : (w.scales.length : Int) = (w.store.items.length : Int)
  · have hl := loop_allO (fun i => l_spec_WorldOk_0 O i w) w.scales.length (worldCh w) (some (((List.range' 0 w.log.length).all (logCh w) && decide ((w.log.length : Int) ≤ 40)), ())) (fun i hi => by
      show l_spec_WorldOk_0 O (i : Int) w = _
      rw [e_spec_WorldOk_0 O hO (i : Int) w]
      try simp only [rng_eq, gt0, eq0]
      have hf := h.scales.2 _ (getD_mem hi zDScale)
      have hi2 : i < w.store.items.length := by omega
      have br : (w.scales.getD i zDScale).recs.length ≤ 9223372036854775807 := hf.recs.1
      simp only [ltT hi, ltT hi2, nn, Bool.and_self, Bool.or_true, if_true, wi (show i < 9223372036854775807 by omega), Int.toNat_natCast, spec_ScaleOk hO _ hf, Option.bind_some, recLast _ br, wpN br]
      refine ifN ?_
      simp only [worldCh, lastOk]
      cases scaleOk (w.scales.getD i zDScale) <;> cases ((w.scales.getD i zDScale).name == (w.store.items.getD i zDItem).order.name) <;> cases decide (0 < (w.scales.getD i zDScale).recs.length) <;> cases decide (((w.scales.getD i zDScale).recs.getD ((w.scales.getD i zDScale).recs.length - 1) zDRec).time > w.time) <;> rfl) (by
      show l_spec_WorldOk_0 O (w.scales.length : Int) w = _
      rw [e_spec_WorldOk_0 O hO (w.scales.length : Int) w]
      simp only [Int.lt_irrefl, decide_false, Bool.false_eq_true, if_false, spec_l18Log hO w h, Option.bind_some]) w.scales.length 0 (by omega)
    have hl : l_spec_WorldOk_0 O 0 w = _ := hl
    rw [hl]
    have hne : ((w.scales.length : Int) != (w.store.items.length : Int)) = false := by simpa using hn
    simp only [hne, worldOk]
    cases storeOk w.store <;> cases rng w.time 0 1000000 <;> cases (List.range' 0 w.scales.length).all (worldCh w) <;> cases (List.range' 0 w.log.length).all (logCh w) <;> cases decide ((w.log.length : Int) ≤ 40) <;> rfl
  · have hne : ((w.scales.length : Int) != (w.store.items.length : Int)) = true := by simpa using hn
    simp only [hne, worldOk]
    cases storeOk w.store <;> simp

theorem impl_WorldOk (w : DWorld) (h : F_World w) : k_impl_WorldOk O w = some (worldOk w, ()) := by
  have b : w.scales.length ≤ 9223372036854775807 := h.scales.1
  have bl : w.log.length ≤ 9223372036854775807 := h.log.1
  rw [e_impl_WorldOk O hO]
  simp only [impl_StoreOk hO _ h.store, impl_isTime hO, bif_some, Option.bind_some]
  have hg := loop_allO (fun i => l_impl_WorldOk_2 O w.log w.log.length i w) w.log.length (logCh w) (some (true, ())) (fun i hi => by
    show l_impl_WorldOk_2 O w.log w.log.length (i : Int) w = _
    rw [e_impl_WorldOk_2 O hO w.log w.log.length (i : Int) w]
    try simp only [rng_eq, gt0, eq0]
    have hf := h.log.2 _ (getD_mem hi zDTold)
    simp only [ltT hi, nn, Bool.and_self, Bool.or_true, if_true, wi (show i < 9223372036854775807 by omega), impl_from hO, impl_isMany hO, Int.toNat_natCast, impl_NameOk hO _ hf.name, bif_some, Option.bind_some, gdPrev hi bl, wpN (show i ≤ 9223372036854775807 by omega)]
    refine ifN ?_
    simp only [logCh]
    cases rng (w.log.getD i zDTold).time 0 w.time <;> cases nameOk (w.log.getD i zDTold).name <;> cases rng (w.log.getD i zDTold).n 0 1000 <;> cases decide (0 < i) <;> first | rfl | (simp; done)) (by
    show l_impl_WorldOk_2 O w.log w.log.length (w.log.length : Int) w = _
    rw [e_impl_WorldOk_2 O hO w.log w.log.length (w.log.length : Int) w]
    simp only [Int.lt_irrefl, decide_false, Bool.false_eq_true, if_false]) w.log.length 0 (by omega)
  have hg : l_impl_WorldOk_2 O w.log w.log.length 0 w = _ := hg
  by_cases hn : (w.scales.length : Int) = (w.store.items.length : Int)
  · have hl := loop_allO (fun i => l_impl_WorldOk_0 O w.scales w.scales.length i w) w.scales.length (worldCh w) (some ((List.range' 0 w.log.length).all (logCh w), ())) (fun i hi => by
      show l_impl_WorldOk_0 O w.scales w.scales.length (i : Int) w = _
      rw [e_impl_WorldOk_0 O hO w.scales w.scales.length (i : Int) w]
      try simp only [rng_eq, gt0, eq0]
      have hf := h.scales.2 _ (getD_mem hi zDScale)
      have hi2 : i < w.store.items.length := by omega
      have br : (w.scales.getD i zDScale).recs.length ≤ 9223372036854775807 := hf.recs.1
      simp only [ltT hi, ltT hi2, nn, Bool.and_self, Bool.or_true, if_true, wi (show i < 9223372036854775807 by omega), Int.toNat_natCast, impl_ScaleOk hO _ hf, Option.bind_some, recLast _ br, wpN br]
      refine ifN ?_
      simp only [worldCh, lastOk]
      cases scaleOk (w.scales.getD i zDScale) <;> cases ((w.scales.getD i zDScale).name == (w.store.items.getD i zDItem).order.name) <;> cases decide (0 < (w.scales.getD i zDScale).recs.length) <;> cases decide (((w.scales.getD i zDScale).recs.getD ((w.scales.getD i zDScale).recs.length - 1) zDRec).time > w.time) <;> rfl) (by
      show l_impl_WorldOk_0 O w.scales w.scales.length (w.scales.length : Int) w = _
      rw [e_impl_WorldOk_0 O hO w.scales w.scales.length (w.scales.length : Int) w]
      simp only [Int.lt_irrefl, decide_false, Bool.false_eq_true, if_false, hg]
      cases (List.range' 0 w.log.length).all (logCh w) <;> rfl) w.scales.length 0 (by omega)
    have hl : l_impl_WorldOk_0 O w.scales w.scales.length 0 w = _ := hl
    rw [hl]
    have hne : ((w.scales.length : Int) != (w.store.items.length : Int)) = false := by simpa using hn
    by_cases hb : (w.log.length : Int) ≤ 40
    · have hb2 : decide ((w.log.length : Int) > 40) = false := by simpa using hb
      simp only [hne, worldOk, hb2, decide_eq_true hb]
      cases storeOk w.store <;> cases rng w.time 0 1000000 <;> cases (List.range' 0 w.scales.length).all (worldCh w) <;> cases (List.range' 0 w.log.length).all (logCh w) <;> rfl
    · have hb2 : decide ((w.log.length : Int) > 40) = true := by simpa using hb
      simp only [hne, worldOk, hb2, decide_eq_false hb]
      cases storeOk w.store <;> cases rng w.time 0 1000000 <;> cases (List.range' 0 w.scales.length).all (worldCh w) <;> cases (List.range' 0 w.log.length).all (logCh w) <;> rfl
  · have hne : ((w.scales.length : Int) != (w.store.items.length : Int)) = true := by simpa using hn
    simp only [hne, worldOk]
    cases storeOk w.store <;> simp

def boundsOk (w : DWorld) : Bool := worldOk w && (List.range' 0 w.scales.length).all (fun i => rng (w.scales.getD i zDScale).now 1 1000)

theorem spec_JudgeBounds (w : DWorld) (h : F_World w) : k_spec_JudgeBounds O w = some (boundsOk w, ()) := by
  have b : w.scales.length ≤ 9223372036854775807 := h.scales.1
  rw [e_spec_JudgeBounds O hO]
  have hl := loop_all (fun i => l_spec_JudgeBounds_0 O i w) w.scales.length (fun i => rng (w.scales.getD i zDScale).now 1 1000) true (fun i hi => by
    show l_spec_JudgeBounds_0 O (i : Int) w = _
    rw [e_spec_JudgeBounds_0 O hO (i : Int) w]
    simp only [ltT hi, nn, Bool.and_self, Bool.or_true, if_true, wi (show i < 9223372036854775807 by omega), Int.toNat_natCast, spec_l1In hO, Option.bind_some]
    exact ifN rfl) (by
    show l_spec_JudgeBounds_0 O (w.scales.length : Int) w = _
    rw [e_spec_JudgeBounds_0 O hO (w.scales.length : Int) w]
    simp only [Int.lt_irrefl, decide_false, Bool.false_eq_true, if_false]) w.scales.length 0 (by omega)
  have hl : l_spec_JudgeBounds_0 O 0 w = _ := hl
  rw [spec_WorldOk hO w h, Option.bind_some, hl]
  simp only [boundsOk]
  cases worldOk w <;> simp

theorem impl_JudgeBounds (w : DWorld) (h : F_World w) : k_impl_JudgeBounds O w = some (boundsOk w, ()) := by
  have b : w.scales.length ≤ 9223372036854775807 := h.scales.1
  rw [e_impl_JudgeBounds O hO]
  obtain ⟨r, h1, h2⟩ := loop_find (fun i => l_impl_Scale_190__JudgeBounds_1_0 O w.scales w.scales.length i) w.scales.length (fun k => !(rng (w.scales.getD k zDScale).now 1 1000)) (fun i hi => by
    show l_impl_Scale_190__JudgeBounds_1_0 O w.scales w.scales.length (i : Int) = _
    rw [e_impl_Scale_190__JudgeBounds_1_0 O hO w.scales w.scales.length (i : Int)]
    simp only [ltT hi, nn, Bool.and_self, if_true, Int.toNat_natCast, wi (show i < 9223372036854775807 by omega), e_impl_JudgeBounds_1 O hO, impl_from hO, Option.bind_some]) (by
    show l_impl_Scale_190__JudgeBounds_1_0 O w.scales w.scales.length (w.scales.length : Int) = _
    rw [e_impl_Scale_190__JudgeBounds_1_0 O hO w.scales w.scales.length (w.scales.length : Int)]
    simp only [Int.lt_irrefl, decide_false, Bool.false_eq_true, if_false]) w.scales.length 0 (by omega)
  have h1 : l_impl_Scale_190__JudgeBounds_1_0 O w.scales w.scales.length 0 = _ := h1
  rw [e_impl_Scale_133__JudgeBounds_1 O hO, e_impl_Scale_190__JudgeBounds_1 O hO, h1, Option.bind_some, h2, impl_WorldOk hO w h]
  simp only [bif_some, Option.bind_some, boundsOk]
  have h3 : (List.range' 0 w.scales.length).any (fun k => !(rng (w.scales.getD k zDScale).now 1 1000)) = !(List.range' 0 w.scales.length).all (fun i => rng (w.scales.getD i zDScale).now 1 1000) := by
    rw [List.not_all_eq_any_not]
  rw [h3]
  cases worldOk w <;> cases (List.range' 0 w.scales.length).all (fun i => rng (w.scales.getD i zDScale).now 1 1000) <;> rfl

def versOk (w : DWorld) : Bool := worldOk w && decide ((IntKind.i64.wrap (w.store.next - 1)) ≥ (w.store.items.length : Int))

theorem impl_JudgeVers (w : DWorld) (h : F_World w) : k_impl_JudgeVers O w = some (versOk w, ()) := by
  rw [e_impl_JudgeVers O hO, impl_WorldOk hO w h, Option.bind_some]
  simp only [versOk]
  cases worldOk w <;> rfl

theorem spec_JudgeVers (w : DWorld) (h : F_World w) : k_spec_JudgeVers O w = some (versOk w, ()) := by
  have b : w.store.items.length ≤ 9223372036854775807 := h.store.items.1
  rw [e_spec_JudgeVers O hO, spec_WorldOk hO w h, Option.bind_some]
  cases hw : worldOk w with
  | false => simp [versOk, hw]
  | true =>
    have hs : storeOk w.store = true := by
      simp only [worldOk, Bool.and_eq_true] at hw
      exact hw.1.1.1.1.1
    simp only [storeOk, Bool.and_eq_true] at hs
    have hn := rng_iff.1 hs.1.1
    have hc : ∀ i, i < w.store.items.length → storeCh w.store i = true := fun i hi => List.all_eq_true.1 hs.2 i (by rw [List.mem_range']; exact ⟨i, hi, by omega⟩)
    have hl := loop_allO (fun i => l_spec_JudgeVers_0 O i w) w.store.items.length (fun _ => true) (some (decide ((IntKind.i64.wrap (w.store.next - 1)) ≥ (w.store.items.length : Int)), ())) (fun i hi => by
      show l_spec_JudgeVers_0 O (i : Int) w = _
      rw [e_spec_JudgeVers_0 O hO (i : Int) w]
      have hci := hc i hi
      simp only [storeCh, Bool.and_eq_true] at hci
      have hver := rng_iff.1 hci.1.1.2
      rw [w64 (by omega) (by omega)] at hver
      have hdis := List.all_eq_true.1 hci.2
      have hin := loop_allO (fun k => l_spec_JudgeVers_2 O i k w) i (fun _ => true) (l_spec_JudgeVers_0 O ((i + 1 : Nat) : Int) w) (fun k hk => by
        show l_spec_JudgeVers_2 O i (k : Int) w = _
        rw [e_spec_JudgeVers_2 O hO i (k : Int) w]
        have hd := hdis k (by rw [List.mem_range']; exact ⟨k, hk, by omega⟩)
        have hd2 : ((w.store.items.getD i zDItem).ver == (w.store.items.getD k zDItem).ver) = false := by
          simp only [Bool.not_eq_true'] at hd
          have h1 : (w.store.items.getD k zDItem).ver ≠ (w.store.items.getD i zDItem).ver := by simpa using hd
          exact beq_false_of_ne (fun e => h1 e.symm)
        simp only [ltT hk, ltT hi, ltT (show k < w.store.items.length by omega), nn, Bool.and_self, if_true, Int.toNat_natCast, wi (show k < 9223372036854775807 by omega), hd2, Bool.false_eq_true, if_false]) (by
        show l_spec_JudgeVers_2 O i (i : Int) w = _
        rw [e_spec_JudgeVers_2 O hO i (i : Int) w]
        have hge : decide ((w.store.items.getD i zDItem).ver ≥ w.store.next) = false := by simp only [decide_eq_false_iff_not]; omega
        simp only [Int.lt_irrefl, decide_false, Bool.false_eq_true, if_false, Int.toNat_natCast, hge, ltT hi, nn, Bool.and_self, if_true, wi (show i < 9223372036854775807 by omega)]) i 0 (by omega)
      have hin : l_spec_JudgeVers_2 O i 0 w = _ := hin
      simp only [ltT hi, if_true, hin]
      simp) (by
      show l_spec_JudgeVers_0 O (w.store.items.length : Int) w = _
      rw [e_spec_JudgeVers_0 O hO (w.store.items.length : Int) w]
      simp only [Int.lt_irrefl, decide_false, Bool.false_eq_true, if_false]) w.store.items.length 0 (by omega)
    have hl : l_spec_JudgeVers_0 O 0 w = _ := hl
    rw [hl]
    simp [versOk, hw]

end

theorem law_frame {O : Orc E} (hO : Fix O) (w : DWorld) (h : F_World w) (X : Option (Bool × Unit)) (hX : w_World w ≤ 1048576 → X = some (true, ())) :
    ((k_laws_szWorld O w 1048576).bind fun y1 => if decide (y1.1 < 0) = true then some (true, ()) else X) = some (true, ()) := by
  rw [sz_World hO w h 1048576 (by omega) (by omega), Option.bind_some]
  by_cases hs : szR 1048576 (w_World w) < 0
  · rw [if_pos (by simpa using hs)]
  · rw [if_neg (by simpa using hs)]
    obtain ⟨h1, _⟩ := szR_nn hs
    exact hX (by omega)

theorem fixL : Fix (orcL E) := orcL_fix

theorem pl_FnExactJudgeBounds (w : DWorld) (h : ∀ c ∈ E.cells 86 w, FitV E c) : (orcL E).call 7 (w, ()) = some (true, ()) := by
  have hf := fit_World w h
  refine (e_laws_FnExactJudgeBounds (orcL E) fixL w).trans (law_frame fixL w hf _ (fun hw => ?_))
  simp only [to_World fixL w hw, Option.bind_some, spec_JudgeBounds fixL w hf, impl_JudgeBounds fixL w hf, eq_World fixL w hf]
  simp

theorem pl_FnExactJudgeVers (w : DWorld) (h : ∀ c ∈ E.cells 86 w, FitV E c) : (orcL E).call 8 (w, ()) = some (true, ()) := by
  have hf := fit_World w h
  refine (e_laws_FnExactJudgeVers (orcL E) fixL w).trans (law_frame fixL w hf _ (fun hw => ?_))
  simp only [to_World fixL w hw, Option.bind_some, spec_JudgeVers fixL w hf, impl_JudgeVers fixL w hf, eq_World fixL w hf]
  simp

end Go.Proofs.Ytejfpemjmpoddaa.Vx
