/- The laws' own helpers: what sizes, copies and comparisons tell. Written by a program of this work (fam.py). -/
import Derived.Test.YtejfpemjmpoddaaVxM3
import Derived.Test.YtejfpemjmpoddaaVxJC0
namespace Go.Proofs.Ytejfpemjmpoddaa.Vx
open Go Go.Proofs
theorem FitV.intI {n : Int} (h : FitV E (.int .i64 n)) : i64In n := by cases h with | int _ _ h => simp [Lit.wf, IntKind.min, IntKind.max, IntKind.signed, IntKind.bits] at h; exact ⟨by omega, by omega⟩
theorem FitV.strI {s : List UInt8} (h : FitV E (.str s)) : s.length ≤ maxI := by cases h with | str _ h => exact h
theorem FitV.slI {κ : Nat} {xs : List (E.Ty κ)} (h : FitV E (.sl κ xs)) : xs.length ≤ maxI ∧ ∀ x ∈ xs, ∀ c ∈ E.cells κ x, FitV E c := by cases h with | sl _ _ h h2 => exact ⟨h, h2⟩
section
variable {O : Orc E} (hO : Fix O)
include hO
/-! ### Metric -/
end
structure F_Metric (a : DMetric) : Prop where
  name : a.name.length ≤ maxI
  kind : i64In a.kind
  goal : i64In a.goal
def F_MetricS (xs : List DMetric) : Prop := xs.length ≤ maxI ∧ ∀ x ∈ xs, F_Metric x
def w_Metric (a : DMetric) : Nat := a.name.length
def w_MetricS (xs : List DMetric) : Nat := xs.length + (xs.map w_Metric).sum
section
variable {O : Orc E} (hO : Fix O)
include hO
omit hO in
theorem fit_Metric (a : DMetric) (h : ∀ c ∈ E.cells 268 a, FitV E c) : F_Metric a := ⟨FitV.strI (h _ (List.mem_of_getElem? (i := 0) rfl)), FitV.intI (h _ (List.mem_of_getElem? (i := 1) rfl)), FitV.intI (h _ (List.mem_of_getElem? (i := 2) rfl))⟩
theorem sz_Metric (a : DMetric) (h : F_Metric a) (l : Int) (h0 : 0 ≤ l) (h1 : l ≤ 4611686018427387904) : k_laws_szMetric O a l = some (szR l (w_Metric a), ()) := by
  rw [e_laws_szMetric O hO]
  have hw : w_Metric a = a.name.length := rfl
  have b1 : a.name.length ≤ 9223372036854775807 := h.name
  by_cases c1 : l < (a.name.length : Int)
  · rw [if_pos (wT (by omega) (by omega))]; exact szNeg (by omega)
  · rw [if_neg (wF (by omega) (by omega))]; rw [w64 (n := l - (a.name.length : Int)) (by omega) (by omega)]
    exact szEnd (by omega) (by omega)
theorem sz_MetricS (a : List DMetric) (h : F_MetricS a) (l : Int) (h0 : 0 ≤ l) (h1 : l ≤ 4611686018427387904) : k_laws_szMetricS O a l = some (szR l (w_MetricS a), ()) := by
  have b : a.length ≤ 9223372036854775807 := h.1
  rw [e_laws_szMetricS O hO]
  have hw : w_MetricS a = a.length + (a.map w_Metric).sum := rfl
  by_cases c : l < (a.length : Int)
  · rw [if_pos (wT (by omega) (by omega))]; exact szNeg (by omega)
  · rw [if_neg (wF (by omega) (by omega))]; rw [w64 (n := l - (a.length : Int)) (by omega) (by omega)]
    have hl := loop_sz (fun l i => l_laws_szMetricS_0 O a l i) a w_Metric (fun i x l hx h0 h1 => by
      have hi : i < a.length := by rcases Nat.lt_or_ge i a.length with h | h; · exact h
                                   · rw [List.getElem?_eq_none h] at hx; cases hx
      have hg : a.getD i zDMetric = x := by rw [List.getD_eq_getElem?_getD, hx]; rfl
      show l_laws_szMetricS_0 O a l (i : Int) = _
      rw [e_laws_szMetricS_0 O hO a l (i : Int)]
      simp only [ltT hi, nn, Bool.and_self, if_true, Int.toNat_natCast, hg, wi (show i < 9223372036854775807 by omega)]
      rw [sz_Metric hO x (h.2 x (List.mem_of_getElem? hx)) l h0 h1]) (fun l => by
        show l_laws_szMetricS_0 O a l (a.length : Int) = _
        rw [e_laws_szMetricS_0 O hO a l (a.length : Int)]
        simp only [Int.lt_irrefl, decide_false, Bool.false_eq_true, if_false]) a.length 0 (by omega) (l - (a.length : Int)) (by omega) (by omega)
    have hl : l_laws_szMetricS_0 O a (l - (a.length : Int)) 0 = some (szR (l - (a.length : Int)) ((a.map w_Metric).sum), ()) := hl
    rw [hl, hw]
    by_cases c2 : l - (a.length : Int) < ((a.map w_Metric).sum : Nat)
    · unfold szR; rw [if_pos c2, if_pos (by omega)]
    · unfold szR; rw [if_neg c2, if_neg (by omega)]; congr 2; omega
theorem to_Metric (a : DMetric) (h : w_Metric a ≤ 1048576) : k_laws_toMetric O a = some (a, ()) := by
  have hw : w_Metric a = a.name.length := rfl
  rw [e_laws_toMetric O hO]
theorem to_MetricS (a : List DMetric) (h : w_MetricS a ≤ 1048576) : k_laws_toMetricS O a = some (a, ()) := by
  have hw : w_MetricS a = a.length + (a.map w_Metric).sum := rfl
  rw [e_laws_toMetricS O hO, if_pos (by simp only [Bool.and_eq_true, decide_eq_true_eq, Int.natCast_nonneg, and_true, true_and]; omega)]
  have hl := loop_map (fun i r => l_laws_toMetricS_0 O a i r) a id (fun i x r hx hr => by
      have hi : i < a.length := by rcases Nat.lt_or_ge i a.length with h | h; · exact h
                                   · rw [List.getElem?_eq_none h] at hx; cases hx
      have hg : a.getD i zDMetric = x := by rw [List.getD_eq_getElem?_getD, hx]; rfl
      have hir : i < r.length := by omega
      have hwx : w_Metric x ≤ 1048576 := by
        have h5 := sum_le w_Metric (List.mem_of_getElem? hx)
        omega
      show l_laws_toMetricS_0 O a (i : Int) r = _
      rw [e_laws_toMetricS_0 O hO a (i : Int) r]
      simp only [ltT hi, ltT hir, nn, Bool.and_self, if_true, Int.toNat_natCast, hg, wi (show i < 9223372036854775807 by omega)]
      rw [to_Metric hO x hwx, Option.bind_some]
      simp only [hir, decide_true, if_true, id]) (fun r => by
        show l_laws_toMetricS_0 O a (a.length : Int) r = _
        rw [e_laws_toMetricS_0 O hO a (a.length : Int) r]
        simp only [Int.lt_irrefl, decide_false, Bool.false_eq_true, if_false]) a.length 0 (by omega)
  rw [show l_laws_toMetricS_0 O a 0 _ = _ from hl _ (by simp)]
  simp
theorem eq_Metric (a : DMetric) (h : F_Metric a) : k_laws_eqMetric O a a = some (true, ()) := by
  rw [e_laws_eqMetric O hO]
  simp []
theorem eq_MetricS (a : List DMetric) (h : F_MetricS a) : k_laws_eqMetricS O a a = some (true, ()) := by
  have b : a.length ≤ 9223372036854775807 := h.1
  rw [e_laws_eqMetricS O hO, if_neg (by simp)]
  have hl := loop_all (fun i => l_laws_eqMetricS_0 O a a i) a.length (fun _ => true) true (fun i hi => by
      have hx : a[i]? = some a[i] := List.getElem?_eq_getElem hi
      have hg : a.getD i zDMetric = a[i] := by rw [List.getD_eq_getElem?_getD, hx]; rfl
      show l_laws_eqMetricS_0 O a a (i : Int) = _
      rw [e_laws_eqMetricS_0 O hO a a (i : Int)]
      simp only [ltT hi, nn, Bool.and_self, if_true, Int.toNat_natCast, hg, wi (show i < 9223372036854775807 by omega)]
      rw [eq_Metric hO a[i] (h.2 _ (List.getElem_mem hi)), Option.bind_some]
      simp only [Bool.not_true, Bool.false_eq_true, if_false]) (by
        show l_laws_eqMetricS_0 O a a (a.length : Int) = _
        rw [e_laws_eqMetricS_0 O hO a a (a.length : Int)]
        simp only [Int.lt_irrefl, decide_false, Bool.false_eq_true, if_false]) a.length 0 (by omega)
  have hl : l_laws_eqMetricS_0 O a a 0 = _ := hl
  rw [hl]; simp
/-! ### Pace -/
end
structure F_Pace (a : DPace) : Prop where
  up : i64In a.up
  down : i64In a.down
  upSpan : i64In a.upSpan
  downSpan : i64In a.downSpan
def F_PaceS (xs : List DPace) : Prop := xs.length ≤ maxI ∧ ∀ x ∈ xs, F_Pace x
def w_Pace (_ : DPace) : Nat := 0
def w_PaceS (xs : List DPace) : Nat := xs.length + (xs.map w_Pace).sum
section
variable {O : Orc E} (hO : Fix O)
include hO
omit hO in
theorem fit_Pace (a : DPace) (h : ∀ c ∈ E.cells 233 a, FitV E c) : F_Pace a := ⟨FitV.intI (h _ (List.mem_of_getElem? (i := 0) rfl)), FitV.intI (h _ (List.mem_of_getElem? (i := 1) rfl)), FitV.intI (h _ (List.mem_of_getElem? (i := 2) rfl)), FitV.intI (h _ (List.mem_of_getElem? (i := 3) rfl))⟩
theorem to_Pace (a : DPace) (h : w_Pace a ≤ 1048576) : k_laws_toPace O a = some (a, ()) := by
  rw [e_laws_toPace O hO]
theorem eq_Pace (a : DPace) (h : F_Pace a) : k_laws_eqPace O a a = some (true, ()) := by
  rw [e_laws_eqPace O hO]
  simp []
/-! ### Note -/
end
structure F_Note (a : DNote) : Prop where
  key : a.key.length ≤ maxI
  text : a.text.length ≤ maxI
def F_NoteS (xs : List DNote) : Prop := xs.length ≤ maxI ∧ ∀ x ∈ xs, F_Note x
def w_Note (a : DNote) : Nat := a.key.length + a.text.length
def w_NoteS (xs : List DNote) : Nat := xs.length + (xs.map w_Note).sum
section
variable {O : Orc E} (hO : Fix O)
include hO
omit hO in
theorem fit_Note (a : DNote) (h : ∀ c ∈ E.cells 270 a, FitV E c) : F_Note a := ⟨FitV.strI (h _ (List.mem_of_getElem? (i := 0) rfl)), FitV.strI (h _ (List.mem_of_getElem? (i := 1) rfl))⟩
theorem sz_Note (a : DNote) (h : F_Note a) (l : Int) (h0 : 0 ≤ l) (h1 : l ≤ 4611686018427387904) : k_laws_szNote O a l = some (szR l (w_Note a), ()) := by
  rw [e_laws_szNote O hO]
  have hw : w_Note a = a.key.length + a.text.length := rfl
  have b1 : a.key.length ≤ 9223372036854775807 := h.key
  by_cases c1 : l < (a.key.length : Int)
  · rw [if_pos (wT (by omega) (by omega))]; exact szNeg (by omega)
  · rw [if_neg (wF (by omega) (by omega))]; rw [w64 (n := l - (a.key.length : Int)) (by omega) (by omega)]
    have b2 : a.text.length ≤ 9223372036854775807 := h.text
    by_cases c2 : (l - (a.key.length : Int)) < (a.text.length : Int)
    · rw [if_pos (wT (by omega) (by omega))]; exact szNeg (by omega)
    · rw [if_neg (wF (by omega) (by omega))]; rw [w64 (n := (l - (a.key.length : Int)) - (a.text.length : Int)) (by omega) (by omega)]
      exact szEnd (by omega) (by omega)
theorem sz_NoteS (a : List DNote) (h : F_NoteS a) (l : Int) (h0 : 0 ≤ l) (h1 : l ≤ 4611686018427387904) : k_laws_szNoteS O a l = some (szR l (w_NoteS a), ()) := by
  have b : a.length ≤ 9223372036854775807 := h.1
  rw [e_laws_szNoteS O hO]
  have hw : w_NoteS a = a.length + (a.map w_Note).sum := rfl
  by_cases c : l < (a.length : Int)
  · rw [if_pos (wT (by omega) (by omega))]; exact szNeg (by omega)
  · rw [if_neg (wF (by omega) (by omega))]; rw [w64 (n := l - (a.length : Int)) (by omega) (by omega)]
    have hl := loop_sz (fun l i => l_laws_szNoteS_0 O a l i) a w_Note (fun i x l hx h0 h1 => by
      have hi : i < a.length := by rcases Nat.lt_or_ge i a.length with h | h; · exact h
                                   · rw [List.getElem?_eq_none h] at hx; cases hx
      have hg : a.getD i zDNote = x := by rw [List.getD_eq_getElem?_getD, hx]; rfl
      show l_laws_szNoteS_0 O a l (i : Int) = _
      rw [e_laws_szNoteS_0 O hO a l (i : Int)]
      simp only [ltT hi, nn, Bool.and_self, if_true, Int.toNat_natCast, hg, wi (show i < 9223372036854775807 by omega)]
      rw [sz_Note hO x (h.2 x (List.mem_of_getElem? hx)) l h0 h1]) (fun l => by
        show l_laws_szNoteS_0 O a l (a.length : Int) = _
        rw [e_laws_szNoteS_0 O hO a l (a.length : Int)]
        simp only [Int.lt_irrefl, decide_false, Bool.false_eq_true, if_false]) a.length 0 (by omega) (l - (a.length : Int)) (by omega) (by omega)
    have hl : l_laws_szNoteS_0 O a (l - (a.length : Int)) 0 = some (szR (l - (a.length : Int)) ((a.map w_Note).sum), ()) := hl
    rw [hl, hw]
    by_cases c2 : l - (a.length : Int) < ((a.map w_Note).sum : Nat)
    · unfold szR; rw [if_pos c2, if_pos (by omega)]
    · unfold szR; rw [if_neg c2, if_neg (by omega)]; congr 2; omega
theorem to_Note (a : DNote) (h : w_Note a ≤ 1048576) : k_laws_toNote O a = some (a, ()) := by
  have hw : w_Note a = a.key.length + a.text.length := rfl
  rw [e_laws_toNote O hO]
theorem to_NoteS (a : List DNote) (h : w_NoteS a ≤ 1048576) : k_laws_toNoteS O a = some (a, ()) := by
  have hw : w_NoteS a = a.length + (a.map w_Note).sum := rfl
  rw [e_laws_toNoteS O hO, if_pos (by simp only [Bool.and_eq_true, decide_eq_true_eq, Int.natCast_nonneg, and_true, true_and]; omega)]
  have hl := loop_map (fun i r => l_laws_toNoteS_0 O a i r) a id (fun i x r hx hr => by
      have hi : i < a.length := by rcases Nat.lt_or_ge i a.length with h | h; · exact h
                                   · rw [List.getElem?_eq_none h] at hx; cases hx
      have hg : a.getD i zDNote = x := by rw [List.getD_eq_getElem?_getD, hx]; rfl
      have hir : i < r.length := by omega
      have hwx : w_Note x ≤ 1048576 := by
        have h5 := sum_le w_Note (List.mem_of_getElem? hx)
        omega
      show l_laws_toNoteS_0 O a (i : Int) r = _
      rw [e_laws_toNoteS_0 O hO a (i : Int) r]
      simp only [ltT hi, ltT hir, nn, Bool.and_self, if_true, Int.toNat_natCast, hg, wi (show i < 9223372036854775807 by omega)]
      rw [to_Note hO x hwx, Option.bind_some]
      simp only [hir, decide_true, if_true, id]) (fun r => by
        show l_laws_toNoteS_0 O a (a.length : Int) r = _
        rw [e_laws_toNoteS_0 O hO a (a.length : Int) r]
        simp only [Int.lt_irrefl, decide_false, Bool.false_eq_true, if_false]) a.length 0 (by omega)
  rw [show l_laws_toNoteS_0 O a 0 _ = _ from hl _ (by simp)]
  simp
theorem eq_Note (a : DNote) (h : F_Note a) : k_laws_eqNote O a a = some (true, ()) := by
  rw [e_laws_eqNote O hO]
  simp []
theorem eq_NoteS (a : List DNote) (h : F_NoteS a) : k_laws_eqNoteS O a a = some (true, ()) := by
  have b : a.length ≤ 9223372036854775807 := h.1
  rw [e_laws_eqNoteS O hO, if_neg (by simp)]
  have hl := loop_all (fun i => l_laws_eqNoteS_0 O a a i) a.length (fun _ => true) true (fun i hi => by
      have hx : a[i]? = some a[i] := List.getElem?_eq_getElem hi
      have hg : a.getD i zDNote = a[i] := by rw [List.getD_eq_getElem?_getD, hx]; rfl
      show l_laws_eqNoteS_0 O a a (i : Int) = _
      rw [e_laws_eqNoteS_0 O hO a a (i : Int)]
      simp only [ltT hi, nn, Bool.and_self, if_true, Int.toNat_natCast, hg, wi (show i < 9223372036854775807 by omega)]
      rw [eq_Note hO a[i] (h.2 _ (List.getElem_mem hi)), Option.bind_some]
      simp only [Bool.not_true, Bool.false_eq_true, if_false]) (by
        show l_laws_eqNoteS_0 O a a (a.length : Int) = _
        rw [e_laws_eqNoteS_0 O hO a a (a.length : Int)]
        simp only [Int.lt_irrefl, decide_false, Bool.false_eq_true, if_false]) a.length 0 (by omega)
  have hl : l_laws_eqNoteS_0 O a a 0 = _ := hl
  rw [hl]; simp
/-! ### Order -/
end
structure F_Order (a : DOrder) : Prop where
  name : a.name.length ≤ maxI
  target : a.target.length ≤ maxI
  low : i64In a.low
  high : i64In a.high
  metrics : F_MetricS a.metrics
  pace : F_Pace a.pace
  notes : F_NoteS a.notes
def F_OrderS (xs : List DOrder) : Prop := xs.length ≤ maxI ∧ ∀ x ∈ xs, F_Order x
def w_Order (a : DOrder) : Nat := a.name.length + a.target.length + w_MetricS a.metrics + w_NoteS a.notes
def w_OrderS (xs : List DOrder) : Nat := xs.length + (xs.map w_Order).sum
section
variable {O : Orc E} (hO : Fix O)
include hO
omit hO in
theorem fit_Order (a : DOrder) (h : ∀ c ∈ E.cells 236 a, FitV E c) : F_Order a := ⟨FitV.strI (h _ (List.mem_of_getElem? (i := 0) rfl)), FitV.strI (h _ (List.mem_of_getElem? (i := 1) rfl)), FitV.intI (h _ (List.mem_of_getElem? (i := 2) rfl)), FitV.intI (h _ (List.mem_of_getElem? (i := 3) rfl)), ⟨(FitV.slI (h _ (List.mem_of_getElem? (i := 4) rfl))).1, fun x hx => fit_Metric x ((FitV.slI (h _ (List.mem_of_getElem? (i := 4) rfl))).2 x hx)⟩, ⟨FitV.intI (h _ (List.mem_of_getElem? (i := 5) rfl)), FitV.intI (h _ (List.mem_of_getElem? (i := 6) rfl)), FitV.intI (h _ (List.mem_of_getElem? (i := 7) rfl)), FitV.intI (h _ (List.mem_of_getElem? (i := 8) rfl))⟩, ⟨(FitV.slI (h _ (List.mem_of_getElem? (i := 9) rfl))).1, fun x hx => fit_Note x ((FitV.slI (h _ (List.mem_of_getElem? (i := 9) rfl))).2 x hx)⟩⟩
theorem sz_Order (a : DOrder) (h : F_Order a) (l : Int) (h0 : 0 ≤ l) (h1 : l ≤ 4611686018427387904) : k_laws_szOrder O a l = some (szR l (w_Order a), ()) := by
  rw [e_laws_szOrder O hO]
  have hw : w_Order a = a.name.length + a.target.length + w_MetricS a.metrics + w_NoteS a.notes := rfl
  have b1 : a.name.length ≤ 9223372036854775807 := h.name
  by_cases c1 : l < (a.name.length : Int)
  · rw [if_pos (wT (by omega) (by omega))]; exact szNeg (by omega)
  · rw [if_neg (wF (by omega) (by omega))]; rw [w64 (n := l - (a.name.length : Int)) (by omega) (by omega)]
    have b2 : a.target.length ≤ 9223372036854775807 := h.target
    by_cases c2 : (l - (a.name.length : Int)) < (a.target.length : Int)
    · rw [if_pos (wT (by omega) (by omega))]; exact szNeg (by omega)
    · rw [if_neg (wF (by omega) (by omega))]; rw [w64 (n := (l - (a.name.length : Int)) - (a.target.length : Int)) (by omega) (by omega)]
      rw [sz_MetricS hO _ h.metrics _ (by omega) (by omega), Option.bind_some]
      by_cases c3 : szR ((l - (a.name.length : Int)) - (a.target.length : Int)) (w_MetricS a.metrics) < 0
      · have n3 := szR_neg c3
        rw [if_pos (by simpa using c3)]; exact szNeg (by omega)
      · obtain ⟨p3, q3⟩ := szR_nn c3
        rw [if_neg (by simpa using c3)]; simp only [q3]
        rw [sz_NoteS hO _ h.notes _ (by omega) (by omega), Option.bind_some]
        by_cases c4 : szR (((l - (a.name.length : Int)) - (a.target.length : Int)) - ((w_MetricS a.metrics : Nat) : Int)) (w_NoteS a.notes) < 0
        · have n4 := szR_neg c4
          rw [if_pos (by simpa using c4)]; exact szNeg (by omega)
        · obtain ⟨p4, q4⟩ := szR_nn c4
          rw [if_neg (by simpa using c4)]; simp only [q4]
          exact szEnd (by omega) (by omega)
theorem to_Order (a : DOrder) (h : w_Order a ≤ 1048576) : k_laws_toOrder O a = some (a, ()) := by
  have hw : w_Order a = a.name.length + a.target.length + w_MetricS a.metrics + w_NoteS a.notes := rfl
  rw [e_laws_toOrder O hO]
  rw [to_MetricS hO a.metrics (by omega), Option.bind_some]
  rw [to_Pace hO a.pace (by simp [w_Pace]), Option.bind_some]
  rw [to_NoteS hO a.notes (by omega), Option.bind_some]
theorem eq_Order (a : DOrder) (h : F_Order a) : k_laws_eqOrder O a a = some (true, ()) := by
  rw [e_laws_eqOrder O hO]
  simp [eq_MetricS hO a.metrics h.metrics, eq_Pace hO a.pace h.pace, eq_NoteS hO a.notes h.notes]
/-! ### Item -/
end
structure F_Item (a : DItem) : Prop where
  order : F_Order a.order
  ver : i64In a.ver
def F_ItemS (xs : List DItem) : Prop := xs.length ≤ maxI ∧ ∀ x ∈ xs, F_Item x
def w_Item (a : DItem) : Nat := w_Order a.order
def w_ItemS (xs : List DItem) : Nat := xs.length + (xs.map w_Item).sum
section
variable {O : Orc E} (hO : Fix O)
include hO
omit hO in
theorem fit_Item (a : DItem) (h : ∀ c ∈ E.cells 238 a, FitV E c) : F_Item a := ⟨⟨FitV.strI (h _ (List.mem_of_getElem? (i := 0) rfl)), FitV.strI (h _ (List.mem_of_getElem? (i := 1) rfl)), FitV.intI (h _ (List.mem_of_getElem? (i := 2) rfl)), FitV.intI (h _ (List.mem_of_getElem? (i := 3) rfl)), ⟨(FitV.slI (h _ (List.mem_of_getElem? (i := 4) rfl))).1, fun x hx => fit_Metric x ((FitV.slI (h _ (List.mem_of_getElem? (i := 4) rfl))).2 x hx)⟩, ⟨FitV.intI (h _ (List.mem_of_getElem? (i := 5) rfl)), FitV.intI (h _ (List.mem_of_getElem? (i := 6) rfl)), FitV.intI (h _ (List.mem_of_getElem? (i := 7) rfl)), FitV.intI (h _ (List.mem_of_getElem? (i := 8) rfl))⟩, ⟨(FitV.slI (h _ (List.mem_of_getElem? (i := 9) rfl))).1, fun x hx => fit_Note x ((FitV.slI (h _ (List.mem_of_getElem? (i := 9) rfl))).2 x hx)⟩⟩, FitV.intI (h _ (List.mem_of_getElem? (i := 10) rfl))⟩
theorem sz_Item (a : DItem) (h : F_Item a) (l : Int) (h0 : 0 ≤ l) (h1 : l ≤ 4611686018427387904) : k_laws_szItem O a l = some (szR l (w_Item a), ()) := by
  rw [e_laws_szItem O hO]
  have hw : w_Item a = w_Order a.order := rfl
  rw [sz_Order hO _ h.order _ (by omega) (by omega), Option.bind_some]
  by_cases c1 : szR l (w_Order a.order) < 0
  · have n1 := szR_neg c1
    rw [if_pos (by simpa using c1)]; exact szNeg (by omega)
  · obtain ⟨p1, q1⟩ := szR_nn c1
    rw [if_neg (by simpa using c1)]; simp only [q1]
    exact szEnd (by omega) (by omega)
theorem sz_ItemS (a : List DItem) (h : F_ItemS a) (l : Int) (h0 : 0 ≤ l) (h1 : l ≤ 4611686018427387904) : k_laws_szItemS O a l = some (szR l (w_ItemS a), ()) := by
  have b : a.length ≤ 9223372036854775807 := h.1
  rw [e_laws_szItemS O hO]
  have hw : w_ItemS a = a.length + (a.map w_Item).sum := rfl
  by_cases c : l < (a.length : Int)
  · rw [if_pos (wT (by omega) (by omega))]; exact szNeg (by omega)
  · rw [if_neg (wF (by omega) (by omega))]; rw [w64 (n := l - (a.length : Int)) (by omega) (by omega)]
    have hl := loop_sz (fun l i => l_laws_szItemS_0 O a l i) a w_Item (fun i x l hx h0 h1 => by
      have hi : i < a.length := by rcases Nat.lt_or_ge i a.length with h | h; · exact h
                                   · rw [List.getElem?_eq_none h] at hx; cases hx
      have hg : a.getD i zDItem = x := by rw [List.getD_eq_getElem?_getD, hx]; rfl
      show l_laws_szItemS_0 O a l (i : Int) = _
      rw [e_laws_szItemS_0 O hO a l (i : Int)]
      simp only [ltT hi, nn, Bool.and_self, if_true, Int.toNat_natCast, hg, wi (show i < 9223372036854775807 by omega)]
      rw [sz_Item hO x (h.2 x (List.mem_of_getElem? hx)) l h0 h1]) (fun l => by
        show l_laws_szItemS_0 O a l (a.length : Int) = _
        rw [e_laws_szItemS_0 O hO a l (a.length : Int)]
        simp only [Int.lt_irrefl, decide_false, Bool.false_eq_true, if_false]) a.length 0 (by omega) (l - (a.length : Int)) (by omega) (by omega)
    have hl : l_laws_szItemS_0 O a (l - (a.length : Int)) 0 = some (szR (l - (a.length : Int)) ((a.map w_Item).sum), ()) := hl
    rw [hl, hw]
    by_cases c2 : l - (a.length : Int) < ((a.map w_Item).sum : Nat)
    · unfold szR; rw [if_pos c2, if_pos (by omega)]
    · unfold szR; rw [if_neg c2, if_neg (by omega)]; congr 2; omega
theorem to_Item (a : DItem) (h : w_Item a ≤ 1048576) : k_laws_toItem O a = some (a, ()) := by
  have hw : w_Item a = w_Order a.order := rfl
  rw [e_laws_toItem O hO]
  rw [to_Order hO a.order (by omega), Option.bind_some]
theorem to_ItemS (a : List DItem) (h : w_ItemS a ≤ 1048576) : k_laws_toItemS O a = some (a, ()) := by
  have hw : w_ItemS a = a.length + (a.map w_Item).sum := rfl
  rw [e_laws_toItemS O hO, if_pos (by simp only [Bool.and_eq_true, decide_eq_true_eq, Int.natCast_nonneg, and_true, true_and]; omega)]
  have hl := loop_map (fun i r => l_laws_toItemS_0 O a i r) a id (fun i x r hx hr => by
      have hi : i < a.length := by rcases Nat.lt_or_ge i a.length with h | h; · exact h
                                   · rw [List.getElem?_eq_none h] at hx; cases hx
      have hg : a.getD i zDItem = x := by rw [List.getD_eq_getElem?_getD, hx]; rfl
      have hir : i < r.length := by omega
      have hwx : w_Item x ≤ 1048576 := by
        have h5 := sum_le w_Item (List.mem_of_getElem? hx)
        omega
      show l_laws_toItemS_0 O a (i : Int) r = _
      rw [e_laws_toItemS_0 O hO a (i : Int) r]
      simp only [ltT hi, ltT hir, nn, Bool.and_self, if_true, Int.toNat_natCast, hg, wi (show i < 9223372036854775807 by omega)]
      rw [to_Item hO x hwx, Option.bind_some]
      simp only [hir, decide_true, if_true, id]) (fun r => by
        show l_laws_toItemS_0 O a (a.length : Int) r = _
        rw [e_laws_toItemS_0 O hO a (a.length : Int) r]
        simp only [Int.lt_irrefl, decide_false, Bool.false_eq_true, if_false]) a.length 0 (by omega)
  rw [show l_laws_toItemS_0 O a 0 _ = _ from hl _ (by simp)]
  simp
theorem eq_Item (a : DItem) (h : F_Item a) : k_laws_eqItem O a a = some (true, ()) := by
  rw [e_laws_eqItem O hO]
  simp [eq_Order hO a.order h.order]
theorem eq_ItemS (a : List DItem) (h : F_ItemS a) : k_laws_eqItemS O a a = some (true, ()) := by
  have b : a.length ≤ 9223372036854775807 := h.1
  rw [e_laws_eqItemS O hO, if_neg (by simp)]
  have hl := loop_all (fun i => l_laws_eqItemS_0 O a a i) a.length (fun _ => true) true (fun i hi => by
      have hx : a[i]? = some a[i] := List.getElem?_eq_getElem hi
      have hg : a.getD i zDItem = a[i] := by rw [List.getD_eq_getElem?_getD, hx]; rfl
      show l_laws_eqItemS_0 O a a (i : Int) = _
      rw [e_laws_eqItemS_0 O hO a a (i : Int)]
      simp only [ltT hi, nn, Bool.and_self, if_true, Int.toNat_natCast, hg, wi (show i < 9223372036854775807 by omega)]
      rw [eq_Item hO a[i] (h.2 _ (List.getElem_mem hi)), Option.bind_some]
      simp only [Bool.not_true, Bool.false_eq_true, if_false]) (by
        show l_laws_eqItemS_0 O a a (a.length : Int) = _
        rw [e_laws_eqItemS_0 O hO a a (a.length : Int)]
        simp only [Int.lt_irrefl, decide_false, Bool.false_eq_true, if_false]) a.length 0 (by omega)
  have hl : l_laws_eqItemS_0 O a a 0 = _ := hl
  rw [hl]; simp
/-! ### Store -/
end
structure F_Store (a : DStore) : Prop where
  items : F_ItemS a.items
  next : i64In a.next
def F_StoreS (xs : List DStore) : Prop := xs.length ≤ maxI ∧ ∀ x ∈ xs, F_Store x
def w_Store (a : DStore) : Nat := w_ItemS a.items
def w_StoreS (xs : List DStore) : Nat := xs.length + (xs.map w_Store).sum
section
variable {O : Orc E} (hO : Fix O)
include hO
omit hO in
theorem fit_Store (a : DStore) (h : ∀ c ∈ E.cells 82 a, FitV E c) : F_Store a := ⟨⟨(FitV.slI (h _ (List.mem_of_getElem? (i := 0) rfl))).1, fun x hx => fit_Item x ((FitV.slI (h _ (List.mem_of_getElem? (i := 0) rfl))).2 x hx)⟩, FitV.intI (h _ (List.mem_of_getElem? (i := 1) rfl))⟩
theorem sz_Store (a : DStore) (h : F_Store a) (l : Int) (h0 : 0 ≤ l) (h1 : l ≤ 4611686018427387904) : k_laws_szStore O a l = some (szR l (w_Store a), ()) := by
  rw [e_laws_szStore O hO]
  have hw : w_Store a = w_ItemS a.items := rfl
  rw [sz_ItemS hO _ h.items _ (by omega) (by omega), Option.bind_some]
  by_cases c1 : szR l (w_ItemS a.items) < 0
  · have n1 := szR_neg c1
    rw [if_pos (by simpa using c1)]; exact szNeg (by omega)
  · obtain ⟨p1, q1⟩ := szR_nn c1
    rw [if_neg (by simpa using c1)]; simp only [q1]
    exact szEnd (by omega) (by omega)
theorem to_Store (a : DStore) (h : w_Store a ≤ 1048576) : k_laws_toStore O a = some (a, ()) := by
  have hw : w_Store a = w_ItemS a.items := rfl
  rw [e_laws_toStore O hO]
  rw [to_ItemS hO a.items (by omega), Option.bind_some]
theorem eq_Store (a : DStore) (h : F_Store a) : k_laws_eqStore O a a = some (true, ()) := by
  rw [e_laws_eqStore O hO]
  simp [eq_ItemS hO a.items h.items]
/-! ### Rec -/
end
structure F_Rec (a : DRec) : Prop where
  time : i64In a.time
  n : i64In a.n
def F_RecS (xs : List DRec) : Prop := xs.length ≤ maxI ∧ ∀ x ∈ xs, F_Rec x
def w_Rec (_ : DRec) : Nat := 0
def w_RecS (xs : List DRec) : Nat := xs.length + (xs.map w_Rec).sum
section
variable {O : Orc E} (hO : Fix O)
include hO
omit hO in
theorem fit_Rec (a : DRec) (h : ∀ c ∈ E.cells 255 a, FitV E c) : F_Rec a := ⟨FitV.intI (h _ (List.mem_of_getElem? (i := 0) rfl)), FitV.intI (h _ (List.mem_of_getElem? (i := 1) rfl))⟩
theorem sz_RecS (a : List DRec) (h : F_RecS a) (l : Int) (h0 : 0 ≤ l) (h1 : l ≤ 4611686018427387904) : k_laws_szRecS O a l = some (szR l (w_RecS a), ()) := by
  have b : a.length ≤ 9223372036854775807 := h.1
  rw [e_laws_szRecS O hO]
  have hw : w_RecS a = a.length + (a.map w_Rec).sum := rfl
  by_cases c : l < (a.length : Int)
  · rw [if_pos (wT (by omega) (by omega))]; exact szNeg (by omega)
  · rw [if_neg (wF (by omega) (by omega))]; rw [w64 (n := l - (a.length : Int)) (by omega) (by omega)]
    have hz : (a.map w_Rec).sum = 0 := by
      clear c h b hw
      induction a with
      | nil => rfl
      | cons x a ih => simp [ih, w_Rec]
    exact szEnd (by omega) (by omega)
theorem to_Rec (a : DRec) (h : w_Rec a ≤ 1048576) : k_laws_toRec O a = some (a, ()) := by
  rw [e_laws_toRec O hO]
theorem to_RecS (a : List DRec) (h : w_RecS a ≤ 1048576) : k_laws_toRecS O a = some (a, ()) := by
  have hw : w_RecS a = a.length + (a.map w_Rec).sum := rfl
  rw [e_laws_toRecS O hO, if_pos (by simp only [Bool.and_eq_true, decide_eq_true_eq, Int.natCast_nonneg, and_true, true_and]; omega)]
  have hl := loop_map (fun i r => l_laws_toRecS_0 O a i r) a id (fun i x r hx hr => by
      have hi : i < a.length := by rcases Nat.lt_or_ge i a.length with h | h; · exact h
                                   · rw [List.getElem?_eq_none h] at hx; cases hx
      have hg : a.getD i zDRec = x := by rw [List.getD_eq_getElem?_getD, hx]; rfl
      have hir : i < r.length := by omega
      have hwx : w_Rec x ≤ 1048576 := by
        have h5 := sum_le w_Rec (List.mem_of_getElem? hx)
        omega
      show l_laws_toRecS_0 O a (i : Int) r = _
      rw [e_laws_toRecS_0 O hO a (i : Int) r]
      simp only [ltT hi, ltT hir, nn, Bool.and_self, if_true, Int.toNat_natCast, hg, wi (show i < 9223372036854775807 by omega)]
      rw [to_Rec hO x hwx, Option.bind_some]
      simp only [hir, decide_true, if_true, id]) (fun r => by
        show l_laws_toRecS_0 O a (a.length : Int) r = _
        rw [e_laws_toRecS_0 O hO a (a.length : Int) r]
        simp only [Int.lt_irrefl, decide_false, Bool.false_eq_true, if_false]) a.length 0 (by omega)
  rw [show l_laws_toRecS_0 O a 0 _ = _ from hl _ (by simp)]
  simp
theorem eq_Rec (a : DRec) (h : F_Rec a) : k_laws_eqRec O a a = some (true, ()) := by
  rw [e_laws_eqRec O hO]
  simp []
theorem eq_RecS (a : List DRec) (h : F_RecS a) : k_laws_eqRecS O a a = some (true, ()) := by
  have b : a.length ≤ 9223372036854775807 := h.1
  rw [e_laws_eqRecS O hO, if_neg (by simp)]
  have hl := loop_all (fun i => l_laws_eqRecS_0 O a a i) a.length (fun _ => true) true (fun i hi => by
      have hx : a[i]? = some a[i] := List.getElem?_eq_getElem hi
      have hg : a.getD i zDRec = a[i] := by rw [List.getD_eq_getElem?_getD, hx]; rfl
      show l_laws_eqRecS_0 O a a (i : Int) = _
      rw [e_laws_eqRecS_0 O hO a a (i : Int)]
      simp only [ltT hi, nn, Bool.and_self, if_true, Int.toNat_natCast, hg, wi (show i < 9223372036854775807 by omega)]
      rw [eq_Rec hO a[i] (h.2 _ (List.getElem_mem hi)), Option.bind_some]
      simp only [Bool.not_true, Bool.false_eq_true, if_false]) (by
        show l_laws_eqRecS_0 O a a (a.length : Int) = _
        rw [e_laws_eqRecS_0 O hO a a (a.length : Int)]
        simp only [Int.lt_irrefl, decide_false, Bool.false_eq_true, if_false]) a.length 0 (by omega)
  have hl : l_laws_eqRecS_0 O a a 0 = _ := hl
  rw [hl]; simp
/-! ### Scale -/
end
structure F_Scale (a : DScale) : Prop where
  name : a.name.length ≤ maxI
  now : i64In a.now
  recs : F_RecS a.recs
def F_ScaleS (xs : List DScale) : Prop := xs.length ≤ maxI ∧ ∀ x ∈ xs, F_Scale x
def w_Scale (a : DScale) : Nat := a.name.length + w_RecS a.recs
def w_ScaleS (xs : List DScale) : Nat := xs.length + (xs.map w_Scale).sum
section
variable {O : Orc E} (hO : Fix O)
include hO
omit hO in
theorem fit_Scale (a : DScale) (h : ∀ c ∈ E.cells 203 a, FitV E c) : F_Scale a := ⟨FitV.strI (h _ (List.mem_of_getElem? (i := 0) rfl)), FitV.intI (h _ (List.mem_of_getElem? (i := 1) rfl)), ⟨(FitV.slI (h _ (List.mem_of_getElem? (i := 2) rfl))).1, fun x hx => fit_Rec x ((FitV.slI (h _ (List.mem_of_getElem? (i := 2) rfl))).2 x hx)⟩⟩
theorem sz_Scale (a : DScale) (h : F_Scale a) (l : Int) (h0 : 0 ≤ l) (h1 : l ≤ 4611686018427387904) : k_laws_szScale O a l = some (szR l (w_Scale a), ()) := by
  rw [e_laws_szScale O hO]
  have hw : w_Scale a = a.name.length + w_RecS a.recs := rfl
  have b1 : a.name.length ≤ 9223372036854775807 := h.name
  by_cases c1 : l < (a.name.length : Int)
  · rw [if_pos (wT (by omega) (by omega))]; exact szNeg (by omega)
  · rw [if_neg (wF (by omega) (by omega))]; rw [w64 (n := l - (a.name.length : Int)) (by omega) (by omega)]
    rw [sz_RecS hO _ h.recs _ (by omega) (by omega), Option.bind_some]
    by_cases c2 : szR (l - (a.name.length : Int)) (w_RecS a.recs) < 0
    · have n2 := szR_neg c2
      rw [if_pos (by simpa using c2)]; exact szNeg (by omega)
    · obtain ⟨p2, q2⟩ := szR_nn c2
      rw [if_neg (by simpa using c2)]; simp only [q2]
      exact szEnd (by omega) (by omega)
theorem sz_ScaleS (a : List DScale) (h : F_ScaleS a) (l : Int) (h0 : 0 ≤ l) (h1 : l ≤ 4611686018427387904) : k_laws_szScaleS O a l = some (szR l (w_ScaleS a), ()) := by
  have b : a.length ≤ 9223372036854775807 := h.1
  rw [e_laws_szScaleS O hO]
  have hw : w_ScaleS a = a.length + (a.map w_Scale).sum := rfl
  by_cases c : l < (a.length : Int)
  · rw [if_pos (wT (by omega) (by omega))]; exact szNeg (by omega)
  · rw [if_neg (wF (by omega) (by omega))]; rw [w64 (n := l - (a.length : Int)) (by omega) (by omega)]
    have hl := loop_sz (fun l i => l_laws_szScaleS_0 O a l i) a w_Scale (fun i x l hx h0 h1 => by
      have hi : i < a.length := by rcases Nat.lt_or_ge i a.length with h | h; · exact h
                                   · rw [List.getElem?_eq_none h] at hx; cases hx
      have hg : a.getD i zDScale = x := by rw [List.getD_eq_getElem?_getD, hx]; rfl
      show l_laws_szScaleS_0 O a l (i : Int) = _
      rw [e_laws_szScaleS_0 O hO a l (i : Int)]
      simp only [ltT hi, nn, Bool.and_self, if_true, Int.toNat_natCast, hg, wi (show i < 9223372036854775807 by omega)]
      rw [sz_Scale hO x (h.2 x (List.mem_of_getElem? hx)) l h0 h1]) (fun l => by
        show l_laws_szScaleS_0 O a l (a.length : Int) = _
        rw [e_laws_szScaleS_0 O hO a l (a.length : Int)]
        simp only [Int.lt_irrefl, decide_false, Bool.false_eq_true, if_false]) a.length 0 (by omega) (l - (a.length : Int)) (by omega) (by omega)
    have hl : l_laws_szScaleS_0 O a (l - (a.length : Int)) 0 = some (szR (l - (a.length : Int)) ((a.map w_Scale).sum), ()) := hl
    rw [hl, hw]
    by_cases c2 : l - (a.length : Int) < ((a.map w_Scale).sum : Nat)
    · unfold szR; rw [if_pos c2, if_pos (by omega)]
    · unfold szR; rw [if_neg c2, if_neg (by omega)]; congr 2; omega
theorem to_Scale (a : DScale) (h : w_Scale a ≤ 1048576) : k_laws_toScale O a = some (a, ()) := by
  have hw : w_Scale a = a.name.length + w_RecS a.recs := rfl
  rw [e_laws_toScale O hO]
  rw [to_RecS hO a.recs (by omega), Option.bind_some]
theorem to_ScaleS (a : List DScale) (h : w_ScaleS a ≤ 1048576) : k_laws_toScaleS O a = some (a, ()) := by
  have hw : w_ScaleS a = a.length + (a.map w_Scale).sum := rfl
  rw [e_laws_toScaleS O hO, if_pos (by simp only [Bool.and_eq_true, decide_eq_true_eq, Int.natCast_nonneg, and_true, true_and]; omega)]
  have hl := loop_map (fun i r => l_laws_toScaleS_0 O a i r) a id (fun i x r hx hr => by
      have hi : i < a.length := by rcases Nat.lt_or_ge i a.length with h | h; · exact h
                                   · rw [List.getElem?_eq_none h] at hx; cases hx
      have hg : a.getD i zDScale = x := by rw [List.getD_eq_getElem?_getD, hx]; rfl
      have hir : i < r.length := by omega
      have hwx : w_Scale x ≤ 1048576 := by
        have h5 := sum_le w_Scale (List.mem_of_getElem? hx)
        omega
      show l_laws_toScaleS_0 O a (i : Int) r = _
      rw [e_laws_toScaleS_0 O hO a (i : Int) r]
      simp only [ltT hi, ltT hir, nn, Bool.and_self, if_true, Int.toNat_natCast, hg, wi (show i < 9223372036854775807 by omega)]
      rw [to_Scale hO x hwx, Option.bind_some]
      simp only [hir, decide_true, if_true, id]) (fun r => by
        show l_laws_toScaleS_0 O a (a.length : Int) r = _
        rw [e_laws_toScaleS_0 O hO a (a.length : Int) r]
        simp only [Int.lt_irrefl, decide_false, Bool.false_eq_true, if_false]) a.length 0 (by omega)
  rw [show l_laws_toScaleS_0 O a 0 _ = _ from hl _ (by simp)]
  simp
theorem eq_Scale (a : DScale) (h : F_Scale a) : k_laws_eqScale O a a = some (true, ()) := by
  rw [e_laws_eqScale O hO]
  simp [eq_RecS hO a.recs h.recs]
theorem eq_ScaleS (a : List DScale) (h : F_ScaleS a) : k_laws_eqScaleS O a a = some (true, ()) := by
  have b : a.length ≤ 9223372036854775807 := h.1
  rw [e_laws_eqScaleS O hO, if_neg (by simp)]
  have hl := loop_all (fun i => l_laws_eqScaleS_0 O a a i) a.length (fun _ => true) true (fun i hi => by
      have hx : a[i]? = some a[i] := List.getElem?_eq_getElem hi
      have hg : a.getD i zDScale = a[i] := by rw [List.getD_eq_getElem?_getD, hx]; rfl
      show l_laws_eqScaleS_0 O a a (i : Int) = _
      rw [e_laws_eqScaleS_0 O hO a a (i : Int)]
      simp only [ltT hi, nn, Bool.and_self, if_true, Int.toNat_natCast, hg, wi (show i < 9223372036854775807 by omega)]
      rw [eq_Scale hO a[i] (h.2 _ (List.getElem_mem hi)), Option.bind_some]
      simp only [Bool.not_true, Bool.false_eq_true, if_false]) (by
        show l_laws_eqScaleS_0 O a a (a.length : Int) = _
        rw [e_laws_eqScaleS_0 O hO a a (a.length : Int)]
        simp only [Int.lt_irrefl, decide_false, Bool.false_eq_true, if_false]) a.length 0 (by omega)
  have hl : l_laws_eqScaleS_0 O a a 0 = _ := hl
  rw [hl]; simp
/-! ### Told -/
end
structure F_Told (a : DTold) : Prop where
  time : i64In a.time
  name : a.name.length ≤ maxI
  n : i64In a.n
def F_ToldS (xs : List DTold) : Prop := xs.length ≤ maxI ∧ ∀ x ∈ xs, F_Told x
def w_Told (a : DTold) : Nat := a.name.length
def w_ToldS (xs : List DTold) : Nat := xs.length + (xs.map w_Told).sum
section
variable {O : Orc E} (hO : Fix O)
include hO
omit hO in
theorem fit_Told (a : DTold) (h : ∀ c ∈ E.cells 206 a, FitV E c) : F_Told a := ⟨FitV.intI (h _ (List.mem_of_getElem? (i := 0) rfl)), FitV.strI (h _ (List.mem_of_getElem? (i := 1) rfl)), FitV.intI (h _ (List.mem_of_getElem? (i := 2) rfl))⟩
theorem sz_Told (a : DTold) (h : F_Told a) (l : Int) (h0 : 0 ≤ l) (h1 : l ≤ 4611686018427387904) : k_laws_szTold O a l = some (szR l (w_Told a), ()) := by
  rw [e_laws_szTold O hO]
  have hw : w_Told a = a.name.length := rfl
  have b1 : a.name.length ≤ 9223372036854775807 := h.name
  by_cases c1 : l < (a.name.length : Int)
  · rw [if_pos (wT (by omega) (by omega))]; exact szNeg (by omega)
  · rw [if_neg (wF (by omega) (by omega))]; rw [w64 (n := l - (a.name.length : Int)) (by omega) (by omega)]
    exact szEnd (by omega) (by omega)
theorem sz_ToldS (a : List DTold) (h : F_ToldS a) (l : Int) (h0 : 0 ≤ l) (h1 : l ≤ 4611686018427387904) : k_laws_szToldS O a l = some (szR l (w_ToldS a), ()) := by
  have b : a.length ≤ 9223372036854775807 := h.1
  rw [e_laws_szToldS O hO]
  have hw : w_ToldS a = a.length + (a.map w_Told).sum := rfl
  by_cases c : l < (a.length : Int)
  · rw [if_pos (wT (by omega) (by omega))]; exact szNeg (by omega)
  · rw [if_neg (wF (by omega) (by omega))]; rw [w64 (n := l - (a.length : Int)) (by omega) (by omega)]
    have hl := loop_sz (fun l i => l_laws_szToldS_0 O a l i) a w_Told (fun i x l hx h0 h1 => by
      have hi : i < a.length := by rcases Nat.lt_or_ge i a.length with h | h; · exact h
                                   · rw [List.getElem?_eq_none h] at hx; cases hx
      have hg : a.getD i zDTold = x := by rw [List.getD_eq_getElem?_getD, hx]; rfl
      show l_laws_szToldS_0 O a l (i : Int) = _
      rw [e_laws_szToldS_0 O hO a l (i : Int)]
      simp only [ltT hi, nn, Bool.and_self, if_true, Int.toNat_natCast, hg, wi (show i < 9223372036854775807 by omega)]
      rw [sz_Told hO x (h.2 x (List.mem_of_getElem? hx)) l h0 h1]) (fun l => by
        show l_laws_szToldS_0 O a l (a.length : Int) = _
        rw [e_laws_szToldS_0 O hO a l (a.length : Int)]
        simp only [Int.lt_irrefl, decide_false, Bool.false_eq_true, if_false]) a.length 0 (by omega) (l - (a.length : Int)) (by omega) (by omega)
    have hl : l_laws_szToldS_0 O a (l - (a.length : Int)) 0 = some (szR (l - (a.length : Int)) ((a.map w_Told).sum), ()) := hl
    rw [hl, hw]
    by_cases c2 : l - (a.length : Int) < ((a.map w_Told).sum : Nat)
    · unfold szR; rw [if_pos c2, if_pos (by omega)]
    · unfold szR; rw [if_neg c2, if_neg (by omega)]; congr 2; omega
theorem to_Told (a : DTold) (h : w_Told a ≤ 1048576) : k_laws_toTold O a = some (a, ()) := by
  have hw : w_Told a = a.name.length := rfl
  rw [e_laws_toTold O hO]
theorem to_ToldS (a : List DTold) (h : w_ToldS a ≤ 1048576) : k_laws_toToldS O a = some (a, ()) := by
  have hw : w_ToldS a = a.length + (a.map w_Told).sum := rfl
  rw [e_laws_toToldS O hO, if_pos (by simp only [Bool.and_eq_true, decide_eq_true_eq, Int.natCast_nonneg, and_true, true_and]; omega)]
  have hl := loop_map (fun i r => l_laws_toToldS_0 O a i r) a id (fun i x r hx hr => by
      have hi : i < a.length := by rcases Nat.lt_or_ge i a.length with h | h; · exact h
                                   · rw [List.getElem?_eq_none h] at hx; cases hx
      have hg : a.getD i zDTold = x := by rw [List.getD_eq_getElem?_getD, hx]; rfl
      have hir : i < r.length := by omega
      have hwx : w_Told x ≤ 1048576 := by
        have h5 := sum_le w_Told (List.mem_of_getElem? hx)
        omega
      show l_laws_toToldS_0 O a (i : Int) r = _
      rw [e_laws_toToldS_0 O hO a (i : Int) r]
      simp only [ltT hi, ltT hir, nn, Bool.and_self, if_true, Int.toNat_natCast, hg, wi (show i < 9223372036854775807 by omega)]
      rw [to_Told hO x hwx, Option.bind_some]
      simp only [hir, decide_true, if_true, id]) (fun r => by
        show l_laws_toToldS_0 O a (a.length : Int) r = _
        rw [e_laws_toToldS_0 O hO a (a.length : Int) r]
        simp only [Int.lt_irrefl, decide_false, Bool.false_eq_true, if_false]) a.length 0 (by omega)
  rw [show l_laws_toToldS_0 O a 0 _ = _ from hl _ (by simp)]
  simp
theorem eq_Told (a : DTold) (h : F_Told a) : k_laws_eqTold O a a = some (true, ()) := by
  rw [e_laws_eqTold O hO]
  simp []
theorem eq_ToldS (a : List DTold) (h : F_ToldS a) : k_laws_eqToldS O a a = some (true, ()) := by
  have b : a.length ≤ 9223372036854775807 := h.1
  rw [e_laws_eqToldS O hO, if_neg (by simp)]
  have hl := loop_all (fun i => l_laws_eqToldS_0 O a a i) a.length (fun _ => true) true (fun i hi => by
      have hx : a[i]? = some a[i] := List.getElem?_eq_getElem hi
      have hg : a.getD i zDTold = a[i] := by rw [List.getD_eq_getElem?_getD, hx]; rfl
      show l_laws_eqToldS_0 O a a (i : Int) = _
      rw [e_laws_eqToldS_0 O hO a a (i : Int)]
      simp only [ltT hi, nn, Bool.and_self, if_true, Int.toNat_natCast, hg, wi (show i < 9223372036854775807 by omega)]
      rw [eq_Told hO a[i] (h.2 _ (List.getElem_mem hi)), Option.bind_some]
      simp only [Bool.not_true, Bool.false_eq_true, if_false]) (by
        show l_laws_eqToldS_0 O a a (a.length : Int) = _
        rw [e_laws_eqToldS_0 O hO a a (a.length : Int)]
        simp only [Int.lt_irrefl, decide_false, Bool.false_eq_true, if_false]) a.length 0 (by omega)
  have hl : l_laws_eqToldS_0 O a a 0 = _ := hl
  rw [hl]; simp
/-! ### World -/
end
structure F_World (a : DWorld) : Prop where
  store : F_Store a.store
  scales : F_ScaleS a.scales
  time : i64In a.time
  log : F_ToldS a.log
def F_WorldS (xs : List DWorld) : Prop := xs.length ≤ maxI ∧ ∀ x ∈ xs, F_World x
def w_World (a : DWorld) : Nat := w_Store a.store + w_ScaleS a.scales + w_ToldS a.log
def w_WorldS (xs : List DWorld) : Nat := xs.length + (xs.map w_World).sum
section
variable {O : Orc E} (hO : Fix O)
include hO
omit hO in
theorem fit_World (a : DWorld) (h : ∀ c ∈ E.cells 86 a, FitV E c) : F_World a := ⟨⟨⟨(FitV.slI (h _ (List.mem_of_getElem? (i := 0) rfl))).1, fun x hx => fit_Item x ((FitV.slI (h _ (List.mem_of_getElem? (i := 0) rfl))).2 x hx)⟩, FitV.intI (h _ (List.mem_of_getElem? (i := 1) rfl))⟩, ⟨(FitV.slI (h _ (List.mem_of_getElem? (i := 2) rfl))).1, fun x hx => fit_Scale x ((FitV.slI (h _ (List.mem_of_getElem? (i := 2) rfl))).2 x hx)⟩, FitV.intI (h _ (List.mem_of_getElem? (i := 3) rfl)), ⟨(FitV.slI (h _ (List.mem_of_getElem? (i := 4) rfl))).1, fun x hx => fit_Told x ((FitV.slI (h _ (List.mem_of_getElem? (i := 4) rfl))).2 x hx)⟩⟩
theorem sz_World (a : DWorld) (h : F_World a) (l : Int) (h0 : 0 ≤ l) (h1 : l ≤ 4611686018427387904) : k_laws_szWorld O a l = some (szR l (w_World a), ()) := by
  rw [e_laws_szWorld O hO]
  have hw : w_World a = w_Store a.store + w_ScaleS a.scales + w_ToldS a.log := rfl
  rw [sz_Store hO _ h.store _ (by omega) (by omega), Option.bind_some]
  by_cases c1 : szR l (w_Store a.store) < 0
  · have n1 := szR_neg c1
    rw [if_pos (by simpa using c1)]; exact szNeg (by omega)
  · obtain ⟨p1, q1⟩ := szR_nn c1
    rw [if_neg (by simpa using c1)]; simp only [q1]
    rw [sz_ScaleS hO _ h.scales _ (by omega) (by omega), Option.bind_some]
    by_cases c2 : szR (l - ((w_Store a.store : Nat) : Int)) (w_ScaleS a.scales) < 0
    · have n2 := szR_neg c2
      rw [if_pos (by simpa using c2)]; exact szNeg (by omega)
    · obtain ⟨p2, q2⟩ := szR_nn c2
      rw [if_neg (by simpa using c2)]; simp only [q2]
      rw [sz_ToldS hO _ h.log _ (by omega) (by omega), Option.bind_some]
      by_cases c3 : szR ((l - ((w_Store a.store : Nat) : Int)) - ((w_ScaleS a.scales : Nat) : Int)) (w_ToldS a.log) < 0
      · have n3 := szR_neg c3
        rw [if_pos (by simpa using c3)]; exact szNeg (by omega)
      · obtain ⟨p3, q3⟩ := szR_nn c3
        rw [if_neg (by simpa using c3)]; simp only [q3]
        exact szEnd (by omega) (by omega)
theorem to_World (a : DWorld) (h : w_World a ≤ 1048576) : k_laws_toWorld O a = some (a, ()) := by
  have hw : w_World a = w_Store a.store + w_ScaleS a.scales + w_ToldS a.log := rfl
  rw [e_laws_toWorld O hO]
  rw [to_Store hO a.store (by omega), Option.bind_some]
  rw [to_ScaleS hO a.scales (by omega), Option.bind_some]
  rw [to_ToldS hO a.log (by omega), Option.bind_some]
theorem eq_World (a : DWorld) (h : F_World a) : k_laws_eqWorld O a a = some (true, ()) := by
  rw [e_laws_eqWorld O hO]
  simp [eq_Store hO a.store h.store, eq_ScaleS hO a.scales h.scales, eq_ToldS hO a.log h.log]
end
end Go.Proofs.Ytejfpemjmpoddaa.Vx
