/- What the program's and the reference's predicates tell. -/
import Derived.Test.YtejfpemjmpoddaaVxJF
namespace Go.Proofs.Ytejfpemjmpoddaa.Vx
open Go Go.Proofs

def rng (a l h : Int) : Bool := decide (a ≥ l) && decide (a ≤ h)
theorem rng_eq (a l h : Int) : (bif decide (a ≥ l) then decide (a ≤ h) else false) = rng a l h := by unfold rng; cases decide (a ≥ l) <;> rfl
theorem rng_iff {a l h : Int} : rng a l h = true ↔ l ≤ a ∧ a ≤ h := by simp [rng]
theorem rng_niff {a l h : Int} : rng a l h = false ↔ a < l ∨ h < a := by simp [rng]; omega
theorem lt0 (i : Nat) : decide (0 < i) = !decide (i = 0) := by cases i <;> simp
def ch (s : Str) (i : Nat) : Int := ((s.getD i 0).toNat : Int)
theorem ch_eq (s : Str) (i : Nat) : ((s.getD i 0).toNat : Int) = ch s i := rfl
theorem ch_lt (s : Str) (i : Nat) : 0 ≤ ch s i ∧ ch s i < 256 := by unfold ch; have := (s.getD i 0).toNat_lt; omega
def letter (c : Int) : Bool := rng c 97 122 || rng c 65 90
def nameCh (s : Str) (i : Nat) : Bool := rng (ch s i) 97 122 || (decide (0 < i) && (rng (ch s i) 48 57 || ch s i == 45))
def nameOk (s : Str) : Bool := (List.range' 0 s.length).all (nameCh s) && rng s.length 1 20
def plainCh (s : Str) (i : Nat) : Bool := letter (ch s i) || (decide (0 < i) && (rng (ch s i) 48 57 || ch s i == 95 || ch s i == 46 || ch s i == 47 || ch s i == 45))
def plainEnd (s : Str) : Bool := bif (bif (bif rng s.length 1 60 then (!(s == [110, 117, 108, 108])) else false) then (!(s == [116, 114, 117, 101])) else false) then (!(s == [102, 97, 108, 115, 101])) else false
def plainOk (s : Str) : Bool := (List.range' 0 s.length).all (plainCh s) && plainEnd s
def textOk (s : Str) : Bool := (List.range' 0 s.length).all (fun i => rng (ch s i) 32 126) && decide ((s.length : Int) ≤ 400)
def ours (s : Str) : Bool := bif (decide ((s.length : Int) ≥ 5)) then (s.take 5 == [113, 117, 97, 121, 47]) else false
def metricOk (m : DMetric) : Bool := nameOk m.name && (rng m.kind 1 3 && rng m.goal 1 1000000)
def metricsCh (xs : List DMetric) (i : Nat) : Bool := metricOk (xs.getD i zDMetric) && (!decide (0 < i) || Op.bytesLess (xs.getD (i - 1) zDMetric).name (xs.getD i zDMetric).name)
def metricsOk (xs : List DMetric) : Bool := (List.range' 0 xs.length).all (metricsCh xs) && decide ((xs.length : Int) ≤ 4)
def paceOk (p : DPace) : Bool := bif (bif (bif rng p.up 0 1000 then rng p.down 0 1000 else false) then rng p.upSpan 0 3600 else false) then rng p.downSpan 0 3600 else false
def noteOk (xs : List DNote) (i : Nat) : Bool := plainOk (xs.getD i zDNote).key && !(ours (xs.getD i zDNote).key) && textOk (xs.getD i zDNote).text && !(decide (((xs.getD i zDNote).text.length : Int) > 40)) && (!decide (0 < i) || Op.bytesLess (xs.getD (i - 1) zDNote).key (xs.getD i zDNote).key)
def notesOk (xs : List DNote) : Bool := (List.range' 0 xs.length).all (noteOk xs) && decide ((xs.length : Int) ≤ 4)
def orderOk (o : DOrder) : Bool := nameOk o.name && nameOk o.target && rng o.low 1 o.high && decide (o.high ≤ 1000) && metricsOk o.metrics && paceOk o.pace && notesOk o.notes

section
variable {O : Orc E} (hO : Fix O)
include hO

theorem spec_l1In (a b c : Int) : k_spec_l1In O a b c = some (rng a b c, ()) := by rw [e_spec_l1In O hO, rng_eq]
theorem impl_from (a b c : Int) : k_impl_from O a b c = some (rng a b c, ()) := by rw [e_impl_from O hO, rng_eq]
theorem impl_isDigit (a : Int) : k_impl_isDigit O a = some (rng a 48 57, ()) := by rw [e_impl_isDigit O hO, rng_eq]
theorem impl_isMany (a : Int) : k_impl_isMany O a = some (rng a 0 1000, ()) := by rw [e_impl_isMany O hO, impl_from hO, Option.bind_some]
theorem impl_isTime (a : Int) : k_impl_isTime O a = some (rng a 0 1000000, ()) := by rw [e_impl_isTime O hO, impl_from hO, Option.bind_some]
theorem spec_l5Letter (a : Int) : k_spec_l5Letter O a = some (letter a, ()) := by
  rw [e_spec_l5Letter O hO]; simp only [letter, rng_eq]; cases rng a 97 122 <;> rfl
theorem impl_isLetter (a : Int) : k_impl_isLetter O a = some (letter a, ()) := by
  rw [e_impl_isLetter O hO]; simp only [letter, rng_eq]; cases rng a 97 122 <;> rfl
theorem idxB (s : Str) (c : Int) : k_strings_IndexByte O s c = some (Lib.indexByte s c.toNat.toUInt8, ()) := (hO.1 229 (s, c, ())).trans rfl

theorem spec_NameOk (s : Str) (h : s.length ≤ maxI) : k_spec_NameOk O s = some (nameOk s, ()) := by
  have b : s.length ≤ 9223372036854775807 := h
  rw [e_spec_NameOk O hO]
  exact loop_all (fun i => l_spec_NameOk_0 O s i) s.length (nameCh s) (rng s.length 1 20) (fun i hi => by
    show l_spec_NameOk_0 O s (i : Int) = _
    rw [e_spec_NameOk_0 O hO s (i : Int)]
    try simp only [rng_eq, gt0, eq0]
    simp only [ltT hi, nn, Bool.and_self, if_true, Int.toNat_natCast, wi (show i < 9223372036854775807 by omega), gt0, ch_eq]
    refine ifN ?_
    simp only [rng_eq, nameCh]
    cases rng (ch s i) 97 122 <;> cases decide (0 < i) <;> cases rng (ch s i) 48 57 <;> cases (ch s i == 45) <;> rfl) (by
    show l_spec_NameOk_0 O s (s.length : Int) = _
    rw [e_spec_NameOk_0 O hO s (s.length : Int)]
    simp only [Int.lt_irrefl, decide_false, Bool.false_eq_true, if_false, spec_l1In hO, Option.bind_some]) s.length 0 (by omega)

theorem impl_NameOk (s : Str) (h : s.length ≤ maxI) : k_impl_NameOk O s = some (nameOk s, ()) := by
  have b : s.length ≤ 9223372036854775807 := h
  rw [e_impl_NameOk O hO]
  exact loop_all (fun i => l_impl_NameOk_0 O s s.length i) s.length (nameCh s) (rng s.length 1 20) (fun i hi => by
    show l_impl_NameOk_0 O s s.length (i : Int) = _
    rw [e_impl_NameOk_0 O hO s s.length (i : Int)]
    try simp only [rng_eq, gt0, eq0]
    simp only [ltT hi, nn, Bool.and_self, Bool.or_true, if_true, Int.toNat_natCast, wi (show i < 9223372036854775807 by omega), eq0, impl_isDigit hO, bif_some, Option.bind_some, ch_eq]
    refine ifN ?_
    simp only [rng_eq, nameCh, bne, lt0]
    cases rng (ch s i) 97 122 <;> cases decide (i = 0) <;> cases rng (ch s i) 48 57 <;> cases (ch s i == 45) <;> rfl) (by
    show l_impl_NameOk_0 O s s.length (s.length : Int) = _
    rw [e_impl_NameOk_0 O hO s s.length (s.length : Int)]
    simp only [Int.lt_irrefl, decide_false, Bool.false_eq_true, if_false, impl_from hO, Option.bind_some]) s.length 0 (by omega)

theorem spec_PlainOk (s : Str) (h : s.length ≤ maxI) : k_spec_PlainOk O s = some (plainOk s, ()) := by
  have b : s.length ≤ 9223372036854775807 := h
  rw [e_spec_PlainOk O hO]
  exact loop_all (fun i => l_spec_PlainOk_0 O s i) s.length (plainCh s) (plainEnd s) (fun i hi => by
    show l_spec_PlainOk_0 O s (i : Int) = _
    rw [e_spec_PlainOk_0 O hO s (i : Int)]
    try simp only [rng_eq, gt0, eq0]
    simp only [ltT hi, nn, Bool.and_self, if_true, Int.toNat_natCast, wi (show i < 9223372036854775807 by omega), eq0, spec_l5Letter hO, Option.bind_some, ch_eq]
    refine ifN ?_
    simp only [rng_eq, plainCh, lt0]
    cases letter (ch s i) <;> cases decide (i = 0) <;> cases rng (ch s i) 48 57 <;> cases (ch s i == 95) <;> cases (ch s i == 46) <;> cases (ch s i == 47) <;> cases (ch s i == 45) <;> rfl) (by
    show l_spec_PlainOk_0 O s (s.length : Int) = _
    rw [e_spec_PlainOk_0 O hO s (s.length : Int)]
    simp only [Int.lt_irrefl, decide_false, Bool.false_eq_true, if_false, spec_l1In hO, Option.bind_some]; rfl) s.length 0 (by omega)

omit hO in
theorem idx4 (s : Str) (i : Nat) : decide (Lib.indexByte [95, 46, 47, 45] (ch s i).toNat.toUInt8 < 0) = !(ch s i == 95 || ch s i == 46 || ch s i == 47 || ch s i == 45) := by
  have e : (ch s i).toNat.toUInt8 = s.getD i 0 := by unfold ch; simp
  have hc : ∀ n : UInt8, (ch s i == (n.toNat : Int)) = (n == s.getD i 0) := fun n => by
    unfold ch
    rw [Bool.eq_iff_iff, beq_iff_eq, beq_iff_eq, Int.natCast_inj]
    constructor
    · intro h; exact (UInt8.toNat_inj.1 h).symm
    · intro h; rw [h]
  have h1 : (ch s i == 95) = ((95 : UInt8) == s.getD i 0) := hc 95
  have h2 : (ch s i == 46) = ((46 : UInt8) == s.getD i 0) := hc 46
  have h3 : (ch s i == 47) = ((47 : UInt8) == s.getD i 0) := hc 47
  have h4 : (ch s i == 45) = ((45 : UInt8) == s.getD i 0) := hc 45
  rw [e, h1, h2, h3, h4]
  cases q1 : (95 : UInt8) == s.getD i 0 <;> cases q2 : (46 : UInt8) == s.getD i 0 <;> cases q3 : (47 : UInt8) == s.getD i 0 <;> cases q4 : (45 : UInt8) == s.getD i 0 <;> simp only [Lib.indexByte, q1, q2, q3, q4] <;> rfl

theorem impl_PlainOk (s : Str) (h : s.length ≤ maxI) : k_impl_PlainOk O s = some (plainOk s, ()) := by
  have b : s.length ≤ 9223372036854775807 := h
  rw [e_impl_PlainOk O hO]
  exact loop_all (fun i => l_impl_PlainOk_0 O s s.length i) s.length (plainCh s) (plainEnd s) (fun i hi => by
    show l_impl_PlainOk_0 O s s.length (i : Int) = _
    rw [e_impl_PlainOk_0 O hO s s.length (i : Int)]
    try simp only [rng_eq, gt0, eq0]
    have e0 : ∀ c x y, (if c = true then (some ((x : Int), ()) : Option (Int × Unit)) else some (y, ())) = some (bif c then x else y, ()) := fun c x y => by cases c <;> rfl
    simp only [ltT hi, nn, Bool.and_self, Bool.or_true, if_true, Int.toNat_natCast, wi (show i < 9223372036854775807 by omega), eq0, impl_isLetter hO, impl_isDigit hO, idxB hO, bif_some, e0, Option.bind_some, ch_eq]
    refine ifN ?_
    have h4 := idx4 s i
    simp only [plainCh]
    by_cases h0 : i = 0
    · subst h0; simp
    · have h1 : 0 < i := by omega
      simp only [h0, h1, decide_false, decide_true, Bool.not_false, Bool.true_and]
      cases letter (ch s i) <;> cases rng (ch s i) 48 57 <;> simp [h4]
      ) (by
    show l_impl_PlainOk_0 O s s.length (s.length : Int) = _
    rw [e_impl_PlainOk_0 O hO s s.length (s.length : Int)]
    simp only [Int.lt_irrefl, decide_false, Bool.false_eq_true, if_false, impl_from hO, Option.bind_some]; rfl) s.length 0 (by omega)

theorem spec_TextOk (s : Str) (h : s.length ≤ maxI) : k_spec_TextOk O s = some (textOk s, ()) := by
  have b : s.length ≤ 9223372036854775807 := h
  rw [e_spec_TextOk O hO]
  exact loop_all (fun i => l_spec_TextOk_0 O s i) s.length (fun i => rng (ch s i) 32 126) (decide ((s.length : Int) ≤ 400)) (fun i hi => by
    show l_spec_TextOk_0 O s (i : Int) = _
    rw [e_spec_TextOk_0 O hO s (i : Int)]
    try simp only [rng_eq, gt0, eq0]
    simp only [ltT hi, nn, Bool.and_self, Bool.or_true, if_true, Int.toNat_natCast, wi (show i < 9223372036854775807 by omega), ch_eq]
    refine ifN ?_
    by_cases h1 : ch s i < 32
    · have h2 : rng (ch s i) 32 126 = false := rng_niff.2 (.inl h1)
      simp [h1, h2]
    · by_cases h3 : ch s i > 126
      · have h2 : rng (ch s i) 32 126 = false := rng_niff.2 (.inr h3)
        simp [h3, h2]
      · have h2 : rng (ch s i) 32 126 = true := rng_iff.2 (by omega)
        simp [h1, h3, h2]) (by
    show l_spec_TextOk_0 O s (s.length : Int) = _
    rw [e_spec_TextOk_0 O hO s (s.length : Int)]
    simp only [Int.lt_irrefl, decide_false, Bool.false_eq_true, if_false]) s.length 0 (by omega)

theorem impl_TextOk (s : Str) (h : s.length ≤ maxI) : k_impl_TextOk O s = some (textOk s, ()) := by
  have b : s.length ≤ 9223372036854775807 := h
  rw [e_impl_TextOk O hO]
  exact loop_all (fun i => l_impl_TextOk_0 O s s.length i) s.length (fun i => rng (ch s i) 32 126) (decide ((s.length : Int) ≤ 400)) (fun i hi => by
    show l_impl_TextOk_0 O s s.length (i : Int) = _
    rw [e_impl_TextOk_0 O hO s s.length (i : Int)]
    try simp only [rng_eq, gt0, eq0]
    have hc := ch_lt s i
    simp only [ltT hi, nn, Bool.and_self, Bool.or_true, if_true, Int.toNat_natCast, wi (show i < 9223372036854775807 by omega), ch_eq, impl_from hO, Option.bind_some, w64 (n := ch s i) (by omega) (by omega)]
    exact ifN rfl) (by
    show l_impl_TextOk_0 O s s.length (s.length : Int) = _
    rw [e_impl_TextOk_0 O hO s s.length (s.length : Int)]
    simp only [Int.lt_irrefl, decide_false, Bool.false_eq_true, if_false]) s.length 0 (by omega)

theorem spec_l6Ours (s : Str) : k_spec_l6Ours O s = some (ours s, ()) := by
  rw [e_spec_l6Ours O hO]
  by_cases h : (s.length : Int) ≥ 5
  · have h2 : decide ((5 : Int) ≤ (s.length : Int)) = true := by simpa using h
    simp [h, h2, ours]
  · simp [h, ours]

theorem impl_HasPrefix (s : Str) : k_strings_HasPrefix O s [113, 117, 97, 121, 47] = some (ours s, ()) := by
  rw [e_strings_HasPrefix O hO, e_stringslite_HasPrefix O hO]
  by_cases h : (s.length : Int) ≥ 5
  · have h2 : decide ((5 : Int) ≤ (s.length : Int)) = true := by simpa using h
    simp [h, h2, ours]
  · simp [h, ours]

theorem spec_MetricOk (m : DMetric) (h : F_Metric m) : k_spec_MetricOk O m = some (metricOk m, ()) := by
  rw [e_spec_MetricOk O hO]
  simp only [spec_NameOk hO _ h.name, spec_l1In hO, bif_some, Option.bind_some, metricOk]
  cases nameOk m.name <;> cases rng m.kind 1 3 <;> cases rng m.goal 1 1000000 <;> rfl

theorem impl_MetricOk (m : DMetric) (h : F_Metric m) : k_impl_MetricOk O m = some (metricOk m, ()) := by
  rw [e_impl_MetricOk O hO]
  simp only [impl_NameOk hO _ h.name, impl_from hO, bif_some, Option.bind_some, metricOk]
  cases nameOk m.name <;> cases rng m.kind 1 3 <;> cases rng m.goal 1 1000000 <;> rfl

omit hO in
theorem getD_mem {α : Type} {xs : List α} {i : Nat} (h : i < xs.length) (d : α) : xs.getD i d ∈ xs := by
  rw [List.getD_eq_getElem?_getD, List.getElem?_eq_getElem h]; exact List.getElem_mem h

theorem spec_l6Metrics (xs : List DMetric) (h : F_MetricS xs) : k_spec_l6Metrics O xs = some (metricsOk xs, ()) := by
  have b : xs.length ≤ 9223372036854775807 := h.1
  rw [e_spec_l6Metrics O hO]
  exact loop_all (fun i => l_spec_l6Metrics_0 O xs i) xs.length (metricsCh xs) (decide ((xs.length : Int) ≤ 4)) (fun i hi => by
    show l_spec_l6Metrics_0 O xs (i : Int) = _
    rw [e_spec_l6Metrics_0 O hO xs (i : Int)]
    try simp only [rng_eq, gt0, eq0]
    simp only [ltT hi, nn, Bool.and_self, Bool.or_true, if_true, Int.toNat_natCast, wi (show i < 9223372036854775807 by omega), gt0, spec_MetricOk hO _ (h.2 _ (getD_mem hi _)), Option.bind_some, gdPrev hi b, wpN (show i ≤ 9223372036854775807 by omega)]
    refine ifN ?_
    simp only [metricsCh]
    cases metricOk (xs.getD i zDMetric) <;> cases decide (0 < i) <;> cases Op.bytesLess (xs.getD (i - 1) zDMetric).name (xs.getD i zDMetric).name <;> rfl) (by
    show l_spec_l6Metrics_0 O xs (xs.length : Int) = _
    rw [e_spec_l6Metrics_0 O hO xs (xs.length : Int)]
    simp only [Int.lt_irrefl, decide_false, Bool.false_eq_true, if_false]) xs.length 0 (by omega)

theorem spec_PaceOk (p : DPace) : k_spec_PaceOk O p = some (paceOk p, ()) := by
  rw [e_spec_PaceOk O hO]
  simp only [spec_l1In hO, bif_some, Option.bind_some, paceOk]
  cases rng p.up 0 1000 <;> cases rng p.down 0 1000 <;> cases rng p.upSpan 0 3600 <;> cases rng p.downSpan 0 3600 <;> rfl
theorem impl_PaceOk (p : DPace) : k_impl_PaceOk O p = some (paceOk p, ()) := by
  rw [e_impl_PaceOk O hO]
  simp only [impl_isMany hO, impl_from hO, bif_some, Option.bind_some, paceOk]
  cases rng p.up 0 1000 <;> cases rng p.down 0 1000 <;> cases rng p.upSpan 0 3600 <;> cases rng p.downSpan 0 3600 <;> rfl

theorem spec_l6Notes (xs : List DNote) (h : F_NoteS xs) : k_spec_l6Notes O xs = some (notesOk xs, ()) := by
  have b : xs.length ≤ 9223372036854775807 := h.1
  rw [e_spec_l6Notes O hO]
  exact loop_all (fun i => l_spec_l6Notes_0 O xs i) xs.length (noteOk xs) (decide ((xs.length : Int) ≤ 4)) (fun i hi => by
    show l_spec_l6Notes_0 O xs (i : Int) = _
    rw [e_spec_l6Notes_0 O hO xs (i : Int)]
    try simp only [rng_eq, gt0, eq0]
    have hf := h.2 _ (getD_mem hi zDNote)
    simp only [ltT hi, nn, Bool.and_self, Bool.or_true, if_true, Int.toNat_natCast, wi (show i < 9223372036854775807 by omega), gt0, spec_PlainOk hO _ hf.key, spec_l6Ours hO, spec_TextOk hO _ hf.text, bif_some, Option.bind_some, gdPrev hi b, wpN (show i ≤ 9223372036854775807 by omega)]
    refine ifN ?_
    simp only [noteOk]
    cases plainOk (xs.getD i zDNote).key <;> cases ours (xs.getD i zDNote).key <;> cases textOk (xs.getD i zDNote).text <;> cases decide (((xs.getD i zDNote).text.length : Int) > 40) <;> cases decide (0 < i) <;> cases Op.bytesLess (xs.getD (i - 1) zDNote).key (xs.getD i zDNote).key <;> rfl) (by
    show l_spec_l6Notes_0 O xs (xs.length : Int) = _
    rw [e_spec_l6Notes_0 O hO xs (xs.length : Int)]
    simp only [Int.lt_irrefl, decide_false, Bool.false_eq_true, if_false]) xs.length 0 (by omega)

theorem impl_notesOk (xs : List DNote) (h : F_NoteS xs) : k_impl_notesOk O xs = some (notesOk xs, ()) := by
  have b : xs.length ≤ 9223372036854775807 := h.1
  rw [e_impl_notesOk O hO]
  exact loop_all (fun i => l_impl_notesOk_0 O xs xs xs.length i) xs.length (noteOk xs) (decide ((xs.length : Int) ≤ 4)) (fun i hi => by
    show l_impl_notesOk_0 O xs xs xs.length (i : Int) = _
    rw [e_impl_notesOk_0 O hO xs xs xs.length (i : Int)]
    try simp only [rng_eq, gt0, eq0]
    have hf := h.2 _ (getD_mem hi zDNote)
    simp only [ltT hi, nn, Bool.and_self, Bool.or_true, if_true, Int.toNat_natCast, wi (show i < 9223372036854775807 by omega), gt0, impl_PlainOk hO _ hf.key, impl_HasPrefix hO, impl_TextOk hO _ hf.text, bif_some, Option.bind_some, gdPrev hi b, wpN (show i ≤ 9223372036854775807 by omega)]
    refine ifN ?_
    simp only [noteOk]
    cases plainOk (xs.getD i zDNote).key <;> cases ours (xs.getD i zDNote).key <;> cases textOk (xs.getD i zDNote).text <;> cases decide (((xs.getD i zDNote).text.length : Int) > 40) <;> cases decide (0 < i) <;> cases Op.bytesLess (xs.getD (i - 1) zDNote).key (xs.getD i zDNote).key <;> rfl) (by
    show l_impl_notesOk_0 O xs xs xs.length (xs.length : Int) = _
    rw [e_impl_notesOk_0 O hO xs xs xs.length (xs.length : Int)]
    simp only [Int.lt_irrefl, decide_false, Bool.false_eq_true, if_false]) xs.length 0 (by omega)

theorem spec_OrderOk (o : DOrder) (h : F_Order o) : k_spec_OrderOk O o = some (orderOk o, ()) := by
  rw [e_spec_OrderOk O hO]
  simp only [spec_NameOk hO _ h.name, spec_NameOk hO _ h.target, spec_l1In hO, spec_l6Metrics hO _ h.metrics, spec_PaceOk hO, spec_l6Notes hO _ h.notes, bif_some, Option.bind_some, orderOk]
  cases nameOk o.name <;> cases nameOk o.target <;> cases rng o.low 1 o.high <;> cases decide (o.high ≤ 1000) <;> cases metricsOk o.metrics <;> cases paceOk o.pace <;> cases notesOk o.notes <;> rfl

theorem impl_OrderOk (o : DOrder) (h : F_Order o) : k_impl_OrderOk O o = some (orderOk o, ()) := by
  have b : o.metrics.length ≤ 9223372036854775807 := h.metrics.1
  rw [e_impl_OrderOk O hO]
  have hl := loop_allO (fun i => l_impl_OrderOk_0 O o.metrics o.metrics.length i o) o.metrics.length (metricsCh o.metrics)
    (some ((nameOk o.name && nameOk o.target && rng o.low 1 o.high && decide (o.high ≤ 1000) && decide ((o.metrics.length : Int) ≤ 4) && paceOk o.pace && notesOk o.notes), ())) (fun i hi => by
    show l_impl_OrderOk_0 O o.metrics o.metrics.length (i : Int) o = _
    rw [e_impl_OrderOk_0 O hO o.metrics o.metrics.length (i : Int) o]
    try simp only [rng_eq, gt0, eq0]
    simp only [ltT hi, nn, Bool.and_self, Bool.or_true, if_true, Int.toNat_natCast, wi (show i < 9223372036854775807 by omega), impl_MetricOk hO _ (h.metrics.2 _ (getD_mem hi _)), Option.bind_some, gdPrev hi b, wpN (show i ≤ 9223372036854775807 by omega)]
    refine ifN ?_
    simp only [metricsCh]
    cases metricOk (o.metrics.getD i zDMetric) <;> cases decide (0 < i) <;> cases Op.bytesLess (o.metrics.getD (i - 1) zDMetric).name (o.metrics.getD i zDMetric).name <;> rfl) (by
    show l_impl_OrderOk_0 O o.metrics o.metrics.length (o.metrics.length : Int) o = _
    rw [e_impl_OrderOk_0 O hO o.metrics o.metrics.length (o.metrics.length : Int) o]
    simp only [Int.lt_irrefl, decide_false, Bool.false_eq_true, if_false, impl_NameOk hO _ h.name, impl_NameOk hO _ h.target, impl_from hO, impl_PaceOk hO, impl_notesOk hO _ h.notes, bif_some, Option.bind_some]
    cases nameOk o.name <;> cases nameOk o.target <;> cases rng o.low 1 o.high <;> cases decide (o.high ≤ 1000) <;> cases decide ((o.metrics.length : Int) ≤ 4) <;> cases paceOk o.pace <;> cases notesOk o.notes <;> rfl) o.metrics.length 0 (by omega)
  have hl : l_impl_OrderOk_0 O o.metrics o.metrics.length 0 o = _ := hl
  rw [hl]
  simp only [orderOk, metricsOk]
  cases (List.range' 0 o.metrics.length).all (metricsCh o.metrics) <;> cases nameOk o.name <;> cases nameOk o.target <;> cases rng o.low 1 o.high <;> cases decide (o.high ≤ 1000) <;> cases decide ((o.metrics.length : Int) ≤ 4) <;> cases paceOk o.pace <;> cases notesOk o.notes <;> rfl

end
end Go.Proofs.Ytejfpemjmpoddaa.Vx
