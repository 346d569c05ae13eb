/- What the program's and the reference's predicates tell, on: stores, scales, worlds. -/
import Derived.Test.YtejfpemjmpoddaaVxJG
namespace Go.Proofs.Ytejfpemjmpoddaa.Vx
open Go Go.Proofs

def it (s : DStore) (i : Nat) : DItem := s.items.getD i zDItem
def storeCh (s : DStore) (i : Nat) : Bool := orderOk (s.items.getD i zDItem).order && rng (s.items.getD i zDItem).ver 1 (IntKind.i64.wrap (s.next - 1)) && (!decide (0 < i) || Op.bytesLess (s.items.getD (i - 1) zDItem).order.name (s.items.getD i zDItem).order.name) &&
  (List.range' 0 i).all (fun k => !((s.items.getD k zDItem).ver == (s.items.getD i zDItem).ver))
def storeOk (s : DStore) : Bool := rng s.next 1 100000 && !decide ((s.items.length : Int) > 6) && (List.range' 0 s.items.length).all (storeCh s)
def recsCh (xs : List DRec) (i : Nat) : Bool := rng (xs.getD i zDRec).time 0 1000000 && rng (xs.getD i zDRec).n 0 1000 && (!decide (0 < i) || !decide ((xs.getD (i - 1) zDRec).time > (xs.getD i zDRec).time))
def recsOk (xs : List DRec) : Bool := (List.range' 0 xs.length).all (recsCh xs) && decide ((xs.length : Int) ≤ 12)
def scaleOk (s : DScale) : Bool := nameOk s.name && rng s.now 0 1000 && recsOk s.recs
def logCh (w : DWorld) (i : Nat) : Bool := rng (w.log.getD i zDTold).time 0 w.time && nameOk (w.log.getD i zDTold).name && rng (w.log.getD i zDTold).n 0 1000 && (!decide (0 < i) || !decide ((w.log.getD (i - 1) zDTold).time > (w.log.getD i zDTold).time))
def lastOk (w : DWorld) (s : DScale) : Bool := !(decide (0 < s.recs.length)) || !(decide ((s.recs.getD (s.recs.length - 1) zDRec).time > w.time))
def worldCh (w : DWorld) (i : Nat) : Bool := scaleOk (w.scales.getD i zDScale) && ((w.scales.getD i zDScale).name == (w.store.items.getD i zDItem).order.name) && lastOk w (w.scales.getD i zDScale)
def worldOk (w : DWorld) : Bool := storeOk w.store && !((w.scales.length : Int) != (w.store.items.length : Int)) && rng w.time 0 1000000 && (List.range' 0 w.scales.length).all (worldCh w) && (List.range' 0 w.log.length).all (logCh w) && decide ((w.log.length : Int) ≤ 40)

theorem getD_take {α : Type} (xs : List α) (k i : Nat) (d : α) (h : k < i) : (xs.take i).getD k d = xs.getD k d := by
  rw [List.getD_eq_getElem?_getD, List.getD_eq_getElem?_getD, List.getElem?_take, if_pos h]

section
variable {O : Orc E} (hO : Fix O)
include hO

theorem spec_StoreOk (s : DStore) (h : F_Store s) : k_spec_StoreOk O s = some (storeOk s, ()) := by
  have b : s.items.length ≤ 9223372036854775807 := h.items.1
  rw [e_spec_StoreOk O hO]
  have hl := loop_allO (fun i => l_spec_StoreOk_0 O i s) s.items.length (storeCh s) (some (true, ())) (fun i hi => by
    show l_spec_StoreOk_0 O (i : Int) s = _
    rw [e_spec_StoreOk_0 O hO (i : Int) s]
    try simp only [rng_eq, gt0, eq0]
    have hf := h.items.2 _ (getD_mem hi zDItem)
    have hin := loop_allO (fun k => l_spec_StoreOk_2 O i k s (s.items.getD i zDItem)) i (fun k => !((s.items.getD k zDItem).ver == (s.items.getD i zDItem).ver)) (l_spec_StoreOk_0 O ((i + 1 : Nat) : Int) s) (fun k hk => by
      show l_spec_StoreOk_2 O i (k : Int) s (s.items.getD i zDItem) = _
      rw [e_spec_StoreOk_2 O hO i (k : Int) s (s.items.getD i zDItem)]
      simp only [ltT hk, ltT (show k < s.items.length by omega), nn, Bool.and_self, if_true, Int.toNat_natCast, wi (show k < 9223372036854775807 by omega)]
      exact ifN (by simp)) (by
      show l_spec_StoreOk_2 O i (i : Int) s (s.items.getD i zDItem) = _
      rw [e_spec_StoreOk_2 O hO i (i : Int) s (s.items.getD i zDItem)]
      simp only [Int.lt_irrefl, decide_false, Bool.false_eq_true, if_false, wi (show i < 9223372036854775807 by omega)]) i 0 (by omega)
    have hin : l_spec_StoreOk_2 O i 0 s (s.items.getD i zDItem) = _ := hin
    simp only [ltT hi, nn, Bool.and_self, Bool.or_true, if_true, Int.toNat_natCast, wi (show i < 9223372036854775807 by omega), spec_OrderOk hO _ hf.order, spec_l1In hO, bif_some, Option.bind_some, gdPrev hi b, wpN (show i ≤ 9223372036854775807 by omega), hin]
    refine ifN2 ?_
    simp only [storeCh]
    generalize (List.range' 0 i).all (fun k => !((s.items.getD k zDItem).ver == (s.items.getD i zDItem).ver)) = X
    cases X <;> cases orderOk (s.items.getD i zDItem).order <;> cases rng (s.items.getD i zDItem).ver 1 (IntKind.i64.wrap (s.next - 1)) <;> cases decide (0 < i) <;> cases Op.bytesLess (s.items.getD (i - 1) zDItem).order.name (s.items.getD i zDItem).order.name <;> rfl) (by
    show l_spec_StoreOk_0 O (s.items.length : Int) s = _
    rw [e_spec_StoreOk_0 O hO (s.items.length : Int) s]
    simp only [Int.lt_irrefl, decide_false, Bool.false_eq_true, if_false]) s.items.length 0 (by omega)
  have hl : l_spec_StoreOk_0 O 0 s = _ := hl
  simp only [spec_l1In hO, Option.bind_some, hl, storeOk]
  cases rng s.next 1 100000 <;> cases decide ((s.items.length : Int) > 6) <;> cases (List.range' 0 s.items.length).all (storeCh s) <;> rfl

theorem impl_has (xs : List DItem) (b : xs.length ≤ 9223372036854775807) (x : DItem) : k_impl_Item_218 O xs (.fn 219 [.rptr 57 x 0] : V Ty) = some ((List.range' 0 xs.length).any (fun k => (xs.getD k zDItem).ver == x.ver), ()) := by
  rw [e_impl_Item_218__StoreOk_1 O hO, e_impl_Item_235__StoreOk_1 O hO]
  obtain ⟨r, h1, h2⟩ := loop_find (fun i => l_impl_Item_235__StoreOk_1_0 O xs x xs.length i) xs.length (fun k => (xs.getD k zDItem).ver == x.ver) (fun i hi => by
    show l_impl_Item_235__StoreOk_1_0 O xs x xs.length (i : Int) = _
    rw [e_impl_Item_235__StoreOk_1_0 O hO xs x xs.length (i : Int)]
    simp only [ltT hi, nn, Bool.and_self, if_true, Int.toNat_natCast, wi (show i < 9223372036854775807 by omega), e_impl_StoreOk_1 O hO, Option.bind_some]) (by
    show l_impl_Item_235__StoreOk_1_0 O xs x xs.length (xs.length : Int) = _
    rw [e_impl_Item_235__StoreOk_1_0 O hO xs x xs.length (xs.length : Int)]
    simp only [Int.lt_irrefl, decide_false, Bool.false_eq_true, if_false]) xs.length 0 (by omega)
  have h1 : l_impl_Item_235__StoreOk_1_0 O xs x xs.length 0 = _ := h1
  rw [h1, Option.bind_some, h2]

theorem impl_StoreOk (s : DStore) (h : F_Store s) : k_impl_StoreOk O s = some (storeOk s, ()) := by
  have b : s.items.length ≤ 9223372036854775807 := h.items.1
  rw [e_impl_StoreOk O hO]
  have hl := loop_allO (fun i => l_impl_StoreOk_0 O s.items s.items.length i s) s.items.length (storeCh s) (some (true, ())) (fun i hi => by
    show l_impl_StoreOk_0 O s.items s.items.length (i : Int) s = _
    rw [e_impl_StoreOk_0 O hO s.items s.items.length (i : Int) s]
    try simp only [rng_eq, gt0, eq0]
    have hf := h.items.2 _ (getD_mem hi zDItem)
    have hle : decide ((i : Int) ≤ (s.items.length : Int)) = true := by simp only [decide_eq_true_eq]; omega
    have hh : k_impl_Item_218 O ((s.items.take (i : Int).toNat).drop (0 : Int).toNat) (.fn 219 [.rptr 57 (s.items.getD (i : Int).toNat zDItem) 0] : V Ty) = some (!((List.range' 0 i).all (fun k => !((s.items.getD k zDItem).ver == (s.items.getD i zDItem).ver))), ()) := by
      rw [impl_has hO _ (by simp; omega)]
      have hlen : ((s.items.take (i : Int).toNat).drop (0 : Int).toNat).length = i := by simp; omega
      rw [hlen]
      congr 2
      rw [List.not_all_eq_any_not, Bool.eq_iff_iff, List.any_eq_true, List.any_eq_true]
      constructor
      · rintro ⟨k, hk, he⟩
        have hki : k < i := by have := List.mem_range'.1 hk; omega
        refine ⟨k, hk, ?_⟩
        have he2 : ((s.items.take i).getD k zDItem).ver == (s.items.getD i zDItem).ver := he
        rw [getD_take _ _ _ _ hki] at he2
        simpa using he2
      · rintro ⟨k, hk, he⟩
        have hki : k < i := by have := List.mem_range'.1 hk; omega
        refine ⟨k, hk, ?_⟩
        show (((s.items.take i).getD k zDItem).ver == (s.items.getD i zDItem).ver) = true
        rw [getD_take _ _ _ _ hki]
        simpa using he
    simp only [hh]
    simp only [ltT hi, nn, hle, Int.le_refl, decide_true, Bool.and_self, Bool.or_true, if_true, Int.toNat_natCast, wi (show i < 9223372036854775807 by omega), impl_OrderOk hO _ hf.order, impl_from hO, bif_some, Option.bind_some, gdPrev hi b, wpN (show i ≤ 9223372036854775807 by omega)]
    refine ifN3 ?_
    simp only [storeCh]
    cases orderOk (s.items.getD i zDItem).order <;> cases rng (s.items.getD i zDItem).ver 1 (IntKind.i64.wrap (s.next - 1)) <;> cases decide (0 < i) <;> cases Op.bytesLess (s.items.getD (i - 1) zDItem).order.name (s.items.getD i zDItem).order.name <;> cases (List.range' 0 i).all (fun k => !((s.items.getD k zDItem).ver == (s.items.getD i zDItem).ver)) <;> rfl) (by
    show l_impl_StoreOk_0 O s.items s.items.length (s.items.length : Int) s = _
    rw [e_impl_StoreOk_0 O hO s.items s.items.length (s.items.length : Int) s]
    simp only [Int.lt_irrefl, decide_false, Bool.false_eq_true, if_false]) s.items.length 0 (by omega)
  have hl : l_impl_StoreOk_0 O s.items s.items.length 0 s = _ := hl
  simp only [impl_from hO, bif_some, Option.bind_some, hl, storeOk]
  cases rng s.next 1 100000 <;> cases decide ((s.items.length : Int) > 6) <;> cases (List.range' 0 s.items.length).all (storeCh s) <;> rfl

theorem spec_RecsOk (xs : List DRec) (h : F_RecS xs) : k_spec_RecsOk O xs = some (recsOk xs, ()) := by
  have b : xs.length ≤ 9223372036854775807 := h.1
  rw [e_spec_RecsOk O hO]
  exact loop_all (fun i => l_spec_RecsOk_0 O xs i) xs.length (recsCh xs) (decide ((xs.length : Int) ≤ 12)) (fun i hi => by
    show l_spec_RecsOk_0 O xs (i : Int) = _
    rw [e_spec_RecsOk_0 O hO xs (i : Int)]
    try simp only [rng_eq, gt0, eq0]
    simp only [ltT hi, nn, Bool.and_self, Bool.or_true, if_true, wi (show i < 9223372036854775807 by omega), spec_l1In hO, bif_some, Option.bind_some, gdPrev hi b, wpN (show i ≤ 9223372036854775807 by omega), Int.toNat_natCast]
    refine ifN ?_
    simp only [recsCh]
    cases rng (xs.getD i zDRec).time 0 1000000 <;> cases rng (xs.getD i zDRec).n 0 1000 <;> cases decide (0 < i) <;> first | rfl | (simp; done)) (by
    show l_spec_RecsOk_0 O xs (xs.length : Int) = _
    rw [e_spec_RecsOk_0 O hO xs (xs.length : Int)]
    simp only [Int.lt_irrefl, decide_false, Bool.false_eq_true, if_false]) xs.length 0 (by omega)

theorem impl_RecsOk (xs : List DRec) (h : F_RecS xs) : k_impl_RecsOk O xs = some (recsOk xs, ()) := by
  have b : xs.length ≤ 9223372036854775807 := h.1
  rw [e_impl_RecsOk O hO]
  exact loop_all (fun i => l_impl_RecsOk_0 O xs xs xs.length i) xs.length (recsCh xs) (decide ((xs.length : Int) ≤ 12)) (fun i hi => by
    show l_impl_RecsOk_0 O xs xs xs.length (i : Int) = _
    rw [e_impl_RecsOk_0 O hO xs xs xs.length (i : Int)]
    try simp only [rng_eq, gt0, eq0]
    simp only [ltT hi, nn, Bool.and_self, Bool.or_true, if_true, wi (show i < 9223372036854775807 by omega), impl_isTime hO, impl_isMany hO, bif_some, Option.bind_some, gdPrev hi b, wpN (show i ≤ 9223372036854775807 by omega), Int.toNat_natCast]
    refine ifN ?_
    simp only [recsCh]
    cases rng (xs.getD i zDRec).time 0 1000000 <;> cases rng (xs.getD i zDRec).n 0 1000 <;> cases decide (0 < i) <;> first | rfl | (simp; done)) (by
    show l_impl_RecsOk_0 O xs xs xs.length (xs.length : Int) = _
    rw [e_impl_RecsOk_0 O hO xs xs xs.length (xs.length : Int)]
    simp only [Int.lt_irrefl, decide_false, Bool.false_eq_true, if_false]) xs.length 0 (by omega)

theorem spec_ScaleOk (s : DScale) (h : F_Scale s) : k_spec_ScaleOk O s = some (scaleOk s, ()) := by
  rw [e_spec_ScaleOk O hO]
  simp only [spec_NameOk hO _ h.name, spec_l1In hO, spec_RecsOk hO _ h.recs, bif_some, Option.bind_some, scaleOk]
  cases nameOk s.name <;> cases rng s.now 0 1000 <;> cases recsOk s.recs <;> rfl
theorem impl_ScaleOk (s : DScale) (h : F_Scale s) : k_impl_ScaleOk O s = some (scaleOk s, ()) := by
  rw [e_impl_ScaleOk O hO]
  simp only [impl_NameOk hO _ h.name, impl_isMany hO, impl_RecsOk hO _ h.recs, bif_some, Option.bind_some, scaleOk]
  cases nameOk s.name <;> cases rng s.now 0 1000 <;> cases recsOk s.recs <;> rfl

end
end Go.Proofs.Ytejfpemjmpoddaa.Vx
