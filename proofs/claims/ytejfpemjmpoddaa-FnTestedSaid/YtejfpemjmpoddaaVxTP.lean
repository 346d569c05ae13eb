/- Functions that are taken by a contract, and the universe as a whole. Written by a program of this work (gen.py). -/
import Derived.Test.YtejfpemjmpoddaaVxTU
import Derived.WalkKit
import Derived.Lib.Strings
import Derived.Lib.Slices
import Derived.Lib.Walk
import Derived.Lib.Bytealg
import Derived.Lib.SliceRun
import Derived.Lib.JoinLaws
import Derived.Lib.AppendZerosOnto
import Derived.Lib.Overlaps
import Derived.Laws.Externs
import Derived.Shelf.RegionOpenPlain
import Derived.Shelf.Spec.SlicesInsert
namespace Go.Proofs.Ytejfpemjmpoddaa.Vx
open Go Go.Proofs Go.RowKit Go.Lib
set_option maxRecDepth 100000
set_option maxHeartbeats 4000000 in
theorem cln_nil_145 (n c : Nat) (w : World) : Calls Try.prog 145 #[.slice none n c] w fun e w' => e = .returned (.slice none 0 0) ∧ w' = w := by
  have q22 : ∀ (w : World) (a : Option Addr) (n c n' c' : Nat), (binOp .eql 22 (.slice a n c) (.slice none n' c')).run Try.prog w = .ok (.bool a.isNone) w := fun w a n c n' c' => Lib.run_eql_slice_nil w _ _ a n c n' c' Try.underlying22
  go_enter Try.func145, Try.ntmps145
  go_wp2
  go_ret
  exact ⟨rfl, rfl⟩
set_option maxHeartbeats 4000000 in
theorem cln_run_145 (a : Addr) (n c : Nat) (w : World) (v' : Value) (w1 : World) (hr : ∀ ty, (Builtin.append_ #[22, 22] ty #[.slice (some ⟨w.heap.size, 0, none⟩) 0 0, .slice (some a) n c]).run Try.prog (w.alloc (.cells #[] 9)) = .ok v' w1) :
    Calls Try.prog 145 #[.slice (some a) n c] w fun e w' => e = .returned v' ∧ w' = w1 := by
  have q22 : ∀ (w : World) (a : Option Addr) (n c n' c' : Nat), (binOp .eql 22 (.slice a n c) (.slice none n' c')).run Try.prog w = .ok (.bool a.isNone) w := fun w a n c n' c' => Lib.run_eql_slice_nil w _ _ a n c n' c' Try.underlying22
  go_enter Try.func145, Try.ntmps145
  go_wp2_with (at_builtin; refine Lib.wpList_append_run _ rfl _ _ _ _ rfl _ _ rfl rfl _ _ (hr _) ?_)
  go_ret
  exact ⟨rfl, rfl⟩
theorem p145_ok (x : E.Args 145) (y : E.Res 145) (h : (fun ((xs, _) : List (Ty 9) × Unit) => clnP 16 xs) x = some y) : FnOk Try.prog E 145 x y := by
  obtain ⟨xs, u⟩ := x
  have h' : clnP 16 xs = some y := h
  unfold clnP at h'
  split at h'
  case isFalse => cases h'
  rename_i hc
  simp only [decide_eq_true_eq] at hc
  cases h'
  refine FnOk.calls Try.func145 (by kernel_rfl) (by kernel_rfl) (fun w S args ob hp hnd hob hS => ?_)
  have hp : PRs E w S [.sl 9] ((xs, ()) : List (Ty 9) × Unit) args ob := hp
  match args, hp with
  | [v1], hp =>
    obtain ⟨o1, r1, rfl, ⟨hx, rfl⟩, rfl⟩ := hp
    exact (clone_calls tiOk good (f := 145) (t := 22) (κ := 9) (by_ := 16) Try.underlying22 rfl cln_nil_145 cln_run_145 hx hS (by omega)).mono
      (fun e w' hg => Gave.post (E := E) (f := 145) (κ := 9) (y := ((xs, ()) : List (Ty 9) × Unit)) rfl rfl rfl
        (fun w S v ob h => (⟨ob, [], by simp, h, rfl⟩ : PRs E w S [.gsl 9] ((xs, ()) : List (Ty 9) × Unit) [v] ob)) (by simp) hS hg)
set_option maxHeartbeats 4000000 in
theorem ins_room_150 (b off n c i vb voff m vc : Nat) (arr : Array Value) (et : TypeId) (cs vs : List Value) (w : World) (hi : i < n) (hm : 0 < m) (hroom : n + m ≤ c) (h47 : n + m ≤ 140737488355328) (hvb : vb ≠ b)
    (hb : w.heap[b]? = some (.cells arr et (0, 0))) (hsz : off + c ≤ arr.size) (varr : Array Value) (vt : TypeId) (hvh : w.heap[vb]? = some (.cells varr vt (0, 0)))
    (hcl : cs.length = (n - i)) (hvl : vs.length = m)
    (hcs : ∀ j v, cs[j]? = some v → w.cell? ⟨b, off + i + j, none⟩ = some v) 
    (hvs : ∀ j v, vs[j]? = some v → w.cell? ⟨vb, voff + j, none⟩ = some v) (h1c : ∀ v ∈ cs, v.oneCell' = true) (h1v : ∀ v ∈ vs, v.oneCell' = true) (A1 A2 : Array Value)
    (hA1 : A1 = spl arr (off + (i + m)) cs) (hA2 : A2 = spl A1 (off + i) vs) :
    Calls Try.prog 150 #[.slice (some ⟨b, off, none⟩) n c, .int .i64 i, .slice (some ⟨vb, voff, none⟩) m vc] w fun e w' =>
      e = .returned (.slice (some ⟨b, off, none⟩) (n + m) c) ∧ w' = (w.drew.setRow b A1).setRow b A2 := by
  have hz1 : ¬ ((m : Int) = 0) := by omega
  have hz2 : ¬ ((i : Int) = (n : Int)) := by omega
  have hw1 : IntKind.i64.wrap ((i : Int) + (m : Int)) = (i : Int) + (m : Int) := by rw [IntKind.wrap_i64]; omega
  have hov : ∀ lb cb, (callFunc 194 #[.slice (some ⟨vb, voff, none⟩) m vc, .slice (some ⟨b, off + (i + m), none⟩) lb cb]).run Try.prog w = .ok (.value (.bool false)) w := fun lb cb => by
    rw [run_callFunc_extern Try.func194 (by kernel_rfl) (by kernel_rfl) (by kernel_rfl) (e := Extern.SlicesOverlaps.overlaps #[22, 22] #[4]) (by kernel_rfl),
      Lib.run_overlaps_apart w 22 4 _ Try.underlying22 1 (fun _ => rfl) ⟨vb, voff, none⟩ ⟨b, off + (i + m), none⟩ m vc lb cb hvb vt et varr.size arr.size (by simp [World.shape?, hvh]) (by simp [World.shape?, hb]) (by omega) (by simp [World.frozen?, hvh]) (by simp [World.frozen?, hvh])]
    rfl
  obtain ⟨i0, hi0, hs0⟩ : ∃ i0, Try.prog.info? 9 = some i0 ∧ i0.size = 1 := ⟨_, rfl, rfl⟩
  obtain ⟨W1, hW1⟩ : ∃ W1, W1 = w.drew.setRow b A1 := ⟨_, rfl⟩
  have hA1s : A1.size = arr.size := by
    rw [hA1]
    exact spl_size (by omega)
  have hmin1 : Nat.min (n + m - i) (n + m - (i + m)) = n - i := by show min _ _ = _; omega
  have hmin2 : Nat.min m (n + m - i) = m := by show min _ _ = _; omega
  have hcp1 : ∀ ty dc sc, (Builtin.copy_ #[22, 22] ty #[.slice (some ⟨b, off + (i + m), none⟩) (n + m - (i + m)) dc, .slice (some ⟨b, off + i, none⟩) (n + m - i) sc]).run Try.prog w.drew = .ok (goInt ((n - i : Nat) : Int)) W1 := fun ty dc sc => by
    have := copy_run (P := Try.prog) w.drew 22 22 ty 9 i0 b (off + (i + m)) (n + m - (i + m)) dc ⟨b, off + i, none⟩ (n + m - i) sc arr et cs Try.underlying22 hi0 (by rw [hcl, hmin1, hs0] <;> omega) hb (by omega) (fun j v hj => by rw [Addr.add_lit]; exact hcs j v hj) h1c
    rw [hmin1] at this
    rw [hW1, hA1]
    exact this
  have hcp2 : ∀ (W : World), W.heap = W1.heap → ∀ ty dc, (Builtin.copy_ #[22, 22] ty #[.slice (some ⟨b, off + i, none⟩) (n + m - i) dc, .slice (some ⟨vb, voff, none⟩) m vc]).run Try.prog W = .ok (goInt m) (W.setRow b A2) := fun W hWh ty dc => by
    have := copy_run (P := Try.prog) W 22 22 ty 9 i0 b (off + i) (n + m - i) dc ⟨vb, voff, none⟩ m vc A1 et vs Try.underlying22 hi0 (by rw [hvl, hmin2, hs0] <;> omega) (by rw [hWh, hW1]; exact setRow_heap _ _ _ _ _ _ hb) (by omega) (fun j v hj => by
      rw [Addr.add_lit]
      have := hvs j v hj
      unfold World.cell? at this ⊢
      rw [hWh, hW1, setRow_other _ _ _ _ hvb]
      exact this) h1v
    rw [hmin2] at this
    rw [hA2]
    exact this
  have mixed : Try.prog.follows .mixedOrders = true := Vx.mixed
  have hb1 : (0 : Int) ≤ (i : Int) + (m : Int) := by omega
  have hin : i ≤ n := by omega
  have htn : ((i : Int) + (m : Int)).toNat = i + m := by omega
  have hb2 : ¬ (c = i + m) := by omega
  have hb3 : (i : Int) ≤ (n : Int) + (m : Int) := by omega
  have hb4 : ¬ (c = i) := by omega
  have X : Hid (W1 = w.drew.setRow b A1) := hW1
  clear hW1 hA1 hA2 hcl hvl hcs hvs h1c h1v hsz hA1s hs0 hi0 hmin1 hmin2 hb hvh
  go_enter Try.func150, Try.ntmps150
  go_wp2_with (simp only [hov])
  go_region_law_o (refine step_copy_runI rfl _ _ 22 22 rfl (.slice (some ⟨b, off + (i + m), none⟩) (n + m - (i + m)) (c - (i + m))) (.slice (some ⟨b, off + i, none⟩) (n + m - i) (c - i)) (by simp [Act.eval, Act.put]) (by simp [Act.eval, Act.put]) (hcp1 3 _ _) ?_)
  go_wp2_with (at_builtin; refine wpList_copy_runI _ rfl _ _ 22 22 rfl _ _ rfl rfl (hcp2 _ rfl _ _) ?_)
  go_ret
  exact ⟨rfl, by rw [show W1 = _ from X]⟩

set_option maxHeartbeats 4000000 in
theorem ins_grow_150 (b off n c i vb voff m vc : Nat) (os cs vs : List Value) (w : World) (hi : i < n) (hm : 0 < m) (hnc : n ≤ c) (hroom : c < n + m) (hbig : (n + m) * 16 ≤ 140737488355328)
    (hbw : b < w.heap.size) (hvw : vb < w.heap.size) (hol : os.length = i) (hcl : cs.length = (n - i)) (hvl : vs.length = m)
    (hos : ∀ j v, os[j]? = some v → w.cell? ⟨b, off + j, none⟩ = some v) (hcs : ∀ j v, cs[j]? = some v → w.cell? ⟨b, off + i + j, none⟩ = some v)
    (hvs : ∀ j v, vs[j]? = some v → w.cell? ⟨vb, voff + j, none⟩ = some v) (h1c : ∀ v ∈ cs, v.oneCell' = true) (h1v : ∀ v ∈ vs, v.oneCell' = true) (G : Nat) (hG : G = grownCap w (n + m) c 9) :
    ∃ ROW A1 A2 : Array Value, ROW.size = G ∧ A1 = spl ROW (i) vs ∧ A2 = spl A1 ((i + m)) cs ∧
      (∀ (j : Nat) (v : Value), os[j]? = some v → ROW[j]? = some v) ∧
      Calls Try.prog 150 #[.slice (some ⟨b, off, none⟩) n c, .int .i64 i, .slice (some ⟨vb, voff, none⟩) m vc] w fun e w' =>
      e = .returned (.slice (some ⟨w.heap.size, 0, none⟩) (n + m) G) ∧ ∃ W : World, W.heap = (w.drew.alloc (.cells ROW 9)).heap ∧ W.os = w.os ∧ W.tape = w.tape ∧ W.output = w.output ∧ w' = (W.setRow w.heap.size A1).setRow w.heap.size A2 := by
  obtain ⟨i0, z0, hi0, hs0, hb0, hz0, hzc⟩ : ∃ i0 z0, Try.prog.info? 9 = some i0 ∧ i0.size = 1 ∧ i0.bytes = 16 ∧ i0.zero = some z0 ∧ z0.cells.size = 1 := ⟨_, _, rfl, rfl, rfl, rfl, rfl⟩
  have hz1 : ¬ ((m : Int) = 0) := by omega
  have hz2 : ¬ ((i : Int) = (n : Int)) := by omega
  have hz3 : (c : Int) < (n : Int) + (m : Int) := by omega
  have hkk : (n : Int) + (m : Int) - (i : Int) = ((n + m - i : Nat) : Int) := by omega
  have hik : i + (n + m - i) = n + m := by omega
  have hGn : n + m ≤ G := by rw [hG]; exact grownCap_ge w _ _ _
  have hold : (Builtin.firstCells i0.size i (.slice (some ⟨b, off, none⟩) i c)).run Try.prog w.drew = .ok os.toArray w.drew := by
    rw [hs0]
    exact run_firstCells_some w.drew 1 i ⟨b, off, none⟩ i c os (by omega) (fun j v hj => by
      rw [Addr.add_lit]
      exact hos j v hj)
  obtain ⟨ROW, hROW⟩ : ∃ ROW : Array Value, ROW = os.toArray ++ Builtin.zeroCells z0.cells (n + m - i) ++ Builtin.zeroCells z0.cells (G - (n + m)) := ⟨_, rfl⟩
  obtain ⟨A1, hA1⟩ : ∃ A1 : Array Value, A1 = spl ROW (i) vs := ⟨_, rfl⟩
  obtain ⟨A2, hA2⟩ : ∃ A2 : Array Value, A2 = spl A1 ((i + m)) cs := ⟨_, rfl⟩
  have hRs : ROW.size = G := by
    rw [hROW, Array.size_append, Array.size_append, size_zeroCells, size_zeroCells, hzc]
    simp only [List.size_toArray, hol]
    omega
  have hRo : ∀ (j : Nat) (v : Value), os[j]? = some v → ROW[j]? = some v := by
    intro j v hj
    have hj' := lt_of_getElem? hj
    rw [hROW, Array.append_assoc, Array.getElem?_append_left (by simpa using hj')]
    simpa using hj
  have hA1s : A1.size = ROW.size := by
    rw [hA1]
    exact spl_size (by omega)
  refine ⟨ROW, A1, A2, hRs, hA1, hA2, hRo, ?_⟩
  have hrz : ∀ ty, (Builtin.append_ #[22, 3] ty #[.slice (some ⟨b, off, none⟩) i c, .int .i64 ((n : Int) + (m : Int) - (i : Int))]).run Try.prog w =
      .ok (.slice (some ⟨w.heap.size, 0, none⟩) (n + m) G) (w.drew.alloc (.cells ROW 9)) := fun ty => by
    have h := Lib.run_append_grow_zeros (P := Try.prog) w 22 3 ty 9 i0 z0 .i64 .i64 Try.underlying22 Try.underlying3 hi0 hz0 (some ⟨b, off, none⟩) i c os hold (n + m - i) (by omega) (by omega) (by omega) (by omega) (by rw [hb0]; omega) (by rw [hb0, hik]; exact growslice_fits hroom hbig)
    rw [hik, ← hG, ← hROW] at h
    rw [hkk]
    exact h
  obtain ⟨W1, hW1⟩ : ∃ W1, W1 = w.drew.alloc (.cells ROW 9) := ⟨_, rfl⟩
  rw [← hW1] at hrz
  have hH : W1.heap[w.heap.size]? = some (.cells ROW 9 (0, 0)) := by rw [hW1]; exact heap_alloc_new w.drew _
  have hlow : ∀ q, q < w.heap.size → W1.heap[q]? = w.heap[q]? := fun q hq => by rw [hW1]; exact heap_alloc_lt w.drew _ q hq
  have hmin1 : Nat.min m (n + m - i) = m := by show min _ _ = _; omega
  have hmin2 : Nat.min (n - i) (n + m - (i + m)) = n - i := by show min _ _ = _; omega
  have hcpA : ∀ (W : World), W.heap = W1.heap → ∀ ty dc, (Builtin.copy_ #[22, 22] ty #[.slice (some ⟨w.heap.size, i, none⟩) (n + m - i) dc, .slice (some ⟨vb, voff, none⟩) m vc]).run Try.prog W = .ok (goInt m) (W.setRow w.heap.size A1) := fun W hWh ty dc => by
    have := copy_run (P := Try.prog) W 22 22 ty 9 i0 w.heap.size (i) (n + m - i) dc ⟨vb, voff, none⟩ m vc ROW 9 vs Try.underlying22 hi0 (by rw [hvl, hmin1, hs0] <;> omega) (by rw [hWh]; exact hH) (by omega) (fun j v hj => by
      rw [Addr.add_lit]
      have := hvs j v hj
      unfold World.cell? at this ⊢
      rw [hWh, hlow _ hvw]
      exact this) h1v
    rw [hmin1] at this
    rw [hA1]
    exact this
  have hcpB : ∀ (W W' : World), W.heap = W1.heap → W'.heap = (W.setRow w.heap.size A1).heap → ∀ ty dc sc, (Builtin.copy_ #[22, 22] ty #[.slice (some ⟨w.heap.size, (i + m), none⟩) (n + m - (i + m)) dc, .slice (some ⟨b, off + i, none⟩) (n - i) sc]).run Try.prog W' = .ok (goInt ((n - i : Nat) : Int)) (W'.setRow w.heap.size A2) := fun W W' hWh hWh' ty dc sc => by
    have := copy_run (P := Try.prog) W' 22 22 ty 9 i0 w.heap.size ((i + m)) (n + m - (i + m)) dc ⟨b, off + i, none⟩ (n - i) sc A1 9 cs Try.underlying22 hi0 (by rw [hcl, hmin2, hs0] <;> omega) (by rw [hWh']; exact setRow_heap _ _ _ _ _ _ (by rw [hWh]; exact hH)) (by omega) (fun j v hj => by
      rw [Addr.add_lit]
      have := hcs j v hj
      unfold World.cell? at this ⊢
      rw [hWh', setRow_other _ _ _ _ (Nat.ne_of_lt hbw), hWh, hlow _ hbw]
      exact this) h1c
    rw [hmin2] at this
    rw [hA2]
    exact this
  have mixed : Try.prog.follows .mixedOrders = true := Vx.mixed
  have hG63 : G ≤ 9223372036854775807 := by
    have := grownCap_le_maxLen w (n + m) c 9 (by unfold maxLen; omega)
    rw [← hG] at this
    unfold maxLen at this
    omega
  have hGi : ¬ (G = i) := by omega
  have hGim : ¬ (G = i + m) := by omega
  have hci : ¬ (c = i) := by omega
  have hw1 : IntKind.i64.wrap ((i : Int) + (m : Int)) = (i : Int) + (m : Int) := by rw [IntKind.wrap_i64]; omega
  have hb1 : (0 : Int) ≤ (i : Int) + (m : Int) := by omega
  have hin : i ≤ n := by omega
  have htn : ((i : Int) + (m : Int)).toNat = i + m := by omega
  have hb3 : (i : Int) ≤ (n : Int) := by omega
  have X : Hid (W1 = w.drew.alloc (.cells ROW 9)) := hW1
  clear hkk hik hold hROW hG hA1 hA2 hcl hvl hol hos hcs hvs h1c h1v hA1s hs0 hi0 hz0 hb0 hzc hmin1 hmin2 hRs hRo hH hlow hW1
  go_enter Try.func150, Try.ntmps150
  go_wp2_with (first
    | (at_builtin; refine Lib.wpList_append_run _ rfl _ _ _ _ rfl _ _ rfl rfl _ _ (hrz _) ?_)
    | (at_builtin; refine wpList_copy_runI _ rfl _ _ 22 22 rfl _ _ rfl rfl (hcpA _ rfl _ _) ?_))
  go_region_law_o (refine step_copy_runI rfl _ _ 22 22 rfl (.slice (some ⟨w.heap.size, (i + m), none⟩) (n + m - (i + m)) (G - (i + m))) (.slice (some ⟨b, off + i, none⟩) (n - i) (c - i)) (by simp [Act.eval, Act.put]) (by simp [Act.eval, Act.put]) (hcpB W1 (W1.setRow w.heap.size A1).drew rfl rfl 3 (G - (i + m)) (c - i)) ?_)
  go_wp2
  go_ret
  refine ⟨rfl, W1.drew, ?_, ?_, ?_, ?_, ?_⟩
  all_goals (have X' : W1 = w.drew.alloc (.cells ROW 9) := X; subst X')
  all_goals rfl
set_option maxHeartbeats 4000000 in
theorem ins_none_150 (A B : Option Addr) (n c i d : Nat) (w : World) (hi : i ≤ n) (hc : n ≤ c) :
    Calls Try.prog 150 #[.slice A n c, .int .i64 i, .slice B 0 d] w fun e w' => e = .returned (.slice A n c) ∧ w' = w := by
  have hi2 : (i : Int) ≤ (n : Int) := by omega
  have hc2 : (n : Int) ≤ (c : Int) := by omega
  cases A with
  | none =>
    go_enter Try.func150, Try.ntmps150
    go_wp2
    go_ret
    exact ⟨rfl, rfl⟩
  | some a =>
    obtain ⟨ab, ao, asp⟩ := a
    go_enter Try.func150, Try.ntmps150
    go_wp2
    all_goals (go_ret; exact ⟨rfl, rfl⟩)
set_option maxHeartbeats 4000000 in
theorem ins_end_150 (A B : Option Addr) (n c m d : Nat) (w : World) (hc : n ≤ c) (hm : 0 < m) (v' : Value) (w1 : World) (hr : ∀ ty, (Builtin.append_ #[22, 22] ty #[.slice A n c, .slice B m d]).run Try.prog w = .ok v' w1) :
    Calls Try.prog 150 #[.slice A n c, .int .i64 n, .slice B m d] w fun e w' => e = .returned v' ∧ w' = w1 := by
  have hz1 : ¬ ((m : Int) = 0) := by omega
  have hc2 : (n : Int) ≤ (c : Int) := by omega
  cases A with
  | none =>
    go_enter Try.func150, Try.ntmps150
    go_wp2_with (at_builtin; refine Lib.wpList_append_run _ rfl _ _ _ _ rfl _ _ rfl rfl _ _ (hr _) ?_)
    go_ret
    exact ⟨rfl, rfl⟩
  | some a =>
    obtain ⟨ab, ao, asp⟩ := a
    go_enter Try.func150, Try.ntmps150
    go_wp2_with (at_builtin; refine Lib.wpList_append_run _ rfl _ _ _ _ rfl _ _ rfl rfl _ _ (hr _) ?_)
    all_goals (go_ret; exact ⟨rfl, rfl⟩)
theorem p150_ok (x : E.Args 150) (y : E.Res 150) (h : (fun ((xs, i, ys, _) : List (Ty 9) × Int × List (Ty 9) × Unit) => insP 16 xs i ys) x = some y) : FnOk Try.prog E 150 x y := by
  obtain ⟨xs, i, ys, u⟩ := x
  have h' : insP 16 xs i ys = some y := h
  unfold insP at h'
  split at h'
  case isFalse => cases h'
  rename_i hc
  simp only [Bool.and_eq_true, decide_eq_true_eq] at hc
  cases h'
  refine FnOk.calls Try.func150 (by kernel_rfl) (by kernel_rfl) (fun w S args ob hp hnd hob hS => ?_)
  have hp : PRs E w S [.gsl 9, .int .i64, .gsl 9] ((xs, i, ys, ()) : List (Ty 9) × Int × List (Ty 9) × Unit) args ob := hp
  match args, hp with
  | [v1, v2, v3], hp =>
    obtain ⟨o1, r1, rfl, hx, o2, r2, rfl, ⟨hi, rfl⟩, o3, r3, rfl, hy, rfl⟩ := hp
    subst hi
    simp only [List.nil_append, List.append_nil] at hnd hob ⊢
    exact (ins_calls tiOk good (f := 150) (t := 22) (κ := 9) (by_ := 16) (σ := 1) Try.underlying22 rfl rfl ins_none_150 ins_end_150 (by simpa only [Nat.mul_one] using ins_room_150) (by simpa only [Nat.mul_one] using ins_grow_150) hx hy hnd hob hS hc.1.1 hc.1.2 (by have := hc.2; omega)).mono
      (fun e w' hg => Gave.post (E := E) (f := 150) (κ := 9) (y := ((xs.take i.toNat ++ ys ++ xs.drop i.toNat, ()) : List (Ty 9) × Unit)) rfl rfl rfl
        (fun w S v ob h => (⟨ob, [], by simp, h, rfl⟩ : PRs E w S [.gsl 9] ((xs.take i.toNat ++ ys ++ xs.drop i.toNat, ()) : List (Ty 9) × Unit) [v] ob)) hob hS hg)
set_option maxHeartbeats 4000000 in
theorem ins_room_87 (b off n c i vb voff m vc : Nat) (arr : Array Value) (et : TypeId) (cs vs : List Value) (w : World) (hi : i < n) (hm : 0 < m) (hroom : n + m ≤ c) (h47 : n + m ≤ 140737488355328) (hvb : vb ≠ b)
    (hb : w.heap[b]? = some (.cells arr et (0, 0))) (hsz : off + c * 5 ≤ arr.size) (varr : Array Value) (vt : TypeId) (hvh : w.heap[vb]? = some (.cells varr vt (0, 0)))
    (hcl : cs.length = (n - i) * 5) (hvl : vs.length = m * 5)
    (hcs : ∀ j v, cs[j]? = some v → w.cell? ⟨b, off + i * 5 + j, none⟩ = some v) 
    (hvs : ∀ j v, vs[j]? = some v → w.cell? ⟨vb, voff + j, none⟩ = some v) (h1c : ∀ v ∈ cs, v.oneCell' = true) (h1v : ∀ v ∈ vs, v.oneCell' = true) (A1 A2 : Array Value)
    (hA1 : A1 = spl arr (off + (i + m) * 5) cs) (hA2 : A2 = spl A1 (off + i * 5) vs) :
    Calls Try.prog 87 #[.slice (some ⟨b, off, none⟩) n c, .int .i64 i, .slice (some ⟨vb, voff, none⟩) m vc] w fun e w' =>
      e = .returned (.slice (some ⟨b, off, none⟩) (n + m) c) ∧ w' = (w.drew.setRow b A1).setRow b A2 := by
  have hz1 : ¬ ((m : Int) = 0) := by omega
  have hz2 : ¬ ((i : Int) = (n : Int)) := by omega
  have hw1 : IntKind.i64.wrap ((i : Int) + (m : Int)) = (i : Int) + (m : Int) := by rw [IntKind.wrap_i64]; omega
  have hov : ∀ lb cb, (callFunc 152 #[.slice (some ⟨vb, voff, none⟩) m vc, .slice (some ⟨b, off + (i + m) * 5, none⟩) lb cb]).run Try.prog w = .ok (.value (.bool false)) w := fun lb cb => by
    rw [run_callFunc_extern Try.func152 (by kernel_rfl) (by kernel_rfl) (by kernel_rfl) (e := Extern.SlicesOverlaps.overlaps #[28, 28] #[4]) (by kernel_rfl),
      Lib.run_overlaps_apart w 28 4 _ Try.underlying28 5 (fun _ => rfl) ⟨vb, voff, none⟩ ⟨b, off + (i + m) * 5, none⟩ m vc lb cb hvb vt et varr.size arr.size (by simp [World.shape?, hvh]) (by simp [World.shape?, hb]) (by omega) (by simp [World.frozen?, hvh]) (by simp [World.frozen?, hvh])]
    rfl
  obtain ⟨i0, hi0, hs0⟩ : ∃ i0, Try.prog.info? 30 = some i0 ∧ i0.size = 5 := ⟨_, rfl, rfl⟩
  obtain ⟨W1, hW1⟩ : ∃ W1, W1 = w.drew.setRow b A1 := ⟨_, rfl⟩
  have hA1s : A1.size = arr.size := by
    rw [hA1]
    exact spl_size (by omega)
  have hmin1 : Nat.min (n + m - i) (n + m - (i + m)) = n - i := by show min _ _ = _; omega
  have hmin2 : Nat.min m (n + m - i) = m := by show min _ _ = _; omega
  have hcp1 : ∀ ty dc sc, (Builtin.copy_ #[28, 28] ty #[.slice (some ⟨b, off + (i + m) * 5, none⟩) (n + m - (i + m)) dc, .slice (some ⟨b, off + i * 5, none⟩) (n + m - i) sc]).run Try.prog w.drew = .ok (goInt ((n - i : Nat) : Int)) W1 := fun ty dc sc => by
    have := copy_run (P := Try.prog) w.drew 28 28 ty 30 i0 b (off + (i + m) * 5) (n + m - (i + m)) dc ⟨b, off + i * 5, none⟩ (n + m - i) sc arr et cs Try.underlying28 hi0 (by rw [hcl, hmin1, hs0] <;> omega) hb (by omega) (fun j v hj => by rw [Addr.add_lit]; exact hcs j v hj) h1c
    rw [hmin1] at this
    rw [hW1, hA1]
    exact this
  have hcp2 : ∀ (W : World), W.heap = W1.heap → ∀ ty dc, (Builtin.copy_ #[28, 28] ty #[.slice (some ⟨b, off + i * 5, none⟩) (n + m - i) dc, .slice (some ⟨vb, voff, none⟩) m vc]).run Try.prog W = .ok (goInt m) (W.setRow b A2) := fun W hWh ty dc => by
    have := copy_run (P := Try.prog) W 28 28 ty 30 i0 b (off + i * 5) (n + m - i) dc ⟨vb, voff, none⟩ m vc A1 et vs Try.underlying28 hi0 (by rw [hvl, hmin2, hs0] <;> omega) (by rw [hWh, hW1]; exact setRow_heap _ _ _ _ _ _ hb) (by omega) (fun j v hj => by
      rw [Addr.add_lit]
      have := hvs j v hj
      unfold World.cell? at this ⊢
      rw [hWh, hW1, setRow_other _ _ _ _ hvb]
      exact this) h1v
    rw [hmin2] at this
    rw [hA2]
    exact this
  have mixed : Try.prog.follows .mixedOrders = true := Vx.mixed
  have hb1 : (0 : Int) ≤ (i : Int) + (m : Int) := by omega
  have hin : i ≤ n := by omega
  have htn : ((i : Int) + (m : Int)).toNat = i + m := by omega
  have hb2 : ¬ (c = i + m) := by omega
  have hb3 : (i : Int) ≤ (n : Int) + (m : Int) := by omega
  have hb4 : ¬ (c = i) := by omega
  have X : Hid (W1 = w.drew.setRow b A1) := hW1
  clear hW1 hA1 hA2 hcl hvl hcs hvs h1c h1v hsz hA1s hs0 hi0 hmin1 hmin2 hb hvh
  go_enter Try.func87, Try.ntmps87
  go_wp2_with (simp only [hov])
  go_region_law_o (refine step_copy_runI rfl _ _ 28 28 rfl (.slice (some ⟨b, off + (i + m) * 5, none⟩) (n + m - (i + m)) (c - (i + m))) (.slice (some ⟨b, off + i * 5, none⟩) (n + m - i) (c - i)) (by simp [Act.eval, Act.put]) (by simp [Act.eval, Act.put]) (hcp1 3 _ _) ?_)
  go_wp2_with (at_builtin; refine wpList_copy_runI _ rfl _ _ 28 28 rfl _ _ rfl rfl (hcp2 _ rfl _ _) ?_)
  go_ret
  exact ⟨rfl, by rw [show W1 = _ from X]⟩

set_option maxHeartbeats 4000000 in
theorem ins_grow_87 (b off n c i vb voff m vc : Nat) (os cs vs : List Value) (w : World) (hi : i < n) (hm : 0 < m) (hnc : n ≤ c) (hroom : c < n + m) (hbig : (n + m) * 80 ≤ 140737488355328)
    (hbw : b < w.heap.size) (hvw : vb < w.heap.size) (hol : os.length = i * 5) (hcl : cs.length = (n - i) * 5) (hvl : vs.length = m * 5)
    (hos : ∀ j v, os[j]? = some v → w.cell? ⟨b, off + j, none⟩ = some v) (hcs : ∀ j v, cs[j]? = some v → w.cell? ⟨b, off + i * 5 + j, none⟩ = some v)
    (hvs : ∀ j v, vs[j]? = some v → w.cell? ⟨vb, voff + j, none⟩ = some v) (h1c : ∀ v ∈ cs, v.oneCell' = true) (h1v : ∀ v ∈ vs, v.oneCell' = true) (G : Nat) (hG : G = grownCap w (n + m) c 30) :
    ∃ ROW A1 A2 : Array Value, ROW.size = G * 5 ∧ A1 = spl ROW (i * 5) vs ∧ A2 = spl A1 ((i + m) * 5) cs ∧
      (∀ (j : Nat) (v : Value), os[j]? = some v → ROW[j]? = some v) ∧
      Calls Try.prog 87 #[.slice (some ⟨b, off, none⟩) n c, .int .i64 i, .slice (some ⟨vb, voff, none⟩) m vc] w fun e w' =>
      e = .returned (.slice (some ⟨w.heap.size, 0, none⟩) (n + m) G) ∧ ∃ W : World, W.heap = (w.drew.alloc (.cells ROW 30)).heap ∧ W.os = w.os ∧ W.tape = w.tape ∧ W.output = w.output ∧ w' = (W.setRow w.heap.size A1).setRow w.heap.size A2 := by
  obtain ⟨i0, z0, hi0, hs0, hb0, hz0, hzc⟩ : ∃ i0 z0, Try.prog.info? 30 = some i0 ∧ i0.size = 5 ∧ i0.bytes = 80 ∧ i0.zero = some z0 ∧ z0.cells.size = 5 := ⟨_, _, rfl, rfl, rfl, rfl, rfl⟩
  have hz1 : ¬ ((m : Int) = 0) := by omega
  have hz2 : ¬ ((i : Int) = (n : Int)) := by omega
  have hz3 : (c : Int) < (n : Int) + (m : Int) := by omega
  have hkk : (n : Int) + (m : Int) - (i : Int) = ((n + m - i : Nat) : Int) := by omega
  have hik : i + (n + m - i) = n + m := by omega
  have hGn : n + m ≤ G := by rw [hG]; exact grownCap_ge w _ _ _
  have hold : (Builtin.firstCells i0.size i (.slice (some ⟨b, off, none⟩) i c)).run Try.prog w.drew = .ok os.toArray w.drew := by
    rw [hs0]
    exact run_firstCells_some w.drew 5 i ⟨b, off, none⟩ i c os (by omega) (fun j v hj => by
      rw [Addr.add_lit]
      exact hos j v hj)
  obtain ⟨ROW, hROW⟩ : ∃ ROW : Array Value, ROW = os.toArray ++ Builtin.zeroCells z0.cells (n + m - i) ++ Builtin.zeroCells z0.cells (G - (n + m)) := ⟨_, rfl⟩
  obtain ⟨A1, hA1⟩ : ∃ A1 : Array Value, A1 = spl ROW (i * 5) vs := ⟨_, rfl⟩
  obtain ⟨A2, hA2⟩ : ∃ A2 : Array Value, A2 = spl A1 ((i + m) * 5) cs := ⟨_, rfl⟩
  have hRs : ROW.size = G * 5 := by
    rw [hROW, Array.size_append, Array.size_append, size_zeroCells, size_zeroCells, hzc]
    simp only [List.size_toArray, hol]
    omega
  have hRo : ∀ (j : Nat) (v : Value), os[j]? = some v → ROW[j]? = some v := by
    intro j v hj
    have hj' := lt_of_getElem? hj
    rw [hROW, Array.append_assoc, Array.getElem?_append_left (by simpa using hj')]
    simpa using hj
  have hA1s : A1.size = ROW.size := by
    rw [hA1]
    exact spl_size (by omega)
  refine ⟨ROW, A1, A2, hRs, hA1, hA2, hRo, ?_⟩
  have hrz : ∀ ty, (Builtin.append_ #[28, 3] ty #[.slice (some ⟨b, off, none⟩) i c, .int .i64 ((n : Int) + (m : Int) - (i : Int))]).run Try.prog w =
      .ok (.slice (some ⟨w.heap.size, 0, none⟩) (n + m) G) (w.drew.alloc (.cells ROW 30)) := fun ty => by
    have h := Lib.run_append_grow_zeros (P := Try.prog) w 28 3 ty 30 i0 z0 .i64 .i64 Try.underlying28 Try.underlying3 hi0 hz0 (some ⟨b, off, none⟩) i c os hold (n + m - i) (by omega) (by omega) (by omega) (by omega) (by rw [hb0]; omega) (by rw [hb0, hik]; exact growslice_fits hroom hbig)
    rw [hik, ← hG, ← hROW] at h
    rw [hkk]
    exact h
  obtain ⟨W1, hW1⟩ : ∃ W1, W1 = w.drew.alloc (.cells ROW 30) := ⟨_, rfl⟩
  rw [← hW1] at hrz
  have hH : W1.heap[w.heap.size]? = some (.cells ROW 30 (0, 0)) := by rw [hW1]; exact heap_alloc_new w.drew _
  have hlow : ∀ q, q < w.heap.size → W1.heap[q]? = w.heap[q]? := fun q hq => by rw [hW1]; exact heap_alloc_lt w.drew _ q hq
  have hmin1 : Nat.min m (n + m - i) = m := by show min _ _ = _; omega
  have hmin2 : Nat.min (n - i) (n + m - (i + m)) = n - i := by show min _ _ = _; omega
  have hcpA : ∀ (W : World), W.heap = W1.heap → ∀ ty dc, (Builtin.copy_ #[28, 28] ty #[.slice (some ⟨w.heap.size, i * 5, none⟩) (n + m - i) dc, .slice (some ⟨vb, voff, none⟩) m vc]).run Try.prog W = .ok (goInt m) (W.setRow w.heap.size A1) := fun W hWh ty dc => by
    have := copy_run (P := Try.prog) W 28 28 ty 30 i0 w.heap.size (i * 5) (n + m - i) dc ⟨vb, voff, none⟩ m vc ROW 30 vs Try.underlying28 hi0 (by rw [hvl, hmin1, hs0] <;> omega) (by rw [hWh]; exact hH) (by omega) (fun j v hj => by
      rw [Addr.add_lit]
      have := hvs j v hj
      unfold World.cell? at this ⊢
      rw [hWh, hlow _ hvw]
      exact this) h1v
    rw [hmin1] at this
    rw [hA1]
    exact this
  have hcpB : ∀ (W W' : World), W.heap = W1.heap → W'.heap = (W.setRow w.heap.size A1).heap → ∀ ty dc sc, (Builtin.copy_ #[28, 28] ty #[.slice (some ⟨w.heap.size, (i + m) * 5, none⟩) (n + m - (i + m)) dc, .slice (some ⟨b, off + i * 5, none⟩) (n - i) sc]).run Try.prog W' = .ok (goInt ((n - i : Nat) : Int)) (W'.setRow w.heap.size A2) := fun W W' hWh hWh' ty dc sc => by
    have := copy_run (P := Try.prog) W' 28 28 ty 30 i0 w.heap.size ((i + m) * 5) (n + m - (i + m)) dc ⟨b, off + i * 5, none⟩ (n - i) sc A1 30 cs Try.underlying28 hi0 (by rw [hcl, hmin2, hs0] <;> omega) (by rw [hWh']; exact setRow_heap _ _ _ _ _ _ (by rw [hWh]; exact hH)) (by omega) (fun j v hj => by
      rw [Addr.add_lit]
      have := hcs j v hj
      unfold World.cell? at this ⊢
      rw [hWh', setRow_other _ _ _ _ (Nat.ne_of_lt hbw), hWh, hlow _ hbw]
      exact this) h1c
    rw [hmin2] at this
    rw [hA2]
    exact this
  have mixed : Try.prog.follows .mixedOrders = true := Vx.mixed
  have hG63 : G ≤ 9223372036854775807 := by
    have := grownCap_le_maxLen w (n + m) c 30 (by unfold maxLen; omega)
    rw [← hG] at this
    unfold maxLen at this
    omega
  have hGi : ¬ (G = i) := by omega
  have hGim : ¬ (G = i + m) := by omega
  have hci : ¬ (c = i) := by omega
  have hw1 : IntKind.i64.wrap ((i : Int) + (m : Int)) = (i : Int) + (m : Int) := by rw [IntKind.wrap_i64]; omega
  have hb1 : (0 : Int) ≤ (i : Int) + (m : Int) := by omega
  have hin : i ≤ n := by omega
  have htn : ((i : Int) + (m : Int)).toNat = i + m := by omega
  have hb3 : (i : Int) ≤ (n : Int) := by omega
  have X : Hid (W1 = w.drew.alloc (.cells ROW 30)) := hW1
  clear hkk hik hold hROW hG hA1 hA2 hcl hvl hol hos hcs hvs h1c h1v hA1s hs0 hi0 hz0 hb0 hzc hmin1 hmin2 hRs hRo hH hlow hW1
  go_enter Try.func87, Try.ntmps87
  go_wp2_with (first
    | (at_builtin; refine Lib.wpList_append_run _ rfl _ _ _ _ rfl _ _ rfl rfl _ _ (hrz _) ?_)
    | (at_builtin; refine wpList_copy_runI _ rfl _ _ 28 28 rfl _ _ rfl rfl (hcpA _ rfl _ _) ?_))
  go_region_law_o (refine step_copy_runI rfl _ _ 28 28 rfl (.slice (some ⟨w.heap.size, (i + m) * 5, none⟩) (n + m - (i + m)) (G - (i + m))) (.slice (some ⟨b, off + i * 5, none⟩) (n - i) (c - i)) (by simp [Act.eval, Act.put]) (by simp [Act.eval, Act.put]) (hcpB W1 (W1.setRow w.heap.size A1).drew rfl rfl 3 (G - (i + m)) (c - i)) ?_)
  go_wp2
  go_ret
  refine ⟨rfl, W1.drew, ?_, ?_, ?_, ?_, ?_⟩
  all_goals (have X' : W1 = w.drew.alloc (.cells ROW 30) := X; subst X')
  all_goals rfl
set_option maxHeartbeats 4000000 in
theorem ins_none_87 (A B : Option Addr) (n c i d : Nat) (w : World) (hi : i ≤ n) (hc : n ≤ c) :
    Calls Try.prog 87 #[.slice A n c, .int .i64 i, .slice B 0 d] w fun e w' => e = .returned (.slice A n c) ∧ w' = w := by
  have hi2 : (i : Int) ≤ (n : Int) := by omega
  have hc2 : (n : Int) ≤ (c : Int) := by omega
  cases A with
  | none =>
    go_enter Try.func87, Try.ntmps87
    go_wp2
    go_ret
    exact ⟨rfl, rfl⟩
  | some a =>
    obtain ⟨ab, ao, asp⟩ := a
    go_enter Try.func87, Try.ntmps87
    go_wp2
    all_goals (go_ret; exact ⟨rfl, rfl⟩)
set_option maxHeartbeats 4000000 in
theorem ins_end_87 (A B : Option Addr) (n c m d : Nat) (w : World) (hc : n ≤ c) (hm : 0 < m) (v' : Value) (w1 : World) (hr : ∀ ty, (Builtin.append_ #[28, 28] ty #[.slice A n c, .slice B m d]).run Try.prog w = .ok v' w1) :
    Calls Try.prog 87 #[.slice A n c, .int .i64 n, .slice B m d] w fun e w' => e = .returned v' ∧ w' = w1 := by
  have hz1 : ¬ ((m : Int) = 0) := by omega
  have hc2 : (n : Int) ≤ (c : Int) := by omega
  cases A with
  | none =>
    go_enter Try.func87, Try.ntmps87
    go_wp2_with (at_builtin; refine Lib.wpList_append_run _ rfl _ _ _ _ rfl _ _ rfl rfl _ _ (hr _) ?_)
    go_ret
    exact ⟨rfl, rfl⟩
  | some a =>
    obtain ⟨ab, ao, asp⟩ := a
    go_enter Try.func87, Try.ntmps87
    go_wp2_with (at_builtin; refine Lib.wpList_append_run _ rfl _ _ _ _ rfl _ _ rfl rfl _ _ (hr _) ?_)
    all_goals (go_ret; exact ⟨rfl, rfl⟩)
theorem p87_ok (x : E.Args 87) (y : E.Res 87) (h : (fun ((xs, i, ys, _) : List (Ty 30) × Int × List (Ty 30) × Unit) => insP 80 xs i ys) x = some y) : FnOk Try.prog E 87 x y := by
  obtain ⟨xs, i, ys, u⟩ := x
  have h' : insP 80 xs i ys = some y := h
  unfold insP at h'
  split at h'
  case isFalse => cases h'
  rename_i hc
  simp only [Bool.and_eq_true, decide_eq_true_eq] at hc
  cases h'
  refine FnOk.calls Try.func87 (by kernel_rfl) (by kernel_rfl) (fun w S args ob hp hnd hob hS => ?_)
  have hp : PRs E w S [.gsl 30, .int .i64, .gsl 30] ((xs, i, ys, ()) : List (Ty 30) × Int × List (Ty 30) × Unit) args ob := hp
  match args, hp with
  | [v1, v2, v3], hp =>
    obtain ⟨o1, r1, rfl, hx, o2, r2, rfl, ⟨hi, rfl⟩, o3, r3, rfl, hy, rfl⟩ := hp
    subst hi
    simp only [List.nil_append, List.append_nil] at hnd hob ⊢
    exact (ins_calls tiOk good (f := 87) (t := 28) (κ := 30) (by_ := 80) (σ := 5) Try.underlying28 rfl rfl ins_none_87 ins_end_87 (by simpa only [Nat.mul_one] using ins_room_87) (by simpa only [Nat.mul_one] using ins_grow_87) hx hy hnd hob hS hc.1.1 hc.1.2 (by have := hc.2; omega)).mono
      (fun e w' hg => Gave.post (E := E) (f := 87) (κ := 30) (y := ((xs.take i.toNat ++ ys ++ xs.drop i.toNat, ()) : List (Ty 30) × Unit)) rfl rfl rfl
        (fun w S v ob h => (⟨ob, [], by simp, h, rfl⟩ : PRs E w S [.gsl 30] ((xs.take i.toNat ++ ys ++ xs.drop i.toNat, ()) : List (Ty 30) × Unit) [v] ob)) hob hS hg)
set_option maxHeartbeats 4000000 in
theorem del_eq_176 (A : Option Addr) (n c i : Nat) (w : World) (hi : i ≤ n) (hc : n ≤ c) : Calls Try.prog 176 #[.slice A n c, .int .i64 i, .int .i64 i] w fun e w' => e = .returned (.slice A n c) ∧ w' = w := by
  have hi2 : (i : Int) ≤ (n : Int) := by omega
  have hc2 : (n : Int) ≤ (c : Int) := by omega
  cases A with
  | none =>
    go_enter Try.func176, Try.ntmps176
    go_wp2
    all_goals (go_ret; exact ⟨rfl, rfl⟩)
  | some a =>
    obtain ⟨ab, ao, asp⟩ := a
    go_enter Try.func176, Try.ntmps176
    go_wp2
    all_goals (go_ret; exact ⟨rfl, rfl⟩)
set_option maxHeartbeats 4000000 in
theorem del_lt_176 (b off n c i j : Nat) (arr : Array Value) (et : TypeId) (cs zs : List Value) (w : World) (hij : i < j) (hj : j ≤ n) (hnc : n ≤ c) (hb : w.heap[b]? = some (.cells arr et (0, 0))) (hsz : off + c ≤ arr.size)
    (hcl : cs.length = (n - j)) (hcs : ∀ k v, cs[k]? = some v → w.cell? ⟨b, off + j + k, none⟩ = some v) (h1c : ∀ v ∈ cs, v.oneCell' = true)
    (hcr : ∀ (W : World) (cur : Array Value) (et : TypeId) (o : Nat), W.heap[b]? = some (.cells cur et (0, 0)) → o + zs.length ≤ cur.size → ∀ ty d, (Builtin.clear_ #[22] ty #[.slice (some ⟨b, o, none⟩) (j - i) d]).run Try.prog W = .ok (.tuple #[]) (W.setRow b (spl cur o zs))) (hzl : zs.length = (j - i))
    (A1 A2 : Array Value) (hA1 : A1 = spl arr (off + i) cs) (hA2 : A2 = spl A1 (off + (i + (n - j))) zs) :
    Calls Try.prog 176 #[.slice (some ⟨b, off, none⟩) n c, .int .i64 i, .int .i64 j] w fun e w' => e = .returned (.slice (some ⟨b, off, none⟩) (n - (j - i)) c) ∧
      ∃ W : World, W.heap = w.heap ∧ W.os = w.os ∧ W.tape = w.tape ∧ W.output = w.output ∧ w' = (W.setRow b A1).setRow b A2 := by
  obtain ⟨i0, hi0, hs0⟩ : ∃ i0, Try.prog.info? 9 = some i0 ∧ i0.size = 1 := ⟨_, rfl, rfl⟩
  have hz2 : ¬ ((i : Int) = (j : Int)) := by omega
  have hA1s : A1.size = arr.size := by
    rw [hA1]
    exact spl_size (by omega)
  obtain ⟨AD, hAD, hsrc⟩ : ∃ AD : Addr, (if c = j then (some ⟨b, off, none⟩ : Option Addr) else some ⟨b, off + j, none⟩) = some AD ∧ (∀ k v, cs[k]? = some v → w.cell? (AD.add k) = some v) := by
    by_cases h : c = j
    · refine ⟨⟨b, off, none⟩, by simp [h], fun k v hk => ?_⟩
      have h0 : cs.length = 0 := by
        rw [hcl]
        omega
      have := lt_of_getElem? hk
      omega
    · exact ⟨⟨b, off + j, none⟩, by simp [h], fun k v hk => by rw [Addr.add_lit]; exact hcs k v hk⟩
  have hap : ∀ (W : World), W.heap = w.heap → ∀ ty d, (Builtin.append_ #[22, 22] ty #[.slice (some ⟨b, off, none⟩) i c, .slice (some AD) (n - j) d]).run Try.prog W = .ok (.slice (some ⟨b, off, none⟩) (i + (n - j)) c) (W.setRow b A1) := fun W hW ty d => by
    have hf : (Builtin.firstCells i0.size (n - j) (.slice (some AD) (n - j) d)).run Try.prog W = .ok cs.toArray W := by
      rw [hs0]
      exact run_firstCells_some W 1 (n - j) AD (n - j) d cs (by omega) (fun k v hk => by
        have := hsrc k v hk
        unfold World.cell? at this ⊢
        rw [hW]
        exact this)
    have := run_append_fits (P := Try.prog) (w := W) 22 ty 9 i0 Try.underlying22 hi0 22 9 Try.underlying22 _ (.slice (some AD) (n - j) d) b off i c (n - j) cs rfl (by simp [Builtin.lenOf]) hf h1c arr et (by rw [hW]; exact hb) (by omega) (by rw [hs0]; omega)
    rw [this, hA1, hs0]
    simp only [spl, Nat.mul_one]
  obtain ⟨W1, hW1⟩ : ∃ W1, W1 = w.drew.setRow b A1 := ⟨_, rfl⟩
  have hcl2 : ∀ (W : World), W.heap = W1.heap → ∀ ty d, (Builtin.clear_ #[22] ty #[.slice (some ⟨b, off + (i + (n - j)), none⟩) (n - (i + (n - j))) d]).run Try.prog W = .ok (.tuple #[]) (W.setRow b A2) := fun W hW ty d => by
    have := hcr W A1 et (off + (i + (n - j))) (by rw [hW, hW1]; exact setRow_heap _ _ _ _ _ _ hb) (by omega) ty d
    rw [hA2, ← this]
    congr 5
    omega
  have mixed : Try.prog.follows .mixedOrders = true := Vx.mixed
  have hic : i ≤ c := by omega
  have hjc : j ≤ c := by omega
  have hin : i ≤ n := by omega
  have hij2 : (i : Int) ≤ (j : Int) := by omega
  have hjn2 : (j : Int) ≤ (n : Int) := by omega
  have hnc2 : (n : Int) ≤ (c : Int) := by omega
  have hlen : i + (n - j) ≤ n := by omega
  have hlt2 : ¬ (c = i + (n - j)) := by omega
  have hfin : n - (j - i) = i + (n - j) := by omega
  rw [hfin]
  have X : Hid (W1 = w.drew.setRow b A1) := hW1
  have hap1 : ∀ ty d, (Builtin.append_ #[22, 22] ty #[.slice (some ⟨b, off, none⟩) i c, .slice (some AD) (n - j) d]).run Try.prog w.drew = .ok (.slice (some ⟨b, off, none⟩) (i + (n - j)) c) W1 := fun ty d => by
    rw [hW1]
    exact hap w.drew rfl ty d
  have hcl3 : ∀ ty, (Builtin.clear_ #[22] ty #[.slice (some ⟨b, off + (i + (n - j)), none⟩) (n - (i + (n - j))) (c - (i + (n - j)))]).run Try.prog W1 = .ok (.tuple #[]) (W1.setRow b A2) := fun ty => hcl2 W1 rfl ty _
  clear hW1 hA1 hA2 hcl hzl hcs h1c hsz hA1s hs0 hi0 hcr hap hcl2 hsrc hb hfin
  go_enter Try.func176, Try.ntmps176
  go_wp2_with fail
  go_region_law_o (refine step_append_run rfl _ _ 22 22 rfl (.slice (some ⟨b, off, none⟩) i c) (.slice (some AD) (n - j) (c - j)) (by simp [Act.eval, Act.put]) (by simp [Act.eval, Act.put, hAD]) (hap1 _ _) ?_)
  go_wp2
  go_ret
  refine ⟨rfl, w.drew, rfl, rfl, rfl, rfl, ?_⟩
  rw [show W1 = _ from X]
theorem p176_ok (x : E.Args 176) (y : E.Res 176) (h : (fun ((xs, i, j, _) : List (Ty 9) × Int × Int × Unit) => delP xs i j) x = some y) : FnOk Try.prog E 176 x y := by
  obtain ⟨xs, i, j, u⟩ := x
  have h' : delP xs i j = some y := h
  unfold delP at h'
  split at h'
  case isFalse => cases h'
  rename_i hc
  simp only [Bool.and_eq_true, decide_eq_true_eq] at hc
  cases h'
  refine FnOk.calls Try.func176 (by kernel_rfl) (by kernel_rfl) (fun w S args ob hp hnd hob hS => ?_)
  have hp : PRs E w S [.gsl 9, .int .i64, .int .i64] ((xs, i, j, ()) : List (Ty 9) × Int × Int × Unit) args ob := hp
  match args, hp with
  | [v1, v2, v3], hp =>
    obtain ⟨o1, r1, rfl, hx, o2, r2, rfl, ⟨hi, rfl⟩, o3, r3, rfl, ⟨hj, rfl⟩, rfl⟩ := hp
    subst hi hj
    simp only [List.append_nil] at hnd hob ⊢
    exact (del_calls tiOk good (f := 176) (t := 22) (κ := 9) (by_ := 16) (σ := 1) Try.underlying22 rfl rfl del_eq_176 (by simpa only [Nat.mul_one] using del_lt_176)
      (by
        rintro z ⟨i0, hi0, hz0⟩ n v hv
        cases hi0
        cases hz0
        exact zeroCells_one (by kernel_rfl) (by decide) n v hv) hx hob hS hc.1.1 hc.1.2 hc.2).mono
      (fun e w' hg => Gave.post (E := E) (f := 176) (κ := 9) (y := ((xs.take i.toNat ++ xs.drop j.toNat, ()) : List (Ty 9) × Unit)) rfl rfl rfl
        (fun w S v ob h => (⟨ob, [], by simp, h, rfl⟩ : PRs E w S [.gsl 9] ((xs.take i.toNat ++ xs.drop j.toNat, ()) : List (Ty 9) × Unit) [v] ob)) hob hS hg)
set_option maxHeartbeats 4000000 in
theorem del_eq_121 (A : Option Addr) (n c i : Nat) (w : World) (hi : i ≤ n) (hc : n ≤ c) : Calls Try.prog 121 #[.slice A n c, .int .i64 i, .int .i64 i] w fun e w' => e = .returned (.slice A n c) ∧ w' = w := by
  have hi2 : (i : Int) ≤ (n : Int) := by omega
  have hc2 : (n : Int) ≤ (c : Int) := by omega
  cases A with
  | none =>
    go_enter Try.func121, Try.ntmps121
    go_wp2
    all_goals (go_ret; exact ⟨rfl, rfl⟩)
  | some a =>
    obtain ⟨ab, ao, asp⟩ := a
    go_enter Try.func121, Try.ntmps121
    go_wp2
    all_goals (go_ret; exact ⟨rfl, rfl⟩)
set_option maxHeartbeats 4000000 in
theorem del_lt_121 (b off n c i j : Nat) (arr : Array Value) (et : TypeId) (cs zs : List Value) (w : World) (hij : i < j) (hj : j ≤ n) (hnc : n ≤ c) (hb : w.heap[b]? = some (.cells arr et (0, 0))) (hsz : off + c * 5 ≤ arr.size)
    (hcl : cs.length = (n - j) * 5) (hcs : ∀ k v, cs[k]? = some v → w.cell? ⟨b, off + j * 5 + k, none⟩ = some v) (h1c : ∀ v ∈ cs, v.oneCell' = true)
    (hcr : ∀ (W : World) (cur : Array Value) (et : TypeId) (o : Nat), W.heap[b]? = some (.cells cur et (0, 0)) → o + zs.length ≤ cur.size → ∀ ty d, (Builtin.clear_ #[28] ty #[.slice (some ⟨b, o, none⟩) (j - i) d]).run Try.prog W = .ok (.tuple #[]) (W.setRow b (spl cur o zs))) (hzl : zs.length = (j - i) * 5)
    (A1 A2 : Array Value) (hA1 : A1 = spl arr (off + i * 5) cs) (hA2 : A2 = spl A1 (off + (i + (n - j)) * 5) zs) :
    Calls Try.prog 121 #[.slice (some ⟨b, off, none⟩) n c, .int .i64 i, .int .i64 j] w fun e w' => e = .returned (.slice (some ⟨b, off, none⟩) (n - (j - i)) c) ∧
      ∃ W : World, W.heap = w.heap ∧ W.os = w.os ∧ W.tape = w.tape ∧ W.output = w.output ∧ w' = (W.setRow b A1).setRow b A2 := by
  obtain ⟨i0, hi0, hs0⟩ : ∃ i0, Try.prog.info? 30 = some i0 ∧ i0.size = 5 := ⟨_, rfl, rfl⟩
  have hz2 : ¬ ((i : Int) = (j : Int)) := by omega
  have hA1s : A1.size = arr.size := by
    rw [hA1]
    exact spl_size (by omega)
  obtain ⟨AD, hAD, hsrc⟩ : ∃ AD : Addr, (if c = j then (some ⟨b, off, none⟩ : Option Addr) else some ⟨b, off + j * 5, none⟩) = some AD ∧ (∀ k v, cs[k]? = some v → w.cell? (AD.add k) = some v) := by
    by_cases h : c = j
    · refine ⟨⟨b, off, none⟩, by simp [h], fun k v hk => ?_⟩
      have h0 : cs.length = 0 := by
        rw [hcl]
        omega
      have := lt_of_getElem? hk
      omega
    · exact ⟨⟨b, off + j * 5, none⟩, by simp [h], fun k v hk => by rw [Addr.add_lit]; exact hcs k v hk⟩
  have hap : ∀ (W : World), W.heap = w.heap → ∀ ty d, (Builtin.append_ #[28, 28] ty #[.slice (some ⟨b, off, none⟩) i c, .slice (some AD) (n - j) d]).run Try.prog W = .ok (.slice (some ⟨b, off, none⟩) (i + (n - j)) c) (W.setRow b A1) := fun W hW ty d => by
    have hf : (Builtin.firstCells i0.size (n - j) (.slice (some AD) (n - j) d)).run Try.prog W = .ok cs.toArray W := by
      rw [hs0]
      exact run_firstCells_some W 5 (n - j) AD (n - j) d cs (by omega) (fun k v hk => by
        have := hsrc k v hk
        unfold World.cell? at this ⊢
        rw [hW]
        exact this)
    have := run_append_fits (P := Try.prog) (w := W) 28 ty 30 i0 Try.underlying28 hi0 28 30 Try.underlying28 _ (.slice (some AD) (n - j) d) b off i c (n - j) cs rfl (by simp [Builtin.lenOf]) hf h1c arr et (by rw [hW]; exact hb) (by omega) (by rw [hs0]; omega)
    rw [this, hA1, hs0]
    simp only [spl, Nat.mul_one]
  obtain ⟨W1, hW1⟩ : ∃ W1, W1 = w.drew.setRow b A1 := ⟨_, rfl⟩
  have hcl2 : ∀ (W : World), W.heap = W1.heap → ∀ ty d, (Builtin.clear_ #[28] ty #[.slice (some ⟨b, off + (i + (n - j)) * 5, none⟩) (n - (i + (n - j))) d]).run Try.prog W = .ok (.tuple #[]) (W.setRow b A2) := fun W hW ty d => by
    have := hcr W A1 et (off + (i + (n - j)) * 5) (by rw [hW, hW1]; exact setRow_heap _ _ _ _ _ _ hb) (by omega) ty d
    rw [hA2, ← this]
    congr 5
    omega
  have mixed : Try.prog.follows .mixedOrders = true := Vx.mixed
  have hic : i ≤ c := by omega
  have hjc : j ≤ c := by omega
  have hin : i ≤ n := by omega
  have hij2 : (i : Int) ≤ (j : Int) := by omega
  have hjn2 : (j : Int) ≤ (n : Int) := by omega
  have hnc2 : (n : Int) ≤ (c : Int) := by omega
  have hlen : i + (n - j) ≤ n := by omega
  have hlt2 : ¬ (c = i + (n - j)) := by omega
  have hfin : n - (j - i) = i + (n - j) := by omega
  rw [hfin]
  have X : Hid (W1 = w.drew.setRow b A1) := hW1
  have hap1 : ∀ ty d, (Builtin.append_ #[28, 28] ty #[.slice (some ⟨b, off, none⟩) i c, .slice (some AD) (n - j) d]).run Try.prog w.drew = .ok (.slice (some ⟨b, off, none⟩) (i + (n - j)) c) W1 := fun ty d => by
    rw [hW1]
    exact hap w.drew rfl ty d
  have hcl3 : ∀ ty, (Builtin.clear_ #[28] ty #[.slice (some ⟨b, off + (i + (n - j)) * 5, none⟩) (n - (i + (n - j))) (c - (i + (n - j)))]).run Try.prog W1 = .ok (.tuple #[]) (W1.setRow b A2) := fun ty => hcl2 W1 rfl ty _
  clear hW1 hA1 hA2 hcl hzl hcs h1c hsz hA1s hs0 hi0 hcr hap hcl2 hsrc hb hfin
  go_enter Try.func121, Try.ntmps121
  go_wp2_with fail
  go_region_law_o (refine step_append_run rfl _ _ 28 28 rfl (.slice (some ⟨b, off, none⟩) i c) (.slice (some AD) (n - j) (c - j)) (by simp [Act.eval, Act.put]) (by simp [Act.eval, Act.put, hAD]) (hap1 _ _) ?_)
  go_wp2
  go_ret
  refine ⟨rfl, w.drew, rfl, rfl, rfl, rfl, ?_⟩
  rw [show W1 = _ from X]
theorem p121_ok (x : E.Args 121) (y : E.Res 121) (h : (fun ((xs, i, j, _) : List (Ty 30) × Int × Int × Unit) => delP xs i j) x = some y) : FnOk Try.prog E 121 x y := by
  obtain ⟨xs, i, j, u⟩ := x
  have h' : delP xs i j = some y := h
  unfold delP at h'
  split at h'
  case isFalse => cases h'
  rename_i hc
  simp only [Bool.and_eq_true, decide_eq_true_eq] at hc
  cases h'
  refine FnOk.calls Try.func121 (by kernel_rfl) (by kernel_rfl) (fun w S args ob hp hnd hob hS => ?_)
  have hp : PRs E w S [.gsl 30, .int .i64, .int .i64] ((xs, i, j, ()) : List (Ty 30) × Int × Int × Unit) args ob := hp
  match args, hp with
  | [v1, v2, v3], hp =>
    obtain ⟨o1, r1, rfl, hx, o2, r2, rfl, ⟨hi, rfl⟩, o3, r3, rfl, ⟨hj, rfl⟩, rfl⟩ := hp
    subst hi hj
    simp only [List.append_nil] at hnd hob ⊢
    exact (del_calls tiOk good (f := 121) (t := 28) (κ := 30) (by_ := 80) (σ := 5) Try.underlying28 rfl rfl del_eq_121 (by simpa only [Nat.mul_one] using del_lt_121)
      (by
        rintro z ⟨i0, hi0, hz0⟩ n v hv
        cases hi0
        cases hz0
        exact zeroCells_one (by kernel_rfl) (by decide) n v hv) hx hob hS hc.1.1 hc.1.2 hc.2).mono
      (fun e w' hg => Gave.post (E := E) (f := 121) (κ := 30) (y := ((xs.take i.toNat ++ xs.drop j.toNat, ()) : List (Ty 30) × Unit)) rfl rfl rfl
        (fun w S v ob h => (⟨ob, [], by simp, h, rfl⟩ : PRs E w S [.gsl 30] ((xs.take i.toNat ++ xs.drop j.toNat, ()) : List (Ty 30) × Unit) [v] ob)) hob hS hg)
theorem prim_ok (f : Nat) (q : E.Args f → Option (E.Res f)) (h : E.prim f = some q) (x : E.Args f) (y : E.Res f) (hy : q x = some y) : FnOk Try.prog E f x y := by
  by_cases hf : f ∈ primL
  · simp only [primL, List.mem_cons, List.not_mem_nil, or_false] at hf
    rcases hf with rfl | rfl | rfl | rfl | rfl
    · cases h; exact p145_ok x y hy
    · cases h; exact p150_ok x y hy
    · cases h; exact p87_ok x y hy
    · cases h; exact p176_ok x y hy
    · cases h; exact p121_ok x y hy
  · have e0 : E.prim f = none := prim_no f hf
    rw [e0] at h; cases h
theorem uni : Uni Try.prog E := ⟨tiOk, good, eqOk, mixed, code_ok, prim_ok⟩
theorem leafsOk : ∀ t d, E.ti t = some d → leafsB E t d = true := leafs_of ti_mem tB_all
end Go.Proofs.Ytejfpemjmpoddaa.Vx
