/- The universe of this translation: its types as Lean types, and how their values lie in cells. Written by a program of this work (gen.py). -/
import Derived.Test.YtejfpemjmpoddaaProg
import Derived.Test.YtejfpemjmpoddaaVxM1
import Derived.Lib.Bytealg
namespace Go.Proofs.Ytejfpemjmpoddaa.Vx
open Go Go.Proofs
abbrev Str : Type := List UInt8
structure DBoundsError where
  x : Int
  y : Int
  signed : Bool
  code : Int
def zDBoundsError : DBoundsError := ⟨0, 0, false, 0⟩
structure DNode where
  kind : Int
  n : Int
  s : Str
  keys : List (Str)
  kids : List (DNode)
def zDNode : DNode := ⟨0, 0, [], [], []⟩
def DNode.cp (x : DNode) : DNode := ⟨x.kind, x.n, x.s, x.keys, x.kids⟩
theorem DNode.cp_eq (x : DNode) : x.cp = x := by cases x; rfl
structure DPatchOp where
  kind : Int
  path : List (Str)
  from_ : List (Str)
  x : DNode
def zDPatchOp : DPatchOp := ⟨0, [], [], zDNode⟩
structure DL1Cur where
  b : List (Int)
  i : Int
  h : Int
def zDL1Cur : DL1Cur := ⟨[], 0, 0⟩
@[reducible] def Ty : Nat → Type
  | 2 => Int
  | 3 => Int
  | 4 => Bool
  | 5 => Int
  | 6 => Int
  | 8 => DBoundsError
  | 9 => Str
  | 22 => List (Str)
  | 28 => List (DNode)
  | 30 => DNode
  | 39 => List (Int)
  | 46 => DPatchOp
  | 78 => List (List (Str))
  | 147 => List (Int)
  | 180 => DL1Cur
  | _ => Unit
def dfl : (κ : Nat) → Option (Ty κ)
  | 2 => some (0 : Int)
  | 3 => some (0 : Int)
  | 4 => some (false : Bool)
  | 5 => some (0 : Int)
  | 6 => some (0 : Int)
  | 8 => some (zDBoundsError : DBoundsError)
  | 9 => some ([] : Str)
  | 22 => some ([] : List (Str))
  | 28 => some ([] : List (DNode))
  | 30 => some (zDNode : DNode)
  | 39 => some ([] : List (Int))
  | 46 => some (zDPatchOp : DPatchOp)
  | 78 => some ([] : List (List (Str)))
  | 147 => some ([] : List (Int))
  | 180 => some (zDL1Cur : DL1Cur)
  | _ => none
def tiL : List (Nat × TD) := [
  (2, ⟨.int .i64, 1, 8, [2]⟩),
  (3, ⟨.int .i64, 1, 8, [3]⟩),
  (4, ⟨.bool, 1, 1, [4]⟩),
  (5, ⟨.int .u8, 1, 1, [5]⟩),
  (6, ⟨.int .u8, 1, 1, [6]⟩),
  (8, ⟨.struct [(0, 2), (1, 3), (2, 4), (3, 6)], 4, 24, [2, 3, 4, 6]⟩),
  (9, ⟨.string, 1, 16, [9]⟩),
  (21, ⟨.int .i32, 1, 4, [21]⟩),
  (22, ⟨.slice 9, 1, 24, [22]⟩),
  (28, ⟨.slice 30, 1, 24, [28]⟩),
  (30, ⟨.struct [(0, 3), (1, 3), (2, 9), (3, 22), (4, 28)], 5, 80, [3, 3, 9, 22, 28]⟩),
  (39, ⟨.slice 5, 1, 24, [39]⟩),
  (46, ⟨.struct [(0, 3), (1, 22), (2, 22), (3, 30)], 8, 136, [3, 22, 22, 3, 3, 9, 22, 28]⟩),
  (78, ⟨.slice 22, 1, 24, [78]⟩),
  (147, ⟨.slice 3, 1, 24, [147]⟩),
  (180, ⟨.struct [(0, 39), (1, 3), (2, 3)], 3, 40, [39, 3, 3]⟩)]
def ti (t : Nat) : Option TD := find tiL t
def cells : (κ : Nat) → Ty κ → List (V Ty)
  | 2 => fun x => [.int .i64 x]
  | 3 => fun x => [.int .i64 x]
  | 4 => fun x => [.bool x]
  | 5 => fun x => [.int .u8 x]
  | 6 => fun x => [.int .u8 x]
  | 8 => fun x => [.int .i64 x.x, .int .i64 x.y, .bool x.signed, .int .u8 x.code]
  | 9 => fun x => [.str x]
  | 22 => fun x => [.sl 9 x]
  | 28 => fun x => [.sl 30 x]
  | 30 => fun x => [.int .i64 x.kind, .int .i64 x.n, .str x.s, .sl 9 x.keys, .sl 30 x.kids]
  | 39 => fun x => [.sl 5 x]
  | 46 => fun x => [.int .i64 x.kind, .sl 9 x.path, .sl 9 x.from_, .int .i64 x.x.kind, .int .i64 x.x.n, .str x.x.s, .sl 9 x.x.keys, .sl 30 x.x.kids]
  | 78 => fun x => [.sl 22 x]
  | 147 => fun x => [.sl 3 x]
  | 180 => fun x => [.sl 5 x.b, .int .i64 x.i, .int .i64 x.h]
  | _ => fun _ => []
def asRow (κ : Nat) : V Ty → Option (List (Ty κ))
  | .nl => some []
  | .sl κ' xs => if h : κ' = κ then some (h ▸ xs) else none
  | _ => none
def dec2 : List (V Ty) → Option (Int)
  | [.int .i64 x0] => some x0
  | _ => none
def dec3 : List (V Ty) → Option (Int)
  | [.int .i64 x0] => some x0
  | _ => none
def dec4 : List (V Ty) → Option (Bool)
  | [.bool x0] => some x0
  | _ => none
def dec5 : List (V Ty) → Option (Int)
  | [.int .u8 x0] => some x0
  | _ => none
def dec6 : List (V Ty) → Option (Int)
  | [.int .u8 x0] => some x0
  | _ => none
def dec8 : List (V Ty) → Option (DBoundsError)
  | [.int .i64 x0, .int .i64 x1, .bool x2, .int .u8 x3] => some ⟨x0, x1, x2, x3⟩
  | _ => none
def dec9 : List (V Ty) → Option (Str)
  | [.str x0] => some x0
  | _ => none
def dec22 : List (V Ty) → Option (List (Str))
  | [v0] => match asRow 9 v0 with
    | some x0 => some x0
    | _ => none
  | _ => none
def dec28 : List (V Ty) → Option (List (DNode))
  | [v0] => match asRow 30 v0 with
    | some x0 => some x0
    | _ => none
  | _ => none
def dec30 : List (V Ty) → Option (DNode)
  | [.int .i64 x0, .int .i64 x1, .str x2, v3, v4] => match asRow 9 v3, asRow 30 v4 with
    | some x3, some x4 => some ⟨x0, x1, x2, x3, x4⟩
    | _, _ => none
  | _ => none
def dec39 : List (V Ty) → Option (List (Int))
  | [v0] => match asRow 5 v0 with
    | some x0 => some x0
    | _ => none
  | _ => none
def dec46 : List (V Ty) → Option (DPatchOp)
  | [.int .i64 x0, v1, v2, .int .i64 x3, .int .i64 x4, .str x5, v6, v7] => match asRow 9 v1, asRow 9 v2, asRow 9 v6, asRow 30 v7 with
    | some x1, some x2, some x6, some x7 => some ⟨x0, x1, x2, ⟨x3, x4, x5, x6, x7⟩⟩
    | _, _, _, _ => none
  | _ => none
def dec78 : List (V Ty) → Option (List (List (Str)))
  | [v0] => match asRow 22 v0 with
    | some x0 => some x0
    | _ => none
  | _ => none
def dec147 : List (V Ty) → Option (List (Int))
  | [v0] => match asRow 3 v0 with
    | some x0 => some x0
    | _ => none
  | _ => none
def dec180 : List (V Ty) → Option (DL1Cur)
  | [v0, .int .i64 x1, .int .i64 x2] => match asRow 5 v0 with
    | some x0 => some ⟨x0, x1, x2⟩
    | _ => none
  | _ => none
def dec : (κ : Nat) → List (V Ty) → Option (Ty κ)
  | 2 => dec2
  | 3 => dec3
  | 4 => dec4
  | 5 => dec5
  | 6 => dec6
  | 8 => dec8
  | 9 => dec9
  | 22 => dec22
  | 28 => dec28
  | 30 => dec30
  | 39 => dec39
  | 46 => dec46
  | 78 => dec78
  | 147 => dec147
  | 180 => dec180
  | _ => fun _ => none
def sig : Nat → Sig
  | 23 => ⟨[.sl 5], [.bool], false⟩
  | 93 => ⟨[.sl 5], [.bx 180 []], false⟩
  | 161 => ⟨[.bx 180 []], [.int .i64], false⟩
  | 101 => ⟨[.bx 180 [], .int .i64], [.int .i64], false⟩
  | 105 => ⟨[.bx 180 [], .int .i64], [.bool], false⟩
  | 197 => ⟨[.bool], [.int .i64], false⟩
  | 154 => ⟨[.bool], [.st 30 [false, false, false, true, true]], false⟩
  | 106 => ⟨[.bx 180 [], .sl 3], [.int .i64], false⟩
  | 155 => ⟨[.int .i64], [.st 30 [false, false, false, true, true]], false⟩
  | 159 => ⟨[.bx 180 [], .sl 9], [.str], false⟩
  | 157 => ⟨[.bx 180 []], [.str], false⟩
  | 156 => ⟨[.str], [.st 30 [false, false, false, true, true]], false⟩
  | 158 => ⟨[.bx 180 []], [.str], false⟩
  | 77 => ⟨[.st 30 []], [.st 30 [false, false, false, true, true]], false⟩
  | 144 => ⟨[.st 30 [], .str], [.int .i64], false⟩
  | 142 => ⟨[.st 30 [], .str, .st 30 []], [.st 30 [false, false, false, true, true]], false⟩
  | 94 => ⟨[.bx 180 [], .int .i64], [.st 30 [false, false, false, true, true]], false⟩
  | 124 => ⟨[.int .i64], [.str], false⟩
  | 54 => ⟨[.st 30 []], [.gsl 22], false⟩
  | 95 => ⟨[.bx 180 [], .st 30 []], [.gsl 9], false⟩
  | 24 => ⟨[.sl 5], [.st 30 [], .gsl 9, .st 30 [false, false, false, true, true]], false⟩
  | 147 => ⟨[.sl 9, .str], [.int .i64], false⟩
  | 107 => ⟨[.int .i64, .int .i64, .int .i64], [.bool], false⟩
  | 123 => ⟨[.int .i64], [.str], false⟩
  | 151 => ⟨[.str], [.int .i64, .bool], false⟩
  | 86 => ⟨[.str], [.int .i64, .bool], false⟩
  | 96 => ⟨[.st 30 [], .str], [.int .i64], false⟩
  | 145 => ⟨[.sl 9], [.gsl 9], false⟩
  | 81 => ⟨[.st 30 []], [.st 30 [false, false, false, true, true]], false⟩
  | 25 => ⟨[.st 30 [], .sl 9], [.st 30 [false, false, false, true, true], .bool], false⟩
  | 79 => ⟨[.st 30 [], .str], [.int .i64], false⟩
  | 26 => ⟨[.st 30 [], .sl 9], [.st 30 [false, false, false, true, true], .bool], false⟩
  | 97 => ⟨[.sl 9, .sl 9], [.bool], false⟩
  | 98 => ⟨[.sl 30, .sl 30, .fn], [.bool], false⟩
  | 27 => ⟨[.st 30 [], .st 30 []], [.bool], false⟩
  | 84 => ⟨[.st 30 []], [.bool], false⟩
  | 149 => ⟨[.str, .rp 9], [.bool], false⟩
  | 148 => ⟨[.sl 9, .fn], [.int .i64], false⟩
  | 150 => ⟨[.gsl 9, .int .i64, .gsl 9], [.gsl 9], false⟩
  | 87 => ⟨[.gsl 30, .int .i64, .gsl 30], [.gsl 30], false⟩
  | 85 => ⟨[.st 30 [], .str, .st 30 []], [.st 30 [false, false, false, true, true]], false⟩
  | 83 => ⟨[.st 30 [], .str, .rp 30], [.st 30 [false, false, false, true, true], .bool], false⟩
  | 146 => ⟨[.st 30 [], .sl 9, .fn], [.st 30 [false, false, false, true, true], .bool], false⟩
  | 82 => ⟨[.st 30 [], .sl 9, .fn], [.st 30 [false, false, false, true, true], .bool], false⟩
  | 17 => ⟨[.st 30 [], .sl 9, .st 30 []], [.st 30 [false, false, false, true, true], .bool], false⟩
  | 176 => ⟨[.gsl 9, .int .i64, .int .i64], [.gsl 9], false⟩
  | 121 => ⟨[.gsl 30, .int .i64, .int .i64], [.gsl 30], false⟩
  | 120 => ⟨[.st 30 [], .str], [.st 30 [false, false, false, true, true]], false⟩
  | 119 => ⟨[.st 30 [], .str], [.st 30 [false, false, false, true, true], .bool], false⟩
  | 49 => ⟨[.st 30 [], .sl 9], [.st 30 [false, false, false, true, true], .bool], false⟩
  | 99 => ⟨[.st 30 [], .st 46 []], [.st 30 [false, false, false, true, true], .bool], false⟩
  | 28 => ⟨[.st 30 [], .st 46 []], [.st 30 [false, false, false, true, true], .bool], false⟩
  | 4 => ⟨[.sl 5], [.bool], false⟩
  | _ => ⟨[], [], false⟩
noncomputable def codeL : List (Nat × Func) := [(23, Try.f23), (93, Try.f93), (161, Try.f161), (101, Try.f101), (105, Try.f105), (197, Try.f197), (154, Try.f154), (106, Try.f106), (155, Try.f155), (159, Try.f159), (157, Try.f157), (156, Try.f156), (158, Try.f158), (77, Try.f77), (144, Try.f144), (142, Try.f142), (94, Try.f94), (124, Try.f124), (54, Try.f54), (95, Try.f95), (24, Try.f24), (147, Try.f147), (107, Try.f107), (123, Try.f123), (151, Try.f151), (86, Try.f86), (96, Try.f96), (81, Try.f81), (25, Try.f25), (79, Try.f79), (26, Try.f26), (97, Try.f97), (98, Try.f98), (27, Try.f27), (84, Try.f84), (149, Try.f149), (148, Try.f148), (85, Try.f85), (83, Try.f83), (146, Try.f146), (82, Try.f82), (17, Try.f17), (120, Try.f120), (119, Try.f119), (49, Try.f49), (99, Try.f99), (28, Try.f28), (4, Try.f4)]
noncomputable def code (f : Nat) : Option Func := find codeL f
def hint : Nat → Nat → List (Nat × List (Option Nat × Bool × Nat))
  | 25, 0 => [(2, []), (4, []), (9, []), (10, []), (11, [])]
  | 26, 0 => [(1, []), (2, []), (4, []), (6, [])]
  | 54, 0 => [(1, []), (3, []), (4, [])]
  | 54, 2 => [(1, []), (3, []), (4, []), (5, []), (6, []), (7, [])]
  | 77, 0 => [(1, []), (2, []), (3, [(some 4, true, 30)]), (4, [])]
  | 79, 1 => [(1, []), (2, []), (6, [])]
  | 81, 0 => [(1, []), (2, []), (3, [(none, true, 30)]), (12, []), (13, []), (14, [])]
  | 93, 0 => [(0, []), (3, []), (4, [])]
  | 94, 1 => [(0, []), (1, []), (4, []), (5, []), (6, [(some 3, true, 9), (some 4, true, 30)]), (7, []), (8, []), (63, [])]
  | 97, 0 => [(0, []), (1, []), (12, []), (13, [])]
  | 98, 0 => [(1, []), (2, []), (15, []), (16, []), (17, [])]
  | 124, 0 => [(0, []), (3, []), (4, [])]
  | 142, 0 => [(1, []), (3, []), (5, []), (6, []), (7, []), (8, [])]
  | 144, 0 => [(1, []), (2, []), (5, [])]
  | 147, 0 => [(0, []), (1, []), (7, []), (8, [])]
  | 148, 0 => [(0, []), (1, []), (7, []), (8, [])]
  | 151, 0 => [(0, []), (4, []), (5, []), (25, []), (26, [])]
  | _, _ => []
def idxByte (s : List UInt8) (c : Int) : Int := match s.findIdx? (fun x => (x.toNat : Int) == c) with
  | some i => i
  | none => -1
def insP {α : Type} (by_ : Nat) (xs : List α) (i : Int) (ys : List α) : Option (List α × Unit) :=
  if (decide (0 ≤ i) && decide (i ≤ xs.length) && decide ((xs.length + ys.length) * by_ ≤ 17592186044416)) = true then some (xs.take i.toNat ++ ys ++ xs.drop i.toNat, ()) else none
def clnP {α : Type} (by_ : Nat) (xs : List α) : Option (List α × Unit) :=
  if decide (xs.length * by_ ≤ 17592186044416) = true then some (xs, ()) else none
def delP {α : Type} (xs : List α) (i j : Int) : Option (List α × Unit) :=
  if (decide (0 ≤ i) && decide (i ≤ j) && decide (j ≤ xs.length)) = true then some (xs.take i.toNat ++ xs.drop j.toNat, ()) else none
noncomputable def prim : (f : Nat) → Option (PKs.T Ty (sig f).ps → Option (PKs.T Ty ((sig f).rs ++ outsOf (sig f).ps)))
  | 145 => some (fun (xs, _) => clnP 16 xs)
  | 150 => some (fun (xs, i, ys, _) => insP 16 xs i ys)
  | 87 => some (fun (xs, i, ys, _) => insP 80 xs i ys)
  | 176 => some (fun (xs, i, j, _) => delP xs i j)
  | 121 => some (fun (xs, i, j, _) => delP xs i j)
  | _ => none
noncomputable def E : Env := ⟨Ty, dfl, ti, cells, dec, sig, code, [], hint, prim⟩
end Go.Proofs.Ytejfpemjmpoddaa.Vx
