/- The universe of this translation: its types as Lean types, and how their values lie in cells. Written by a program of this work (gen.py). -/
import Derived.Test.YtejfpemjmpoddaaProg
import Derived.Test.YtejfpemjmpoddaaVxM1
import Derived.Lib.Bytealg
namespace Go.Proofs.Ytejfpemjmpoddaa.Vx
open Go Go.Proofs
abbrev Str : Type := List UInt8
structure DMetric where
  name : Str
  kind : Int
  goal : Int
def zDMetric : DMetric := ⟨[], 0, 0⟩
structure DPace where
  up : Int
  down : Int
  upSpan : Int
  downSpan : Int
def zDPace : DPace := ⟨0, 0, 0, 0⟩
structure DNote where
  key : Str
  text : Str
def zDNote : DNote := ⟨[], []⟩
structure DOrder where
  name : Str
  target : Str
  low : Int
  high : Int
  metrics : List (DMetric)
  pace : DPace
  notes : List (DNote)
def zDOrder : DOrder := ⟨[], [], 0, 0, [], zDPace, []⟩
structure DItem where
  order : DOrder
  ver : Int
def zDItem : DItem := ⟨zDOrder, 0⟩
structure DStore where
  items : List (DItem)
  next : Int
def zDStore : DStore := ⟨[], 0⟩
structure DRec where
  time : Int
  n : Int
def zDRec : DRec := ⟨0, 0⟩
structure DScale where
  name : Str
  now : Int
  recs : List (DRec)
def zDScale : DScale := ⟨[], 0, []⟩
structure DTold where
  time : Int
  name : Str
  n : Int
def zDTold : DTold := ⟨0, [], 0⟩
structure DWorld where
  store : DStore
  scales : List (DScale)
  time : Int
  log : List (DTold)
def zDWorld : DWorld := ⟨zDStore, [], 0, []⟩
@[reducible] def Ty : Nat → Type
  | 3 => Int
  | 4 => Bool
  | 5 => Int
  | 9 => Str
  | 50 => List (DMetric)
  | 52 => DPace
  | 53 => List (DNote)
  | 55 => DOrder
  | 57 => DItem
  | 65 => List (DItem)
  | 80 => List (DItem)
  | 82 => DStore
  | 83 => List (DScale)
  | 84 => List (DTold)
  | 86 => DWorld
  | 90 => DStore
  | 91 => List (DScale)
  | 92 => List (DTold)
  | 94 => DWorld
  | 160 => List (DRec)
  | 162 => DScale
  | 190 => DMetric
  | 192 => DNote
  | 201 => List (DRec)
  | 203 => DScale
  | 206 => DTold
  | 209 => DRec
  | 212 => DTold
  | 232 => List (DMetric)
  | 233 => DPace
  | 234 => List (DNote)
  | 236 => DOrder
  | 238 => DItem
  | 255 => DRec
  | 268 => DMetric
  | 270 => DNote
  | _ => Unit
def dfl : (κ : Nat) → Option (Ty κ)
  | 3 => some (0 : Int)
  | 4 => some (false : Bool)
  | 5 => some (0 : Int)
  | 9 => some ([] : Str)
  | 50 => some ([] : List (DMetric))
  | 52 => some (zDPace : DPace)
  | 53 => some ([] : List (DNote))
  | 55 => some (zDOrder : DOrder)
  | 57 => some (zDItem : DItem)
  | 65 => some ([] : List (DItem))
  | 80 => some ([] : List (DItem))
  | 82 => some (zDStore : DStore)
  | 83 => some ([] : List (DScale))
  | 84 => some ([] : List (DTold))
  | 86 => some (zDWorld : DWorld)
  | 90 => some (zDStore : DStore)
  | 91 => some ([] : List (DScale))
  | 92 => some ([] : List (DTold))
  | 94 => some (zDWorld : DWorld)
  | 160 => some ([] : List (DRec))
  | 162 => some (zDScale : DScale)
  | 190 => some (zDMetric : DMetric)
  | 192 => some (zDNote : DNote)
  | 201 => some ([] : List (DRec))
  | 203 => some (zDScale : DScale)
  | 206 => some (zDTold : DTold)
  | 209 => some (zDRec : DRec)
  | 212 => some (zDTold : DTold)
  | 232 => some ([] : List (DMetric))
  | 233 => some (zDPace : DPace)
  | 234 => some ([] : List (DNote))
  | 236 => some (zDOrder : DOrder)
  | 238 => some (zDItem : DItem)
  | 255 => some (zDRec : DRec)
  | 268 => some (zDMetric : DMetric)
  | 270 => some (zDNote : DNote)
  | _ => none
def tiL : List (Nat × TD) := [
  (3, ⟨.int .i64, 1, 8, [3]⟩),
  (4, ⟨.bool, 1, 1, [4]⟩),
  (5, ⟨.int .u8, 1, 1, [5]⟩),
  (9, ⟨.string, 1, 16, [9]⟩),
  (50, ⟨.slice 190, 1, 24, [50]⟩),
  (52, ⟨.struct [(0, 3), (1, 3), (2, 3), (3, 3)], 4, 32, [3, 3, 3, 3]⟩),
  (53, ⟨.slice 192, 1, 24, [53]⟩),
  (55, ⟨.struct [(0, 9), (1, 9), (2, 3), (3, 3), (4, 50), (5, 52), (9, 53)], 10, 128, [9, 9, 3, 3, 50, 3, 3, 3, 3, 53]⟩),
  (57, ⟨.struct [(0, 55), (10, 3)], 11, 136, [9, 9, 3, 3, 50, 3, 3, 3, 3, 53, 3]⟩),
  (65, ⟨.slice 57, 1, 24, [65]⟩),
  (80, ⟨.slice 238, 1, 24, [80]⟩),
  (82, ⟨.struct [(0, 80), (1, 3)], 2, 32, [80, 3]⟩),
  (83, ⟨.slice 203, 1, 24, [83]⟩),
  (84, ⟨.slice 206, 1, 24, [84]⟩),
  (86, ⟨.struct [(0, 82), (2, 83), (3, 3), (4, 84)], 5, 88, [80, 3, 83, 3, 84]⟩),
  (90, ⟨.struct [(0, 65), (1, 3)], 2, 32, [65, 3]⟩),
  (91, ⟨.slice 162, 1, 24, [91]⟩),
  (92, ⟨.slice 212, 1, 24, [92]⟩),
  (94, ⟨.struct [(0, 90), (2, 91), (3, 3), (4, 92)], 5, 88, [65, 3, 91, 3, 92]⟩),
  (160, ⟨.slice 209, 1, 24, [160]⟩),
  (162, ⟨.struct [(0, 9), (1, 3), (2, 160)], 3, 48, [9, 3, 160]⟩),
  (190, ⟨.struct [(0, 9), (1, 3), (2, 3)], 3, 32, [9, 3, 3]⟩),
  (192, ⟨.struct [(0, 9), (1, 9)], 2, 32, [9, 9]⟩),
  (201, ⟨.slice 255, 1, 24, [201]⟩),
  (203, ⟨.struct [(0, 9), (1, 3), (2, 201)], 3, 48, [9, 3, 201]⟩),
  (206, ⟨.struct [(0, 3), (1, 9), (2, 3)], 3, 32, [3, 9, 3]⟩),
  (209, ⟨.struct [(0, 3), (1, 3)], 2, 16, [3, 3]⟩),
  (212, ⟨.struct [(0, 3), (1, 9), (2, 3)], 3, 32, [3, 9, 3]⟩),
  (232, ⟨.slice 268, 1, 24, [232]⟩),
  (233, ⟨.struct [(0, 3), (1, 3), (2, 3), (3, 3)], 4, 32, [3, 3, 3, 3]⟩),
  (234, ⟨.slice 270, 1, 24, [234]⟩),
  (236, ⟨.struct [(0, 9), (1, 9), (2, 3), (3, 3), (4, 232), (5, 233), (9, 234)], 10, 128, [9, 9, 3, 3, 232, 3, 3, 3, 3, 234]⟩),
  (238, ⟨.struct [(0, 236), (10, 3)], 11, 136, [9, 9, 3, 3, 232, 3, 3, 3, 3, 234, 3]⟩),
  (255, ⟨.struct [(0, 3), (1, 3)], 2, 16, [3, 3]⟩),
  (268, ⟨.struct [(0, 9), (1, 3), (2, 3)], 3, 32, [9, 3, 3]⟩),
  (270, ⟨.struct [(0, 9), (1, 9)], 2, 32, [9, 9]⟩)]
def ti (t : Nat) : Option TD := find tiL t
def cells : (κ : Nat) → Ty κ → List (V Ty)
  | 3 => fun x => [.int .i64 x]
  | 4 => fun x => [.bool x]
  | 5 => fun x => [.int .u8 x]
  | 9 => fun x => [.str x]
  | 50 => fun x => [.sl 190 x]
  | 52 => fun x => [.int .i64 x.up, .int .i64 x.down, .int .i64 x.upSpan, .int .i64 x.downSpan]
  | 53 => fun x => [.sl 192 x]
  | 55 => fun x => [.str x.name, .str x.target, .int .i64 x.low, .int .i64 x.high, .sl 190 x.metrics, .int .i64 x.pace.up, .int .i64 x.pace.down, .int .i64 x.pace.upSpan, .int .i64 x.pace.downSpan, .sl 192 x.notes]
  | 57 => fun x => [.str x.order.name, .str x.order.target, .int .i64 x.order.low, .int .i64 x.order.high, .sl 190 x.order.metrics, .int .i64 x.order.pace.up, .int .i64 x.order.pace.down, .int .i64 x.order.pace.upSpan, .int .i64 x.order.pace.downSpan, .sl 192 x.order.notes, .int .i64 x.ver]
  | 65 => fun x => [.sl 57 x]
  | 80 => fun x => [.sl 238 x]
  | 82 => fun x => [.sl 238 x.items, .int .i64 x.next]
  | 83 => fun x => [.sl 203 x]
  | 84 => fun x => [.sl 206 x]
  | 86 => fun x => [.sl 238 x.store.items, .int .i64 x.store.next, .sl 203 x.scales, .int .i64 x.time, .sl 206 x.log]
  | 90 => fun x => [.sl 57 x.items, .int .i64 x.next]
  | 91 => fun x => [.sl 162 x]
  | 92 => fun x => [.sl 212 x]
  | 94 => fun x => [.sl 57 x.store.items, .int .i64 x.store.next, .sl 162 x.scales, .int .i64 x.time, .sl 212 x.log]
  | 160 => fun x => [.sl 209 x]
  | 162 => fun x => [.str x.name, .int .i64 x.now, .sl 209 x.recs]
  | 190 => fun x => [.str x.name, .int .i64 x.kind, .int .i64 x.goal]
  | 192 => fun x => [.str x.key, .str x.text]
  | 201 => fun x => [.sl 255 x]
  | 203 => fun x => [.str x.name, .int .i64 x.now, .sl 255 x.recs]
  | 206 => fun x => [.int .i64 x.time, .str x.name, .int .i64 x.n]
  | 209 => fun x => [.int .i64 x.time, .int .i64 x.n]
  | 212 => fun x => [.int .i64 x.time, .str x.name, .int .i64 x.n]
  | 232 => fun x => [.sl 268 x]
  | 233 => fun x => [.int .i64 x.up, .int .i64 x.down, .int .i64 x.upSpan, .int .i64 x.downSpan]
  | 234 => fun x => [.sl 270 x]
  | 236 => fun x => [.str x.name, .str x.target, .int .i64 x.low, .int .i64 x.high, .sl 268 x.metrics, .int .i64 x.pace.up, .int .i64 x.pace.down, .int .i64 x.pace.upSpan, .int .i64 x.pace.downSpan, .sl 270 x.notes]
  | 238 => fun x => [.str x.order.name, .str x.order.target, .int .i64 x.order.low, .int .i64 x.order.high, .sl 268 x.order.metrics, .int .i64 x.order.pace.up, .int .i64 x.order.pace.down, .int .i64 x.order.pace.upSpan, .int .i64 x.order.pace.downSpan, .sl 270 x.order.notes, .int .i64 x.ver]
  | 255 => fun x => [.int .i64 x.time, .int .i64 x.n]
  | 268 => fun x => [.str x.name, .int .i64 x.kind, .int .i64 x.goal]
  | 270 => fun x => [.str x.key, .str x.text]
  | _ => fun _ => []
def asRow (κ : Nat) : V Ty → Option (List (Ty κ))
  | .nl => some []
  | .sl κ' xs => if h : κ' = κ then some (h ▸ xs) else none
  | _ => none
def dec3 : List (V Ty) → Option (Int)
  | [.int .i64 x0] => some x0
  | _ => none
def dec4 : List (V Ty) → Option (Bool)
  | [.bool x0] => some x0
  | _ => none
def dec5 : List (V Ty) → Option (Int)
  | [.int .u8 x0] => some x0
  | _ => none
def dec9 : List (V Ty) → Option (Str)
  | [.str x0] => some x0
  | _ => none
def dec50 : List (V Ty) → Option (List (DMetric))
  | [v0] => match asRow 190 v0 with
    | some x0 => some x0
    | _ => none
  | _ => none
def dec52 : List (V Ty) → Option (DPace)
  | [.int .i64 x0, .int .i64 x1, .int .i64 x2, .int .i64 x3] => some ⟨x0, x1, x2, x3⟩
  | _ => none
def dec53 : List (V Ty) → Option (List (DNote))
  | [v0] => match asRow 192 v0 with
    | some x0 => some x0
    | _ => none
  | _ => none
def dec55 : List (V Ty) → Option (DOrder)
  | [.str x0, .str x1, .int .i64 x2, .int .i64 x3, v4, .int .i64 x5, .int .i64 x6, .int .i64 x7, .int .i64 x8, v9] => match asRow 190 v4, asRow 192 v9 with
    | some x4, some x9 => some ⟨x0, x1, x2, x3, x4, ⟨x5, x6, x7, x8⟩, x9⟩
    | _, _ => none
  | _ => none
def dec57 : List (V Ty) → Option (DItem)
  | [.str x0, .str x1, .int .i64 x2, .int .i64 x3, v4, .int .i64 x5, .int .i64 x6, .int .i64 x7, .int .i64 x8, v9, .int .i64 x10] => match asRow 190 v4, asRow 192 v9 with
    | some x4, some x9 => some ⟨⟨x0, x1, x2, x3, x4, ⟨x5, x6, x7, x8⟩, x9⟩, x10⟩
    | _, _ => none
  | _ => none
def dec65 : List (V Ty) → Option (List (DItem))
  | [v0] => match asRow 57 v0 with
    | some x0 => some x0
    | _ => none
  | _ => none
def dec80 : List (V Ty) → Option (List (DItem))
  | [v0] => match asRow 238 v0 with
    | some x0 => some x0
    | _ => none
  | _ => none
def dec82 : List (V Ty) → Option (DStore)
  | [v0, .int .i64 x1] => match asRow 238 v0 with
    | some x0 => some ⟨x0, x1⟩
    | _ => none
  | _ => none
def dec83 : List (V Ty) → Option (List (DScale))
  | [v0] => match asRow 203 v0 with
    | some x0 => some x0
    | _ => none
  | _ => none
def dec84 : List (V Ty) → Option (List (DTold))
  | [v0] => match asRow 206 v0 with
    | some x0 => some x0
    | _ => none
  | _ => none
def dec86 : List (V Ty) → Option (DWorld)
  | [v0, .int .i64 x1, v2, .int .i64 x3, v4] => match asRow 238 v0, asRow 203 v2, asRow 206 v4 with
    | some x0, some x2, some x4 => some ⟨⟨x0, x1⟩, x2, x3, x4⟩
    | _, _, _ => none
  | _ => none
def dec90 : List (V Ty) → Option (DStore)
  | [v0, .int .i64 x1] => match asRow 57 v0 with
    | some x0 => some ⟨x0, x1⟩
    | _ => none
  | _ => none
def dec91 : List (V Ty) → Option (List (DScale))
  | [v0] => match asRow 162 v0 with
    | some x0 => some x0
    | _ => none
  | _ => none
def dec92 : List (V Ty) → Option (List (DTold))
  | [v0] => match asRow 212 v0 with
    | some x0 => some x0
    | _ => none
  | _ => none
def dec94 : List (V Ty) → Option (DWorld)
  | [v0, .int .i64 x1, v2, .int .i64 x3, v4] => match asRow 57 v0, asRow 162 v2, asRow 212 v4 with
    | some x0, some x2, some x4 => some ⟨⟨x0, x1⟩, x2, x3, x4⟩
    | _, _, _ => none
  | _ => none
def dec160 : List (V Ty) → Option (List (DRec))
  | [v0] => match asRow 209 v0 with
    | some x0 => some x0
    | _ => none
  | _ => none
def dec162 : List (V Ty) → Option (DScale)
  | [.str x0, .int .i64 x1, v2] => match asRow 209 v2 with
    | some x2 => some ⟨x0, x1, x2⟩
    | _ => none
  | _ => none
def dec190 : List (V Ty) → Option (DMetric)
  | [.str x0, .int .i64 x1, .int .i64 x2] => some ⟨x0, x1, x2⟩
  | _ => none
def dec192 : List (V Ty) → Option (DNote)
  | [.str x0, .str x1] => some ⟨x0, x1⟩
  | _ => none
def dec201 : List (V Ty) → Option (List (DRec))
  | [v0] => match asRow 255 v0 with
    | some x0 => some x0
    | _ => none
  | _ => none
def dec203 : List (V Ty) → Option (DScale)
  | [.str x0, .int .i64 x1, v2] => match asRow 255 v2 with
    | some x2 => some ⟨x0, x1, x2⟩
    | _ => none
  | _ => none
def dec206 : List (V Ty) → Option (DTold)
  | [.int .i64 x0, .str x1, .int .i64 x2] => some ⟨x0, x1, x2⟩
  | _ => none
def dec209 : List (V Ty) → Option (DRec)
  | [.int .i64 x0, .int .i64 x1] => some ⟨x0, x1⟩
  | _ => none
def dec212 : List (V Ty) → Option (DTold)
  | [.int .i64 x0, .str x1, .int .i64 x2] => some ⟨x0, x1, x2⟩
  | _ => none
def dec232 : List (V Ty) → Option (List (DMetric))
  | [v0] => match asRow 268 v0 with
    | some x0 => some x0
    | _ => none
  | _ => none
def dec233 : List (V Ty) → Option (DPace)
  | [.int .i64 x0, .int .i64 x1, .int .i64 x2, .int .i64 x3] => some ⟨x0, x1, x2, x3⟩
  | _ => none
def dec234 : List (V Ty) → Option (List (DNote))
  | [v0] => match asRow 270 v0 with
    | some x0 => some x0
    | _ => none
  | _ => none
def dec236 : List (V Ty) → Option (DOrder)
  | [.str x0, .str x1, .int .i64 x2, .int .i64 x3, v4, .int .i64 x5, .int .i64 x6, .int .i64 x7, .int .i64 x8, v9] => match asRow 268 v4, asRow 270 v9 with
    | some x4, some x9 => some ⟨x0, x1, x2, x3, x4, ⟨x5, x6, x7, x8⟩, x9⟩
    | _, _ => none
  | _ => none
def dec238 : List (V Ty) → Option (DItem)
  | [.str x0, .str x1, .int .i64 x2, .int .i64 x3, v4, .int .i64 x5, .int .i64 x6, .int .i64 x7, .int .i64 x8, v9, .int .i64 x10] => match asRow 268 v4, asRow 270 v9 with
    | some x4, some x9 => some ⟨⟨x0, x1, x2, x3, x4, ⟨x5, x6, x7, x8⟩, x9⟩, x10⟩
    | _, _ => none
  | _ => none
def dec255 : List (V Ty) → Option (DRec)
  | [.int .i64 x0, .int .i64 x1] => some ⟨x0, x1⟩
  | _ => none
def dec268 : List (V Ty) → Option (DMetric)
  | [.str x0, .int .i64 x1, .int .i64 x2] => some ⟨x0, x1, x2⟩
  | _ => none
def dec270 : List (V Ty) → Option (DNote)
  | [.str x0, .str x1] => some ⟨x0, x1⟩
  | _ => none
def dec : (κ : Nat) → List (V Ty) → Option (Ty κ)
  | 3 => dec3
  | 4 => dec4
  | 5 => dec5
  | 9 => dec9
  | 50 => dec50
  | 52 => dec52
  | 53 => dec53
  | 55 => dec55
  | 57 => dec57
  | 65 => dec65
  | 80 => dec80
  | 82 => dec82
  | 83 => dec83
  | 84 => dec84
  | 86 => dec86
  | 90 => dec90
  | 91 => dec91
  | 92 => dec92
  | 94 => dec94
  | 160 => dec160
  | 162 => dec162
  | 190 => dec190
  | 192 => dec192
  | 201 => dec201
  | 203 => dec203
  | 206 => dec206
  | 209 => dec209
  | 212 => dec212
  | 232 => dec232
  | 233 => dec233
  | 234 => dec234
  | 236 => dec236
  | 238 => dec238
  | 255 => dec255
  | 268 => dec268
  | 270 => dec270
  | _ => fun _ => none
def sig : Nat → Sig
  | 249 => ⟨[.st 268 [], .int .i64], [.int .i64], false⟩
  | 240 => ⟨[.sl 268, .int .i64], [.int .i64], false⟩
  | 250 => ⟨[.st 270 [], .int .i64], [.int .i64], false⟩
  | 241 => ⟨[.sl 270, .int .i64], [.int .i64], false⟩
  | 232 => ⟨[.st 236 [], .int .i64], [.int .i64], false⟩
  | 213 => ⟨[.st 238 [], .int .i64], [.int .i64], false⟩
  | 177 => ⟨[.sl 238, .int .i64], [.int .i64], false⟩
  | 125 => ⟨[.st 82 [], .int .i64], [.int .i64], false⟩
  | 214 => ⟨[.sl 255, .int .i64], [.int .i64], false⟩
  | 178 => ⟨[.st 203 [], .int .i64], [.int .i64], false⟩
  | 126 => ⟨[.sl 203, .int .i64], [.int .i64], false⟩
  | 179 => ⟨[.st 206 [], .int .i64], [.int .i64], false⟩
  | 127 => ⟨[.sl 206, .int .i64], [.int .i64], false⟩
  | 56 => ⟨[.st 86 [], .int .i64], [.int .i64], false⟩
  | 251 => ⟨[.st 268 []], [.st 190 []], false⟩
  | 242 => ⟨[.sl 268], [.gsl 190], false⟩
  | 243 => ⟨[.st 233 []], [.st 52 []], false⟩
  | 252 => ⟨[.st 270 []], [.st 192 []], false⟩
  | 244 => ⟨[.sl 270], [.gsl 192], false⟩
  | 233 => ⟨[.st 236 []], [.st 55 [false, false, false, false, true, false, false, false, false, true]], false⟩
  | 216 => ⟨[.st 238 []], [.st 57 [false, false, false, false, true, false, false, false, false, true]], false⟩
  | 183 => ⟨[.sl 238], [.gsl 57], false⟩
  | 129 => ⟨[.st 82 []], [.st 90 [true]], false⟩
  | 234 => ⟨[.st 255 []], [.st 209 []], false⟩
  | 217 => ⟨[.sl 255], [.gsl 209], false⟩
  | 184 => ⟨[.st 203 []], [.st 162 [false, false, true]], false⟩
  | 130 => ⟨[.sl 203], [.gsl 162], false⟩
  | 185 => ⟨[.st 206 []], [.st 212 []], false⟩
  | 131 => ⟨[.sl 206], [.gsl 212], false⟩
  | 58 => ⟨[.st 86 []], [.st 94 [true, false, true, false, true]], false⟩
  | 109 => ⟨[.int .i64, .int .i64, .int .i64], [.bool], false⟩
  | 172 => ⟨[.str], [.bool], false⟩
  | 209 => ⟨[.st 190 []], [.bool], false⟩
  | 173 => ⟨[.sl 190], [.bool], false⟩
  | 174 => ⟨[.st 52 []], [.bool], false⟩
  | 231 => ⟨[.int .u8], [.bool], false⟩
  | 210 => ⟨[.str], [.bool], false⟩
  | 211 => ⟨[.str], [.bool], false⟩
  | 212 => ⟨[.str], [.bool], false⟩
  | 175 => ⟨[.sl 192], [.bool], false⟩
  | 117 => ⟨[.st 55 []], [.bool], false⟩
  | 180 => ⟨[.st 90 []], [.bool], false⟩
  | 215 => ⟨[.sl 209], [.bool], false⟩
  | 181 => ⟨[.st 162 []], [.bool], false⟩
  | 182 => ⟨[.st 94 []], [.bool], false⟩
  | 128 => ⟨[.st 94 []], [.bool], false⟩
  | 57 => ⟨[.st 94 []], [.bool], false⟩
  | 107 => ⟨[.int .i64, .int .i64, .int .i64], [.bool], false⟩
  | 205 => ⟨[.int .u8], [.bool], false⟩
  | 169 => ⟨[.str], [.bool], false⟩
  | 168 => ⟨[.st 190 []], [.bool], false⟩
  | 189 => ⟨[.int .i64], [.bool], false⟩
  | 170 => ⟨[.st 52 []], [.bool], false⟩
  | 228 => ⟨[.int .u8], [.bool], false⟩
  | 229 => ⟨[.str, .int .u8], [.int .i64], false⟩
  | 206 => ⟨[.str], [.bool], false⟩
  | 230 => ⟨[.str, .str], [.bool], false⟩
  | 207 => ⟨[.str, .str], [.bool], false⟩
  | 208 => ⟨[.str], [.bool], false⟩
  | 171 => ⟨[.sl 192], [.bool], false⟩
  | 116 => ⟨[.st 55 []], [.bool], false⟩
  | 219 => ⟨[.st 57 [], .rp 57], [.bool], false⟩
  | 235 => ⟨[.sl 57, .fn], [.int .i64], false⟩
  | 218 => ⟨[.sl 57, .fn], [.bool], false⟩
  | 186 => ⟨[.st 90 []], [.bool], false⟩
  | 187 => ⟨[.int .i64], [.bool], false⟩
  | 220 => ⟨[.sl 209], [.bool], false⟩
  | 188 => ⟨[.st 162 []], [.bool], false⟩
  | 132 => ⟨[.st 94 []], [.bool], false⟩
  | 134 => ⟨[.st 162 []], [.bool], false⟩
  | 190 => ⟨[.sl 162, .fn], [.int .i64], false⟩
  | 133 => ⟨[.sl 162, .fn], [.bool], false⟩
  | 59 => ⟨[.st 94 []], [.bool], false⟩
  | 253 => ⟨[.st 190 [], .st 190 []], [.bool], false⟩
  | 245 => ⟨[.sl 190, .sl 190], [.bool], false⟩
  | 246 => ⟨[.st 52 [], .st 52 []], [.bool], false⟩
  | 254 => ⟨[.st 192 [], .st 192 []], [.bool], false⟩
  | 247 => ⟨[.sl 192, .sl 192], [.bool], false⟩
  | 236 => ⟨[.st 55 [], .st 55 []], [.bool], false⟩
  | 221 => ⟨[.st 57 [], .st 57 []], [.bool], false⟩
  | 191 => ⟨[.sl 57, .sl 57], [.bool], false⟩
  | 135 => ⟨[.st 90 [], .st 90 []], [.bool], false⟩
  | 237 => ⟨[.st 209 [], .st 209 []], [.bool], false⟩
  | 222 => ⟨[.sl 209, .sl 209], [.bool], false⟩
  | 192 => ⟨[.st 162 [], .st 162 []], [.bool], false⟩
  | 136 => ⟨[.sl 162, .sl 162], [.bool], false⟩
  | 193 => ⟨[.st 212 [], .st 212 []], [.bool], false⟩
  | 137 => ⟨[.sl 212, .sl 212], [.bool], false⟩
  | 60 => ⟨[.st 94 [], .st 94 []], [.bool], false⟩
  | 7 => ⟨[.st 86 []], [.bool], false⟩
  | 61 => ⟨[.st 94 []], [.bool], false⟩
  | 62 => ⟨[.st 94 []], [.bool], false⟩
  | 8 => ⟨[.st 86 []], [.bool], false⟩
  | _ => ⟨[], [], false⟩
noncomputable def codeL : List (Nat × Func) := [(249, Try.f249), (240, Try.f240), (250, Try.f250), (241, Try.f241), (232, Try.f232), (213, Try.f213), (177, Try.f177), (125, Try.f125), (214, Try.f214), (178, Try.f178), (126, Try.f126), (179, Try.f179), (127, Try.f127), (56, Try.f56), (251, Try.f251), (242, Try.f242), (243, Try.f243), (252, Try.f252), (244, Try.f244), (233, Try.f233), (216, Try.f216), (183, Try.f183), (129, Try.f129), (234, Try.f234), (217, Try.f217), (184, Try.f184), (130, Try.f130), (185, Try.f185), (131, Try.f131), (58, Try.f58), (109, Try.f109), (172, Try.f172), (209, Try.f209), (173, Try.f173), (174, Try.f174), (231, Try.f231), (210, Try.f210), (211, Try.f211), (212, Try.f212), (175, Try.f175), (117, Try.f117), (180, Try.f180), (215, Try.f215), (181, Try.f181), (182, Try.f182), (128, Try.f128), (57, Try.f57), (107, Try.f107), (205, Try.f205), (169, Try.f169), (168, Try.f168), (189, Try.f189), (170, Try.f170), (228, Try.f228), (206, Try.f206), (230, Try.f230), (207, Try.f207), (208, Try.f208), (171, Try.f171), (116, Try.f116), (219, Try.f219), (235, Try.f235), (218, Try.f218), (186, Try.f186), (187, Try.f187), (220, Try.f220), (188, Try.f188), (132, Try.f132), (134, Try.f134), (190, Try.f190), (133, Try.f133), (59, Try.f59), (253, Try.f253), (245, Try.f245), (246, Try.f246), (254, Try.f254), (247, Try.f247), (236, Try.f236), (221, Try.f221), (191, Try.f191), (135, Try.f135), (237, Try.f237), (222, Try.f222), (192, Try.f192), (136, Try.f136), (193, Try.f193), (137, Try.f137), (60, Try.f60), (7, Try.f7), (61, Try.f61), (62, Try.f62), (8, Try.f8)]
noncomputable def code (f : Nat) : Option Func := find codeL f
def hint : Nat → Nat → List (Nat × List (Option Nat × Bool × Nat))
  | 57, 0 => [(1, []), (3, [])]
  | 61, 0 => [(1, []), (3, [])]
  | 61, 2 => [(1, []), (3, []), (4, [])]
  | 116, 0 => [(1, []), (6, []), (7, []), (8, [])]
  | 126, 0 => [(0, []), (1, []), (5, [])]
  | 127, 0 => [(0, []), (1, []), (5, [])]
  | 128, 0 => [(1, []), (3, [])]
  | 130, 0 => [(0, []), (3, []), (4, [])]
  | 131, 0 => [(0, []), (3, []), (4, [])]
  | 132, 0 => [(1, []), (34, []), (35, []), (36, [])]
  | 132, 2 => [(1, []), (79, []), (80, []), (81, [])]
  | 136, 0 => [(0, []), (1, []), (5, [])]
  | 137, 0 => [(0, []), (1, []), (5, [])]
  | 169, 0 => [(0, []), (6, []), (7, [])]
  | 171, 0 => [(0, []), (5, []), (6, []), (7, [])]
  | 172, 0 => [(0, []), (3, [])]
  | 173, 0 => [(0, []), (3, [])]
  | 175, 0 => [(0, []), (3, [])]
  | 177, 0 => [(0, []), (1, []), (5, [])]
  | 180, 0 => [(1, []), (3, [])]
  | 180, 2 => [(1, []), (3, []), (4, []), (5, [])]
  | 182, 0 => [(1, []), (3, [])]
  | 183, 0 => [(0, []), (3, []), (4, [])]
  | 186, 0 => [(1, []), (16, []), (17, []), (18, [])]
  | 190, 0 => [(0, []), (1, []), (7, []), (8, [])]
  | 191, 0 => [(0, []), (1, []), (5, [])]
  | 206, 0 => [(0, []), (5, []), (6, [])]
  | 208, 0 => [(0, []), (5, []), (6, [])]
  | 210, 0 => [(0, []), (3, [])]
  | 212, 0 => [(0, []), (3, [])]
  | 215, 0 => [(0, []), (3, [])]
  | 217, 0 => [(0, []), (3, []), (4, [])]
  | 220, 0 => [(0, []), (5, []), (6, []), (7, [])]
  | 222, 0 => [(0, []), (1, []), (5, [])]
  | 235, 0 => [(0, []), (1, []), (7, []), (8, [])]
  | 240, 0 => [(0, []), (1, []), (5, [])]
  | 241, 0 => [(0, []), (1, []), (5, [])]
  | 242, 0 => [(0, []), (3, []), (4, [])]
  | 244, 0 => [(0, []), (3, []), (4, [])]
  | 245, 0 => [(0, []), (1, []), (5, [])]
  | 247, 0 => [(0, []), (1, []), (5, [])]
  | _, _ => []
def idxByte (s : List UInt8) (c : Int) : Int := match s.findIdx? (fun x => (x.toNat : Int) == c) with
  | some i => i
  | none => -1
def insP {α : Type} (by_ : Nat) (xs : List α) (i : Int) (ys : List α) : Option (List α × Unit) :=
  if (decide (0 ≤ i) && decide (i ≤ xs.length) && decide ((xs.length + ys.length) * by_ ≤ 17592186044416)) = true then some (xs.take i.toNat ++ ys ++ xs.drop i.toNat, ()) else none
def delP {α : Type} (xs : List α) (i j : Int) : Option (List α × Unit) :=
  if (decide (0 ≤ i) && decide (i ≤ j) && decide (j ≤ xs.length)) = true then some (xs.take i.toNat ++ xs.drop j.toNat, ()) else none
noncomputable def prim : (f : Nat) → Option (PKs.T Ty (sig f).ps → Option (PKs.T Ty ((sig f).rs ++ outsOf (sig f).ps)))
  | 229 => some (fun (s, c, _) => some (Lib.indexByte s c.toNat.toUInt8, ()))
  | _ => none
noncomputable def E : Env := ⟨Ty, dfl, ti, cells, dec, sig, code, [], hint, prim⟩
end Go.Proofs.Ytejfpemjmpoddaa.Vx
