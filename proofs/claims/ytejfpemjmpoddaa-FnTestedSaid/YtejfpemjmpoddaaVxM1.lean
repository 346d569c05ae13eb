/- The machine Vx: it runs the given code on symbolic values; what its values mean; each of its operations comes to pass as it says. No conditions. -/
import Derived.Orders
import Derived.KernelRfl
import Derived.Below
import Derived.Deep.MidRow
import Derived.Laws.AppendOwn
import Derived.Great.BuildSlice
import Derived.Laws.Strings
import Derived.Laws.MakeOwn
import Derived.Laws.BytesString
import Derived.Great.FillDense
/-! The machine Vx: it runs the given code on symbolic values. Nothing is proved here: only the machine itself is defined. -/
namespace Go.Proofs.Ytejfpemjmpoddaa.Vx
open Go

/-- symbolic values -/
inductive V (Ty : Nat → Type) : Type where
  | int (k : IntKind) (n : Int)
  | bool (b : Bool)
  | str (s : List UInt8)
  | nl
  | sl (κ : Nat) (xs : List (Ty κ))
  | own (r : Nat)
  | ptr (r off : Nat)
  | eptr (κ r i off : Nat)
  | rptr (κ : Nat) (x : Ty κ) (off : Nat)
  | fn (f : Nat) (caps : List (V Ty))
  | agg (cs : List (V Ty))
  | tup (cs : List (V Ty))
  | any

/-- what a root holds -/
inductive RC (Ty : Nat → Type) : Type where
  | box (t : Nat) (cs : List (V Ty))
  | bfz (t : Nat) (cs : List (V Ty))
  | arr (κ : Nat) (xs : List (Ty κ))
  | fz (κ : Nat) (xs : List (Ty κ))

/-- kinds of types -/
inductive TK where
  | int (k : IntKind)
  | bool
  | string
  | slice (e : Nat)
  | struct (fs : List (Nat × Nat))
  | pointer (e : Nat)
  | other

structure TD where
  kind : TK
  size : Nat
  bytes : Nat
  leafs : List Nat

/-- kinds of parameters and results -/
inductive PK where
  | int (k : IntKind)
  | bool
  | str
  | sl (κ : Nat)
  | gsl (κ : Nat)
  | st (κ : Nat) (m : List Bool)
  | bx (κ : Nat) (m : List Bool)
  | rp (κ : Nat)
  | fn

@[reducible] def PK.T (Ty : Nat → Type) : PK → Type
  | .int _ => Int
  | .bool => Bool
  | .str => List UInt8
  | .sl κ => List (Ty κ)
  | .gsl κ => List (Ty κ)
  | .st κ _ => Ty κ
  | .bx κ _ => Ty κ
  | .rp κ => Ty κ
  | .fn => V Ty

@[reducible] def PKs.T (Ty : Nat → Type) : List PK → Type
  | [] => Unit
  | p :: ps => p.T Ty × PKs.T Ty ps

def PK.isBx : PK → Bool
  | .bx _ _ => true
  | _ => false

structure Sig where
  ps : List PK
  rs : List PK
  sh : Bool

def outsOf : List PK → List PK
  | [] => []
  | p :: ps => match p.isBx with
    | true => p :: outsOf ps
    | false => outsOf ps

structure Env where
  Ty : Nat → Type
  dflt : (κ : Nat) → Option (Ty κ)
  ti : Nat → Option TD
  cells : (κ : Nat) → Ty κ → List (V Ty)
  dec : (κ : Nat) → List (V Ty) → Option (Ty κ)
  sig : Nat → Sig
  code : Nat → Option Func
  eqt : List Nat
  hint : Nat → Nat → List (Nat × List (Option Nat × Bool × Nat))
  prim : (f : Nat) → Option (PKs.T Ty (sig f).ps → Option (PKs.T Ty ((sig f).rs ++ outsOf (sig f).ps)))

abbrev Env.Args (E : Env) (f : Nat) : Type := PKs.T E.Ty (E.sig f).ps
abbrev Env.Res (E : Env) (f : Nat) : Type := PKs.T E.Ty ((E.sig f).rs ++ outsOf (E.sig f).ps)

/-- what is still to be run -/
inductive It where
  | code (c : Code)
  | inBlock (id : Nat)
  | inLoop (c : Code)

structure St (Ty : Nat → Type) where
  t : List (Nat × V Ty)
  roots : List (Nat × RC Ty)
  nx : Nat

structure Orc (E : Env) where
  call : (f : Nat) → E.Args f → Option (E.Res f)
  loop : (f : Nat) → List It → St E.Ty → Option (E.Res f)

/-! lists by number -/

def find {α : Type} : List (Nat × α) → Nat → Option α
  | [], _ => none
  | (a, x) :: l, k => match Nat.beq a k with
    | true => some x
    | false => find l k

def put {α : Type} : List (Nat × α) → Nat → α → List (Nat × α)
  | [], k, x => [(k, x)]
  | (a, y) :: l, k, x => match Nat.beq a k with
    | true => (k, x) :: l
    | false => (a, y) :: put l k x

def del {α : Type} : List (Nat × α) → Nat → List (Nat × α)
  | [], _ => []
  | (a, y) :: l, k => match Nat.beq a k with
    | true => del l k
    | false => (a, y) :: del l k

def mem : List Nat → Nat → Bool
  | [], _ => false
  | a :: l, k => match Nat.beq a k with
    | true => true
    | false => mem l k

def ins (x : Nat) : List Nat → List Nat
  | [] => [x]
  | y :: l => match Nat.beq x y with
    | true => y :: l
    | false => match Nat.blt x y with
      | true => x :: y :: l
      | false => y :: ins x l

def rem (x : Nat) : List Nat → List Nat
  | [] => []
  | y :: l => match Nat.beq x y with
    | true => rem x l
    | false => y :: rem x l

def idx : List Nat → Nat → Nat
  | [], _ => 0
  | a :: l, k => match Nat.beq a k with
    | true => 0
    | false => idx l k + 1

def nodup : List Nat → Bool
  | [] => true
  | a :: l => match mem l a with
    | true => false
    | false => nodup l

def disj : List Nat → List Nat → Bool
  | [], _ => true
  | a :: l, m => match mem m a with
    | true => false
    | false => disj l m

def sub : List Nat → List Nat → Bool
  | [], _ => true
  | a :: l, m => match mem m a with
    | true => sub l m
    | false => false

/-! operations -/

section
variable (E : Env)

/-- an effect: the value; roots with new content; roots made; roots that end; roots that are read only from now on -/
structure Eff where
  val : V E.Ty
  wr : List (Nat × RC E.Ty)
  new : List (RC E.Ty)
  kill : List Nat
  frz : List Nat

inductive Ask (α : Type) where
  | fail
  | ret (e : α)
  | ask (r : Nat) (k : RC E.Ty → Ask α)
  | rd (r : Nat) (k : RC E.Ty → Ask α)
  | chk (b : Bool) (k : Ask α)
  | call (f : Nat) (x : E.Args f) (d : Option (E.Res f)) (k : E.Res f → Ask α)

abbrev Act' := Ask E (Eff E)

variable {E}

def frzOf : RC E.Ty → RC E.Ty
  | .arr κ xs => .fz κ xs
  | .box t cs => .bfz t cs
  | rc => rc

def vl (v : V E.Ty) : Act' E := .ret ⟨v, [], [], [], []⟩

def cv : Value → Option (V E.Ty)
  | .int k n => some (.int k n)
  | .bool b => some (.bool b)
  | .string s => some (.str s.data.toList)
  | .slice none 0 0 => some .nl
  | .pointer none => some .any
  | _ => none

def zeroOf : TK → Option (V E.Ty)
  | .int k => some (.int k 0)
  | .bool => some (.bool false)
  | .string => some (.str [])
  | .slice _ => some .nl
  | _ => none

def zerosL : List Nat → Option (List (V E.Ty))
  | [] => some []
  | t :: ts => match E.ti t with
    | some d => match zeroOf (E := E) d.kind with
      | some z => match zerosL ts with
        | some zs => some (z :: zs)
        | none => none
      | none => none
    | none => none

def zeros (t : Nat) : Option (List (V E.Ty)) := match E.ti t with
  | some d => zerosL d.leafs
  | none => none

def isStruct : TK → Bool
  | .struct _ => true
  | _ => false

def cellsOf : V E.Ty → List (V E.Ty)
  | .agg cs => cs
  | v => [v]

/-- may it lie in a cell? -/
def cellV : V E.Ty → Bool
  | .agg _ => false
  | .tup _ => false
  | .any => false
  | _ => true

def okCells : List (V E.Ty) → Bool
  | [] => true
  | c :: cs => match cellV c with
    | true => okCells cs
    | false => false

/-- is it a value of so many cells? -/
def fits (v : V E.Ty) (n : Nat) : Bool := match Nat.beq (cellsOf v).length n with
  | true => okCells (cellsOf v)
  | false => false

/-- a value out of cells, by its type -/
def ofCells (d : TD) (cs : List (V E.Ty)) : Option (V E.Ty) := match d.kind, cs with
  | .struct _, cs => some (.agg cs)
  | .other, _ => none
  | _, [c] => some c
  | _, _ => none

def cut (cs : List (V E.Ty)) (off n : Nat) : Option (List (V E.Ty)) := match Nat.ble (off + n) cs.length with
  | true => some ((cs.drop off).take n)
  | false => none

def splice (cs : List (V E.Ty)) (off : Nat) (ds : List (V E.Ty)) : Option (List (V E.Ty)) := match Nat.ble (off + ds.length) cs.length with
  | true => some (cs.take off ++ ds ++ cs.drop (off + ds.length))
  | false => none

/-- cells with what they own told as read-only rows; the roots that are read for that -/
def plain {α : Type} : List (V E.Ty) → (List (V E.Ty) → List Nat → Ask E α) → Ask E α
  | [], k => k [] []
  | .own r :: cs, k => .rd r fun rc => match rc with
    | .fz κ xs => plain cs fun ds rs => k (.sl κ xs :: ds) (r :: rs)
    | _ => .fail
  | c :: cs, k => plain cs fun ds rs => k (c :: ds) rs

/-- likewise, where some cells are to be owned: their roots end -/
def part {α : Type} : List (V E.Ty) → List Bool → (List (V E.Ty) → List Nat → List Nat → Ask E α) → Ask E α
  | [], _, k => k [] [] []
  | c :: cs, [], k => plain (c :: cs) fun ds rs => k ds [] rs
  | .own r :: cs, true :: m, k => .ask r fun rc => match rc with
    | .arr κ xs => part cs m fun ds ks rs => k (.sl κ xs :: ds) (r :: ks) rs
    | _ => .fail
  | .sl _ _ :: _, true :: _, _ => .fail
  | c :: cs, true :: m, k => part cs m fun ds ks rs => k (c :: ds) ks rs
  | .own r :: cs, false :: m, k => .rd r fun rc => match rc with
    | .fz κ xs => part cs m fun ds ks rs => k (.sl κ xs :: ds) ks (r :: rs)
    | _ => .fail
  | c :: cs, false :: m, k => part cs m fun ds ks rs => k (c :: ds) ks rs

/-- a row that may be read -/
def row {α : Type} (κ : Nat) (v : V E.Ty) (k : List (E.Ty κ) → List Nat → Ask E α) : Ask E α := match v with
  | .nl => k [] []
  | .sl κ' xs => if h : κ' = κ then k (h ▸ xs) [] else .fail
  | .own r => .rd r fun rc => match rc with
    | .fz κ' xs => if h : κ' = κ then k (h ▸ xs) [r] else .fail
    | _ => .fail
  | _ => .fail

/-- captured values as they are handed on: a pointer to a variable as one to memory that is only read -/
def caps {α : Type} : List (V E.Ty) → (List (V E.Ty) → List Nat → Ask E α) → Ask E α
  | [], k => k [] []
  | .ptr r 0 :: cs, k => .rd r fun rc => match rc with
    | .bfz t ds => plain ds fun ds rs => match E.dec t ds with
      | some x => caps cs fun vs rs' => k (.rptr t x 0 :: vs) (r :: rs ++ rs')
      | none => .fail
    | _ => .fail
  | .int i n :: cs, k => caps cs fun vs rs => k (.int i n :: vs) rs
  | .bool b :: cs, k => caps cs fun vs rs => k (.bool b :: vs) rs
  | .str s :: cs, k => caps cs fun vs rs => k (.str s :: vs) rs
  | .rptr κ x o :: cs, k => caps cs fun vs rs => k (.rptr κ x o :: vs) rs
  | .sl κ x :: cs, k => caps cs fun vs rs => k (.sl κ x :: vs) rs
  | _ :: _, _ => .fail

/-- one argument (or result) as it is handed over: the roots that end, and those that are read -/
def expP {α : Type} : (p : PK) → V E.Ty → (p.T E.Ty → List Nat → List Nat → Ask E α) → Ask E α
  | .int k', .int k n, f => if k = k' then f n [] [] else .fail
  | .bool, .bool b, f => f b [] []
  | .str, .str s, f => f s [] []
  | .sl κ, v, f => row κ v fun xs rs => f xs [] rs
  | .gsl _, .nl, f => f [] [] []
  | .gsl κ, .own r, f => .ask r fun rc => match rc with
    | .arr κ' xs => if h : κ' = κ then f (h ▸ xs) [r] [] else .fail
    | _ => .fail
  | .st κ m, .agg cs, f => part cs m fun ds ks rs => match E.dec κ ds with
    | some x => f x ks rs
    | none => .fail
  | .bx κ m, .ptr r 0, f => .ask r fun rc => match rc with
    | .box t cs => match Nat.beq t κ with
      | true => part cs m fun ds ks rs => match E.dec κ ds with
        | some x => f x ks rs
        | none => .fail
      | false => .fail
    | _ => .fail
  | .rp κ, .rptr κ' x 0, f => if h : κ' = κ then f (h ▸ x) [] [] else .fail
  | .fn, .fn g cs, f => caps cs fun vs rs => f (.fn g vs) [] rs
  | _, _, _ => .fail

def expL {α : Type} : (ps : List PK) → List (V E.Ty) → (PKs.T E.Ty ps → List Nat → List Nat → Ask E α) → Ask E α
  | [], [], f => f () [] []
  | p :: ps, v :: vs, f => expP p v fun x ks rs => expL ps vs fun y ks' rs' => f (x, y) (ks ++ ks') (rs ++ rs')
  | _, _, _ => .fail

/-- cells of which some are owned: the roots that are made for these -/
def owns (base : Nat) : List (V E.Ty) → List Bool → List (V E.Ty) × List (RC E.Ty)
  | [], _ => ([], [])
  | cs, [] => (cs, [])
  | .sl κ xs :: cs, true :: m => match owns (base + 1) cs m with
    | (ds, ns) => (.own base :: ds, .arr κ xs :: ns)
  | c :: cs, _ :: m => match owns base cs m with
    | (ds, ns) => (c :: ds, ns)

/-- which cells are owned: none behind a guard -/
def msk (g : Bool) (m : List Bool) : List Bool := match g with
  | true => []
  | false => m

/-- what comes in (behind a guard rows are only read) -/
def impP (g : Bool) (base : Nat) : (p : PK) → p.T E.Ty → V E.Ty × List (RC E.Ty)
  | .int k, n => (.int k n, [])
  | .bool, b => (.bool b, [])
  | .str, s => (.str s, [])
  | .sl κ, xs => (.sl κ xs, [])
  | .gsl κ, xs => match g with
    | true => (.sl κ xs, [])
    | false => (.own base, [.arr κ xs])
  | .st κ m, x => match owns base (E.cells κ x) (msk g m) with
    | (cs, ns) => (.agg cs, ns)
  | .bx κ m, x => match owns (base + 1) (E.cells κ x) m with
    | (cs, ns) => (.ptr base 0, .box κ cs :: ns)
  | .rp κ, x => (.rptr κ x 0, [])
  | .fn, v => (v, [])

def impL (g : Bool) (base : Nat) : (ps : List PK) → PKs.T E.Ty ps → List (V E.Ty) × List (RC E.Ty)
  | [], _ => ([], [])
  | p :: ps, (x, y) => match impP g base p x with
    | (v, ns) => match impL g (base + ns.length) ps y with
      | (vs, ms) => (v :: vs, ns ++ ms)

/-- what the variables that were handed in hold then -/
def wrOuts (g : Bool) (base : Nat) : (ps : List PK) → List (V E.Ty) → PKs.T E.Ty (outsOf ps) → Option (List (Nat × RC E.Ty) × List (RC E.Ty))
  | [], [], _ => some ([], [])
  | .bx κ m :: ps, .ptr r 0 :: vs, (x, y) => match owns base (E.cells κ x) (msk g m) with
    | (cs, ns) => match wrOuts g (base + ns.length) ps vs y with
      | some (ws, ms) => some ((r, .box κ cs) :: ws, ns ++ ms)
      | none => none
  | .bx _ _ :: _, _, _ => none
  | .int _ :: ps, _ :: vs, y => wrOuts g base ps vs y
  | .bool :: ps, _ :: vs, y => wrOuts g base ps vs y
  | .str :: ps, _ :: vs, y => wrOuts g base ps vs y
  | .sl _ :: ps, _ :: vs, y => wrOuts g base ps vs y
  | .gsl _ :: ps, _ :: vs, y => wrOuts g base ps vs y
  | .st _ _ :: ps, _ :: vs, y => wrOuts g base ps vs y
  | .rp _ :: ps, _ :: vs, y => wrOuts g base ps vs y
  | .fn :: ps, _ :: vs, y => wrOuts g base ps vs y
  | _, _, _ => none

def splitR : (a : List PK) → {b : List PK} → PKs.T E.Ty (a ++ b) → PKs.T E.Ty a × PKs.T E.Ty b
  | [], _, y => ((), y)
  | _ :: a, _, (x, y) => match splitR a y with
    | (u, v) => ((x, u), v)

def joinR : (a : List PK) → {b : List PK} → PKs.T E.Ty a → PKs.T E.Ty b → PKs.T E.Ty (a ++ b)
  | [], _, _, y => y
  | _ :: a, _, (x, u), v => (x, joinR a u v)

/-- what stands in the place of a call's results where it is not carried out: nothing, and what the variables hold as it was -/
def scalarD : (ps : List PK) → Option (PKs.T E.Ty ps)
  | [] => some ()
  | .int _ :: ps => match scalarD ps with
    | some y => some ((0 : Int), y)
    | none => none
  | .bool :: ps => match scalarD ps with
    | some y => some (false, y)
    | none => none
  | .str :: ps => match scalarD ps with
    | some y => some (([] : List UInt8), y)
    | none => none
  | .sl κ :: ps => match scalarD ps with
    | some y => some (([] : List (E.Ty κ)), y)
    | none => none
  | .gsl κ :: ps => match scalarD ps with
    | some y => some (([] : List (E.Ty κ)), y)
    | none => none
  | .st κ _ :: ps => match E.dflt κ, scalarD ps with
    | some x, some y => some ((x : E.Ty κ), y)
    | _, _ => none
  | _ :: _ => none

def outsIn : (ps : List PK) → PKs.T E.Ty ps → PKs.T E.Ty (outsOf ps)
  | [], _ => ()
  | .bx _ _ :: ps, (x, y) => (x, outsIn ps y)
  | .int _ :: ps, (_, y) => outsIn ps y
  | .bool :: ps, (_, y) => outsIn ps y
  | .str :: ps, (_, y) => outsIn ps y
  | .sl _ :: ps, (_, y) => outsIn ps y
  | .gsl _ :: ps, (_, y) => outsIn ps y
  | .st _ _ :: ps, (_, y) => outsIn ps y
  | .rp _ :: ps, (_, y) => outsIn ps y
  | .fn :: ps, (_, y) => outsIn ps y

def dfltR (f : Nat) (x : E.Args f) : Option (E.Res f) := match scalarD (E.sig f).rs with
  | some y => some (joinR (E.sig f).rs y (outsIn (E.sig f).ps x))
  | none => none

def oneOf : List (V E.Ty) → V E.Ty
  | [v] => v
  | vs => .tup vs

def flat (κ : Nat) : Bool := match E.ti κ with
  | some d => d.leafs.all fun t => match E.ti t with
    | some d => (match d.kind with
      | .int _ => true
      | .bool => true
      | .string => true
      | _ => false)
    | none => false
  | none => false

/-- are there rows in it that are only read? -/
def needsL : List Nat → List Bool → Bool
  | [], _ => false
  | t :: ts, m => (match E.ti t with
    | some d => (match d.kind with
      | .int _ => false
      | .bool => false
      | .string => false
      | .slice e => (match m with
        | true :: _ => !flat (E := E) e
        | _ => true)
      | _ => true)
    | none => true) || needsL ts m.tail

def needsS : PK → Bool
  | .int _ => false
  | .bool => false
  | .str => false
  | .gsl κ => !flat (E := E) κ
  | .st κ m => (match E.ti κ with
    | some d => needsL (E := E) d.leafs m
    | none => true)
  | .bx κ m => (match E.ti κ with
    | some d => needsL (E := E) d.leafs m
    | none => true)
  | _ => true

/-- the variables among values -/
def boxes : List PK → List (V E.Ty) → List Nat
  | .bx _ _ :: ps, .ptr r _ :: vs => r :: boxes ps vs
  | _ :: ps, _ :: vs => boxes ps vs
  | _, _ => []

def callA (g : Bool) (f : Nat) (vs : List (V E.Ty)) (base : Nat) : Act' E :=
  expL (E.sig f).ps vs fun x ks rs =>
    match nodup (boxes (E.sig f).ps vs ++ ks) && disj (boxes (E.sig f).ps vs ++ ks) rs with
    | true => .call f x (dfltR f x) fun y =>
      match splitR (E.sig f).rs y with
      | (y, z) => match impL g base (E.sig f).rs y with
        | (us, ns) => match wrOuts g (base + ns.length) (E.sig f).ps vs z with
          | some (ws, ms) => .ret ⟨oneOf us, ws, ns ++ ms, ks, match ((E.sig f).rs ++ outsOf (E.sig f).ps).any (needsS (E := E)) with | true => rs | false => []⟩
          | none => .fail
    | false => .fail

/-- cells of a type that is made of numbers, bools and texts alone -/
def typedL : List (V E.Ty) → List Nat → Bool
  | [], [] => true
  | .int k _ :: cs, t :: ts => match E.ti t with
    | some ⟨.int k', _, _, _⟩ => (match decide (k = k') with
      | true => typedL cs ts
      | false => false)
    | _ => false
  | .bool _ :: cs, t :: ts => match E.ti t with
    | some ⟨.bool, _, _, _⟩ => typedL cs ts
    | _ => false
  | .str _ :: cs, t :: ts => match E.ti t with
    | some ⟨.string, _, _, _⟩ => typedL cs ts
    | _ => false
  | _, _ => false

def typedT (t : Nat) (cs : List (V E.Ty)) : Bool := match E.ti t with
  | some d => typedL cs d.leafs
  | none => false

def eqCells : List (V E.Ty) → List (V E.Ty) → Option Bool
  | [], [] => some true
  | .int k a :: xs, .int k' b :: ys => match decide (k = k'), eqCells xs ys with
    | true, some r => some ((a == b) && r)
    | _, _ => none
  | .str a :: xs, .str b :: ys => match eqCells xs ys with
    | some r => some ((a == b) && r)
    | _ => none
  | .bool a :: xs, .bool b :: ys => match eqCells xs ys with
    | some r => some ((a == b) && r)
    | _ => none
  | _, _ => none

def intBin (op : BinOp) (k : IntKind) (a b : Int) : Option (V E.Ty) := match op with
  | .add => some (.int k (k.wrap (a + b)))
  | .sub => some (.int k (k.wrap (a - b)))
  | .mul => some (.int k (k.wrap (a * b)))
  | .and => some (.int k (k.wrap (BitVec.ofInt k.bits a &&& BitVec.ofInt k.bits b).toNat))
  | .or => some (.int k (k.wrap (BitVec.ofInt k.bits a ||| BitVec.ofInt k.bits b).toNat))
  | .xor => some (.int k (k.wrap (BitVec.ofInt k.bits a ^^^ BitVec.ofInt k.bits b).toNat))
  | .eql => some (.bool (a == b))
  | .neq => some (.bool (a != b))
  | .lss => some (.bool (decide (a < b)))
  | .leq => some (.bool (decide (a ≤ b)))
  | .gtr => some (.bool (decide (a > b)))
  | .geq => some (.bool (decide (a ≥ b)))
  | _ => none

def strBin (op : BinOp) (a b : List UInt8) : Option (V E.Ty) := match op with
  | .eql => some (.bool (a == b))
  | .neq => some (.bool (!(a == b)))
  | .lss => some (.bool (Op.bytesLess a b))
  | .leq => some (.bool (Op.bytesLess a b || a == b))
  | .gtr => some (.bool (!(Op.bytesLess a b || a == b)))
  | .geq => some (.bool (!(Op.bytesLess a b)))
  | _ => none

def optA : Option (V E.Ty) → Act' E
  | some v => vl v
  | none => .fail

def binA (op : BinOp) (t : Nat) (x y : V E.Ty) : Act' E := match op, x, y with
  | .shl, .int k a, .int _ b => .chk (decide (0 ≤ b)) (vl (.int k (k.wrap (a * 2 ^ (min b.toNat k.bits)))))
  | .shr, .int k a, .int _ b => .chk (decide (0 ≤ b)) (vl (.int k (a.fdiv (2 ^ (min b.toNat k.bits)))))
  | .quo, .int k a, .int k' b => match decide (k = k') with
    | true => .chk (!(b == 0)) (vl (.int k (k.wrap (a.tdiv b))))
    | false => .fail
  | .rem, .int k a, .int k' b => match decide (k = k') with
    | true => .chk (!(b == 0)) (vl (.int k (a.tmod b)))
    | false => .fail
  | op, .int k a, .int k' b => match decide (k = k') with
    | true => optA (intBin op k a b)
    | false => .fail
  | .add, .str a, .str b => .chk (decide (a.length + b.length ≤ 140737488355328)) (vl (.str (a ++ b)))
  | op, .str a, .str b => optA (strBin op a b)
  | .eql, .bool a, .bool b => match E.ti t with
    | some ⟨.bool, _, _, _⟩ => vl (.bool (a == b))
    | _ => .fail
  | .neq, .bool a, .bool b => match E.ti t with
    | some ⟨.bool, _, _, _⟩ => vl (.bool (!(a == b)))
    | _ => .fail
  | .eql, .agg xs, .agg ys => match mem E.eqt t && typedT t xs && typedT t ys, eqCells xs ys with
    | true, some b => vl (.bool b)
    | _, _ => .fail
  | .neq, .agg xs, .agg ys => match mem E.eqt t && typedT t xs && typedT t ys, eqCells xs ys with
    | true, some b => vl (.bool (!b))
    | _, _ => .fail
  | _, _, _ => .fail

def unA (op : UnOp) (x : V E.Ty) : Act' E := match op, x with
  | .neg, .int k n => vl (.int k (k.wrap (0 - n)))
  | .not, .bool b => vl (.bool (!b))
  | _, _ => .fail

def bytesOfTy (κ : Nat) (xs : List (E.Ty κ)) : List UInt8 := xs.map fun x => match E.cells κ x with
  | [.int .u8 n] => UInt8.ofNat n.toNat
  | _ => 0

def convA (src dst : Nat) (x : V E.Ty) : Act' E := match E.ti src, E.ti dst with
  | some s, some d => match s.kind, d.kind, x with
    | .int _, .int k, .int _ n => vl (.int k (k.wrap n))
    | .int _, .string, .int _ n => .chk (decide (0 ≤ n) && decide (n < 128)) (vl (.str [UInt8.ofNat n.toNat]))
    | .string, .string, .str s => vl (.str s)
    | .slice e, .string, v => match E.ti e with
      | some ⟨.int .u8, _, _, _⟩ => match E.dflt e with
        | some _ => row e v fun xs _ => vl (.str (bytesOfTy e xs))
        | none => .fail
      | _ => .fail
    | _, _, _ => .fail
  | _, _ => .fail

def fieldOf (t f : Nat) : Option (Nat × Nat) := match E.ti t with
  | some d => match d.kind with
    | .struct fs => fs[f]?
    | _ => none
  | none => none

def fieldAddrA (t f : Nat) (x : V E.Ty) : Act' E := match fieldOf (E := E) t f, x with
  | some (off, _), .ptr r o => vl (.ptr r (o + off))
  | some (off, _), .eptr κ r i o => vl (.eptr κ r i (o + off))
  | some (off, _), .rptr κ y o => vl (.rptr κ y (o + off))
  | _, _ => .fail

def pieceA (t : Nat) (cs : List (V E.Ty)) (off : Nat) : Act' E := match E.ti t with
  | some d => match cut cs off d.size with
    | some ds => optA (ofCells d ds)
    | none => .fail
  | none => .fail

def fieldA (t f : Nat) (x : V E.Ty) : Act' E := match fieldOf (E := E) t f, x with
  | some (off, u), .agg cs => pieceA u cs off
  | _, _ => .fail

def at? (κ : Nat) (xs : List (E.Ty κ)) (i : Nat) : Option (E.Ty κ) := match E.dflt κ with
  | some d => some (xs.getD i d)
  | none => none

def loadA (t : Nat) (a : V E.Ty) : Act' E := match a with
  | .ptr r off => .rd r fun rc => match rc with
    | .bfz _ cs => pieceA t cs off
    | _ => .fail
  | .eptr κ' r i off => .rd r fun rc => match rc with
    | .fz κ xs => match Nat.beq κ κ', at? κ xs i with
      | true, some x => .chk (decide (i < xs.length)) (pieceA t (E.cells κ x) off)
      | _, _ => .fail
    | _ => .fail
  | .rptr κ x off => pieceA t (E.cells κ x) off
  | _ => .fail

def storeA (t : Nat) (a v : V E.Ty) : Act' E := match E.ti t with
  | some d => match fits v d.size with
    | true => match a with
      | .ptr r off => .ask r fun rc => match rc with
        | .box u cs => match splice cs off (cellsOf v) with
          | some ds => .ret ⟨.any, [(r, .box u ds)], [], [], []⟩
          | none => .fail
        | _ => .fail
      | .eptr κ' r i off => .ask r fun rc => match rc with
        | .arr κ xs => match Nat.beq κ κ', at? κ xs i with
          | true, some x => .chk (decide (i < xs.length)) <| plain (cellsOf v) fun vs rs => match splice (E.cells κ x) off vs with
            | some ds => match E.dec κ ds, mem rs r with
              | some y, false => .ret ⟨.any, [(r, .arr κ (xs.set i y))], [], [], rs⟩
              | _, _ => .fail
            | none => .fail
          | _, _ => .fail
        | _ => .fail
      | _ => .fail
    | false => .fail
  | none => .fail

def indexAddrA (t : Nat) (x : V E.Ty) (n : Int) : Act' E := match E.ti t with
  | some ⟨.slice e, _, _, _⟩ => match x with
    | .sl κ xs => match Nat.beq κ e, at? κ xs n.toNat with
      | true, some y => .chk (decide (0 ≤ n) && decide (n < xs.length)) (vl (.rptr κ y 0))
      | _, _ => .fail
    | .own r => .rd r fun rc => match rc with
      | .fz κ xs => match Nat.beq κ e, at? κ xs n.toNat with
        | true, some _ => .chk (decide (0 ≤ n) && decide (n < xs.length)) (vl (.eptr e r n.toNat 0))
        | _, _ => .fail
      | _ => .fail
    | .nl => .chk false .fail
    | _ => .fail
  | _ => .fail

def indexA (t : Nat) (x : V E.Ty) (n : Int) : Act' E := match E.ti t, x with
  | some ⟨.string, _, _, _⟩, .str s => .chk (decide (0 ≤ n) && decide (n < s.length)) (vl (.int .u8 (s.getD n.toNat 0).toNat))
  | _, _ => .fail

def bound (o : Option (V E.Ty)) (d : Int) : Option Int := match o with
  | none => some d
  | some (.int _ n) => some n
  | _ => none

def sliceA (t : Nat) (x : V E.Ty) (lo hi : Option (V E.Ty)) : Act' E := match E.ti t with
  | some ⟨.string, _, _, _⟩ => match x with
    | .str s => match bound lo 0, bound hi s.length with
      | some l, some h => .chk (decide (0 ≤ l) && decide (l ≤ h) && decide (h ≤ s.length)) (vl (.str ((s.take h.toNat).drop l.toNat)))
      | _, _ => .fail
    | _ => .fail
  | some ⟨.slice e, _, _, _⟩ => match E.ti e with
    | some _ => row e x fun xs rs => match bound lo 0, bound hi xs.length with
      | some l, some h => .chk (decide (0 ≤ l) && decide (l ≤ h) && decide (h ≤ xs.length)) (.ret ⟨.sl e ((xs.take h.toNat).drop l.toNat), [], [], [], rs⟩)
      | _, _ => .fail
    | none => .fail
  | _ => .fail

def makeA (t : Nat) (l c : Int) (base : Nat) : Act' E := match E.ti t with
  | some ⟨.slice e, _, _, _⟩ => match E.ti e, zeros (E := E) e with
    | some d, some zs => match E.dec e zs with
      | some z => match Nat.ble 1 d.bytes with
        | true => .chk (decide (l = c) && decide (0 ≤ l) && decide (l * d.bytes ≤ 140737488355328))
          (.ret ⟨.own base, [], [.arr e (List.replicate l.toNat z)], [], []⟩)
        | false => .fail
      | none => .fail
    | _, _ => .fail
  | _ => .fail

/-- elements of a literal, one behind the other -/
def elems (e sz : Nat) : Nat → List (Nat × V E.Ty) → (List (E.Ty e) → List Nat → Act' E) → Act' E
  | _, [], k => k [] []
  | j, (i, v) :: ps, k => match Nat.beq i j && fits v sz with
    | true => plain (cellsOf v) fun ds rs => match E.dec e ds with
      | some x => elems e sz (j + 1) ps fun xs rs' => k (x :: xs) (rs ++ rs')
      | none => .fail
    | false => .fail

def buildSliceA (t len : Nat) (ps : List (Nat × V E.Ty)) (base : Nat) : Act' E := match E.ti t with
  | some ⟨.slice e, _, _, _⟩ => match E.ti e with
    | some d => match Nat.beq ps.length len && Nat.ble (len * d.size) 16777216 && Nat.ble 1 d.size, zeros (E := E) e with
      | true, some _ => match ps with
        | [] => vl .nl
        | _ => elems e d.size 0 ps fun xs rs => .ret ⟨.own base, [], [.arr e xs], [], rs⟩
      | _, _ => .fail
    | none => .fail
  | _ => .fail

def fillA (t : Nat) : List (Nat × V E.Ty) → List (V E.Ty) → Option (List (V E.Ty))
  | [], cs => some cs
  | (f, v) :: ps, cs => match fieldOf (E := E) t f with
    | some (off, u) => match E.ti u with
      | some d => match fits v d.size with
        | true => match splice cs off (cellsOf v) with
          | some ds => fillA t ps ds
          | none => none
        | false => none
      | none => none
    | none => none

def buildA (t : Nat) (ps : List (Nat × V E.Ty)) : Act' E := match E.ti t, zeros (E := E) t with
  | some ⟨.struct _, _, _, _⟩, some zs => match fillA t ps zs with
    | some cs => vl (.agg cs)
    | none => .fail
  | _, _ => .fail

/-- may rows of this type grow? -/
def growT (e : Nat) : Option Nat := match E.ti e with
  | some d => match Nat.ble 1 d.bytes, E.dflt e, zeros (E := E) e with
    | true, some _, some _ => some d.bytes
    | _, _, _ => none
  | none => none

def appendA (t : Nat) (s x : V E.Ty) (base : Nat) : Act' E := match E.ti t with
  | some ⟨.slice e, _, _, _⟩ => match growT (E := E) e with
    | some by_ => match s with
      | .nl => row e x fun ys _ => .chk (decide (ys.length * by_ ≤ 140737488355328)) (.ret ⟨.own base, [], [.arr e ys], [], []⟩)
      | .own r => .ask r fun rc => match rc with
        | .arr κ xs => if h : κ = e then row e x fun ys rs => match mem rs r with
            | false => .chk (decide ((xs.length + ys.length) * by_ ≤ 140737488355328)) (.ret ⟨.own base, [], [.arr e (h ▸ xs ++ ys)], [r], []⟩)
            | true => .fail
          else .fail
        | _ => .fail
      | _ => .fail
    | none => .fail
  | _ => .fail

def isStr (t : Nat) : Bool := match E.ti t with
  | some ⟨.string, _, _, _⟩ => true
  | _ => false

def isRow (t : Nat) : Bool := match E.ti t with
  | some ⟨.slice _, _, _, _⟩ => true
  | _ => false

def lenA (t : Nat) (x : V E.Ty) : Act' E := match x with
  | .str s => match isStr (E := E) t with
    | true => vl (.int .i64 s.length)
    | false => .fail
  | .nl => match isRow (E := E) t with
    | true => vl (.int .i64 0)
    | false => .fail
  | .sl _ xs => match isRow (E := E) t with
    | true => vl (.int .i64 xs.length)
    | false => .fail
  | .own r => match isRow (E := E) t with
    | true => .rd r fun rc => match rc with
      | .fz _ xs => vl (.int .i64 xs.length)
      | _ => .fail
    | false => .fail
  | _ => .fail

def builtinA (b : Builtin) (ts : List Nat) (vs : List (V E.Ty)) (base : Nat) : Act' E := match b, ts, vs with
  | .len, [t], [x] => lenA t x
  | .append, [t, u], [s, x] => match E.ti u with
    | some ⟨.slice _, _, _, _⟩ => appendA t s x base
    | _ => .fail
  | .min, _, [.int k a, .int k' b] => match decide (k = k') with
    | true => vl (.int k (if b < a then b else a))
    | false => .fail
  | .max, _, [.int k a, .int k' b] => match decide (k = k') with
    | true => vl (.int k (if a < b then b else a))
    | false => .fail
  | _, _, _ => .fail

def rdL (rd : Operand → Option (V E.Ty)) : List Operand → Option (List (V E.Ty))
  | [] => some []
  | o :: os => match rd o, rdL rd os with
    | some v, some vs => some (v :: vs)
    | _, _ => none

def rdP (rd : Operand → Option (V E.Ty)) : List (Nat × Operand) → Option (List (Nat × V E.Ty))
  | [] => some []
  | (i, o) :: os => match rd o, rdP rd os with
    | some v, some vs => some ((i, v) :: vs)
    | _, _ => none

def rdO (rd : Operand → Option (V E.Ty)) : Option Operand → Option (Option (V E.Ty))
  | none => some none
  | some o => match rd o with
    | some v => some (some v)
    | none => none

def pickV (t : Bool) : V E.Ty → V E.Ty → Option (V E.Ty)
  | .bool a, .bool b => some (.bool (bif t then a else b))
  | .int k a, .int k' b => match decide (k = k') with
    | true => some (.int k (bif t then a else b))
    | false => none
  | .str a, .str b => some (.str (bif t then a else b))
  | _, _ => none

/-- one operation; 'rd' reads an operand, behind further guards -/
def opA (o : Oper) (gd : Bool) (rd : List (Nat × Bool) → Operand → Option (V E.Ty)) (base : Nat) : Act' E := match o.op with
  | .move x => optA (rd [] x)
  | .assign x => optA (rd [] x)
  | .pick (.tmp c) a b => match rd [] (.tmp c), rd [(c, true)] a, rd [(c, false)] b with
    | some (.bool t), some x, some y => optA (pickV t x y)
    | _, _, _ => .fail
  | .alloc t => match zeros (E := E) t with
    | some zs => .ret ⟨.ptr base 0, [], [.box t zs], [], []⟩
    | none => .fail
  | .box t x => match rd [] x, E.ti t with
    | some v, some d => match fits v d.size with
      | true => .ret ⟨.ptr base 0, [], [.box t (cellsOf v)], [], []⟩
      | false => .fail
    | _, _ => .fail
  | .build t ps => match rdP (rd []) ps.toList with
    | some vs => buildA t vs
    | none => .fail
  | .buildSlice t len ps => match rdP (rd []) ps.toList with
    | some vs => buildSliceA t len vs base
    | none => .fail
  | .load t a => match rd [] a with
    | some v => loadA t v
    | none => .fail
  | .store t a x => match rd [] a, rd [] x with
    | some v, some u => storeA t v u
    | _, _ => .fail
  | .nilCheck x => match rd [] x with
    | some (.ptr r o) => vl (.ptr r o)
    | some (.rptr κ y o) => vl (.rptr κ y o)
    | some (.eptr κ r i o) => vl (.eptr κ r i o)
    | _ => .fail
  | .binOp op t x y _ => match rd [] x, rd [] y with
    | some a, some b => binA op t a b
    | _, _ => .fail
  | .unOp op _ x => match rd [] x with
    | some a => unA op a
    | none => .fail
  | .convert src dst x => match rd [] x with
    | some a => convA src dst a
    | none => .fail
  | .fieldAddr t x f => match rd [] x with
    | some a => fieldAddrA t f a
    | none => .fail
  | .field t x f => match rd [] x with
    | some a => fieldA t f a
    | none => .fail
  | .indexAddr t x i => match rd [] x, rd [] i with
    | some a, some (.int _ n) => indexAddrA t a n
    | _, _ => .fail
  | .index t x i => match rd [] x, rd [] i with
    | some a, some (.int _ n) => indexA t a n
    | _, _ => .fail
  | .slice t x lo hi none => match rd [] x, rdO (rd []) lo, rdO (rd []) hi with
    | some a, some l, some h => sliceA t a l h
    | _, _, _ => .fail
  | .makeSlice t l c => match rd [] l, rd [] c with
    | some (.int .i64 m), some (.int .i64 n) => makeA t m n base
    | _, _ => .fail
  | .makeFunc (.func f) first captured => match first.toList, rdL (rd []) captured.toList with
    | [], some vs => vl (.fn f vs)
    | _, _ => .fail
  | .extract x i => match rd [] x with
    | some (.tup vs) => optA vs[i]?
    | _ => .fail
  | .call c => match rdL (rd []) c.args.toList with
    | some vs => match c.callee with
      | .builtin b => builtinA b c.argTypes.toList vs base
      | .value g => match rd [] g with
        | some (.fn f cs) => callA gd f (vs ++ cs) base
        | _ => .fail
      | _ => .fail
    | none => .fail
  | _ => .fail

end

/-! running -/

section
variable {E : Env} (O : Orc E) {R : Type}

def runA {α : Type} (st : St E.Ty) (cond : Bool) : Ask E α → List (Nat × Bool) → (α → List (Nat × Bool) → Option R) → Option R
  | .fail, _, _ => none
  | .ret e, tch, k => k e tch
  | .ask r f, tch, k => match find st.roots r with
    | some rc => runA st cond (f rc) ((r, true) :: tch) k
    | none => none
  | .rd r f, tch, k => match find st.roots r with
    | some rc => runA st cond (f (frzOf rc)) ((r, false) :: tch) k
    | none => none
  | .chk b f, tch, k => if (!cond || b) = true then runA st cond f tch k else none
  | .call f x d g, tch, k => (if cond = true then O.call f x else d).bind fun y => runA st cond (g y) tch k

/-- what an operation has touched: roots looked at, roots made read only, roots written (or ended, or looked at exactly), the temporaries of its guards -/
structure LE where
  tch : List Nat
  frz : List Nat
  wr : List Nat
  ch : List Nat

structure RSt (Ty : Nat → Type) where
  st : St Ty
  gd : List (Nat × List (Nat × Bool))
  log : List LE

def chainOf (gd : List (Nat × List (Nat × Bool))) (t : Nat) : List (Nat × Bool) := match find gd t with
  | some c => c
  | none => []

def memB : List (Nat × Bool) → Nat × Bool → Bool
  | [], _ => false
  | (a, b) :: l, (c, d) => match Nat.beq a c, b, d with
    | true, true, true => true
    | true, false, false => true
    | _, _, _ => memB l (c, d)

def subB : List (Nat × Bool) → List (Nat × Bool) → Bool
  | [], _ => true
  | a :: l, m => match memB m a with
    | true => subB l m
    | false => false

def guardOf (all : Array Oper) (gd : List (Nat × List (Nat × Bool))) : Option (Nat × Bool) → Option (List (Nat × Bool))
  | none => some []
  | some (j, w) => match all[j]? with
    | some o => match o.dst with
      | some d => some ((d, w) :: chainOf gd d)
      | none => none
    | none => none

def litB (t : List (Nat × V E.Ty)) (d : Nat) (w : Bool) : Bool := match find t d with
  | some (.bool b) => (match w with | true => b | false => !b)
  | _ => false

def condOf (t : List (Nat × V E.Ty)) : List (Nat × Bool) → Bool
  | [] => true
  | [(d, w)] => litB t d w
  | (d, w) :: l => litB t d w && condOf t l

def rdf (n : Nat) (st : St E.Ty) (gd : List (Nat × List (Nat × Bool))) (ch : List (Nat × Bool)) (more : List (Nat × Bool)) : Operand → Option (V E.Ty)
  | .tmp t => match Nat.blt t n, subB (chainOf gd t) (more ++ ch) with
    | true, true => find st.t t
    | _, _ => none
  | .const v => cv v
  | .func f => some (.fn f [])
  | .global _ => none

def frzR : List (Nat × RC E.Ty) → List Nat → List (Nat × RC E.Ty)
  | [], _ => []
  | (a, rc) :: l, fs => match mem fs a with
    | true => (a, match rc with | .arr κ xs => .fz κ xs | .box t cs => .bfz t cs | rc => rc) :: frzR l fs
    | false => (a, rc) :: frzR l fs

def delL : List (Nat × RC E.Ty) → List Nat → List (Nat × RC E.Ty)
  | l, [] => l
  | l, r :: rs => delL (del l r) rs

def putL : List (Nat × RC E.Ty) → List (Nat × RC E.Ty) → List (Nat × RC E.Ty)
  | l, [] => l
  | l, (r, rc) :: rs => putL (put l r rc) rs

def newL (base : Nat) : List (RC E.Ty) → List (Nat × RC E.Ty)
  | [] => []
  | rc :: rcs => (base, rc) :: newL (base + 1) rcs

def effR (base : Nat) (roots : List (Nat × RC E.Ty)) (e : Eff E) : List (Nat × RC E.Ty) :=
  putL (frzR (delL roots e.kill) e.frz) e.wr ++ newL base e.new

def St.eff (st : St E.Ty) (dst : Option Nat) (e : Eff E) : St E.Ty where
  t := match dst with
    | some d => put st.t d e.val
    | none => st.t
  roots := effR st.nx st.roots e
  nx := st.nx + e.new.length

def isCall : Op → Bool
  | .call c => match c.callee with
    | .value _ => true
    | _ => false
  | _ => false

def keys {α : Type} : List (Nat × α) → List Nat
  | [] => []
  | (a, _) :: l => a :: keys l

def asksOf : List (Nat × Bool) → List Nat
  | [] => []
  | (r, true) :: l => r :: asksOf l
  | (_, false) :: l => asksOf l

def isB (t : List (Nat × V E.Ty)) (d : Nat) : Bool := match find t d with
  | some (.bool _) => true
  | _ => false

def dstNot (o : Oper) (ch : List (Nat × Bool)) : Bool := match o.dst with
  | some d => !mem (keys ch) d
  | none => true

/-- what a guarded operation may do -/
def okG (n : Nat) (st : St E.Ty) (o : Oper) (ch : List (Nat × Bool)) (e : Eff E) : Bool := match ch with
  | [] => true
  | (d, _) :: _ => Nat.blt d n && isB st.t d && dstNot o ch && (match e.new, e.kill, e.wr with
    | [], [], [] => true
    | [], [], _ => isCall o.op
    | _, _, _ => false)

def isG : List (Nat × Bool) → Bool
  | [] => false
  | _ :: _ => true

def chains : List (Nat × List (Nat × Bool)) → List Nat
  | [] => []
  | (_, c) :: l => c.map (·.1) ++ chains l

def dstOk (n : Nat) (gd : List (Nat × List (Nat × Bool))) : Option Nat → Bool
  | none => true
  | some d => Nat.blt d n && !mem (chains gd) d

def vops (n : Nat) (all : Array Oper) : List Oper → RSt E.Ty → (RSt E.Ty → Option R) → Option R
  | [], rs, k => k rs
  | o :: ops, rs, k => match guardOf all rs.gd o.guard, dstOk n rs.gd o.dst with
    | some ch, true => runA O rs.st (condOf rs.st.t ch) (opA o (isG ch) (rdf n rs.st rs.gd ch) rs.st.nx) [] fun e tch =>
      match okG n rs.st o ch e && sub (e.frz ++ e.kill ++ keys e.wr) (keys tch) && nodup (keys e.wr) with
      | true => vops n all ops ⟨rs.st.eff o.dst e,
          match o.dst with | some d => put rs.gd d ch | none => rs.gd,
          ⟨keys tch, e.frz, keys e.wr ++ e.kill ++ asksOf tch ++ keys (newL rs.st.nx e.new), keys ch⟩ :: rs.log⟩ k
      | false => none
    | _, _ => none

/-- the temporaries that were written behind a guard are no more -/
def ungd (t : List (Nat × V E.Ty)) : List (Nat × List (Nat × Bool)) → List (Nat × V E.Ty)
  | [] => t
  | (_, []) :: gd => ungd t gd
  | (d, _ :: _) :: gd => ungd (del t d) gd

end

/-! regions whose order is open -/

def bitAfter (ops : Array Oper) : List Oper → List Nat → List Nat
  | [], acc => acc
  | o :: os, acc => bitAfter ops os (acc ++ [o.after.toList.foldl (fun s e => match Region.binds .any e with | true => s ||| 2 ^ e.on ||| acc.getD e.on 0 | false => s) 0])

def tmpsOf (o : Oper) : List Nat := o.op.operands.toList.filterMap fun x => match x with | .tmp t => some t | _ => none

def dstIn (o : Oper) (ts : List Nat) : Bool := match o.dst with
  | some d => mem ts d
  | none => false

/-- i and j (i ahead in the text): is j behind i in every order, or does neither mind the other? -/
def pairOk (oi oj : Oper) (bj : Nat) (i : Nat) (li lj : LE) : Bool :=
  !dstIn oj li.ch && (bj.testBit i ||
  (!dstIn oi (oj.dst.toList ++ tmpsOf oj ++ lj.ch) && !dstIn oj (tmpsOf oi ++ li.ch) &&
   disj li.wr (lj.tch ++ lj.frz ++ lj.wr) && disj lj.wr (li.tch ++ li.frz ++ li.wr)))

structure DE where
  o : Oper
  bits : Nat
  le : LE

def zipD : List Oper → List Nat → List LE → List DE
  | o :: os, b :: bs, l :: ls => ⟨o, b, l⟩ :: zipD os bs ls
  | _, _, _ => []

def rowOk (oj : Oper) (bj : Nat) (lj : LE) : Nat → List DE → Bool
  | _, [] => true
  | i, d :: ds => match pairOk d.o oj bj i d.le lj with
    | true => rowOk oj bj lj (i + 1) ds
    | false => false

def pairsOk : List DE → List DE → Bool
  | _, [] => true
  | pre, d :: ds => match rowOk d.o d.bits d.le 0 pre with
    | true => pairsOk (pre ++ [d]) ds
    | false => false

/-- nothing waits for what stands behind it in the text -/
def backOk : Nat → List Oper → Bool
  | _, [] => true
  | j, o :: os => match o.after.toList.all (fun e => !Region.binds .any e || Nat.blt e.on j) with
    | true => backOk (j + 1) os
    | false => false

def drawOk (ops : Array Oper) (log : List LE) : Bool :=
  backOk 0 ops.toList && pairsOk [] (zipD ops.toList (bitAfter ops ops.toList []) log.reverse)

/-! a state in its plainest form -/

section
variable {Ty : Nat → Type}

mutual
def V.ids : V Ty → List Nat
  | .own r => [r]
  | .ptr r _ => [r]
  | .eptr _ r _ _ => [r]
  | .fn _ cs => V.idsL cs
  | .agg cs => V.idsL cs
  | .tup cs => V.idsL cs
  | _ => []
def V.idsL : List (V Ty) → List Nat
  | [] => []
  | c :: cs => c.ids ++ V.idsL cs
end

mutual
def V.ren (f : Nat → Nat) : V Ty → V Ty
  | .own r => .own (f r)
  | .ptr r o => .ptr (f r) o
  | .eptr κ r i o => .eptr κ (f r) i o
  | .fn g cs => .fn g (V.renL f cs)
  | .agg cs => .agg (V.renL f cs)
  | .tup cs => .tup (V.renL f cs)
  | v => v
def V.renL (f : Nat → Nat) : List (V Ty) → List (V Ty)
  | [] => []
  | c :: cs => c.ren f :: V.renL f cs
end

def RC.ids : RC Ty → List Nat
  | .box _ cs => V.idsL cs
  | .bfz _ cs => V.idsL cs
  | _ => []

def RC.ren (f : Nat → Nat) : RC Ty → RC Ty
  | .box t cs => .box t (V.renL f cs)
  | .bfz t cs => .bfz t (V.renL f cs)
  | rc => rc

/-- the roots that can be come to -/
def reach (roots : List (Nat × RC Ty)) : Nat → List Nat → List Nat → List Nat
  | 0, _, acc => acc
  | _ + 1, [], acc => acc
  | n + 1, r :: todo, acc => match mem acc r with
    | true => reach roots n todo acc
    | false => match find roots r with
      | some rc => reach roots n (todo ++ rc.ids) (acc ++ [r])
      | none => reach roots n todo (acc ++ [r])

def keep : List Nat → List (Nat × V Ty) → List (Nat × V Ty)
  | [], _ => []
  | i :: is, t => match find t i with
    | some v => (i, v) :: keep is t
    | none => keep is t

def idsT : List (Nat × V Ty) → List Nat
  | [] => []
  | (_, v) :: l => v.ids ++ idsT l

def renT (f : Nat → Nat) : List (Nat × V Ty) → List (Nat × V Ty)
  | [] => []
  | (i, v) :: l => (i, v.ren f) :: renT f l

def renR (f : Nat → Nat) (roots : List (Nat × RC Ty)) : List Nat → List (Nat × RC Ty)
  | [] => []
  | r :: l => match find roots r with
    | some rc => (f r, rc.ren f) :: renR f roots l
    | none => renR f roots l

def idsR : List (Nat × RC Ty) → List Nat
  | [] => []
  | (_, rc) :: l => rc.ids ++ idsR l

def St.canon (need : List Nat) (st : St Ty) : Option (St Ty) :=
  let t := keep need st.t
  let ids := reach st.roots 1000 (idsT t) []
  let roots := renR (idx ids) st.roots ids
  match sub (idsT t) ids && sub (idsR (renR (fun r => r) st.roots ids)) ids with
  | true => some ⟨renT (idx ids) t, roots, ids.length⟩
  | false => none

end

/-! at a loop's head a row is told in one and the same way each time -/

section
variable {Ty : Nat → Type}

/-- to a row that is owned, or to one that is read only -/
def cvt (st : St Ty) (own : Bool) (κ : Nat) (v : V Ty) : Option (V Ty × St Ty) := match own, v with
  | true, .nl => some (.own st.nx, ⟨st.t, st.roots ++ [(st.nx, .arr κ [])], st.nx + 1⟩)
  | true, .own r => some (.own r, st)
  | false, .nl => some (.sl κ [], st)
  | false, .sl κ' xs => some (.sl κ' xs, st)
  | false, .own r => match find st.roots r with
    | some (.arr κ' xs) => some (.sl κ' xs, ⟨st.t, put st.roots r (.fz κ' xs), st.nx⟩)
    | some (.fz κ' xs) => some (.sl κ' xs, st)
    | _ => none
  | _, _ => none

def cvt1 (st : St Ty) (t : Nat) : Option Nat × Bool × Nat → Option (St Ty)
  | (none, own, κ) => match find st.t t with
    | some v => match cvt st own κ v with
      | some (u, st) => some ⟨put st.t t u, st.roots, st.nx⟩
      | none => none
    | none => none
  | (some j, own, κ) => match find st.t t with
    | some (.ptr r _) => match find st.roots r with
      | some (.box ty cs) => match cs[j]? with
        | some v => match cvt st own κ v with
          | some (u, st) => some ⟨st.t, put st.roots r (.box ty (cs.set j u)), st.nx⟩
          | none => none
        | none => none
      | _ => none
    | some (.agg cs) => match cs[j]? with
      | some v => match cvt st own κ v with
        | some (u, st) => some ⟨put st.t t (.agg (cs.set j u)), st.roots, st.nx⟩
        | none => none
      | none => none
    | _ => none

def cvtL (st : St Ty) (t : Nat) : List (Option Nat × Bool × Nat) → Option (St Ty)
  | [] => some st
  | c :: cs => match cvt1 st t c with
    | some st => cvtL st t cs
    | none => none

def cvtH (st : St Ty) : List (Nat × List (Option Nat × Bool × Nat)) → Option (St Ty)
  | [] => some st
  | (t, cs) :: hs => match cvtL st t cs with
    | some st => cvtH st hs
    | none => none

end

/-! code -/

section
variable {E : Env} (O : Orc E)

def exitK (id : Nat) : List It → Option (List It)
  | [] => none
  | .inBlock i :: k => match Nat.beq i id with
    | true => some k
    | false => exitK id k
  | _ :: k => exitK id k

/-- the results' values -/
def resV (n : Nat) (st : St E.Ty) : List ResultVar → Option (List (V E.Ty))
  | [] => some []
  | .tmp t :: l => match Nat.blt t n, find st.t t, resV n st l with
    | true, some v, some vs => some (v :: vs)
    | _, _, _ => none
  | .cell t ty :: l => match Nat.blt t n, find st.t t, resV n st l with
    | true, some (.ptr r off), some vs => match find st.roots r, E.ti ty with
      | some (.box _ cs), some d => match cut cs off d.size with
        | some ds => match ofCells d ds with
          | some v => some (v :: vs)
          | none => none
        | none => none
      | some (.bfz _ cs), some d => match cut cs off d.size with
        | some ds => match ofCells d ds with
          | some v => some (v :: vs)
          | none => none
        | none => none
      | _, _ => none
    | _, _, _ => none

/-- an export at the end of a function, out of a state -/
def runX {α : Type} (st : St E.Ty) : Ask E α → Option α
  | .ret e => some e
  | .ask r f => match find st.roots r with
    | some rc => runX st (f rc)
    | none => none
  | .rd r f => match find st.roots r with
    | some rc => runX st (f (frzOf rc))
    | none => none
  | _ => none

/-- the variables that came in: they are kept behind all temporaries -/
def outPtrs (t : List (Nat × V E.Ty)) (i : Nat) : List PK → Option (List (V E.Ty))
  | [] => some []
  | p :: ps => match p.isBx with
    | true => match find t i, outPtrs t (i + 1) ps with
      | some v, some vs => some (v :: vs)
      | _, _ => none
    | false => outPtrs t (i + 1) ps

/-- the results, and what the variables that came in hold -/
def vback (ps rs : List PK) (n : Nat) (l : List ResultVar) (st : St E.Ty) : Option (PKs.T E.Ty (rs ++ outsOf ps)) := match resV n st l, outPtrs st.t n ps with
  | some us, some os => runX st (expL (rs ++ outsOf ps) (us ++ os) fun y ks ns =>
      match nodup (boxes (rs ++ outsOf ps) (us ++ os) ++ ks) && disj (boxes (rs ++ outsOf ps) (us ++ os) ++ ks) ns with
      | true => .ret y
      | false => .fail)
  | _, _ => none

/-- at a loop's head: the state in its plainest form, and the rest by the oracle -/
def vhead (f : Nat) (b : Code) (k : List It) (st : St E.Ty) : Option (E.Res f) := match k with
  | .inBlock id :: _ => match cvtH st (E.hint f id) with
    | some st => match st.canon ((E.hint f id).map (·.1)) with
      | some st => O.loop f (.inLoop b :: k) st
      | none => none
    | none => none
  | _ => none

def vrun (f : Nat) (fn : Func) : Nat → List It → St E.Ty → Option (E.Res f)
  | 0, _, _ => none
  | _ + 1, [], st => vback (E.sig f).ps (E.sig f).rs fn.ntmps fn.results.toList st
  | n + 1, .code c :: k, st => match c with
    | .skip => vrun f fn n k st
    | .region _ ops draw => vops O fn.ntmps ops ops.toList ⟨st, [], []⟩ fun rs =>
      match !draw || drawOk ops rs.log with
      | true => vrun f fn n k ⟨ungd rs.st.t rs.gd, rs.st.roots, rs.st.nx⟩
      | false => none
    | .seq a b => vrun f fn n (.code a :: .code b :: k) st
    | .cond c x y => match rdf fn.ntmps st [] [] [] c with
      | some (.bool b) => if b = true then vrun f fn n (.code x :: k) st else vrun f fn n (.code y :: k) st
      | _ => none
    | .block id b => vrun f fn n (.code b :: .inBlock id :: k) st
    | .loop b => vhead O f b k st
    | .exit id => match exitK id k with
      | some k => vrun f fn n k st
      | none => none
    | .ret => vback (E.sig f).ps (E.sig f).rs fn.ntmps fn.results.toList st
    | _ => none
  | n + 1, .inBlock _ :: k, st => vrun f fn n k st
  | _ + 1, .inLoop b :: k, st => vhead O f b k st

/-- a round of a loop, and what is behind it -/
def vround (f : Nat) (k : List It) (st : St E.Ty) : Option (E.Res f) := match E.code f, k with
  | some fn, .inLoop b :: k => vrun O f fn 10000 (.code b :: .inLoop b :: k) st
  | _, _ => none

/-! functions -/

def impT (i : Nat) : List (V E.Ty) → List (Nat × V E.Ty)
  | [] => []
  | v :: vs => (i, v) :: impT (i + 1) vs

def impO (i : Nat) : List PK → List (V E.Ty) → List (Nat × V E.Ty)
  | .bx _ _ :: ps, v :: vs => (i, v) :: impO (i + 1) ps vs
  | _ :: ps, _ :: vs => impO (i + 1) ps vs
  | _, _ => []

def vfun (f : Nat) (x : E.Args f) : Option (E.Res f) := match E.prim f with
  | some g => g x
  | none => match E.code f with
    | some fn => match fn.body with
      | some c => match Nat.ble (E.sig f).ps.length fn.ntmps, impL (E := E) false 0 (E.sig f).ps x with
        | true, (vs, ns) => vrun O f fn 10000 [.code c] ⟨impT 0 vs ++ impO fn.ntmps (E.sig f).ps vs, newL 0 ns, ns.length⟩
        | false, _ => none
      | none => none
    | none => none

def Orc.bot (E : Env) : Orc E := ⟨fun _ _ => none, fun _ _ _ => none⟩

def Orc.step (O : Orc E) : Orc E := ⟨vfun O, vround O⟩

def orc (E : Env) : Nat → Orc E
  | 0 => Orc.bot E
  | n + 1 => (orc E n).step

/-- a part of a piece of code, by its way in -/
def csub : Code → List Nat → Code
  | c, [] => c
  | .seq a _, 0 :: l => csub a l
  | .seq _ b, _ :: l => csub b l
  | .cond _ a _, 0 :: l => csub a l
  | .cond _ _ b, _ :: l => csub b l
  | .block _ b, _ :: l => csub b l
  | .loop b, _ :: l => csub b l
  | c, _ => c

end

end Go.Proofs.Ytejfpemjmpoddaa.Vx
/-! What symbolic values mean in a world, and that the meaning stays where the memory that it leans on stays. -/
namespace Go.Proofs.Ytejfpemjmpoddaa.Vx
open Go

section
variable {E : Env}

def szOf (E : Env) (κ : Nat) : Nat := match E.dflt κ, E.ti κ with
  | some _, some d => d.size
  | _, _ => 0

/-- a value read in a world: rows that are only read lie in blocks of S; the roots' numbers that are in use are those of D -/
inductive RV (E : Env) (w : World) (S : Nat → Prop) (β : Nat → Value) (D : Nat → Prop) : V E.Ty → Value → Prop
  | int (k : IntKind) (x : Int) : RV E w S β D (.int k x) (.int k x)
  | bool (b : Bool) : RV E w S β D (.bool b) (.bool b)
  | str (s : List UInt8) : RV E w S β D (.str s) (.string ⟨s.toArray⟩)
  | nl (A : Option Addr) : RV E w S β D .nl (.slice A 0 0)
  | slE (κ : Nat) (A : Option Addr) (c : Nat) : RV E w S β D (.sl κ []) (.slice A 0 c)
  | sl (κ : Nat) (xs : List (E.Ty κ)) (b o c : Nat) (F : Nat → Nat → Value) (hc : xs.length ≤ c) (hS : S b)
      (h1 : ∀ i x, xs[i]? = some x → ∀ j cv, (E.cells κ x)[j]? = some cv → w.cell? ⟨b, o + (i * szOf E κ + j), none⟩ = some (F i j))
      (h2 : ∀ i x, xs[i]? = some x → ∀ j cv, (E.cells κ x)[j]? = some cv → RV E w S β D cv (F i j)) : RV E w S β D (.sl κ xs) (.slice (some ⟨b, o, none⟩) xs.length c)
  | own (r : Nat) (A : Option Addr) (m c : Nat) (h : D r) (hβ : β r = .slice A m c) : RV E w S β D (.own r) (.slice A m c)
  | ptr (r off b : Nat) (h : D r) (hβ : β r = .pointer (some ⟨b, 0, none⟩)) : RV E w S β D (.ptr r off) (.pointer (some ⟨b, off, none⟩))
  | eptr (κ r i off b o m c : Nat) (h : D r) (hβ : β r = .slice (some ⟨b, o, none⟩) m c) : RV E w S β D (.eptr κ r i off) (.pointer (some ⟨b, o + (i * szOf E κ + off), none⟩))
  | rptr (κ : Nat) (x : E.Ty κ) (off b o : Nat) (F : Nat → Value) (hS : S b)
      (h1 : ∀ j cv, (E.cells κ x)[j]? = some cv → w.cell? ⟨b, o + j, none⟩ = some (F j))
      (h2 : ∀ j cv, (E.cells κ x)[j]? = some cv → RV E w S β D cv (F j)) : RV E w S β D (.rptr κ x off) (.pointer (some ⟨b, o + off, none⟩))
  | fn (f : Nat) (cs : List (V E.Ty)) (vs : Array Value) (hl : vs.size = cs.length) (h : ∀ i cv, cs[i]? = some cv → RV E w S β D cv (vs.getD i undef)) : RV E w S β D (.fn f cs) (.func (.func f) #[] vs)
  | agg (cs : List (V E.Ty)) (vs : Array Value) (hl : vs.size = cs.length) (h : ∀ i cv, cs[i]? = some cv → RV E w S β D cv (vs.getD i undef)) : RV E w S β D (.agg cs) (.agg vs)
  | tup (cs : List (V E.Ty)) (vs : Array Value) (hl : vs.size = cs.length) (h : ∀ i cv, cs[i]? = some cv → RV E w S β D cv (vs.getD i undef)) : RV E w S β D (.tup cs) (.tuple vs)
  | any (v : Value) : RV E w S β D .any v

variable {w w' : World} {S S' : Nat → Prop} {β β' : Nat → Value} {D D' : Nat → Prop}

theorem cell_of {w w' : World} {b : Nat} (h : w'.heap[b]? = w.heap[b]?) (o : Nat) : w'.cell? ⟨b, o, none⟩ = w.cell? ⟨b, o, none⟩ :=
  World.cell?_of_block (w := w) h

theorem RV.mono {v : V E.Ty} {cv : Value} (h : RV E w S β D v cv) (hb : ∀ b, S b → w'.heap[b]? = w.heap[b]?) (hs : ∀ b, S b → S' b)
    (hn : ∀ r, D r → D' r) (hβ : ∀ r, D r → β' r = β r) : RV E w' S' β' D' v cv := by
  induction h with
  | int k x => exact .int k x
  | bool b => exact .bool b
  | str s => exact .str s
  | nl A => exact .nl A
  | slE κ A c => exact .slE κ A c
  | sl κ xs b o c F hc hS h1 h2 ih => exact .sl κ xs b o c F hc (hs _ hS) (fun i x hx j cv hj => by rw [cell_of (hb b hS)]; exact h1 i x hx j cv hj) ih
  | own r A m c h e => exact .own r A m c (hn _ h) ((hβ r h).trans e)
  | ptr r off b h e => exact .ptr r off b (hn _ h) ((hβ r h).trans e)
  | eptr κ r i off b o m c h e => exact .eptr κ r i off b o m c (hn _ h) ((hβ r h).trans e)
  | rptr κ x off b o F hS h1 h2 ih => exact .rptr κ x off b o F (hs _ hS) (fun j cv hj => by rw [cell_of (hb b hS)]; exact h1 j cv hj) ih
  | fn f cs vs hl h ih => exact .fn f cs vs hl ih
  | agg cs vs hl h ih => exact .agg cs vs hl ih
  | tup cs vs hl h ih => exact .tup cs vs hl ih
  | any v => exact .any v

/-- a value in which no root is named -/
inductive Free : V E.Ty → Prop
  | int (k : IntKind) (x : Int) : Free (.int k x)
  | bool (b : Bool) : Free (.bool b)
  | str (s : List UInt8) : Free (.str s)
  | nl : Free .nl
  | sl (κ : Nat) (xs : List (E.Ty κ)) : Free (.sl κ xs)
  | rptr (κ : Nat) (x : E.Ty κ) (o : Nat) : Free (.rptr κ x o)
  | fn (f : Nat) (cs : List (V E.Ty)) (h : ∀ c ∈ cs, Free c) : Free (.fn f cs)
  | agg (cs : List (V E.Ty)) (h : ∀ c ∈ cs, Free c) : Free (.agg cs)

/-- the cells of typed values: whole numbers, bools, texts, rows -/
def Plain : V E.Ty → Prop
  | .int _ _ => True
  | .bool _ => True
  | .str _ => True
  | .sl _ _ => True
  | _ => False

/-- what is asked of a universe -/
structure Good (E : Env) : Prop where
  cell : ∀ κ x cv, cv ∈ E.cells κ x → Plain cv
  ti : ∀ κ d, E.dflt κ = some d → ∃ t, E.ti κ = some t
  len : ∀ κ x, (E.cells κ x).length = szOf E κ
  nosl : ∀ (κ : Nat) (d : TD) (x : E.Ty κ) (j κ' : Nat) (ys : List (E.Ty κ')), E.ti κ = some d → (E.cells κ x)[j]? = some (.sl κ' ys) → ∃ t td, d.leafs[j]? = some t ∧ E.ti t = some td ∧ td.kind = .slice κ'
  int : ∀ (κ : Nat) (k : IntKind) (s b : Nat) (l : List Nat), E.ti κ = some ⟨.int k, s, b, l⟩ → (E.dflt κ).isSome → ∀ x : E.Ty κ, ∃ n, E.cells κ x = [.int k n]
  dec : ∀ (κ : Nat) (cs : List (V E.Ty)) (x : E.Ty κ), E.dec κ cs = some x → (E.dflt κ).isSome ∧ cs.length = (E.cells κ x).length ∧ ∀ (i : Nat) (c : V E.Ty), cs[i]? = some c → (E.cells κ x)[i]? = some c ∨ (c = V.nl ∧ ∃ κ', (E.cells κ x)[i]? = some (V.sl κ' []))

/-- a row that is owned: the block that it owns -/
def OR (E : Env) (w : World) (S : Nat → Prop) (β : Nat → Value) (D : Nat → Prop) (κ : Nat) (xs : List (E.Ty κ)) (v : Value) (ob : List Nat) : Prop :=
  (xs = [] ∧ ob = [] ∧ ∃ A, v = .slice A 0 0) ∨
  ∃ b o c arr e, ob = [b] ∧ v = .slice (some ⟨b, o, none⟩) xs.length c ∧ xs.length ≤ c ∧ w.heap[b]? = some (.cells arr e (0, 0)) ∧ o + c * szOf E κ ≤ arr.size ∧
    ∀ i x, xs[i]? = some x → ∀ j cv, (E.cells κ x)[j]? = some cv → RV E w S β D cv (arr.getD (o + (i * szOf E κ + j)) undef)

/-- a variable's cells -/
def BR (E : Env) (w : World) (S : Nat → Prop) (β : Nat → Value) (D : Nat → Prop) (cs : List (V E.Ty)) (b : Nat) : Prop :=
  ∃ arr e, w.heap[b]? = some (.cells arr e (0, 0)) ∧ arr.size = cs.length ∧ ∀ j cv, cs[j]? = some cv → RV E w S β D cv (arr.getD j undef)

/-- what a root holds, and the block that it owns -/
def RootOk (E : Env) (w : World) (S : Nat → Prop) (β : Nat → Value) (D : Nat → Prop) (v : Value) (ob : List Nat) : RC E.Ty → Prop
  | .box _ cs => ∃ b, ob = [b] ∧ v = .pointer (some ⟨b, 0, none⟩) ∧ BR E w S β D cs b
  | .bfz _ cs => ob = [] ∧ ∃ b, v = .pointer (some ⟨b, 0, none⟩) ∧ S b ∧ BR E w S β D cs b
  | .arr κ xs => OR E w S β D κ xs v ob
  | .fz κ xs => ob = [] ∧ RV E w S β D (.sl κ xs) v

theorem BR.mono {cs : List (V E.Ty)} {b : Nat} (h : BR E w S β D cs b) (h0 : w'.heap[b]? = w.heap[b]?) (hb : ∀ b, S b → w'.heap[b]? = w.heap[b]?) (hs : ∀ b, S b → S' b)
    (hn : ∀ r, D r → D' r) (hβ : ∀ r, D r → β' r = β r) : BR E w' S' β' D' cs b := by
  obtain ⟨arr, e, h1, h2, h3⟩ := h
  exact ⟨arr, e, h0.trans h1, h2, fun j cv hj => (h3 j cv hj).mono hb hs hn hβ⟩

theorem OR.mono {κ : Nat} {xs : List (E.Ty κ)} {v : Value} {ob : List Nat} (h : OR E w S β D κ xs v ob) (h0 : ∀ b ∈ ob, w'.heap[b]? = w.heap[b]?)
    (hb : ∀ b, S b → w'.heap[b]? = w.heap[b]?) (hs : ∀ b, S b → S' b) (hn : ∀ r, D r → D' r) (hβ : ∀ r, D r → β' r = β r) : OR E w' S' β' D' κ xs v ob := by
  rcases h with h | ⟨b, o, c, arr, e, rfl, h1, h2, h3, h4, h5⟩
  · exact .inl h
  · exact .inr ⟨b, o, c, arr, e, rfl, h1, h2, (h0 b (by simp)).trans h3, h4, fun i x hx j cv hj => (h5 i x hx j cv hj).mono hb hs hn hβ⟩

theorem RootOk.mono {v : Value} {ob : List Nat} {rc : RC E.Ty} (h : RootOk E w S β D v ob rc) (h0 : ∀ b ∈ ob, w'.heap[b]? = w.heap[b]?)
    (hb : ∀ b, S b → w'.heap[b]? = w.heap[b]?) (hs : ∀ b, S b → S' b) (hn : ∀ r, D r → D' r) (hβ : ∀ r, D r → β' r = β r) : RootOk E w' S' β' D' v ob rc := by
  cases rc with
  | box t cs =>
    obtain ⟨b, rfl, h1, h2⟩ := h
    exact ⟨b, rfl, h1, h2.mono (h0 b (by simp)) hb hs hn hβ⟩
  | bfz t cs =>
    obtain ⟨h1, b, h2, h3, h4⟩ := h
    exact ⟨h1, b, h2, hs b h3, h4.mono (hb b h3) hb hs hn hβ⟩
  | arr κ xs => exact OR.mono h h0 hb hs hn hβ
  | fz κ xs => exact ⟨h.1, h.2.mono hb hs hn hβ⟩

/-- an owned row, read only from now on -/
theorem OR.froze {κ : Nat} {xs : List (E.Ty κ)} {v : Value} {ob : List Nat} (h : OR E w S β D κ xs v ob) (hs : ∀ b, S b → S' b) (hob : ∀ b ∈ ob, S' b)
    (hl : ∀ (i : Nat) (x : E.Ty κ), xs[i]? = some x → (E.cells κ x).length = szOf E κ) : RV E w S' β D (.sl κ xs) v := by
  rcases h with ⟨rfl, _, A, rfl⟩ | ⟨b, o, c, arr, e, rfl, rfl, h2, h3, h4, h5⟩
  · exact .slE κ A 0
  · refine .sl κ xs b o c (fun i j => arr.getD (o + (i * szOf E κ + j)) undef) h2 (hob b (by simp)) ?_ (fun i x hx j cv hj => (h5 i x hx j cv hj).mono (fun _ _ => rfl) hs (fun _ h => h) (fun _ _ => rfl))
    intro i x hx j cv hj
    have hi : i < xs.length := by
      rcases Nat.lt_or_ge i xs.length with h | h
      · exact h
      · rw [List.getElem?_eq_none h] at hx; cases hx
    have hjl : j < szOf E κ := by
      rw [← hl i x hx]
      rcases Nat.lt_or_ge j (E.cells κ x).length with h | h
      · exact h
      · rw [List.getElem?_eq_none h] at hj; cases hj
    have hlt : o + (i * szOf E κ + j) < arr.size := by
      have h6 : (i + 1) * szOf E κ ≤ c * szOf E κ := Nat.mul_le_mul_right _ (by omega)
      rw [Nat.add_mul, Nat.one_mul] at h6
      omega
    simp [World.cell?, h3, hlt]

theorem BR.froze {cs : List (V E.Ty)} {b : Nat} (h : BR E w S β D cs b) (j : Nat) (cv : V E.Ty) (hj : cs[j]? = some cv) : ∃ v, w.cell? ⟨b, j, none⟩ = some v ∧ RV E w S β D cv v := by
  obtain ⟨arr, e, h1, h2, h3⟩ := h
  have hlt : j < arr.size := by
    rw [h2]
    rcases Nat.lt_or_ge j cs.length with h | h
    · exact h
    · rw [List.getElem?_eq_none h] at hj; cases hj
  exact ⟨arr.getD j undef, by simp [World.cell?, h1, hlt], h3 j cv hj⟩

end

end Go.Proofs.Ytejfpemjmpoddaa.Vx
/-! A state's memory, and what an effect makes of it. -/
namespace Go.Proofs.Ytejfpemjmpoddaa.Vx
open Go

section
variable {E : Env}

/-! lists by number -/

theorem find_put_self {α : Type} (l : List (Nat × α)) (k : Nat) (x : α) : find (put l k x) k = some x := by
  induction l with
  | nil => simp [put, find]
  | cons p l ih =>
    obtain ⟨a, y⟩ := p
    simp only [put]
    cases h : Nat.beq a k
    · simp [find, h, ih]
    · simp [find]

theorem find_put_ne {α : Type} (l : List (Nat × α)) (k j : Nat) (x : α) (hne : j ≠ k) : find (put l k x) j = find l j := by
  induction l with
  | nil =>
    have : Nat.beq k j = false := by
      cases h : Nat.beq k j
      · rfl
      · exact absurd (Nat.eq_of_beq_eq_true h).symm hne
    simp [put, find, this]
  | cons p l ih =>
    obtain ⟨a, y⟩ := p
    simp only [put]
    cases h : Nat.beq a k
    · simp only [find, ih]
    · have hak := Nat.eq_of_beq_eq_true h
      subst hak
      have : Nat.beq a j = false := by
        cases h : Nat.beq a j
        · rfl
        · exact absurd (Nat.eq_of_beq_eq_true h).symm hne
      simp [find, this]

theorem find_put {α : Type} (l : List (Nat × α)) (k j : Nat) (x : α) : find (put l k x) j = if j = k then some x else find l j := by
  by_cases h : j = k
  · subst h; simp [find_put_self]
  · simp [h, find_put_ne l k j x h]

theorem find_del_ne {α : Type} (l : List (Nat × α)) (k j : Nat) (hne : j ≠ k) : find (del l k) j = find l j := by
  induction l with
  | nil => simp [del, find]
  | cons p l ih =>
    obtain ⟨a, y⟩ := p
    simp only [del]
    cases h : Nat.beq a k
    · simp only [find, ih]
    · have hak := Nat.eq_of_beq_eq_true h
      subst hak
      have : Nat.beq a j = false := by
        cases h : Nat.beq a j
        · rfl
        · exact absurd (Nat.eq_of_beq_eq_true h).symm hne
      simp [find, this, ih]

theorem find_del_self {α : Type} (l : List (Nat × α)) (k : Nat) : find (del l k) k = none := by
  induction l with
  | nil => simp [del, find]
  | cons p l ih =>
    obtain ⟨a, y⟩ := p
    simp only [del]
    cases h : Nat.beq a k
    · simp [find, h, ih]
    · simp [ih]

theorem mem_iff (l : List Nat) (k : Nat) : mem l k = true ↔ k ∈ l := by
  induction l with
  | nil => simp [mem]
  | cons a l ih =>
    simp only [mem]
    cases h : Nat.beq a k
    · have : ¬ k = a := by intro e; subst e; simp at h
      simp [ih, this]
    · have := Nat.eq_of_beq_eq_true h
      simp [this]

theorem mem_false_iff (l : List Nat) (k : Nat) : mem l k = false ↔ k ∉ l := by
  rw [← mem_iff]; cases mem l k <;> simp

theorem find_delL {l : List (Nat × RC E.Ty)} (ks : List Nat) (j : Nat) : find (delL l ks) j = if j ∈ ks then none else find l j := by
  induction ks generalizing l with
  | nil => simp [delL]
  | cons k ks ih =>
    simp only [delL, ih]
    by_cases h : j ∈ ks
    · simp [h]
    · by_cases hk : j = k
      · subst hk; simp [h, find_del_self]
      · simp [h, hk, find_del_ne l k j hk]

theorem find_frzR {l : List (Nat × RC E.Ty)} (fs : List Nat) (j : Nat) : find (frzR l fs) j = (find l j).map fun rc => if j ∈ fs then frzOf rc else rc := by
  induction l with
  | nil => simp [frzR, find]
  | cons p l ih =>
    obtain ⟨a, rc⟩ := p
    simp only [frzR]
    cases hm : mem fs a
    · simp only [find]
      cases h : Nat.beq a j
      · simpa using ih
      · have haj := Nat.eq_of_beq_eq_true h
        subst haj
        have := (mem_false_iff fs a).1 hm
        simp [this]
    · simp only [find]
      cases h : Nat.beq a j
      · simpa using ih
      · have haj := Nat.eq_of_beq_eq_true h
        subst haj
        have := (mem_iff fs a).1 hm
        simp only [this, if_true, Option.map_some]
        cases rc <;> rfl

theorem find_putL {l : List (Nat × RC E.Ty)} (ws : List (Nat × RC E.Ty)) (j : Nat) (hnd : (ws.map (·.1)).Nodup) :
    find (putL l ws) j = match find ws j with | some rc => some rc | none => find l j := by
  induction ws generalizing l with
  | nil => simp [putL, find]
  | cons p ws ih =>
    obtain ⟨r, rc⟩ := p
    simp only [List.map_cons, List.nodup_cons] at hnd
    simp only [putL, find]
    rw [ih hnd.2]
    cases h : Nat.beq r j
    · have hne : j ≠ r := by intro e; subst e; simp at h
      simp [find_put_ne l r j rc hne]
    · have := Nat.eq_of_beq_eq_true h
      subst this
      have hnone : find ws r = none := by
        have hn := hnd.1
        clear ih hnd
        induction ws with
        | nil => rfl
        | cons q ws ih2 =>
          obtain ⟨a, x⟩ := q
          simp only [List.map_cons, List.mem_cons, not_or] at hn
          have : Nat.beq a r = false := by
            cases h : Nat.beq a r
            · rfl
            · exact absurd (Nat.eq_of_beq_eq_true h).symm hn.1
          simp [find, this, ih2 hn.2]
      simp [hnone, find_put_self]

theorem find_append {α : Type} (l m : List (Nat × α)) (j : Nat) : find (l ++ m) j = match find l j with | some x => some x | none => find m j := by
  induction l with
  | nil => simp [find]
  | cons p l ih =>
    obtain ⟨a, y⟩ := p
    simp only [List.cons_append, find]
    cases h : Nat.beq a j
    · simpa using ih
    · rfl

theorem find_newL {base : Nat} (l : List (RC E.Ty)) (j : Nat) : find (newL base l) j = if j < base then none else l[j - base]? := by
  induction l generalizing base with
  | nil => simp [newL, find]
  | cons rc l ih =>
    simp only [newL, find]
    cases h : Nat.beq base j
    · have hne : base ≠ j := by intro e; subst e; simp at h
      rw [ih]
      by_cases h1 : j < base
      · simp [h1, show j < base + 1 by omega]
      · have : j - base = (j - (base + 1)) + 1 := by omega
        simp [h1, show ¬ j < base + 1 by omega, this]
    · have := Nat.eq_of_beq_eq_true h
      subst this
      simp

theorem mem_of_find {α : Type} {l : List (Nat × α)} {j : Nat} {x : α} (h : find l j = some x) : (j, x) ∈ l := by
  induction l with
  | nil => simp [find] at h
  | cons p l ih =>
    obtain ⟨a, y⟩ := p
    simp only [find] at h
    cases hb : Nat.beq a j
    · rw [hb] at h; exact List.mem_cons_of_mem _ (ih h)
    · rw [hb] at h
      have := Nat.eq_of_beq_eq_true hb
      subst this
      simp at h; subst h; simp

/-! memory -/

/-- what is fixed in a call: the world in which it began, what may be read then, the variables that were handed in -/
structure Cx where
  w0 : World
  S0 : Nat → Prop
  M : Nat → Prop
  args : Array Value
  n : Nat

structure Mem (E : Env) (cx : Cx) (S : Nat → Prop) (β : Nat → Value) (ω : Nat → List Nat) (D : Nat → Prop) (roots : List (Nat × RC E.Ty)) (w : World) : Prop where
  lt : ∀ r rc, find roots r = some rc → D r
  ok : ∀ r rc, find roots r = some rc → RootOk E w S β D (β r) (ω r) rc
  dis : ∀ r r' rc rc', find roots r = some rc → find roots r' = some rc' → r ≠ r' → ∀ b ∈ ω r, b ∉ ω r'
  ob : ∀ r rc, find roots r = some rc → ∀ b ∈ ω r, ¬ S b ∧ b < w.heap.size ∧ (cx.w0.heap.size ≤ b ∨ cx.M b)
  sb : ∀ b, S b → b < w.heap.size
  sn : ∀ b, S b → cx.S0 b ∨ cx.w0.heap.size ≤ b ∨ cx.M b
  fr : ∀ b, b < cx.w0.heap.size → ¬ cx.M b → w.heap[b]? = cx.w0.heap[b]?
  sz : cx.w0.heap.size ≤ w.heap.size
  os : w.os = cx.w0.os
  tape : w.tape = cx.w0.tape
  out : w.output = cx.w0.output
  up : ∀ b, cx.S0 b → S b

/-- the numbers in use, and some more -/
def Grown (D : Nat → Prop) (nx k : Nat) : Nat → Prop := fun r => D r ∨ (nx ≤ r ∧ r < nx + k)

/-- an effect that has come to pass -/
structure Done (E : Env) (w : World) (S : Nat → Prop) (β : Nat → Value) (ω : Nat → List Nat) (D : Nat → Prop) (roots : List (Nat × RC E.Ty)) (nx : Nat) (e : Eff E)
    (S' : Nat → Prop) (β' : Nat → Value) (ω' : Nat → List Nat) (w' : World) : Prop where
  hs : ∀ b, S b → S' b
  hn : ∀ b, S' b → S b ∨ w.heap.size ≤ b ∨ ∃ r, (r ∈ e.frz ∨ r ∈ e.kill) ∧ (∃ rc, find roots r = some rc) ∧ b ∈ ω r
  hb : ∀ b, S' b → b < w'.heap.size
  bt : ∀ r, D r → β' r = β r
  om : ∀ r, D r → ω' r = if r ∈ e.frz then [] else ω r
  heap : ∀ b, b < w.heap.size → (∀ r ∈ e.wr.map (·.1), b ∉ ω r) → (∀ r ∈ e.kill, b ∉ ω r) → w'.heap[b]? = w.heap[b]?
  sz : w.heap.size ≤ w'.heap.size
  os : w'.os = w.os
  tape : w'.tape = w.tape
  out : w'.output = w.output
  wr : ∀ r rc, (r, rc) ∈ e.wr → (∃ rc, find roots r = some rc) ∧ RootOk E w' S' β' (Grown D nx e.new.length) (β r) (ω r) rc
  kl : ∀ r ∈ e.kill, ∃ rc, find roots r = some rc
  new : ∀ i rc, e.new[i]? = some rc → RootOk E w' S' β' (Grown D nx e.new.length) (β' (nx + i)) (ω' (nx + i)) rc
  newb : ∀ i, i < e.new.length → ∀ b ∈ ω' (nx + i), ¬ S' b ∧ b < w'.heap.size ∧ (w.heap.size ≤ b ∨ ∃ r ∈ e.kill, b ∈ ω r)
  newd : ∀ i j, i < e.new.length → j < e.new.length → i ≠ j → ∀ b ∈ ω' (nx + i), b ∉ ω' (nx + j)
  frz : ∀ r ∈ e.frz, ∀ rc, find roots r = some rc → RootOk E w' S' β' (Grown D nx e.new.length) (β r) [] (frzOf rc)
  d1 : ∀ r ∈ e.frz, r ∉ e.wr.map (·.1)
  d2 : ∀ r ∈ e.kill, r ∉ e.wr.map (·.1)
  d3 : ∀ r ∈ e.kill, r ∉ e.frz
  nd : (e.wr.map (·.1)).Nodup

variable {cx : Cx} {w w' : World} {S S' : Nat → Prop} {β β' : Nat → Value} {ω ω' : Nat → List Nat} {D : Nat → Prop} {roots : List (Nat × RC E.Ty)} {nx : Nat} {e : Eff E}

theorem find_eff (hnd : (e.wr.map (·.1)).Nodup) (r : Nat) (rc : RC E.Ty) (h : find (effR nx roots e) r = some rc) :
    (r, rc) ∈ e.wr ∨ (r ∉ e.kill ∧ r ∉ e.wr.map (·.1) ∧ ∃ rc0, find roots r = some rc0 ∧ rc = if r ∈ e.frz then frzOf rc0 else rc0) ∨
    (∃ i, r = nx + i ∧ e.new[i]? = some rc) := by
  simp only [effR] at h
  rw [find_append, find_putL _ _ hnd, find_frzR, find_delL, find_newL] at h
  cases hw : find e.wr r with
  | some rc' =>
    rw [hw] at h
    simp at h; subst h
    exact .inl (mem_of_find hw)
  | none =>
    rw [hw] at h
    simp only [] at h
    have hnw : r ∉ e.wr.map (·.1) := by
      intro hmem
      have : ∀ (l : List (Nat × RC E.Ty)), r ∈ l.map (·.1) → find l r ≠ none := by
        intro l
        induction l with
        | nil => simp
        | cons p l ih =>
          obtain ⟨a, x⟩ := p
          intro hm
          simp only [find]
          cases hb : Nat.beq a r
          · simp only [List.map_cons, List.mem_cons] at hm
            rcases hm with hm | hm
            · exact absurd hm.symm (by intro e; subst e; simp at hb)
            · exact ih hm
          · simp
      exact this _ hmem hw
    by_cases hk : r ∈ e.kill
    · simp only [hk, if_true, Option.map_none] at h
      by_cases hr : r < nx
      · simp [hr] at h
      · simp only [hr, if_false] at h
        exact .inr (.inr ⟨r - nx, by omega, h⟩)
    · simp only [hk, if_false] at h
      cases h0 : find roots r with
      | some rc0 =>
        rw [h0] at h
        simp only [Option.map_some, Option.some.injEq] at h
        exact .inr (.inl ⟨hk, hnw, rc0, rfl, h.symm⟩)
      | none =>
        rw [h0] at h
        simp only [Option.map_none] at h
        by_cases hr : r < nx
        · simp [hr] at h
        · simp only [hr, if_false] at h
          exact .inr (.inr ⟨r - nx, by omega, h⟩)

theorem Mem.step (hm : Mem E cx S β ω D roots w) (hd : Done E w S β ω D roots nx e S' β' ω' w') :
    Mem E cx S' β' ω' (Grown D nx e.new.length) (effR nx roots e) w' := by
  have hfe := find_eff (roots := roots) (nx := nx) (e := e) hd.nd
  have hnew : ∀ i rc, e.new[i]? = some rc → i < e.new.length := by
    intro i rc hi
    rcases Nat.lt_or_ge i e.new.length with h | h
    · exact h
    · rw [List.getElem?_eq_none h] at hi; cases hi
  -- blocks that are read only stay
  have hSst : ∀ b, S b → w'.heap[b]? = w.heap[b]? := by
    intro b hb
    refine hd.heap b (hm.sb b hb) ?_ ?_
    · intro r hr hbr
      obtain ⟨⟨r', rc⟩, hm1, rfl⟩ := List.mem_map.1 hr
      obtain ⟨rc0, h0⟩ := (hd.wr r' rc hm1).1
      exact (hm.ob r' rc0 h0 b hbr).1 hb
    · intro r hr hbr
      obtain ⟨rc0, h0⟩ := hd.kl r hr
      exact (hm.ob r rc0 h0 b hbr).1 hb
  -- blocks of a root that isn't written stay
  have hrst : ∀ r rc, find roots r = some rc → r ∉ e.kill → r ∉ e.wr.map (·.1) → ∀ b ∈ ω r, w'.heap[b]? = w.heap[b]? := by
    intro r rc h0 hk hw b hb
    refine hd.heap b (hm.ob r rc h0 b hb).2.1 ?_ ?_
    · intro r' hr' hbr
      obtain ⟨⟨r'', rc''⟩, hm1, rfl⟩ := List.mem_map.1 hr'
      obtain ⟨rc1, h1⟩ := (hd.wr r'' rc'' hm1).1
      exact hm.dis r r'' rc rc1 h0 h1 (fun e => hw (e ▸ hr')) b hb hbr
    · intro r' hr' hbr
      obtain ⟨rc1, h1⟩ := hd.kl r' hr'
      exact hm.dis r r' rc rc1 h0 h1 (fun e => hk (e ▸ hr')) b hb hbr
  -- the blocks that a root owns then: its own, or new ones
  have hown : ∀ r rc, find (effR nx roots e) r = some rc → ∀ b ∈ ω' r, ¬ S' b ∧ b < w'.heap.size ∧ (cx.w0.heap.size ≤ b ∨ cx.M b) ∧
      ((r ∉ e.kill ∧ b ∈ ω r ∧ ∃ rc0, find roots r = some rc0) ∨ (∃ i, r = nx + i ∧ i < e.new.length)) := by
    intro r rc h b hb
    rcases hfe r rc h with hw | ⟨hk, hw, rc0, h0, rfl⟩ | ⟨i, rfl, hi⟩
    · obtain ⟨rc0, h0⟩ := (hd.wr r rc hw).1
      have hnf : r ∉ e.frz := fun hf => hd.d1 r hf (List.mem_map.2 ⟨(r, rc), hw, rfl⟩)
      rw [hd.om r (hm.lt r rc0 h0), if_neg hnf] at hb
      have ho := hm.ob r rc0 h0 b hb
      refine ⟨?_, Nat.lt_of_lt_of_le ho.2.1 hd.sz, ho.2.2, .inl ⟨fun hk => hd.d2 r hk (List.mem_map.2 ⟨(r, rc), hw, rfl⟩), hb, rc0, h0⟩⟩
      intro hs
      rcases hd.hn b hs with h1 | h1 | ⟨r', hr', ⟨rc1, h1⟩, hbr⟩
      · exact ho.1 h1
      · omega
      · rcases hr' with hr' | hr'
        · exact hm.dis r r' rc0 rc1 h0 h1 (fun e => hnf (e ▸ hr')) b hb hbr
        · exact hm.dis r r' rc0 rc1 h0 h1 (fun e => hd.d2 r' hr' (e ▸ List.mem_map.2 ⟨(r, rc), hw, rfl⟩)) b hb hbr
    · by_cases hf : r ∈ e.frz
      · rw [hd.om r (hm.lt r rc0 h0), if_pos hf] at hb; simp at hb
      · rw [hd.om r (hm.lt r rc0 h0), if_neg hf] at hb
        have ho := hm.ob r rc0 h0 b hb
        refine ⟨?_, Nat.lt_of_lt_of_le ho.2.1 hd.sz, ho.2.2, .inl ⟨hk, hb, rc0, h0⟩⟩
        intro hs
        rcases hd.hn b hs with h1 | h1 | ⟨r', hr', ⟨rc1, h1⟩, hbr⟩
        · exact ho.1 h1
        · omega
        · rcases hr' with hr' | hr'
          · exact hm.dis r r' rc0 rc1 h0 h1 (fun e => hf (e ▸ hr')) b hb hbr
          · exact hm.dis r r' rc0 rc1 h0 h1 (fun e => hk (e ▸ hr')) b hb hbr
    · have hil := hnew i rc hi
      have hn := hd.newb i hil b hb
      refine ⟨hn.1, hn.2.1, ?_, .inr ⟨i, rfl, hil⟩⟩
      rcases hn.2.2 with h1 | ⟨r', hr', hbr⟩
      · exact .inl (Nat.le_trans hm.sz h1)
      · obtain ⟨rc1, h1⟩ := hd.kl r' hr'
        exact (hm.ob r' rc1 h1 b hbr).2.2
  refine ⟨?_, ?_, ?_, ?_, hd.hb, ?_, ?_, Nat.le_trans hm.sz hd.sz, hd.os.trans hm.os, hd.tape.trans hm.tape, hd.out.trans hm.out, fun b hb => hd.hs b (hm.up b hb)⟩
  · intro r rc h
    rcases hfe r rc h with hw | ⟨_, _, rc0, h0, _⟩ | ⟨i, rfl, hi⟩
    · obtain ⟨rc0, h0⟩ := (hd.wr r rc hw).1
      exact .inl (hm.lt r rc0 h0)
    · exact .inl (hm.lt r rc0 h0)
    · have := hnew i rc hi
      exact .inr ⟨by omega, by omega⟩
  · intro r rc h
    rcases hfe r rc h with hw | ⟨hk, hw, rc0, h0, rfl⟩ | ⟨i, rfl, hi⟩
    · obtain ⟨rc0, h0⟩ := (hd.wr r rc hw).1
      have hnf : r ∉ e.frz := fun hf => hd.d1 r hf (List.mem_map.2 ⟨(r, rc), hw, rfl⟩)
      rw [hd.bt r (hm.lt r rc0 h0), hd.om r (hm.lt r rc0 h0), if_neg hnf]
      exact (hd.wr r rc hw).2
    · rw [hd.bt r (hm.lt r rc0 h0), hd.om r (hm.lt r rc0 h0)]
      by_cases hf : r ∈ e.frz
      · simp only [hf, if_true]; exact hd.frz r hf rc0 h0
      · simp only [hf, if_false]
        exact (hm.ok r rc0 h0).mono (hrst r rc0 h0 hk hw) hSst hd.hs (fun _ h => .inl h) hd.bt
    · exact hd.new i rc hi
  · intro r r' rc rc' h h' hne b hb hb'
    have o1 := (hown r rc h b hb).2.2.2
    have o2 := (hown r' rc' h' b hb').2.2.2
    rcases o1 with ⟨hk, hbr, rc0, h0⟩ | ⟨i, rfl, hi⟩ <;> rcases o2 with ⟨hk', hbr', rc1, h1⟩ | ⟨j, rfl, hj⟩
    · exact hm.dis r r' rc0 rc1 h0 h1 hne b hbr hbr'
    · have hn := hd.newb j hj b hb'
      rcases hn.2.2 with h2 | ⟨r2, hr2, hbr2⟩
      · have := (hm.ob r rc0 h0 b hbr).2.1; omega
      · obtain ⟨rc2, h2⟩ := hd.kl r2 hr2
        exact hm.dis r r2 rc0 rc2 h0 h2 (fun e => hk (e ▸ hr2)) b hbr hbr2
    · have hn := hd.newb i hi b hb
      rcases hn.2.2 with h2 | ⟨r2, hr2, hbr2⟩
      · have := (hm.ob r' rc1 h1 b hbr').2.1; omega
      · obtain ⟨rc2, h2⟩ := hd.kl r2 hr2
        exact hm.dis r' r2 rc1 rc2 h1 h2 (fun e => hk' (e ▸ hr2)) b hbr' hbr2
    · exact hd.newd i j hi hj (by omega) b hb hb'
  · intro r rc h b hb
    have o := hown r rc h b hb
    exact ⟨o.1, o.2.1, o.2.2.1⟩
  · intro b hb
    rcases hd.hn b hb with h1 | h1 | ⟨r, hr, ⟨rc0, h0⟩, hbr⟩
    · exact hm.sn b h1
    · exact .inr (.inl (Nat.le_trans hm.sz h1))
    · exact .inr ((hm.ob r rc0 h0 b hbr).2.2)
  · intro b hb hM
    rw [hd.heap b (Nat.lt_of_lt_of_le hb hm.sz) ?_ ?_]
    · exact hm.fr b hb hM
    · intro r hr hbr
      obtain ⟨⟨r', rc⟩, hm1, rfl⟩ := List.mem_map.1 hr
      obtain ⟨rc0, h0⟩ := (hd.wr r' rc hm1).1
      rcases (hm.ob r' rc0 h0 b hbr).2.2 with h2 | h2
      · omega
      · exact hM h2
    · intro r hr hbr
      obtain ⟨rc0, h0⟩ := hd.kl r hr
      rcases (hm.ob r rc0 h0 b hbr).2.2 with h2 | h2
      · omega
      · exact hM h2

end

end Go.Proofs.Ytejfpemjmpoddaa.Vx
/-! One operation: what the machine says of it comes to pass. -/
namespace Go.Proofs.Ytejfpemjmpoddaa.Vx
open Go

section
variable (P : Program) {E : Env}

/-- how a type's kind is told in the program -/
def KindOk (t : Nat) : TK → Prop
  | .int k => P.underlying t = some (.int k)
  | .bool => P.underlying t = some .bool
  | .string => P.underlying t = some .string
  | .slice e => P.underlying t = some (.slice e)
  | .struct fs => ∃ fields, P.underlying t = some (.struct fields) ∧ fields.toList.map (fun f => (f.offset, f.type)) = fs ∧
      ∀ f ∈ fields, ∃ i, P.info? f.type = some i ∧ i.size ≠ 0
  | .pointer e => P.underlying t = some (.pointer e)
  | .other => True

def zv (E : Env) : TK → Option Value
  | .int k => some (.int k 0)
  | .bool => some (.bool false)
  | .string => some (.string ⟨#[]⟩)
  | .slice _ => some (.slice none 0 0)
  | _ => none

def zvL (E : Env) : List Nat → Option (List Value)
  | [] => some []
  | t :: ts => match E.ti t with
    | some d => match zv E d.kind with
      | some z => match zvL E ts with
        | some zs => some (z :: zs)
        | none => none
      | none => none
    | none => none

/-- what is told of types is so -/
structure TIok (P : Program) (E : Env) : Prop where
  info : ∀ t d, E.ti t = some d → ∃ i, P.info? t = some i ∧ i.size = d.size ∧ i.bytes = d.bytes ∧ (∀ zs, zvL E d.leafs = some zs → ∃ z, i.zero = some z ∧ z.cells.toList = zs)
  kind : ∀ t d, E.ti t = some d → KindOk P t d.kind
  leafs : ∀ t d, E.ti t = some d → d.leafs.length = d.size

variable {P}
variable {cx : Cx} {w : World} {S : Nat → Prop} {β : Nat → Value} {ω : Nat → List Nat} {D : Nat → Prop} {roots : List (Nat × RC E.Ty)} {nx : Nat} {a : Act} {o : Oper}

def Okay (P : Program) (o : Oper) (a : Act) (w : World) (S : Nat → Prop) (β : Nat → Value) (ω : Nat → List Nat) (D : Nat → Prop) (roots : List (Nat × RC E.Ty)) (nx : Nat) (e : Eff E) : Prop :=
  ∀ (K : Act → World → Prop) (Q : Exit → Act → World → Prop), (∀ k, k < e.new.length → ¬ D (nx + k)) →
    (∀ v S' β' ω' w', Done E w S β ω D roots nx e S' β' ω' w' → RV E w' S' β' (Grown D nx e.new.length) e.val v → K (a.put o.dst v) w') → o.wp P a w K Q

def AskOk (O : Orc E) {α : Type} (good : α → Prop) (roots : List (Nat × RC E.Ty)) : Ask E α → Prop
  | .fail => True
  | .ret e => good e
  | .ask r k => ∀ rc, find roots r = some rc → AskOk O good roots (k rc)
  | .rd r k => ∀ rc, find roots r = some rc → AskOk O good roots (k (frzOf rc))
  | .chk b k => b = true → AskOk O good roots k
  | .call f x _ k => ∀ y, O.call f x = some y → AskOk O good roots (k y)

/-- more numbers in use -/
theorem RV.wide {D' : Nat → Prop} {v : V E.Ty} {cv : Value} (h : RV E w S β D v cv) (hd : ∀ r, D r → D' r) : RV E w S β D' v cv :=
  h.mono (fun _ _ => rfl) (fun _ h => h) hd (fun _ _ => rfl)
theorem RootOk.wide {D' : Nat → Prop} {v : Value} {ob : List Nat} {rc : RC E.Ty} (h : RootOk E w S β D v ob rc) (hd : ∀ r, D r → D' r) : RootOk E w S β D' v ob rc :=
  h.mono (fun _ _ => rfl) (fun _ _ => rfl) (fun _ h => h) hd (fun _ _ => rfl)

theorem Done.still (hm : Mem E cx S β ω D roots w) (v : V E.Ty) : Done E w S β ω D roots nx ⟨v, [], [], [], []⟩ S β ω w where
  hs _ h := h
  hn _ h := .inl h
  hb := hm.sb
  bt _ _ := rfl
  om _ _ := by simp
  heap _ _ _ _ := rfl
  sz := Nat.le_refl _
  os := rfl
  tape := rfl
  out := rfl
  wr _ _ h := by simp at h
  kl _ h := by simp at h
  new i rc h := by simp at h
  newb i h := by simp at h
  newd i j h := by simp at h
  frz _ h := by simp at h
  d1 _ h := by simp at h
  d2 _ h := by simp at h
  d3 _ h := by simp at h
  nd := by simp

/-- an operation that yields a value and leaves the world alone -/
theorem Okay.val (hm : Mem E cx S β ω D roots w) {v : V E.Ty} {cv : Value} (hr : (execOp a.eval o).run P w = .ok (.value cv) w) (hv : RV E w S β D v cv) :
    Okay P o a w S β ω D roots nx ⟨v, [], [], [], []⟩ := by
  intro K Q _ h
  unfold Oper.wp
  rw [hr, Oper.upon_value]
  exact h cv S β ω w (Done.still hm v) (hv.wide (fun _ h => .inl h))

/-- likewise, where the world has been drawn from -/
theorem askOk_fail {O : Orc E} {α : Type} {good : α → Prop} : AskOk O good roots (Ask.fail : Ask E α) := trivial

/-- inversion of meanings -/
theorem RV.int_inv {k : IntKind} {x : Int} {cv : Value} (h : RV E w S β D (.int k x) cv) : cv = .int k x := by cases h; rfl
theorem RV.bool_inv {b : Bool} {cv : Value} (h : RV E w S β D (.bool b) cv) : cv = .bool b := by cases h; rfl
theorem RV.str_inv {s : List UInt8} {cv : Value} (h : RV E w S β D (.str s) cv) : cv = .string ⟨s.toArray⟩ := by cases h; rfl
theorem RV.own_inv {r : Nat} {cv : Value} (h : RV E w S β D (.own r) cv) : cv = β r ∧ D r := by
  cases h with | own r A m c h1 h2 => exact ⟨h2.symm, h1⟩
theorem RV.agg_inv {cs : List (V E.Ty)} {cv : Value} (h : RV E w S β D (.agg cs) cv) : ∃ vs : Array Value, cv = .agg vs ∧ vs.size = cs.length ∧ ∀ i c, cs[i]? = some c → RV E w S β D c (vs.getD i undef) := by
  cases h with | agg _ vs hl h => exact ⟨vs, rfl, hl, h⟩
theorem RV.tup_inv {cs : List (V E.Ty)} {cv : Value} (h : RV E w S β D (.tup cs) cv) : ∃ vs : Array Value, cv = .tuple vs ∧ vs.size = cs.length ∧ ∀ i c, cs[i]? = some c → RV E w S β D c (vs.getD i undef) := by
  cases h with | tup _ vs hl h => exact ⟨vs, rfl, hl, h⟩

/-- the reading of operands -/
structure Reads (a : Act) (w : World) (S : Nat → Prop) (β : Nat → Value) (D : Nat → Prop) (rd : List (Nat × Bool) → Operand → Option (V E.Ty)) : Prop where
  one : ∀ x v, rd [] x = some v → RV E w S β D v (a.eval x)
  gd : ∀ c t x v, rd [] (.tmp c) = some (.bool t) → rd [(c, t)] x = some v → RV E w S β D v (a.eval x)

variable {O : Orc E} {rd : List (Nat × Bool) → Operand → Option (V E.Ty)} {g : Bool}

theorem optA_ok (hm : Mem E cx S β ω D roots w) {x : Option (V E.Ty)} {cv : Value} (hr : (execOp a.eval o).run P w = .ok (.value cv) w) (h : ∀ v, x = some v → RV E w S β D v cv) :
    AskOk O (Okay P o a w S β ω D roots nx) roots (optA x) := by
  cases x with
  | none => exact askOk_fail
  | some v => exact Okay.val hm hr (h v rfl)

theorem move_ok (hm : Mem E cx S β ω D roots w) (hrd : Reads a w S β D rd) (x : Operand) (ho : o.op = .move x) :
    AskOk O (Okay P o a w S β ω D roots nx) roots (opA o g rd nx) := by
  simp only [opA, ho]
  exact optA_ok hm (by simp [execOp, ho]) (fun v h => hrd.one x v h)

theorem assign_ok (hm : Mem E cx S β ω D roots w) (hrd : Reads a w S β D rd) (x : Operand) (ho : o.op = .assign x) :
    AskOk O (Okay P o a w S β ω D roots nx) roots (opA o g rd nx) := by
  simp only [opA, ho]
  exact optA_ok hm (by simp [execOp, ho]) (fun v h => hrd.one x v h)

theorem pick_ok (hm : Mem E cx S β ω D roots w) (hrd : Reads a w S β D rd) (x y z : Operand) (ho : o.op = .pick x y z) :
    AskOk O (Okay P o a w S β ω D roots nx) roots (opA o g rd nx) := by
  cases x with
  | tmp c =>
    simp only [opA, ho]
    cases hc : rd [] (.tmp c) with
    | none => exact askOk_fail
    | some cv =>
      cases hy : rd [(c, true)] y with
      | none => cases cv <;> exact askOk_fail
      | some u =>
        cases hz : rd [(c, false)] z with
        | none => cases cv <;> exact askOk_fail
        | some v =>
          cases cv with
          | bool t =>
            have h1 := (hrd.one _ _ hc).bool_inv
            refine optA_ok hm (cv := if t then a.eval y else a.eval z) (by simp [execOp, ho, h1, asBool]) ?_
            intro r hr
            cases t with
            | true =>
              have h2 := hrd.gd c true y u hc hy
              cases u <;> cases v <;> simp only [pickV] at hr <;> first
                | (simp at hr; done)
                | (simp at hr; subst hr; simpa using h2)
                | (split at hr <;> first | (simp at hr; done) | (simp at hr; subst hr; simpa using h2))
            | false =>
              have h2 := hrd.gd c false z v hc hz
              cases u <;> cases v <;> simp only [pickV] at hr <;> first
                | (simp at hr; done)
                | (simp at hr; subst hr; simpa using h2)
                | (split at hr <;> first | (simp at hr; done) | (rename_i hk; have := of_decide_eq_true hk; subst this; simp at hr; subst hr; simpa using h2))
          | _ => exact askOk_fail
  | _ => simp only [opA, ho]; exact askOk_fail

theorem RV.ptr_inv {r off : Nat} {cv : Value} (h : RV E w S β D (.ptr r off) cv) : ∃ b, cv = .pointer (some ⟨b, off, none⟩) ∧ D r ∧ β r = .pointer (some ⟨b, 0, none⟩) := by
  cases h with | ptr r off b h1 h2 => exact ⟨b, rfl, h1, h2⟩
theorem RV.eptr_inv {κ r i off : Nat} {cv : Value} (h : RV E w S β D (.eptr κ r i off) cv) :
    ∃ b q m c, cv = .pointer (some ⟨b, q + (i * szOf E κ + off), none⟩) ∧ D r ∧ β r = .slice (some ⟨b, q, none⟩) m c := by
  cases h with | eptr κ r i off b q m c h1 h2 => exact ⟨b, q, m, c, rfl, h1, h2⟩
theorem RV.rptr_inv {κ off : Nat} {x : E.Ty κ} {cv : Value} (h : RV E w S β D (.rptr κ x off) cv) :
    ∃ (b q : Nat) (F : Nat → Value), cv = .pointer (some ⟨b, q + off, none⟩) ∧ S b ∧ (∀ j cv, (E.cells κ x)[j]? = some cv → w.cell? ⟨b, q + j, none⟩ = some (F j)) ∧
      ∀ j cv, (E.cells κ x)[j]? = some cv → RV E w S β D cv (F j) := by
  cases h with | rptr κ x off b q F h1 h2 h3 => exact ⟨b, q, F, rfl, h1, h2, h3⟩
theorem RV.nl_inv {cv : Value} (h : RV E w S β D .nl cv) : ∃ A, cv = .slice A 0 0 := by cases h with | nl A => exact ⟨A, rfl⟩
theorem RV.fn_inv {f : Nat} {cs : List (V E.Ty)} {cv : Value} (h : RV E w S β D (.fn f cs) cv) :
    ∃ vs : Array Value, cv = .func (.func f) #[] vs ∧ vs.size = cs.length ∧ ∀ i c, cs[i]? = some c → RV E w S β D c (vs.getD i undef) := by
  cases h with | fn f cs vs hl h => exact ⟨vs, rfl, hl, h⟩
/-- a row that is only read: its value, and its cells -/
theorem RV.sl_inv {κ : Nat} {xs : List (E.Ty κ)} {cv : Value} (h : RV E w S β D (.sl κ xs) cv) :
    ∃ A c, cv = .slice A xs.length c ∧ xs.length ≤ c ∧ (xs = [] ∨ ∃ (b q : Nat) (F : Nat → Nat → Value), A = some ⟨b, q, none⟩ ∧ S b ∧
      (∀ i x, xs[i]? = some x → ∀ j cv, (E.cells κ x)[j]? = some cv → w.cell? ⟨b, q + (i * szOf E κ + j), none⟩ = some (F i j)) ∧
      (∀ i x, xs[i]? = some x → ∀ j cv, (E.cells κ x)[j]? = some cv → RV E w S β D cv (F i j))) := by
  cases h with
  | slE κ A c => exact ⟨A, c, rfl, Nat.zero_le _, .inl rfl⟩
  | sl κ xs b q c F hc hS h1 h2 => exact ⟨_, c, rfl, hc, .inr ⟨b, q, F, rfl, hS, h1, h2⟩⟩

theorem nilCheck_ok (hm : Mem E cx S β ω D roots w) (hrd : Reads a w S β D rd) (x : Operand) (ho : o.op = .nilCheck x) :
    AskOk O (Okay P o a w S β ω D roots nx) roots (opA o g rd nx) := by
  simp only [opA, ho]
  cases hx : rd [] x with
  | none => exact askOk_fail
  | some v =>
    have h := hrd.one _ _ hx
    cases v with
    | ptr r off =>
      obtain ⟨b, hb, _⟩ := h.ptr_inv
      exact Okay.val hm (cv := a.eval x) (by simp [execOp, ho, hb]) h
    | rptr κ y off =>
      obtain ⟨b, q, F, hb, _⟩ := h.rptr_inv
      exact Okay.val hm (cv := a.eval x) (by simp [execOp, ho, hb]) h
    | eptr κ r i off =>
      obtain ⟨b, q, m, c, hb, _⟩ := h.eptr_inv
      exact Okay.val hm (cv := a.eval x) (by simp [execOp, ho, hb]) h
    | _ => exact askOk_fail

theorem extract_ok (hm : Mem E cx S β ω D roots w) (hrd : Reads a w S β D rd) (x : Operand) (i : Nat) (ho : o.op = .extract x i) :
    AskOk O (Okay P o a w S β ω D roots nx) roots (opA o g rd nx) := by
  simp only [opA, ho]
  cases hx : rd [] x with
  | none => exact askOk_fail
  | some v =>
    have h := hrd.one _ _ hx
    cases v with
    | tup vs =>
      obtain ⟨us, hb, hl, h2⟩ := h.tup_inv
      simp only []
      cases hi : vs[i]? with
      | none => exact askOk_fail
      | some u =>
        have hlt : i < us.size := by
          rw [hl]
          rcases Nat.lt_or_ge i vs.length with h | h
          · exact h
          · rw [List.getElem?_eq_none h] at hi; cases hi
        refine Okay.val hm (cv := us.getD i undef) ?_ (h2 i u hi)
        simp [execOp, ho, hb, Instr.extract, hlt]
    | _ => exact askOk_fail

theorem rdL_ok (hrd : Reads a w S β D rd) : ∀ (os : List Operand) (vs : List (V E.Ty)), rdL (rd []) os = some vs →
    vs.length = os.length ∧ ∀ (i : Nat) (v : V E.Ty), vs[i]? = some v → ∃ x, os[i]? = some x ∧ RV E w S β D v (a.eval x)
  | [], vs, h => by simp [rdL] at h; subst h; simp
  | x :: os, vs, h => by
    simp only [rdL] at h
    cases hx : rd [] x with
    | none => simp [hx] at h
    | some v =>
      cases hr : rdL (rd []) os with
      | none => simp [hx, hr] at h
      | some us =>
        simp [hx, hr] at h
        subst h
        have ih := rdL_ok hrd os us hr
        refine ⟨by simp [ih.1], ?_⟩
        intro i u hi
        cases i with
        | zero => simp at hi; subst hi; exact ⟨x, rfl, hrd.one _ _ hx⟩
        | succ i => simpa using ih.2 i u (by simpa using hi)

/-- the array of operands' values, by the meanings -/
theorem evals_ok (hrd : Reads a w S β D rd) (os : Array Operand) (vs : List (V E.Ty)) (h : rdL (rd []) os.toList = some vs) :
    (os.map a.eval).size = vs.length ∧ ∀ (i : Nat) (v : V E.Ty), vs[i]? = some v → RV E w S β D v ((os.map a.eval).getD i undef) := by
  have h1 := rdL_ok hrd os.toList vs h
  refine ⟨by simp [h1.1], ?_⟩
  intro i v hi
  obtain ⟨x, hx, hv⟩ := h1.2 i v hi
  have hlt : i < os.size := by
    rcases Nat.lt_or_ge i os.size with h | h
    · exact h
    · rw [List.getElem?_eq_none (by simpa using h)] at hx; cases hx
  have : (os.map a.eval).getD i undef = a.eval x := by
    have hx' : os[i] = x := by
      have := hx
      rw [Array.getElem?_toList, Array.getElem?_eq_getElem hlt] at this
      simpa using this
    simp [hlt, hx']
  rw [this]; exact hv

theorem makeFunc_ok (hm : Mem E cx S β ω D roots w) (hrd : Reads a w S β D rd) (fn : Fn) (first captured : Array Operand) (ho : o.op = .makeFunc fn first captured) :
    AskOk O (Okay P o a w S β ω D roots nx) roots (opA o g rd nx) := by
  cases fn with
  | func f =>
    simp only [opA, ho]
    cases hf : first.toList with
    | cons x l => simp only []; exact askOk_fail
    | nil =>
      cases hc : rdL (rd []) captured.toList with
      | none => exact askOk_fail
      | some vs =>
        have h := evals_ok hrd captured vs hc
        have hf' : first = #[] := by
          apply Array.ext'
          simpa using hf
        refine Okay.val hm (cv := .func (.func f) #[] (captured.map a.eval)) ?_ (.fn f vs _ h.1 h.2)
        simp [execOp, ho, Instr.makeFunc, hf']
  | _ => simp only [opA, ho]; exact askOk_fail

/-! the fields -/

theorem fieldOf_ok (hT : TIok P E) {t f off u : Nat} (h : fieldOf (E := E) t f = some (off, u)) :
    ∃ fields fd, P.underlying t = some (.struct fields) ∧ fields[f]? = some fd ∧ fd.offset = off ∧ fd.type = u ∧ ∃ i, P.info? fd.type = some i ∧ i.size ≠ 0 := by
  unfold fieldOf at h
  cases hd : E.ti t with
  | none => simp [hd] at h
  | some d =>
    simp only [hd] at h
    have hk := hT.kind t d hd
    cases hkd : d.kind with
    | struct fs =>
      rw [hkd] at hk h
      obtain ⟨fields, h1, h2, h3⟩ := hk
      simp only [] at h
      have h4 : (fields.toList.map fun f => (f.offset, f.type))[f]? = some (off, u) := by rw [h2]; exact h
      rw [List.getElem?_map] at h4
      cases hf : fields.toList[f]? with
      | none => simp [hf] at h4
      | some fd =>
        simp [hf] at h4
        have hf' : fields[f]? = some fd := by rw [← Array.getElem?_toList]; exact hf
        exact ⟨fields, fd, h1, hf', h4.1, h4.2, h3 fd (by
          have := List.mem_of_getElem? hf
          simpa using this)⟩
    | _ => rw [hkd] at h; simp at h

theorem run_underlying_ok {t : Nat} {d : TypeDesc} (h : P.underlying t = some d) (w : World) : (underlying t).run P w = .ok d w := by
  simp [underlying, h]

theorem run_fieldAt (hT : TIok P E) {t f off u : Nat} (h : fieldOf (E := E) t f = some (off, u)) (b q : Nat) (w : World) :
    (Instr.fieldAt t (.pointer (some ⟨b, q, none⟩)) f).run P w = .ok (.pointer (some ⟨b, q + off, none⟩)) w := by
  obtain ⟨fields, fd, h1, h2, h3, h4, i, h5, h6⟩ := fieldOf_ok hT h
  simp only [Instr.fieldAt, Sem.run_bind, run_underlying_ok h1, Result.andThen_ok, h2, Instr.sureAddr, Sem.run_pure, fieldPlace, sizeOf, typeInfo, run_program, h5]
  simp only [Sem.run_ite, h6, if_false, Sem.run_pure, Result.andThen_ok, h3, Addr.add_mid]

theorem fieldAddr_ok (hT : TIok P E) (hm : Mem E cx S β ω D roots w) (hrd : Reads a w S β D rd) (t : Nat) (x : Operand) (f : Nat) (ho : o.op = .fieldAddr t x f) :
    AskOk O (Okay P o a w S β ω D roots nx) roots (opA o g rd nx) := by
  simp only [opA, ho]
  cases hx : rd [] x with
  | none => exact askOk_fail
  | some v =>
    have h := hrd.one _ _ hx
    simp only [fieldAddrA]
    cases hf : fieldOf (E := E) t f with
    | none => exact askOk_fail
    | some p =>
      obtain ⟨off, u⟩ := p
      cases v with
      | ptr r q =>
        obtain ⟨b, hb, h1, h2⟩ := h.ptr_inv
        refine Okay.val hm (cv := .pointer (some ⟨b, q + off, none⟩)) ?_ (.ptr r _ b h1 h2)
        simp [execOp, ho, hb, run_fieldAt hT hf]
      | eptr κ r i q =>
        obtain ⟨b, q0, m, c, hb, h1, h2⟩ := h.eptr_inv
        refine Okay.val hm (cv := .pointer (some ⟨b, q0 + (i * szOf E κ + (q + off)), none⟩)) ?_ (.eptr κ r i _ b q0 m c h1 h2)
        simp [execOp, ho, hb, run_fieldAt hT hf, Nat.add_assoc]
      | rptr κ y q =>
        obtain ⟨b, q0, F, hb, h1, h2, h3⟩ := h.rptr_inv
        refine Okay.val hm (cv := .pointer (some ⟨b, q0 + (q + off), none⟩)) ?_ (.rptr κ y _ b q0 F h1 h2 h3)
        simp [execOp, ho, hb, run_fieldAt hT hf, Nat.add_assoc]
      | _ => exact askOk_fail

end

end Go.Proofs.Ytejfpemjmpoddaa.Vx
/-! Operations, on: what is reckoned, and what is read. -/
namespace Go.Proofs.Ytejfpemjmpoddaa.Vx
open Go

section
variable {P : Program} {E : Env}
variable {cx : Cx} {w : World} {S : Nat → Prop} {β : Nat → Value} {ω : Nat → List Nat} {D : Nat → Prop} {roots : List (Nat × RC E.Ty)} {nx : Nat} {a : Act} {o : Oper}
variable {O : Orc E} {rd : List (Nat × Bool) → Operand → Option (V E.Ty)} {g : Bool}

theorem lt_of_getElem? {α : Type} {l : List α} {i : Nat} {x : α} (h : l[i]? = some x) : i < l.length := by
  rcases Nat.lt_or_ge i l.length with h1 | h1
  · exact h1
  · rw [List.getElem?_eq_none h1] at h; cases h

/-- a type that is no row -/
theorem isAgg_no (hT : TIok P E) {t : Nat} {d : TD} (hd : E.ti t = some d) (hs : ∀ fs, d.kind ≠ .struct fs) (ho : d.kind ≠ .other) (w : World) : (isAgg t).run P w = .ok false w := by
  have hk := hT.kind t d hd
  unfold isAgg
  cases hkd : d.kind <;> rw [hkd] at hk <;> first
    | exact absurd hkd (hs _)
    | exact absurd hkd ho
    | (simp only [KindOk] at hk; simp [run_underlying_ok hk])

theorem isAgg_yes (hT : TIok P E) {t : Nat} {d : TD} (hd : E.ti t = some d) {fs : List (Nat × Nat)} (hs : d.kind = .struct fs) : ∃ fields, P.underlying t = some (.struct fields) := by
  have hk := hT.kind t d hd
  rw [hs] at hk
  obtain ⟨fields, h, _⟩ := hk
  exact ⟨fields, h⟩

/-- a piece of memory that is told by cells, read at a type -/
theorem run_piece (hT : TIok P E) {t : Nat} {d : TD} (hd : E.ti t = some d) {cs ds : List (V E.Ty)} {off : Nat} {v : V E.Ty} (hcut : cut cs off d.size = some ds) (hv : ofCells d ds = some v)
    (b q : Nat) (F : Nat → Value) (h1 : ∀ j cv, cs[j]? = some cv → w.cell? ⟨b, q + j, none⟩ = some (F j)) (h2 : ∀ j cv, cs[j]? = some cv → RV E w S β D cv (F j)) :
    ∃ cv, (Instr.loadAt t (.pointer (some ⟨b, q + off, none⟩))).run P w = .ok cv w ∧ RV E w S β D v cv := by
  unfold cut at hcut
  split at hcut
  case h_2 => cases hcut
  rename_i hle
  have hle := Nat.le_of_ble_eq_true hle
  simp only [Option.some.injEq] at hcut
  have hlen : ds.length = d.size := by rw [← hcut]; simp; omega
  have hget : ∀ j, j < d.size → ds[j]? = cs[off + j]? := by
    intro j hj
    rw [← hcut, List.getElem?_take, List.getElem?_drop]
    simp [hj]
  have hcell : ∀ j, j < d.size → ∃ cv, ds[j]? = some cv ∧ w.cell? ⟨b, q + off + j, none⟩ = some (F (off + j)) ∧ RV E w S β D cv (F (off + j)) := by
    intro j hj
    have hlt : j < ds.length := by omega
    refine ⟨ds[j], List.getElem?_eq_getElem hlt, ?_, ?_⟩
    · rw [Nat.add_assoc]
      exact h1 (off + j) ds[j] (by rw [← hget j hj]; exact List.getElem?_eq_getElem hlt)
    · exact h2 (off + j) ds[j] (by rw [← hget j hj]; exact List.getElem?_eq_getElem hlt)
  obtain ⟨i, hi, his, _⟩ := hT.info t d hd
  unfold ofCells at hv
  split at hv
  · rename_i fs hk
    simp only [Option.some.injEq] at hv
    subst hv
    obtain ⟨fields, hu⟩ := isAgg_yes hT hd hk
    let vs : List Value := (List.range d.size).map fun j => F (off + j)
    have hvl : vs.length = d.size := by simp [vs]
    have hvg : ∀ j, j < d.size → vs[j]? = some (F (off + j)) := by intro j hj; simp [vs, hj]
    have hr := run_loadAt_mid (P := P) w b (q + off) t vs (.struct fields) (by
      intro j v hj
      have hjl : j < d.size := by have := lt_of_getElem? hj; omega
      rw [hvg j hjl] at hj
      obtain ⟨cv, _, h3, _⟩ := hcell j hjl
      rw [h3]; exact hj) hu rfl (by simp [hi, his, hvl])
    refine ⟨_, hr, .agg _ vs.toArray (by simp [hvl, hlen]) ?_⟩
    intro j cv hj
    have hjl : j < d.size := by have := lt_of_getElem? hj; omega
    obtain ⟨cv', h3, _, h5⟩ := hcell j hjl
    rw [h3] at hj; cases hj
    have : vs.toArray.getD j undef = F (off + j) := by simp [vs, hjl]
    rw [this]; exact h5
  · cases hv
  · rename_i c hk1 hk2
    simp only [Option.some.injEq] at hv
    subst hv
    have hds : d.size = 1 := by simpa using hlen.symm
    obtain ⟨cv, h3, h4, h5⟩ := hcell 0 (by omega)
    simp at h3; subst h3
    refine ⟨F (off + 0), ?_, h5⟩
    have hagg := isAgg_no hT hd (fun fs h => hk1 fs h) hk2 w
    rw [Nat.add_zero] at h4
    simp only [Instr.loadAt, Instr.sureAddr, Sem.run_bind, Sem.run_pure, Result.andThen_ok, loadVar, hagg, Bool.false_eq_true, if_false, run_load, h4]
  · cases hv

theorem pieceA_ok (hT : TIok P E) (hm : Mem E cx S β ω D roots w) {t : Nat} {x : Operand} (ho : o.op = .load t x) {cs : List (V E.Ty)} {off b q : Nat} (hx : a.eval x = .pointer (some ⟨b, q + off, none⟩))
    (F : Nat → Value) (h1 : ∀ j cv, cs[j]? = some cv → w.cell? ⟨b, q + j, none⟩ = some (F j)) (h2 : ∀ j cv, cs[j]? = some cv → RV E w S β D cv (F j)) :
    AskOk O (Okay P o a w S β ω D roots nx) roots (pieceA t cs off) := by
  unfold pieceA
  cases hd : E.ti t with
  | none => exact askOk_fail
  | some d =>
    simp only []
    cases hc : cut cs off d.size with
    | none => exact askOk_fail
    | some ds =>
      simp only []
      cases hv : ofCells d ds with
      | none => exact askOk_fail
      | some v =>
        obtain ⟨cv, hr, hrv⟩ := run_piece (P := P) hT hd hc hv b q F h1 h2
        refine Okay.val hm (cv := cv) ?_ hrv
        simp [execOp, ho, hx, hr]

/-- the cells of an owned row, in memory -/
theorem OR.cells (hG : Good E) {κ : Nat} {xs : List (E.Ty κ)} {b q m c : Nat} {ob : List Nat} (h : OR E w S β D κ xs (.slice (some ⟨b, q, none⟩) m c) ob) (hk : (E.dflt κ).isSome)
    {i : Nat} {x : E.Ty κ} (hx : xs[i]? = some x) :
    ∃ F : Nat → Value, ∀ j cv, (E.cells κ x)[j]? = some cv → w.cell? ⟨b, q + (i * szOf E κ + j), none⟩ = some (F j) ∧ RV E w S β D cv (F j) := by
  rcases h with ⟨rfl, _⟩ | ⟨b', q', c', arr, e, _, he, h2, h3, h4, h5⟩
  · simp at hx
  · cases he
    refine ⟨fun j => arr.getD (q + (i * szOf E κ + j)) undef, fun j cv hj => ⟨?_, h5 i x hx j cv hj⟩⟩
    have hi := lt_of_getElem? hx
    have hj' := lt_of_getElem? hj
    rw [hG.len κ x] at hj'
    have h6 : (i + 1) * szOf E κ ≤ c * szOf E κ := Nat.mul_le_mul_right _ (by omega)
    rw [Nat.add_mul, Nat.one_mul] at h6
    have hlt : q + (i * szOf E κ + j) < arr.size := by omega
    simp [World.cell?, h3, hlt]

theorem at?_ok {κ : Nat} {xs : List (E.Ty κ)} {i : Nat} {y : E.Ty κ} (h : at? κ xs i = some y) (hi : i < xs.length) : xs[i]? = some y ∧ (E.dflt κ).isSome := by
  unfold at? at h
  cases hd : E.dflt κ with
  | none => simp [hd] at h
  | some d =>
    simp [hd] at h
    exact ⟨by rw [List.getElem?_eq_getElem hi]; rw [← h]; simp [List.getElem?_eq_getElem hi], by simp⟩

theorem load_ok (hT : TIok P E) (hG : Good E) (hm : Mem E cx S β ω D roots w) (hrd : Reads a w S β D rd) (t : Nat) (x : Operand) (ho : o.op = .load t x) :
    AskOk O (Okay P o a w S β ω D roots nx) roots (opA o g rd nx) := by
  simp only [opA, ho]
  cases hx : rd [] x with
  | none => exact askOk_fail
  | some v =>
    have h := hrd.one _ _ hx
    simp only [loadA]
    cases v with
    | ptr r off =>
      obtain ⟨b, hb, h1, h2⟩ := h.ptr_inv
      intro rc hrc
      have hok := hm.ok r rc hrc
      cases rc with
      | box u cs =>
        obtain ⟨b', _, hb', hbr⟩ := hok
        rw [h2] at hb'; cases hb'
        have hf : ∃ F : Nat → Value, ∀ j cv, cs[j]? = some cv → w.cell? ⟨b, j, none⟩ = some (F j) ∧ RV E w S β D cv (F j) := by
          obtain ⟨arr, e, k1, k2, k3⟩ := hbr
          refine ⟨fun j => arr.getD j undef, fun j cv hj => ⟨?_, k3 j cv hj⟩⟩
          have := lt_of_getElem? hj
          have hlt : j < arr.size := by omega
          simp [World.cell?, k1, hlt]
        obtain ⟨F, hF⟩ := hf
        exact pieceA_ok hT hm ho (b := b) (q := 0) (by simpa using hb) F (fun j cv hj => by simpa using (hF j cv hj).1) (fun j cv hj => (hF j cv hj).2)
      | bfz u cs =>
        obtain ⟨_, b', hb', _, hbr⟩ := hok
        rw [h2] at hb'; cases hb'
        have hf : ∃ F : Nat → Value, ∀ j cv, cs[j]? = some cv → w.cell? ⟨b, j, none⟩ = some (F j) ∧ RV E w S β D cv (F j) := by
          obtain ⟨arr, e, k1, k2, k3⟩ := hbr
          refine ⟨fun j => arr.getD j undef, fun j cv hj => ⟨?_, k3 j cv hj⟩⟩
          have := lt_of_getElem? hj
          have hlt : j < arr.size := by omega
          simp [World.cell?, k1, hlt]
        obtain ⟨F, hF⟩ := hf
        exact pieceA_ok hT hm ho (b := b) (q := 0) (by simpa using hb) F (fun j cv hj => by simpa using (hF j cv hj).1) (fun j cv hj => (hF j cv hj).2)
      | _ => exact askOk_fail
    | eptr κ r i off =>
      obtain ⟨b, q, m, c, hb, h1, h2⟩ := h.eptr_inv
      intro rc hrc
      have hok := hm.ok r rc hrc
      cases rc with
      | arr κ' xs =>
        simp only [frzOf]
        cases hκ : Nat.beq κ' κ with
        | false => simp only []; exact askOk_fail
        | true =>
          have := Nat.eq_of_beq_eq_true hκ
          subst this
          cases ha : at? κ' xs i with
          | none => exact askOk_fail
          | some y =>
            intro hlt
            have hlt := of_decide_eq_true hlt
            obtain ⟨hy, hk⟩ := at?_ok ha hlt
            have hor : OR E w S β D κ' xs (.slice (some ⟨b, q, none⟩) m c) (ω r) := by rw [← h2]; exact hok
            obtain ⟨F, hF⟩ := hor.cells hG hk hy
            exact pieceA_ok hT hm ho (b := b) (q := q + i * szOf E κ') (by rw [hb]; simp [Nat.add_assoc]) F (fun j cv hj => by rw [Nat.add_assoc]; exact (hF j cv hj).1) (fun j cv hj => (hF j cv hj).2)
      | fz κ' xs =>
        simp only [frzOf]
        cases hκ : Nat.beq κ' κ with
        | false => simp only []; exact askOk_fail
        | true =>
          have := Nat.eq_of_beq_eq_true hκ
          subst this
          cases ha : at? κ' xs i with
          | none => exact askOk_fail
          | some y =>
            intro hlt
            have hlt := of_decide_eq_true hlt
            obtain ⟨hy, hk⟩ := at?_ok ha hlt
            obtain ⟨A, c', he, _, hxs⟩ := hok.2.sl_inv
            rw [h2] at he; cases he
            rcases hxs with rfl | ⟨b', q', F, he, _, k1, k2⟩
            · simp at hlt
            · cases he
              exact pieceA_ok hT hm ho (b := b) (q := q + i * szOf E κ') (by rw [hb]; simp [Nat.add_assoc]) (F i) (fun j cv hj => by rw [Nat.add_assoc]; exact k1 i y hy j cv hj) (fun j cv hj => k2 i y hy j cv hj)
      | _ => exact askOk_fail
    | rptr κ y off =>
      obtain ⟨b, q, F, hb, h1, h2, h3⟩ := h.rptr_inv
      exact pieceA_ok hT hm ho hb F h2 h3
    | _ => exact askOk_fail

theorem field_ok (hT : TIok P E) (hm : Mem E cx S β ω D roots w) (hrd : Reads a w S β D rd) (t : Nat) (x : Operand) (f : Nat) (ho : o.op = .field t x f) :
    AskOk O (Okay P o a w S β ω D roots nx) roots (opA o g rd nx) := by
  simp only [opA, ho]
  cases hx : rd [] x with
  | none => exact askOk_fail
  | some v =>
    have h := hrd.one _ _ hx
    simp only [fieldA]
    cases hf : fieldOf (E := E) t f with
    | none => exact askOk_fail
    | some p =>
      obtain ⟨off, u⟩ := p
      cases v with
      | agg cs =>
        obtain ⟨vs, hb, hl, hvs⟩ := h.agg_inv
        obtain ⟨fields, fd, h1, h2, h3, h4, i0, h5, h6⟩ := fieldOf_ok hT hf
        simp only [pieceA]
        cases hd : E.ti u with
        | none => exact askOk_fail
        | some d =>
          simp only []
          cases hc : cut cs off d.size with
          | none => exact askOk_fail
          | some ds =>
            simp only []
            cases hv : ofCells d ds with
            | none => exact askOk_fail
            | some v =>
              unfold cut at hc
              split at hc
              case h_2 => cases hc
              rename_i hle
              have hle := Nat.le_of_ble_eq_true hle
              simp only [Option.some.injEq] at hc
              have hlen : ds.length = d.size := by rw [← hc]; simp; omega
              have hget : ∀ j, j < d.size → ds[j]? = cs[off + j]? := by
                intro j hj
                rw [← hc, List.getElem?_take, List.getElem?_drop]
                simp [hj]
              obtain ⟨i, hi, his, _⟩ := hT.info u d hd
              have hrun : ∀ r, (Go.part fd.type vs fd.offset).run P w = .ok r w → (execOp a.eval o).run P w = .ok (.value r) w := by
                intro r hr
                simp only [execOp, ho, hb, Instr.field, Sem.run_bind, run_underlying_ok h1, Result.andThen_ok, h2, asAgg, Sem.run_pure]
                rw [hr]; rfl
              rw [h3, h4] at hrun
              unfold ofCells at hv
              split at hv
              · rename_i fs hk
                simp only [Option.some.injEq] at hv
                subst hv
                obtain ⟨fields', hu⟩ := isAgg_yes hT hd hk
                refine Okay.val hm (cv := .agg (vs.extract off (off + d.size))) (hrun _ ?_) (.agg _ _ (by simp [hlen]; omega) ?_)
                · simp [Go.part, isAgg, run_underlying_ok hu, sizeOf, typeInfo, hi, his]
                · intro j cv hj
                  have hjl : j < d.size := by have := lt_of_getElem? hj; omega
                  rw [hget j hjl] at hj
                  have := hvs (off + j) cv hj
                  have hlt := lt_of_getElem? hj
                  have he : (vs.extract off (off + d.size)).getD j undef = vs.getD (off + j) undef := by
                    have h8 : j < off + d.size - off := by omega
                    have h9 : off + j < vs.size := by omega
                    have h10 : j < min (off + d.size) vs.size - off := by omega
                    simp [Array.getD, h9, h10]
                  rw [he]; exact this
              · cases hv
              · rename_i c hk1 hk2
                simp only [Option.some.injEq] at hv
                subst hv
                have hds : d.size = 1 := by simpa using hlen.symm
                have hagg := isAgg_no hT hd (fun fs h => hk1 fs h) hk2 w
                have hj := hget 0 (by omega)
                simp only [List.getElem?_cons_zero, Nat.add_zero] at hj
                have h7 := hvs off _ hj.symm
                have hlt := lt_of_getElem? hj.symm
                have h9 : off < vs.size := by omega
                refine Okay.val hm (cv := vs.getD off undef) (hrun _ ?_) h7
                simp only [Go.part, Sem.run_bind, hagg, Result.andThen_ok, Bool.false_eq_true, if_false]
                simp [h9]
              · cases hv
      | _ => exact askOk_fail

theorem toArray_get (s : List UInt8) (i : Nat) : (⟨s.toArray⟩ : ByteArray)[i]? = s[i]? := by
  by_cases h : i < s.length
  · have h' : i < (⟨s.toArray⟩ : ByteArray).size := by simpa [ByteArray.size] using h
    rw [getElem?_pos (⟨s.toArray⟩ : ByteArray) i h', List.getElem?_eq_getElem h]
    rfl
  · have h' : ¬ i < (⟨s.toArray⟩ : ByteArray).size := by simpa [ByteArray.size] using h
    rw [getElem?_neg (⟨s.toArray⟩ : ByteArray) i h', List.getElem?_eq_none (by omega)]

theorem size_toArray (s : List UInt8) : (⟨s.toArray⟩ : ByteArray).size = s.length := by simp [ByteArray.size]

theorem bound_int {n : Int} {m : Int} (h : (decide (0 ≤ n) && decide (n < m)) = true) : 0 ≤ n ∧ n < m := by simpa using h

theorem ti_kind (hT : TIok P E) {t : Nat} {k : TK} {s b : Nat} {l : List Nat} (h : E.ti t = some ⟨k, s, b, l⟩) : KindOk P t k := hT.kind t _ h

theorem index_ok (hT : TIok P E) (hm : Mem E cx S β ω D roots w) (hrd : Reads a w S β D rd) (t : Nat) (x i : Operand) (ho : o.op = .index t x i) :
    AskOk O (Okay P o a w S β ω D roots nx) roots (opA o g rd nx) := by
  simp only [opA, ho]
  cases hx : rd [] x with
  | none => exact askOk_fail
  | some v =>
    have h := hrd.one _ _ hx
    cases hi : rd [] i with
    | none => exact askOk_fail
    | some u =>
      have h' := hrd.one _ _ hi
      cases u with
      | int k n =>
        cases v with
        | str s =>
          simp only [indexA]
          cases hd : E.ti t with
          | none => exact askOk_fail
          | some d =>
            obtain ⟨kd, sz, bt, lf⟩ := d
            cases kd with
            | string =>
              have hk := ti_kind hT hd
              have hv := h.str_inv
              have hn := h'.int_inv
              intro hb
              obtain ⟨h1, h2⟩ := bound_int hb
              have hlt : n.toNat < s.length := by omega
              refine Okay.val hm (cv := .int .u8 (s.getD n.toNat 0).toNat) ?_ (.int _ _)
              have h3 : (⟨s.toArray⟩ : ByteArray)[n.toNat]? = some (s.getD n.toNat 0) := by rw [toArray_get]; simp [List.getElem?_eq_getElem hlt]
              simp only [execOp, ho, hv, hn, Instr.index, asIntOf, Sem.run_bind, Sem.run_pure, Result.andThen_ok, run_underlying_ok hk, h1, if_true, h3]
            | _ => exact askOk_fail
        | _ => simp only [indexA]; split <;> first | exact askOk_fail | (rename_i h0 _; cases h0) | (rename_i h0; cases h0)
      | _ => exact askOk_fail

theorem indexAddr_ok (hT : TIok P E) (hG : Good E) (hm : Mem E cx S β ω D roots w) (hrd : Reads a w S β D rd) (t : Nat) (x i : Operand) (ho : o.op = .indexAddr t x i) :
    AskOk O (Okay P o a w S β ω D roots nx) roots (opA o g rd nx) := by
  simp only [opA, ho]
  cases hx : rd [] x with
  | none => exact askOk_fail
  | some v =>
    have h := hrd.one _ _ hx
    cases hi : rd [] i with
    | none => exact askOk_fail
    | some u =>
      have h' := hrd.one _ _ hi
      cases u with
      | int k n =>
        simp only [indexAddrA]
        cases hd : E.ti t with
        | none => exact askOk_fail
        | some d =>
          obtain ⟨kd, sz, bt, lf⟩ := d
          cases kd with
          | slice e =>
            have hk := ti_kind hT hd
            have hn := h'.int_inv
            have hrun : ∀ (b q m c : Nat) (d : TD), E.ti e = some d → (E.dflt e).isSome → a.eval x = .slice (some ⟨b, q, none⟩) m c → 0 ≤ n → n < m →
                (execOp a.eval o).run P w = .ok (.value (.pointer (some ⟨b, q + (n.toNat * szOf E e + 0), none⟩))) w := by
              intro b q m c d hde hdf hv h1 h2
              obtain ⟨df, hdf⟩ := Option.isSome_iff_exists.1 hdf
              obtain ⟨ie, hie, his, _⟩ := hT.info e d hde
              simp only [execOp, ho, hv, hn, Instr.indexAt, asIntOf, Sem.run_bind, Sem.run_pure, Result.andThen_ok, run_underlying_ok hk, h1, h2, and_self, if_true, sizeOf, typeInfo, run_program, hie, his, Addr.add_mid, szOf, hde, hdf, Nat.add_zero]
            cases v with
            | sl κ xs =>
              simp only []
              obtain ⟨A, c, hv, hc, hxs⟩ := h.sl_inv
              cases hκ : Nat.beq κ e with
              | false => cases at? κ xs n.toNat <;> exact askOk_fail
              | true =>
                have := Nat.eq_of_beq_eq_true hκ
                subst this
                cases hy : at? κ xs n.toNat with
                | none => exact askOk_fail
                | some y =>
                  intro hb
                  obtain ⟨h1, h2⟩ := bound_int hb
                  have hlt : n.toNat < xs.length := by omega
                  obtain ⟨hyx, hks⟩ := at?_ok hy hlt
                  obtain ⟨dd, hdd⟩ := Option.isSome_iff_exists.1 hks
                  obtain ⟨td, htd⟩ := hG.ti κ dd hdd
                  rcases hxs with rfl | ⟨b, q, F, rfl, hS, k1, k2⟩
                  · simp at hlt
                  · exact Okay.val hm (hrun b q xs.length c td htd hks hv h1 (by simpa using h2))
                      (by rw [← Nat.add_assoc]; exact .rptr κ y 0 b (q + n.toNat * szOf E κ) (F n.toNat) hS (fun j cv hj => by rw [Nat.add_assoc]; exact k1 _ _ hyx j cv hj) (fun j cv hj => k2 _ _ hyx j cv hj))
            | own r =>
              obtain ⟨hv, hr⟩ := h.own_inv
              intro rc hrc
              have hok := hm.ok r rc hrc
              cases rc with
              | arr κ xs =>
                simp only [frzOf]
                cases hκ : Nat.beq κ e with
                | false => cases at? κ xs n.toNat <;> exact askOk_fail
                | true =>
                  have := Nat.eq_of_beq_eq_true hκ
                  subst this
                  cases hy : at? κ xs n.toNat with
                  | none => exact askOk_fail
                  | some y =>
                    intro hb
                    obtain ⟨h1, h2⟩ := bound_int hb
                    have hlt : n.toNat < xs.length := by omega
                    obtain ⟨hyx, hks⟩ := at?_ok hy hlt
                    obtain ⟨dd, hdd⟩ := Option.isSome_iff_exists.1 hks
                    obtain ⟨td, htd⟩ := hG.ti κ dd hdd
                    rcases hok with ⟨rfl, _⟩ | ⟨b, q, c, arr, et, _, he, _, _, _, _⟩
                    · simp at hlt
                    · exact Okay.val hm (hrun b q xs.length c td htd hks (hv.trans he) h1 (by simpa using h2)) (.eptr κ r n.toNat 0 b q xs.length c hr he)
              | fz κ xs =>
                simp only [frzOf]
                cases hκ : Nat.beq κ e with
                | false => cases at? κ xs n.toNat <;> exact askOk_fail
                | true =>
                  have := Nat.eq_of_beq_eq_true hκ
                  subst this
                  cases hy : at? κ xs n.toNat with
                  | none => exact askOk_fail
                  | some y =>
                    intro hb
                    obtain ⟨h1, h2⟩ := bound_int hb
                    have hlt : n.toNat < xs.length := by omega
                    obtain ⟨hyx, hks⟩ := at?_ok hy hlt
                    obtain ⟨dd, hdd⟩ := Option.isSome_iff_exists.1 hks
                    obtain ⟨td, htd⟩ := hG.ti κ dd hdd
                    obtain ⟨A, c, he, _, hxs⟩ := hok.2.sl_inv
                    rcases hxs with rfl | ⟨b, q, F, rfl, hS, k1, k2⟩
                    · simp at hlt
                    · exact Okay.val hm (hrun b q xs.length c td htd hks (hv.trans he) h1 (by simpa using h2)) (.eptr κ r n.toNat 0 b q xs.length c hr he)
              | _ => exact askOk_fail
            | nl => intro h; cases h
            | _ => exact askOk_fail
          | _ => exact askOk_fail
      | _ => exact askOk_fail

end

end Go.Proofs.Ytejfpemjmpoddaa.Vx
/-! Operations, on: arithmetic, comparisons, conversions, cuts. -/
namespace Go.Proofs.Ytejfpemjmpoddaa.Vx
open Go

section
variable {P : Program} {E : Env}
variable {cx : Cx} {w : World} {S : Nat → Prop} {β : Nat → Value} {ω : Nat → List Nat} {D : Nat → Prop} {roots : List (Nat × RC E.Ty)} {nx : Nat} {a : Act} {o : Oper}
variable {O : Orc E} {rd : List (Nat × Bool) → Operand → Option (V E.Ty)} {g : Bool}

theorem bytes_append_mk (x y : List UInt8) : (⟨x.toArray⟩ : ByteArray) ++ ⟨y.toArray⟩ = ⟨(x ++ y).toArray⟩ := by
  apply ByteArray.ext
  simp

/-- what is asked of structs that are compared -/
structure EqOk (P : Program) (E : Env) : Prop where
  eq : ∀ t, t ∈ E.eqt → ∀ (cs ds : List (V E.Ty)) (b : Bool), typedT t cs = true → typedT t ds = true → eqCells cs ds = some b → ∀ (w : World) (S : Nat → Prop) (β : Nat → Value) (D : Nat → Prop) (vs us : Array Value),
    vs.size = cs.length → us.size = ds.length → (∀ i c, cs[i]? = some c → RV E w S β D c (vs.getD i undef)) → (∀ i c, ds[i]? = some c → RV E w S β D c (us.getD i undef)) →
    (Op.equal t (.agg vs) (.agg us)).run P w = .ok b w ∧ ∀ op x y, (eqGuard op t x y (.agg vs) (.agg us)).run P w = .ok () w

theorem binOp_run {op : BinOp} {t t' : Nat} {x y : Operand} (ho : o.op = .binOp op t x y t') {r : Value} (hg : (eqGuard op t x y (a.eval x) (a.eval y)).run P w = .ok () w)
    (hb : (binOp op t (a.eval x) (a.eval y)).run P w = .ok r w) : (execOp a.eval o).run P w = .ok (.value r) w := by
  simp only [execOp, ho, Sem.run_bind, hg, Result.andThen_ok, hb, Sem.run_pure]

theorem eqGuard_int (op : BinOp) (t : Nat) (x y : Operand) (k k' : IntKind) (p q : Int) (w : World) : (eqGuard op t x y (.int k p) (.int k' q)).run P w = .ok () w := by
  unfold eqGuard; split <;> rfl
theorem eqGuard_str (op : BinOp) (t : Nat) (x y : Operand) (p q : ByteArray) (w : World) : (eqGuard op t x y (.string p) (.string q)).run P w = .ok () w := by
  unfold eqGuard; split <;> rfl
theorem eqGuard_bool (op : BinOp) (t : Nat) (x y : Operand) (p q : Bool) (w : World) : (eqGuard op t x y (.bool p) (.bool q)).run P w = .ok () w := by
  unfold eqGuard; split <;> rfl

theorem int_ok (hm : Mem E cx S β ω D roots w) {op : BinOp} {t t' : Nat} {x y : Operand} (ho : o.op = .binOp op t x y t') {k : IntKind} {p q : Int} (hx : a.eval x = .int k p) (hy : a.eval y = .int k q)
    (hop : op ≠ .shl ∧ op ≠ .shr ∧ op ≠ .quo ∧ op ≠ .rem) : AskOk O (Okay P o a w S β ω D roots nx) roots (optA (intBin (E := E) op k p q)) := by
  have hg : (eqGuard op t x y (a.eval x) (a.eval y)).run P w = .ok () w := by rw [hx, hy]; exact eqGuard_int _ _ _ _ _ _ _ _ _
  obtain ⟨h1, h2, h3, h4⟩ := hop
  cases op <;> simp only [intBin] <;> first
    | exact absurd rfl h1
    | exact absurd rfl h2
    | exact absurd rfl h3
    | exact absurd rfl h4
    | exact askOk_fail
    | exact Okay.val hm (binOp_run ho hg (by rw [hx, hy]; simp only [binOp, ne_eq, not_true_eq_false, if_false]; rfl)) (.int k _)
    | exact Okay.val hm (binOp_run ho hg (by rw [hx, hy]; simp only [binOp, ne_eq, not_true_eq_false, if_false]; rfl)) (.bool _)

theorem str_ok (hm : Mem E cx S β ω D roots w) {op : BinOp} {t t' : Nat} {x y : Operand} (ho : o.op = .binOp op t x y t') {p q : List UInt8} (hx : a.eval x = .string ⟨p.toArray⟩) (hy : a.eval y = .string ⟨q.toArray⟩) :
    AskOk O (Okay P o a w S β ω D roots nx) roots (optA (strBin (E := E) op p q)) := by
  have hg : (eqGuard op t x y (a.eval x) (a.eval y)).run P w = .ok () w := by rw [hx, hy]; exact eqGuard_str _ _ _ _ _ _ _
  cases op <;> simp only [strBin] <;> first
    | exact askOk_fail
    | exact Okay.val hm (binOp_run ho hg (by rw [hx, hy]; simp only [binOp, Op.stringOp, Go.ByteArray.toList_mk]; rfl)) (.bool _)

theorem equalIn_bool (d t : Nat) (p q : Bool) (h : P.underlying t = some .bool) (w : World) : (Op.equalIn (d + 1) t (.bool p) (.bool q)).run P w = .ok (p == q) w := by
  simp only [Op.equalIn, Sem.run_bind, run_underlying_ok h, Result.andThen_ok, Sem.run_pure]

theorem equal_bool (t : Nat) (p q : Bool) (h : P.underlying t = some .bool) (w : World) : (Op.equal t (.bool p) (.bool q)).run P w = .ok (p == q) w := equalIn_bool 9999 t p q h w

theorem binOp_ok (hT : TIok P E) (hQ : EqOk P E) (hm : Mem E cx S β ω D roots w) (hrd : Reads a w S β D rd) (op : BinOp) (t : Nat) (x y : Operand) (t' : Nat) (ho : o.op = .binOp op t x y t') :
    AskOk O (Okay P o a w S β ω D roots nx) roots (opA o g rd nx) := by
  simp only [opA, ho]
  cases hx : rd [] x with
  | none => exact askOk_fail
  | some u =>
    cases hy : rd [] y with
    | none => exact askOk_fail
    | some v =>
      have h1 := hrd.one _ _ hx
      have h2 := hrd.one _ _ hy
      simp only []
      unfold binA
      split
      · -- shl
        rename_i k p k' q
        have e1 := h1.int_inv; have e2 := h2.int_inv
        intro hb
        have hb := of_decide_eq_true hb
        refine Okay.val hm (binOp_run ho (by rw [e1, e2]; exact eqGuard_int _ _ _ _ _ _ _ _ _) (r := .int k (k.wrap (p * 2 ^ (min q.toNat k.bits)))) ?_) (.int _ _)
        rw [e1, e2]
        simp [binOp, Op.shift, show ¬ q < 0 by omega]
      · -- shr
        rename_i k p k' q
        have e1 := h1.int_inv; have e2 := h2.int_inv
        intro hb
        have hb := of_decide_eq_true hb
        refine Okay.val hm (binOp_run ho (by rw [e1, e2]; exact eqGuard_int _ _ _ _ _ _ _ _ _) (r := .int k (p.fdiv (2 ^ (min q.toNat k.bits)))) ?_) (.int _ _)
        rw [e1, e2]
        simp [binOp, Op.shift, show ¬ q < 0 by omega]
      · -- quo
        rename_i k p k' q
        have e1 := h1.int_inv; have e2 := h2.int_inv
        split
        · rename_i hk
          have := of_decide_eq_true hk
          subst this
          intro hb
          have hb : q ≠ 0 := by simpa using hb
          refine Okay.val hm (binOp_run ho (by rw [e1, e2]; exact eqGuard_int _ _ _ _ _ _ _ _ _) (r := .int k (k.wrap (p.tdiv q))) ?_) (.int _ _)
          rw [e1, e2]
          simp [binOp, Op.intDiv, hb]
        · exact askOk_fail
      · -- rem
        rename_i k p k' q
        have e1 := h1.int_inv; have e2 := h2.int_inv
        split
        · rename_i hk
          have := of_decide_eq_true hk
          subst this
          intro hb
          have hb : q ≠ 0 := by simpa using hb
          refine Okay.val hm (binOp_run ho (by rw [e1, e2]; exact eqGuard_int _ _ _ _ _ _ _ _ _) (r := .int k (p.tmod q)) ?_) (.int _ _)
          rw [e1, e2]
          simp [binOp, Op.intDiv, hb]
        · exact askOk_fail
      · -- whole numbers
        rename_i k p k' q n1 n2 n3 n4
        have e1 := h1.int_inv; have e2 := h2.int_inv
        split
        · rename_i hk
          have := of_decide_eq_true hk
          subst this
          exact int_ok hm ho e1 e2 ⟨fun h => n1 h, fun h => n2 h, fun h => n3 h, fun h => n4 h⟩
        · exact askOk_fail
      · -- texts joined
        rename_i p q
        have e1 := h1.str_inv; have e2 := h2.str_inv
        intro hb
        have hb := of_decide_eq_true hb
        refine Okay.val hm (binOp_run ho (by rw [e1, e2]; exact eqGuard_str _ _ _ _ _ _ _) (r := .string ⟨(p ++ q).toArray⟩) ?_) (.str _)
        rw [e1, e2]
        have hs : ¬ (((⟨p.toArray⟩ : ByteArray).size + (⟨q.toArray⟩ : ByteArray).size : Nat) : Int) > IntKind.i64.max := by
          rw [size_toArray, size_toArray]
          have : IntKind.i64.max = 9223372036854775807 := rfl
          rw [this]; omega
        simp only [binOp, Op.stringOp, hs, if_false, Sem.run_pure, bytes_append_mk]
      · rename_i p q n1
        exact str_ok hm ho h1.str_inv h2.str_inv
      · rename_i p q
        have e1 := h1.bool_inv; have e2 := h2.bool_inv
        cases hk : E.ti t with
        | none => exact askOk_fail
        | some d =>
          obtain ⟨kd, sz, bt, lf⟩ := d
          cases kd with
          | bool =>
            have hb := ti_kind hT hk
            refine Okay.val hm (binOp_run ho (by rw [e1, e2]; exact eqGuard_bool _ _ _ _ _ _ _) (r := .bool (p == q)) ?_) (.bool _)
            rw [e1, e2]
            simp only [binOp, Sem.run_bind, equal_bool t p q hb, Result.andThen_ok, Sem.run_pure]
          | _ => exact askOk_fail
      · rename_i p q
        have e1 := h1.bool_inv; have e2 := h2.bool_inv
        cases hk : E.ti t with
        | none => exact askOk_fail
        | some d =>
          obtain ⟨kd, sz, bt, lf⟩ := d
          cases kd with
          | bool =>
            have hb := ti_kind hT hk
            refine Okay.val hm (binOp_run ho (by rw [e1, e2]; exact eqGuard_bool _ _ _ _ _ _ _) (r := .bool (!(p == q))) ?_) (.bool _)
            rw [e1, e2]
            simp only [binOp, Sem.run_bind, equal_bool t p q hb, Result.andThen_ok, Sem.run_pure]
          | _ => exact askOk_fail
      · rename_i cs ds
        obtain ⟨vs, hv, hvl, hvr⟩ := h1.agg_inv
        obtain ⟨us, hu, hul, hur⟩ := h2.agg_inv
        split
        · rename_i b hmt hc
          simp only [Bool.and_eq_true] at hmt
          have heq := hQ.eq t ((mem_iff _ _).1 hmt.1.1) cs ds b hmt.1.2 hmt.2 hc w S β D vs us hvl hul hvr hur
          refine Okay.val hm (binOp_run ho (by rw [hv, hu]; exact heq.2 _ _ _) (r := .bool b) ?_) (.bool _)
          rw [hv, hu]
          simp only [binOp, Sem.run_bind, heq.1, Result.andThen_ok, Sem.run_pure]
        · exact askOk_fail
      · rename_i cs ds
        obtain ⟨vs, hv, hvl, hvr⟩ := h1.agg_inv
        obtain ⟨us, hu, hul, hur⟩ := h2.agg_inv
        split
        · rename_i b hmt hc
          simp only [Bool.and_eq_true] at hmt
          have heq := hQ.eq t ((mem_iff _ _).1 hmt.1.1) cs ds b hmt.1.2 hmt.2 hc w S β D vs us hvl hul hvr hur
          refine Okay.val hm (binOp_run ho (by rw [hv, hu]; exact heq.2 _ _ _) (r := .bool (!b)) ?_) (.bool _)
          rw [hv, hu]
          simp only [binOp, Sem.run_bind, heq.1, Result.andThen_ok, Sem.run_pure]
        · exact askOk_fail
      · exact askOk_fail

theorem unOp_ok (hm : Mem E cx S β ω D roots w) (hrd : Reads a w S β D rd) (op : UnOp) (t : Nat) (x : Operand) (ho : o.op = .unOp op t x) :
    AskOk O (Okay P o a w S β ω D roots nx) roots (opA o g rd nx) := by
  simp only [opA, ho]
  cases hx : rd [] x with
  | none => exact askOk_fail
  | some u =>
    have h1 := hrd.one _ _ hx
    simp only []
    unfold unA
    split
    · have e1 := h1.int_inv
      exact Okay.val hm (by simp only [execOp, ho, e1, Op.unary, Op.intArith, Sem.run_bind, Sem.run_pure, Result.andThen_ok]) (.int _ _)
    · have e1 := h1.bool_inv
      exact Okay.val hm (by simp only [execOp, ho, e1, Op.unary, Sem.run_bind, Sem.run_pure, Result.andThen_ok]) (.bool _)
    · exact askOk_fail

/-! freezing -/

def unown (ω : Nat → List Nat) (rs : List Nat) : Nat → List Nat := fun r => if r ∈ rs then [] else ω r
def frozenS (S : Nat → Prop) (ω : Nat → List Nat) (rs : List Nat) : Nat → Prop := fun b => S b ∨ ∃ r ∈ rs, b ∈ ω r

theorem RV.more {v : V E.Ty} {cv : Value} {S' : Nat → Prop} (h : RV E w S β D v cv) (hs : ∀ b, S b → S' b) : RV E w S' β D v cv :=
  h.mono (fun _ _ => rfl) hs (fun _ h => h) (fun _ _ => rfl)

theorem RootOk.frz (hG : Good E) {v : Value} {ob : List Nat} {rc : RC E.Ty} {S' : Nat → Prop} (h : RootOk E w S β D v ob rc) (hs : ∀ b, S b → S' b) (hob : ∀ b ∈ ob, S' b) :
    RootOk E w S' β D v [] (frzOf rc) := by
  cases rc with
  | box t cs =>
    obtain ⟨b, rfl, h1, h2⟩ := h
    exact ⟨rfl, b, h1, hob b (by simp), h2.mono rfl (fun _ _ => rfl) hs (fun _ h => h) (fun _ _ => rfl)⟩
  | bfz t cs =>
    obtain ⟨h1, b, h2, h3, h4⟩ := h
    exact ⟨rfl, b, h2, hs b h3, h4.mono rfl (fun _ _ => rfl) hs (fun _ h => h) (fun _ _ => rfl)⟩
  | arr κ xs => exact ⟨rfl, OR.froze h hs hob (fun i x _ => hG.len κ x)⟩
  | fz κ xs => exact ⟨rfl, h.2.more hs⟩

theorem Done.freeze (hG : Good E) (hm : Mem E cx S β ω D roots w) (v : V E.Ty) (rs : List Nat) (hrs : ∀ r ∈ rs, ∃ rc, find roots r = some rc) :
    Done E w S β ω D roots nx ⟨v, [], [], [], rs⟩ (frozenS S ω rs) β (unown ω rs) w where
  hs _ h := .inl h
  hn b h := by
    rcases h with h | ⟨r, hr, hb⟩
    · exact .inl h
    · exact .inr (.inr ⟨r, .inl hr, hrs r hr, hb⟩)
  hb b h := by
    rcases h with h | ⟨r, hr, hb⟩
    · exact hm.sb b h
    · obtain ⟨rc, hrc⟩ := hrs r hr
      exact (hm.ob r rc hrc b hb).2.1
  bt _ _ := rfl
  om _ _ := rfl
  heap _ _ _ _ := rfl
  sz := Nat.le_refl _
  os := rfl
  tape := rfl
  out := rfl
  wr _ _ h := by simp at h
  kl _ h := by simp at h
  new i rc h := by simp at h
  newb i h := by simp at h
  newd i j h := by simp at h
  frz r hr rc hrc := by
    exact (RootOk.frz hG (hm.ok r rc hrc) (fun b h => Or.inl h) (fun b hb => Or.inr ⟨r, hr, hb⟩)).wide (fun _ h => .inl h)
  d1 _ _ h := by simp at h
  d2 _ h := by simp at h
  d3 _ h := by simp at h
  nd := by simp

/-- an operation that yields a value and leaves the world alone, behind which some rows are only read -/
theorem Okay.frz (hG : Good E) (hm : Mem E cx S β ω D roots w) {v : V E.Ty} {cv : Value} {rs : List Nat} (hrs : ∀ r ∈ rs, ∃ rc, find roots r = some rc)
    (hr : (execOp a.eval o).run P w = .ok (.value cv) w) (hv : RV E w (frozenS S ω rs) β D v cv) :
    Okay P o a w S β ω D roots nx ⟨v, [], [], [], rs⟩ := by
  intro K Q _ h
  unfold Oper.wp
  rw [hr, Oper.upon_value]
  exact h cv _ β _ w (Done.freeze hG hm v rs hrs) (hv.wide (fun _ h => .inl h))

/-- a row that may be read: what it is, where its owner is read only from then on -/
theorem row_ok (hG : Good E) (hm : Mem E cx S β ω D roots w) {α : Type} {good : α → Prop} {κ : Nat} {v : V E.Ty} {cv : Value} (h : RV E w S β D v cv) (k : List (E.Ty κ) → List Nat → Ask E α)
    (hk : ∀ xs rs, (∀ r ∈ rs, ∃ rc, find roots r = some rc) → RV E w (frozenS S ω rs) β D (.sl κ xs) cv → AskOk O good roots (k xs rs)) :
    AskOk O good roots (row κ v k) := by
  unfold row
  split
  · obtain ⟨A, rfl⟩ := h.nl_inv
    exact hk [] [] (by simp) (.slE κ A 0)
  · split
    · rename_i he
      subst he
      exact hk _ [] (by simp) (h.more (fun b h => .inl h))
    · exact askOk_fail
  · rename_i r
    obtain ⟨rfl, hr⟩ := h.own_inv
    intro rc hrc
    have hok := hm.ok r rc hrc
    cases rc with
    | arr κ' xs =>
      simp only [frzOf]
      split
      · rename_i he
        subst he
        refine hk xs [r] (by intro r' hr'; simp at hr'; subst hr'; exact ⟨_, hrc⟩) ?_
        exact OR.froze hok (fun b h => .inl h) (fun b hb => .inr ⟨r, by simp, hb⟩) (fun i x _ => hG.len κ' x)
      · exact askOk_fail
    | fz κ' xs =>
      simp only [frzOf]
      split
      · rename_i he
        subst he
        refine hk xs [r] (by intro r' hr'; simp at hr'; subst hr'; exact ⟨_, hrc⟩) ?_
        exact hok.2.more (fun b h => .inl h)
      · exact askOk_fail
    | _ => exact askOk_fail
  · exact askOk_fail

end

end Go.Proofs.Ytejfpemjmpoddaa.Vx
/-! Operations, on: conversions, cuts, lengths. -/
namespace Go.Proofs.Ytejfpemjmpoddaa.Vx
open Go

section
variable {P : Program} {E : Env}
variable {cx : Cx} {w : World} {S : Nat → Prop} {β : Nat → Value} {ω : Nat → List Nat} {D : Nat → Prop} {roots : List (Nat × RC E.Ty)} {nx : Nat} {a : Act} {o : Oper}
variable {O : Orc E} {rd : List (Nat × Bool) → Operand → Option (V E.Ty)} {g : Bool}

theorem encode_ascii (n : Int) (h0 : 0 ≤ n) (h1 : n < 128) : Utf8.encode n = ⟨[UInt8.ofNat n.toNat].toArray⟩ := by
  unfold Utf8.encode
  have h2 : Utf8.valid n = true := by simp [Utf8.valid]; omega
  have h3 : n.toNat < 128 := by omega
  simp [h2, h3]

theorem extract_mk (s : List UInt8) (l h : Nat) : (⟨s.toArray⟩ : ByteArray).extract l h = ⟨((s.take h).drop l).toArray⟩ := by
  apply ByteArray.ext
  simp [ByteArray.data_extract, List.drop_take]

theorem slice_ok (hT : TIok P E) (hG : Good E) (hm : Mem E cx S β ω D roots w) (hrd : Reads a w S β D rd) (t : Nat) (x : Operand) (lo hi : Option Operand) (ho : o.op = .slice t x lo hi none) :
    AskOk O (Okay P o a w S β ω D roots nx) roots (opA o g rd nx) := by
  simp only [opA, ho]
  cases hx : rd [] x with
  | none => exact askOk_fail
  | some v =>
    have h := hrd.one _ _ hx
    cases hl : rdO (rd []) lo with
    | none => exact askOk_fail
    | some l' =>
      cases hh : rdO (rd []) hi with
      | none => exact askOk_fail
      | some h' =>
        simp only [sliceA]
        -- the bounds, as the program takes them
        have hbd : ∀ (q : Option Operand) (q' : Option (V E.Ty)) (d n : Int), rdO (rd []) q = some q' → bound q' d = some n →
            (q = none ∧ n = d) ∨ ∃ y k, q = some y ∧ a.eval y = .int k n := by
          intro q q' d n hq hb
          cases q with
          | none =>
            simp only [rdO, Option.some.injEq] at hq
            subst hq
            simp only [bound, Option.some.injEq] at hb
            exact .inl ⟨rfl, hb.symm⟩
          | some y =>
            simp only [rdO] at hq
            cases hy : rd [] y with
            | none => simp [hy] at hq
            | some u =>
              simp only [hy, Option.some.injEq] at hq
              subst hq
              have hu := hrd.one _ _ hy
              cases u <;> simp only [bound] at hb <;> first
                | (cases hb; done)
                | (simp only [Option.some.injEq] at hb; subst hb; exact .inr ⟨y, _, rfl, hu.int_inv⟩)
        have hsb : ∀ (isS : Bool) (len cap : Nat) (l h : Int), bound l' 0 = some l → bound h' len = some h → 0 ≤ l → l ≤ h → h ≤ len → len ≤ cap → (isS = false → cap = len) →
            (Instr.sliceBounds isS len cap (lo.map a.eval) (hi.map a.eval) none).run P w = .ok (l.toNat, h.toNat, cap) w := by
          intro isS len cap l h hbl hbh h1 h2 h3 h4 h5
          have el := hbd lo l' 0 l hl hbl
          have eh := hbd hi h' len h hh hbh
          rcases el with ⟨rfl, rfl⟩ | ⟨y, k, rfl, ey⟩ <;> rcases eh with ⟨rfl, rfl⟩ | ⟨z, k', rfl, ez⟩
          · simp [Instr.sliceBounds]
          · have hz : 0 ≤ h ∧ h ≤ (cap : Int) := ⟨by omega, by omega⟩
            simp [Instr.sliceBounds, Instr.sliceBound, asIntOf, ez, hz]
          · have hy : 0 ≤ l ∧ l ≤ (len : Int) := ⟨h1, h2⟩
            simp [Instr.sliceBounds, Instr.sliceBound, asIntOf, ey, hy]
          · have hz : 0 ≤ h ∧ h ≤ (cap : Int) := ⟨by omega, by omega⟩
            have hy : 0 ≤ l ∧ l ≤ (h.toNat : Int) := ⟨h1, by omega⟩
            simp only [Instr.sliceBounds, Instr.sliceBound, asIntOf, Option.map_some, ey, ez, Sem.run_bind, Sem.run_pure, Result.andThen_ok, Sem.run_ite, hz, hy, and_self, if_true]
        cases hd : E.ti t with
        | none => exact askOk_fail
        | some d =>
          obtain ⟨kd, sz, bt, lf⟩ := d
          cases kd with
          | string =>
            have hk := ti_kind hT hd
            cases v with
            | str s =>
              simp only []
              cases hbl : bound l' 0 with
              | none => cases bound h' (s.length : Int) <;> exact askOk_fail
              | some l =>
                cases hbh : bound h' (s.length : Int) with
                | none => exact askOk_fail
                | some hh2 =>
                  intro hb
                  simp only [Bool.and_eq_true, decide_eq_true_eq] at hb
                  obtain ⟨⟨b1, b2⟩, b3⟩ := hb
                  have hv := h.str_inv
                  have hr := hsb false s.length s.length l hh2 hbl hbh b1 b2 b3 (Nat.le_refl _) (fun _ => rfl)
                  refine Okay.val hm (cv := .string ⟨((s.take hh2.toNat).drop l.toNat).toArray⟩) ?_ (.str _)
                  simp only [execOp, ho, hv, Instr.sliceAt, Instr.slice, Sem.run_bind, run_underlying_ok hk, Result.andThen_ok, Option.map_none, Option.isSome_none, Bool.false_eq_true, if_false, Sem.run_pure, size_toArray, hr, extract_mk]
            | _ => exact askOk_fail
          | slice e =>
            have hk := ti_kind hT hd
            simp only []
            cases hde : E.ti e with
            | none => exact askOk_fail
            | some de =>
            refine row_ok hG hm h _ (fun xs rs hrs hv => ?_)
            cases hbl : bound l' 0 with
            | none => cases bound h' (xs.length : Int) <;> exact askOk_fail
            | some l =>
              cases hbh : bound h' (xs.length : Int) with
              | none => exact askOk_fail
              | some hh2 =>
                intro hb
                simp only [Bool.and_eq_true, decide_eq_true_eq] at hb
                obtain ⟨⟨b1, b2⟩, b3⟩ := hb
                obtain ⟨A, c, he, hc, hxs⟩ := hv.sl_inv
                have hr := hsb true xs.length c l hh2 hbl hbh b1 b2 b3 hc (fun h => by cases h)
                obtain ⟨ie, hie, his, _⟩ := hT.info e de hde
                have hrun : (execOp a.eval o).run P w = .ok (.value (.slice (if c = l.toNat then A else A.map (·.add (l.toNat * ie.size))) (hh2.toNat - l.toNat) (c - l.toNat))) w := by
                  simp only [execOp, ho, he, Instr.sliceAt, Instr.slice, Sem.run_bind, run_underlying_ok hk, Result.andThen_ok, Option.map_none, hr, sizeOf, typeInfo, run_program, hie, Sem.run_pure]
                have hlen : ((xs.take hh2.toNat).drop l.toNat).length = hh2.toNat - l.toNat := by simp; omega
                refine Okay.frz hG hm hrs hrun ?_
                by_cases hz : hh2.toNat - l.toNat = 0
                · rw [hz]
                  have : (xs.take hh2.toNat).drop l.toNat = [] := List.eq_nil_of_length_eq_zero (by omega)
                  rw [this]
                  exact .slE e _ _
                · rcases hxs with rfl | ⟨b, q, F, rfl, hS, k1, k2⟩
                  · simp at b3 hz; omega
                  · have hne : c ≠ l.toNat := by omega
                    simp only [hne, if_false, Option.map_some, Addr.add_mid]
                    rw [← hlen]
                    have hget : ∀ i x, ((xs.take hh2.toNat).drop l.toNat)[i]? = some x → xs[l.toNat + i]? = some x := by
                      intro i x hx
                      rw [List.getElem?_drop, List.getElem?_take] at hx
                      split at hx
                      · exact hx
                      · cases hx
                    refine .sl e _ b _ _ (fun i j => F (l.toNat + i) j) (by omega) hS ?_ (fun i x hx j cv hj => k2 _ x (hget i x hx) j cv hj)
                    intro i x hx j cv hj
                    have := k1 _ x (hget i x hx) j cv hj
                    have hj' := lt_of_getElem? hj
                    rw [hG.len e x] at hj'
                    have hsz : szOf E e = ie.size := by
                      unfold szOf at hj' ⊢
                      split
                      · rename_i h3 h4; rw [hde] at h4; cases h4; exact his.symm
                      · rename_i h3
                        split at hj'
                        · rename_i h4 h5; exact absurd h5 (h3 _ _ h4)
                        · omega
                    rw [hsz] at this ⊢
                    rw [← this]
                    congr 2
                    rw [Nat.add_mul]; omega
          | _ => exact askOk_fail

theorem loadCells_row (P : Program) (w : World) (b q n : Nat) (f : Nat → Value) (h : ∀ j, j < n → w.cell? ⟨b, q + j, none⟩ = some (f j)) :
    (loadCells ⟨b, q, none⟩ n).run P w = .ok ((List.range n).map f).toArray w :=
  run_loadCells (P := P) w ⟨b, q, none⟩ n f (fun j hj => by rw [Addr.add_mid]; exact h j hj)

end

end Go.Proofs.Ytejfpemjmpoddaa.Vx
/-! Operations, on: what is made anew. -/
namespace Go.Proofs.Ytejfpemjmpoddaa.Vx
open Go

section
variable {P : Program} {E : Env}
variable {cx : Cx} {w w' : World} {S : Nat → Prop} {β : Nat → Value} {ω : Nat → List Nat} {D : Nat → Prop} {roots : List (Nat × RC E.Ty)} {nx : Nat} {a : Act} {o : Oper}
variable {O : Orc E} {rd : List (Nat × Bool) → Operand → Option (V E.Ty)} {g : Bool}

/-! cells of values -/

theorem RV.one {v : V E.Ty} {cv : Value} (h : RV E w S β D v cv) (hc : cellV v = true) : cv.cells = #[cv] ∧ cv.oneCell' = true := by
  cases h <;> first
    | exact ⟨rfl, rfl⟩
    | (simp [cellV] at hc; done)

theorem okCells_mem {cs : List (V E.Ty)} (h : okCells cs = true) {i : Nat} {c : V E.Ty} (hi : cs[i]? = some c) : cellV c = true := by
  induction cs generalizing i with
  | nil => simp at hi
  | cons x cs ih =>
    simp only [okCells] at h
    cases hx : cellV x with
    | false => rw [hx] at h; cases h
    | true =>
      rw [hx] at h
      cases i with
      | zero => simp at hi; subst hi; exact hx
      | succ i => exact ih h (by simpa using hi)

theorem fits_ok {v : V E.Ty} {n : Nat} {cv : Value} (hf : fits v n = true) (h : RV E w S β D v cv) :
    (cellsOf v).length = n ∧ cv.cells.size = n ∧ (∀ (j : Nat) (c : V E.Ty), (cellsOf v)[j]? = some c → RV E w S β D c (cv.cells.getD j undef)) ∧ (∀ u ∈ cv.cells.toList, u.oneCell' = true) := by
  unfold fits at hf
  cases hl : Nat.beq (cellsOf v).length n with
  | false => rw [hl] at hf; cases hf
  | true =>
    rw [hl] at hf
    have hl := Nat.eq_of_beq_eq_true hl
    refine ⟨hl, ?_⟩
    by_cases hagg : ∃ cs, v = .agg cs
    · obtain ⟨cs, rfl⟩ := hagg
      obtain ⟨vs, rfl, h1, h2⟩ := h.agg_inv
      simp only [cellsOf] at hl hf ⊢
      refine ⟨by simp only [Value.cells]; omega, fun j c hj => h2 j c hj, ?_⟩
      intro u hu
      simp only [Value.cells] at hu
      obtain ⟨j, hj⟩ := List.mem_iff_getElem?.1 hu
      have hjl := lt_of_getElem? hj
      have hjc : j < cs.length := by simpa [h1] using hjl
      have h3 := h2 j cs[j] (List.getElem?_eq_getElem hjc)
      have h4 : vs.getD j undef = u := by
        have : j < vs.size := by simpa using hjl
        rw [Array.getElem?_toList, Array.getElem?_eq_getElem this] at hj
        simp at hj
        simp [this, hj]
      rw [h4] at h3
      exact (h3.one (okCells_mem hf (List.getElem?_eq_getElem hjc))).2
    · have hc : cellsOf v = [v] := by
        cases v <;> first | rfl | exact absurd ⟨_, rfl⟩ hagg
      rw [hc] at hl hf
      have h1 := h.one (okCells_mem hf (i := 0) rfl)
      rw [h1.1, hc]
      refine ⟨by simpa using hl, ?_, ?_⟩
      · intro j c hj
        have := lt_of_getElem? hj
        have hj0 : j = 0 := by simpa using this
        subst hj0
        simp at hj; subst hj
        exact h
      · intro u hu
        simp at hu; subst hu; exact h1.2

/-! nothing in it -/

theorem zero_RV {k : TK} {z : V E.Ty} (h : zeroOf (E := E) k = some z) : ∃ u, zv E k = some u ∧ RV E w S β D z u := by
  cases k <;> simp only [zeroOf] at h <;> first
    | (cases h; done)
    | (simp only [Option.some.injEq] at h; subst h; first
        | exact ⟨_, rfl, .int _ _⟩
        | exact ⟨_, rfl, .bool _⟩
        | exact ⟨_, rfl, .str []⟩
        | exact ⟨_, rfl, .nl none⟩)

theorem zerosL_RV : ∀ (ts : List Nat) (zs : List (V E.Ty)), zerosL (E := E) ts = some zs → ∃ us, zvL E ts = some us ∧ us.length = zs.length ∧ zs.length = ts.length ∧
    ∀ j c, zs[j]? = some c → ∀ (w : World) (S : Nat → Prop) (β : Nat → Value) (D : Nat → Prop), RV E w S β D c (us.getD j undef)
  | [], zs, h => by
    simp only [zerosL, Option.some.injEq] at h; subst h
    exact ⟨[], rfl, rfl, rfl, by simp⟩
  | t :: ts, zs, h => by
    simp only [zerosL] at h
    cases hd : E.ti t with
    | none => simp [hd] at h
    | some d =>
      simp only [hd] at h
      cases hz : zeroOf (E := E) d.kind with
      | none => simp [hz] at h
      | some z =>
        simp only [hz] at h
        cases hr : zerosL (E := E) ts with
        | none => simp [hr] at h
        | some zs' =>
          simp only [hr, Option.some.injEq] at h
          subst h
          obtain ⟨us, h1, h2, h3, h4⟩ := zerosL_RV ts zs' hr
          have hu : ∃ u, zv E d.kind = some u ∧ ∀ (w : World) (S : Nat → Prop) (β : Nat → Value) (D : Nat → Prop), RV E w S β D z u := by
            obtain ⟨u, e1, _⟩ := zero_RV (w := default) (S := fun _ => True) (β := fun _ => undef) (D := fun _ => True) hz
            refine ⟨u, e1, fun w S β D => ?_⟩
            obtain ⟨u', e2, e3⟩ := zero_RV (w := w) (S := S) (β := β) (D := D) hz
            rw [e1] at e2; cases e2; exact e3
          obtain ⟨u, e1, e2⟩ := hu
          refine ⟨u :: us, by simp [zvL, hd, e1, h1], by simp [h2], by simp [h3], ?_⟩
          intro j c hj
          cases j with
          | zero => simp at hj; subst hj; simpa using e2
          | succ j => simpa using h4 j c (by simpa using hj)

theorem zeros_ok (hT : TIok P E) {t : Nat} {zs : List (V E.Ty)} (h : zeros (E := E) t = some zs) :
    ∃ d i z, E.ti t = some d ∧ P.info? t = some i ∧ i.size = d.size ∧ i.bytes = d.bytes ∧ i.zero = some z ∧ z.cells.size = zs.length ∧ zs.length = d.size ∧
      ∀ j c, zs[j]? = some c → ∀ (w : World) (S : Nat → Prop) (β : Nat → Value) (D : Nat → Prop), RV E w S β D c (z.cells.getD j undef) := by
  unfold zeros at h
  cases hd : E.ti t with
  | none => simp [hd] at h
  | some d =>
    simp only [hd] at h
    obtain ⟨us, h1, h2, h3, h4⟩ := zerosL_RV d.leafs zs h
    obtain ⟨i, hi, his, hib, hz⟩ := hT.info t d hd
    obtain ⟨z, hz1, hz2⟩ := hz us h1
    have hl := hT.leafs t d hd
    refine ⟨d, i, z, rfl, hi, his, hib, hz1, by rw [← h2, ← hz2]; simp, by omega, ?_⟩
    intro j c hj w S β D
    have h5 := h4 j c hj w S β D
    have h6 : z.cells.getD j undef = us.getD j undef := by
      rw [← hz2]
      have hjl := lt_of_getElem? hj
      have h7 : j < z.cells.toList.length := by rw [hz2]; omega
      have h8 : j < z.cells.size := by simpa using h7
      simp [h8]
    rw [h6]; exact h5

/-- out of cells: what is kept of them -/
theorem dec_RV (hG : Good E) {κ : Nat} {ds : List (V E.Ty)} {x : E.Ty κ} (h : E.dec κ ds = some x) {F : Nat → Value} (hF : ∀ j c, ds[j]? = some c → RV E w S β D c (F j)) :
    ∀ j c, (E.cells κ x)[j]? = some c → RV E w S β D c (F j) := by
  intro j c hj
  obtain ⟨_, hl, h1⟩ := hG.dec κ ds x h
  have hjl : j < ds.length := by rw [hl]; exact lt_of_getElem? hj
  rcases h1 j ds[j] (List.getElem?_eq_getElem hjl) with h2 | ⟨h2, κ', h3⟩
  · rw [h2] at hj; cases hj
    exact hF j _ (List.getElem?_eq_getElem hjl)
  · rw [h3] at hj; cases hj
    have := hF j _ (List.getElem?_eq_getElem hjl)
    rw [h2] at this
    obtain ⟨A, hA⟩ := this.nl_inv
    rw [hA]
    exact .slE κ' A 0

/-! one more root -/

def upd {α : Type} (f : Nat → α) (k : Nat) (x : α) : Nat → α := fun r => if r = k then x else f r

theorem upd_self {α : Type} (f : Nat → α) (k : Nat) (x : α) : upd f k x k = x := by simp [upd]
theorem upd_lt {α : Type} {D : Nat → Prop} {k : Nat} (hfr : ¬ D k) (f : Nat → α) (x : α) {r : Nat} (h : D r) : upd f k x r = f r := by
  have : r ≠ k := fun e => hfr (e ▸ h)
  simp [upd, this]
theorem Grown.self {D : Nat → Prop} {nx k : Nat} (h : 0 < k) : Grown D nx k nx := .inr ⟨Nat.le_refl _, by omega⟩

theorem Done.new1 (hfr : ¬ D nx) (hG : Good E) (hm : Mem E cx S β ω D roots w) {u : V E.Ty} {rc : RC E.Ty} {v : Value} {ob ks fs : List Nat}
    (hold : ∀ b, b < w.heap.size → (∀ r ∈ ks, b ∉ ω r) → w'.heap[b]? = w.heap[b]?) (hsz : w.heap.size ≤ w'.heap.size) (hos : w'.os = w.os) (htape : w'.tape = w.tape) (hout : w'.output = w.output)
    (hk : ∀ r ∈ ks, ∃ rc, find roots r = some rc) (hf : ∀ r ∈ fs, ∃ rc, find roots r = some rc) (hkf : ∀ r ∈ ks, r ∉ fs)
    (hob : ∀ b ∈ ob, b < w'.heap.size ∧ (w.heap.size ≤ b ∨ ∃ r ∈ ks, b ∈ ω r)) (hok : RootOk E w' (frozenS S ω fs) (upd β nx v) (Grown D nx 1) v ob rc) :
    Done E w S β ω D roots nx ⟨u, [], [rc], ks, fs⟩ (frozenS S ω fs) (upd β nx v) (upd (unown ω fs) nx ob) w' where
  hs _ h := .inl h
  hn b h := by
    rcases h with h | ⟨r, hr, hb⟩
    · exact .inl h
    · exact .inr (.inr ⟨r, .inl hr, hf r hr, hb⟩)
  hb b h := by
    rcases h with h | ⟨r, hr, hb⟩
    · exact Nat.lt_of_lt_of_le (hm.sb b h) hsz
    · obtain ⟨rc, hrc⟩ := hf r hr
      exact Nat.lt_of_lt_of_le (hm.ob r rc hrc b hb).2.1 hsz
  bt r h := upd_lt hfr _ _ h
  om r h := by rw [upd_lt hfr _ _ h]; rfl
  heap b hb _ hk := hold b hb hk
  sz := hsz
  os := hos
  tape := htape
  out := hout
  wr _ _ h := by simp at h
  kl r h := hk r h
  new i rc' h := by
    have hi := lt_of_getElem? h
    have hi0 : i = 0 := by simpa using hi
    subst hi0
    simp at h; subst h
    simpa [upd_self] using hok
  newb i h b hb := by
    have hi0 : i = 0 := by simpa using h
    subst hi0
    rw [Nat.add_zero, upd_self] at hb
    obtain ⟨h1, h2⟩ := hob b hb
    refine ⟨?_, h1, h2⟩
    intro hs
    rcases h2 with h2 | ⟨r, hr, hbr⟩
    · rcases hs with hs | ⟨r, hr, hbr⟩
      · have := hm.sb b hs; omega
      · obtain ⟨rc, hrc⟩ := hf r hr
        have := (hm.ob r rc hrc b hbr).2.1; omega
    · obtain ⟨rc, hrc⟩ := hk r hr
      rcases hs with hs | ⟨r', hr', hbr'⟩
      · exact (hm.ob r rc hrc b hbr).1 hs
      · obtain ⟨rc', hrc'⟩ := hf r' hr'
        exact hm.dis r r' rc rc' hrc hrc' (fun e => hkf r hr (e ▸ hr')) b hbr hbr'
  newd i j hi hj hij := by
    have h1 : i = 0 := by simpa using hi
    have h2 : j = 0 := by simpa using hj
    omega
  frz r hr rc hrc := by
    refine RootOk.frz hG (S := S) ?_ (fun b h => Or.inl h) (fun b hb => Or.inr ⟨r, hr, hb⟩)
    have hne : ∀ b ∈ ω r, w'.heap[b]? = w.heap[b]? := fun b hb => hold b (hm.ob r rc hrc b hb).2.1 (fun r' hr' hb' => by
      obtain ⟨rc', hrc'⟩ := hk r' hr'
      exact hm.dis r r' rc rc' hrc hrc' (fun e => hkf r' hr' (e ▸ hr)) b hb hb')
    exact (hm.ok r rc hrc).mono hne (fun b hb => hold b (hm.sb b hb) (fun r' hr' hb' => by
      obtain ⟨rc', hrc'⟩ := hk r' hr'
      exact (hm.ob r' rc' hrc' b hb').1 hb)) (fun _ h => h) (fun _ h => .inl h) (fun r h => upd_lt hfr _ _ h)
  d1 _ _ h := by simp at h
  d2 _ _ h := by simp at h
  d3 r hr := hkf r hr
  nd := by simp

/-- an operation that makes a root -/
theorem Okay.new1 (hG : Good E) (hm : Mem E cx S β ω D roots w) {u : V E.Ty} {rc : RC E.Ty} {v : Value} {ob ks fs : List Nat} (hr : (execOp a.eval o).run P w = .ok (.value v) w')
    (hold : ∀ b, b < w.heap.size → (∀ r ∈ ks, b ∉ ω r) → w'.heap[b]? = w.heap[b]?) (hsz : w.heap.size ≤ w'.heap.size) (hos : w'.os = w.os) (htape : w'.tape = w.tape) (hout : w'.output = w.output)
    (hk : ∀ r ∈ ks, ∃ rc, find roots r = some rc) (hf : ∀ r ∈ fs, ∃ rc, find roots r = some rc) (hkf : ∀ r ∈ ks, r ∉ fs)
    (hob : ∀ b ∈ ob, b < w'.heap.size ∧ (w.heap.size ≤ b ∨ ∃ r ∈ ks, b ∈ ω r)) (hok : ¬ D nx → RootOk E w' (frozenS S ω fs) (upd β nx v) (Grown D nx 1) v ob rc)
    (hv : ¬ D nx → RV E w' (frozenS S ω fs) (upd β nx v) (Grown D nx 1) u v) :
    Okay P o a w S β ω D roots nx ⟨u, [], [rc], ks, fs⟩ := by
  intro K Q hfr h
  have hfr : ¬ D nx := hfr 0 (by simp)
  unfold Oper.wp
  rw [hr, Oper.upon_value]
  exact h v _ _ _ w' (Done.new1 hfr hG hm hold hsz hos htape hout hk hf hkf hob (hok hfr)) (hv hfr)

/-- a block more, and nothing else -/
theorem Done.grow (hm : Mem E cx S β ω D roots w) (u : V E.Ty) (hold : ∀ b, b < w.heap.size → w'.heap[b]? = w.heap[b]?) (hsz : w.heap.size ≤ w'.heap.size) (hos : w'.os = w.os) (htape : w'.tape = w.tape) (hout : w'.output = w.output) :
    Done E w S β ω D roots nx ⟨u, [], [], [], []⟩ S β ω w' where
  hs _ h := h
  hn _ h := .inl h
  hb b h := Nat.lt_of_lt_of_le (hm.sb b h) hsz
  bt _ _ := rfl
  om _ _ := by simp
  heap b hb _ _ := hold b hb
  sz := hsz
  os := hos
  tape := htape
  out := hout
  wr _ _ h := by simp at h
  kl _ h := by simp at h
  new i rc h := by simp at h
  newb i h := by simp at h
  newd i j h := by simp at h
  frz _ h := by simp at h
  d1 _ h := by simp at h
  d2 _ h := by simp at h
  d3 _ h := by simp at h
  nd := by simp

theorem frozenS_nil (S : Nat → Prop) (ω : Nat → List Nat) (b : Nat) : frozenS S ω [] b ↔ S b := by simp [frozenS]

/-- a value's meaning, one block and one root later -/
theorem RV.later {v : V E.Ty} {cv u : Value} {fs : List Nat} (h : RV E w S β D v cv) (hfr : ¬ D nx) (hS : ∀ b, S b → w'.heap[b]? = w.heap[b]?) : RV E w' (frozenS S ω fs) (upd β nx u) (Grown D nx 1) v cv :=
  h.mono hS (fun _ h => .inl h) (fun _ h => .inl h) (fun _ hr => upd_lt hfr _ _ hr)

theorem heap_alloc_lt (w : World) (ob : Obj) (b : Nat) (h : b < w.heap.size) : (w.alloc ob).heap[b]? = w.heap[b]? := by
  show (w.heap.push ob)[b]? = _
  rw [Array.getElem?_push_lt h, Array.getElem?_eq_getElem h]
theorem size_alloc (w : World) (ob : Obj) : (w.alloc ob).heap.size = w.heap.size + 1 := by
  show (w.heap.push ob).size = _
  simp

theorem run_newVar (t : Nat) (v : Value) (w : World) : (newVar t v).run P w = .ok ⟨w.heap.size, 0, none⟩ (w.alloc (.cells v.cells t)) := by
  simp [newVar, newRow]

theorem alloc_ok (hT : TIok P E) (hG : Good E) (hm : Mem E cx S β ω D roots w) (t : Nat) (ho : o.op = .alloc t) :
    AskOk O (Okay P o a w S β ω D roots nx) roots (opA o g rd nx) := by
  simp only [opA, ho]
  cases hz : zeros (E := E) t with
  | none => exact askOk_fail
  | some zs =>
    obtain ⟨d, i, z, hd, hi, his, _, hz1, hz2, hz3, hz4⟩ := zeros_ok hT hz
    have hrun : (execOp a.eval o).run P w = .ok (.value (.pointer (some ⟨w.heap.size, 0, none⟩))) (w.alloc (.cells z.cells t)) := by
      simp only [execOp, ho, Instr.alloc, zeroValue, typeInfo, Sem.run_bind, run_program, Sem.run_pure, Result.andThen_ok, hi, hz1, run_newVar]
    refine Okay.new1 hG hm (rc := .box t zs) (ob := [w.heap.size]) (ks := []) (fs := []) hrun (fun b hb _ => heap_alloc_lt w _ b hb) (by rw [size_alloc]; omega) rfl rfl rfl (by simp) (by simp) (by simp)
      (by intro b hb; simp at hb; subst hb; exact ⟨by rw [size_alloc]; omega, .inl (Nat.le_refl _)⟩) ?_ ?_
    · exact fun _ => ⟨w.heap.size, rfl, rfl, z.cells, t, heap_alloc_new w _, hz2, fun j c hj => hz4 j c hj _ _ _ _⟩
    · exact fun _ => .ptr nx 0 w.heap.size (Grown.self (by omega)) (upd_self _ _ _)

theorem box_ok (hG : Good E) (hm : Mem E cx S β ω D roots w) (hrd : Reads a w S β D rd) (t : Nat) (x : Operand) (ho : o.op = .box t x) :
    AskOk O (Okay P o a w S β ω D roots nx) roots (opA o g rd nx) := by
  simp only [opA, ho]
  cases hx : rd [] x with
  | none => exact askOk_fail
  | some v =>
    have h := hrd.one _ _ hx
    cases hd : E.ti t with
    | none => exact askOk_fail
    | some d =>
      simp only []
      cases hf : fits v d.size with
      | false => exact askOk_fail
      | true =>
        obtain ⟨h1, h2, h3, h4⟩ := fits_ok hf h
        have hrun : (execOp a.eval o).run P w = .ok (.value (.pointer (some ⟨w.heap.size, 0, none⟩))) (w.alloc (.cells (a.eval x).cells t)) := by
          simp only [execOp, ho, Instr.box, Sem.run_bind, Sem.run_pure, Result.andThen_ok, run_newVar]
        refine Okay.new1 hG hm (rc := .box t (cellsOf v)) (ob := [w.heap.size]) (ks := []) (fs := []) hrun (fun b hb _ => heap_alloc_lt w _ b hb) (by rw [size_alloc]; omega) rfl rfl rfl (by simp) (by simp) (by simp)
          (by intro b hb; simp at hb; subst hb; exact ⟨by rw [size_alloc]; omega, .inl (Nat.le_refl _)⟩) ?_ ?_
        · refine fun hfr => ⟨w.heap.size, rfl, rfl, (a.eval x).cells, t, heap_alloc_new w _, by omega, fun j c hj => ?_⟩
          exact (h3 j c hj).later hfr (fun b hb => heap_alloc_lt w _ b (hm.sb b hb))
        · exact fun _ => .ptr nx 0 w.heap.size (Grown.self (by omega)) (upd_self _ _ _)

end

end Go.Proofs.Ytejfpemjmpoddaa.Vx
/-! Operations, on: rows that are made, joined and built; what is stored. -/
namespace Go.Proofs.Ytejfpemjmpoddaa.Vx
open Go

section
variable {P : Program} {E : Env}
variable {cx : Cx} {w w' : World} {S : Nat → Prop} {β : Nat → Value} {ω : Nat → List Nat} {D : Nat → Prop} {roots : List (Nat × RC E.Ty)} {nx : Nat} {a : Act} {o : Oper}
variable {O : Orc E} {rd : List (Nat × Bool) → Operand → Option (V E.Ty)} {g : Bool}

theorem szOf_eq {κ : Nat} {d : TD} (h1 : (E.dflt κ).isSome) (h2 : E.ti κ = some d) : szOf E κ = d.size := by
  obtain ⟨x, hx⟩ := Option.isSome_iff_exists.1 h1
  simp [szOf, hx, h2]

theorem pair_lt {i j n m : Nat} (hi : i < n) (hj : j < m) : i * m + j < n * m := by
  have h6 : (i + 1) * m ≤ n * m := Nat.mul_le_mul_right _ (by omega)
  rw [Nat.add_mul, Nat.one_mul] at h6
  omega

theorem pair_div {i j m : Nat} (hj : j < m) : (i * m + j) / m = i ∧ (i * m + j) % m = j := by
  constructor
  · rw [Nat.mul_comm, Nat.mul_add_div (by omega), Nat.div_eq_of_lt hj]; omega
  · rw [Nat.mul_comm, Nat.mul_add_mod, Nat.mod_eq_of_lt hj]

theorem madeCells_get (z : Array Value) (n m i j : Nat) (hi : i < n) (hj : j < m) (hz : z.size = m) : (madeCells z (n * m)).getD (i * m + j) undef = z.getD j undef := by
  have h := pair_lt hi hj
  have h1 := (pair_div (i := i) hj).2
  have hjz : j < z.size := by omega
  have hm : m = z.size := hz.symm
  subst hm
  simp [madeCells, h, h1, hjz]

theorem makeSlice_ok (hT : TIok P E) (hG : Good E) (hm : Mem E cx S β ω D roots w) (hrd : Reads a w S β D rd) (t : Nat) (x y : Operand) (ho : o.op = .makeSlice t x y) :
    AskOk O (Okay P o a w S β ω D roots nx) roots (opA o g rd nx) := by
  simp only [opA, ho]
  cases hx : rd [] x with
  | none => exact askOk_fail
  | some u =>
    cases hy : rd [] y with
    | none => cases u <;> first | exact askOk_fail | (rename_i k _; cases k <;> exact askOk_fail)
    | some v =>
      have h1 := hrd.one _ _ hx
      have h2 := hrd.one _ _ hy
      split
      · rename_i l c e1 e2
        cases e1; cases e2
        have hl := h1.int_inv
        have hc := h2.int_inv
        unfold makeA
        cases hd : E.ti t with
        | none => exact askOk_fail
        | some d =>
          obtain ⟨kd, sz, bt, lf⟩ := d
          cases kd with
          | slice e =>
            have hk := ti_kind hT hd
            simp only []
            cases hde : E.ti e with
            | none => cases zeros (E := E) e <;> exact askOk_fail
            | some de =>
              cases hz : zeros (E := E) e with
              | none => exact askOk_fail
              | some zs =>
                simp only []
                cases hdec : E.dec e zs with
                | none => exact askOk_fail
                | some z =>
                  simp only []
                  cases hby : Nat.ble 1 de.bytes with
                  | false => exact askOk_fail
                  | true =>
                    have hby := Nat.le_of_ble_eq_true hby
                    intro hb
                    simp only [Bool.and_eq_true, decide_eq_true_eq] at hb
                    obtain ⟨⟨b1, b2⟩, b3⟩ := hb
                    subst b1
                    obtain ⟨d', i, zv, hd', hi, his, hib, hz1, hz2, hz3, hz4⟩ := zeros_ok hT hz
                    rw [hde] at hd'; cases hd'
                    have hfull : (l : Int) * 1 ≤ l * de.bytes := Int.mul_le_mul_of_nonneg_left (by omega) b2
                    have hrun0 := run_make (P := P) w t e i zv hk hi hz1 .i64 .i64 l l b2 (Int.le_refl _) (by rw [hib, Int.mul_comm]; omega) (by omega)
                    have hrun : (execOp a.eval o).run P w = .ok (.value (.slice (some ⟨w.heap.size, 0, none⟩) l.toNat l.toNat)) (w.alloc (.cells (madeCells zv.cells (l.toNat * i.size)) e)) := by
                      simp only [execOp, ho, hl, hc, Sem.run_bind, hrun0, Result.andThen_ok, Sem.run_pure]
                    have hdf := (hG.dec e zs z hdec).1
                    have hsz := szOf_eq hdf hde
                    have hlen : (List.replicate l.toNat z).length = l.toNat := by simp
                    refine Okay.new1 hG hm (rc := .arr e (List.replicate l.toNat z)) (ob := [w.heap.size]) (ks := []) (fs := []) hrun (fun b hb _ => heap_alloc_lt w _ b hb) (by rw [size_alloc]; omega) rfl rfl rfl (by simp) (by simp) (by simp)
                      (by intro b hb; simp at hb; subst hb; exact ⟨by rw [size_alloc]; omega, .inl (Nat.le_refl _)⟩) ?_ ?_
                    · refine fun _ => .inr ⟨w.heap.size, 0, l.toNat, _, e, rfl, by rw [hlen], by rw [hlen]; exact Nat.le_refl _, heap_alloc_new w _, by rw [size_madeCells, hsz, his]; omega, ?_⟩
                      intro p y hy j cv hj
                      have hp := lt_of_getElem? hy
                      rw [hlen] at hp
                      have hyz : y = z := by
                        rw [List.getElem?_replicate] at hy
                        simp [hp] at hy; exact hy.symm
                      subst hyz
                      have hj' := lt_of_getElem? hj
                      rw [hG.len, hsz] at hj'
                      rw [Nat.zero_add, hsz, ← his, madeCells_get zv.cells _ _ p j hp (by omega) (by omega)]
                      exact dec_RV hG hdec (F := fun j => zv.cells.getD j undef) (fun j c hj => hz4 j c hj _ _ _ _) j cv hj
                    · exact fun _ => .own nx _ _ _ (Grown.self (by simp)) (upd_self _ _ _)
          | _ => exact askOk_fail
      · exact askOk_fail

/-! joining -/

theorem isRow_ok (hT : TIok P E) {t : Nat} (h : isRow (E := E) t = true) : ∃ e, P.underlying t = some (.slice e) := by
  unfold isRow at h
  split at h
  · rename_i e _ _ _ hd
    exact ⟨e, ti_kind hT hd⟩
  · cases h

theorem isStr_ok (hT : TIok P E) {t : Nat} (h : isStr (E := E) t = true) : P.underlying t = some .string := by
  unfold isStr at h
  split at h
  · rename_i hd
    exact ti_kind hT hd
  · cases h

theorem growT_ok (hT : TIok P E) {e by_ : Nat} (h : growT (E := E) e = some by_) :
    ∃ d i z, E.ti e = some d ∧ (E.dflt e).isSome ∧ P.info? e = some i ∧ i.size = d.size ∧ i.bytes = by_ ∧ 1 ≤ by_ ∧ i.zero = some z ∧ z.cells.size = d.size := by
  unfold growT at h
  cases hd : E.ti e with
  | none => simp [hd] at h
  | some d =>
    simp only [hd] at h
    split at h
    · rename_i hb hdf hz
      simp only [Option.some.injEq] at h
      subst h
      obtain ⟨d', i, z, hd', hi, his, hib, hz1, hz2, hz3, _⟩ := zeros_ok hT hz
      rw [hd] at hd'; cases hd'
      exact ⟨d, i, z, rfl, by simp [hdf], hi, his, hib, Nat.le_of_ble_eq_true hb, hz1, by omega⟩
    · cases h

/-- a row whose cells may be copied -/
theorem row_src (hG : Good E) (hm : Mem E cx S β ω D roots w) {α : Type} {good : α → Prop} {κ : Nat} {v : V E.Ty} {cv : Value} (h : RV E w S β D v cv) (hd : (E.dflt κ).isSome) (k : List (E.Ty κ) → List Nat → Ask E α)
    (hk : ∀ xs rs, (∀ r ∈ rs, ∃ rc, find roots r = some rc) →
      (∃ A c, cv = .slice A xs.length c ∧ xs.length ≤ c ∧ (xs = [] ∨ ∃ (b q : Nat) (F : Nat → Nat → Value), A = some ⟨b, q, none⟩ ∧ (S b ∨ ∃ r ∈ rs, b ∈ ω r) ∧
        ∀ i x, xs[i]? = some x → ∀ j cv, (E.cells κ x)[j]? = some cv → w.cell? ⟨b, q + (i * szOf E κ + j), none⟩ = some (F i j) ∧ RV E w S β D cv (F i j))) → AskOk O good roots (k xs rs)) :
    AskOk O good roots (row κ v k) := by
  have hsl : ∀ (xs : List (E.Ty κ)) (rs : List Nat) (cv : Value), RV E w S β D (.sl κ xs) cv →
      ∃ A c, cv = .slice A xs.length c ∧ xs.length ≤ c ∧ (xs = [] ∨ ∃ (b q : Nat) (F : Nat → Nat → Value), A = some ⟨b, q, none⟩ ∧ (S b ∨ ∃ r ∈ rs, b ∈ ω r) ∧
        ∀ i x, xs[i]? = some x → ∀ j cv, (E.cells κ x)[j]? = some cv → w.cell? ⟨b, q + (i * szOf E κ + j), none⟩ = some (F i j) ∧ RV E w S β D cv (F i j)) := by
    intro xs rs cv h
    obtain ⟨A, c, he, hc, hxs⟩ := h.sl_inv
    refine ⟨A, c, he, hc, ?_⟩
    rcases hxs with h0 | ⟨b, q, F, hA, hS, k1, k2⟩
    · exact .inl h0
    · exact .inr ⟨b, q, F, hA, .inl hS, fun i x hx j cv hj => ⟨k1 i x hx j cv hj, k2 i x hx j cv hj⟩⟩
  unfold row
  split
  · obtain ⟨A, rfl⟩ := h.nl_inv
    exact hk [] [] (by simp) ⟨A, 0, rfl, Nat.le_refl _, .inl rfl⟩
  · split
    · rename_i he
      subst he
      exact hk _ [] (by simp) (hsl _ _ _ h)
    · exact askOk_fail
  · rename_i r
    obtain ⟨rfl, hr⟩ := h.own_inv
    intro rc hrc
    have hok := hm.ok r rc hrc
    cases rc with
    | arr κ' xs =>
      simp only [frzOf]
      split
      · rename_i he
        subst he
        refine hk xs [r] (by intro r' hr'; simp at hr'; subst hr'; exact ⟨_, hrc⟩) ?_
        rcases hok with ⟨rfl, _, A, hA⟩ | ⟨b, q, c, arr, e, hob, he, hc, hh, hsz, hcells⟩
        · exact ⟨A, 0, hA, Nat.le_refl _, .inl rfl⟩
        · refine ⟨_, c, he, hc, .inr ⟨b, q, fun i j => arr.getD (q + (i * szOf E κ' + j)) undef, rfl, .inr ⟨r, by simp, by rw [hob]; simp⟩, ?_⟩⟩
          intro i x hx j cv hj
          refine ⟨?_, hcells i x hx j cv hj⟩
          have hi := lt_of_getElem? hx
          have hj' := lt_of_getElem? hj
          rw [hG.len κ' x] at hj'
          have := pair_lt (Nat.lt_of_lt_of_le hi hc) hj'
          have hlt : q + (i * szOf E κ' + j) < arr.size := by omega
          simp [World.cell?, hh, hlt]
      · exact askOk_fail
    | fz κ' xs =>
      simp only [frzOf]
      split
      · rename_i he
        subst he
        exact hk xs [r] (by intro r' hr'; simp at hr'; subst hr'; exact ⟨_, hrc⟩) (hsl _ _ _ hok.2)
      · exact askOk_fail
    | _ => exact askOk_fail
  · exact askOk_fail

/-- a row's cells, one behind the other -/
def flatF (F : Nat → Nat → Value) (n m : Nat) : List Value := (List.range (n * m)).map fun p => F (p / m) (p % m)

theorem flatF_len (F : Nat → Nat → Value) (n m : Nat) : (flatF F n m).length = n * m := by simp [flatF]
theorem flatF_get (F : Nat → Nat → Value) (n m i j : Nat) (hi : i < n) (hj : j < m) : (flatF F n m)[i * m + j]? = some (F i j) := by
  have h := pair_lt hi hj
  have h1 := pair_div (i := i) hj
  simp [flatF, h, h1.1, h1.2]
theorem flatF_inv {F : Nat → Nat → Value} {n m p : Nat} {v : Value} (h : (flatF F n m)[p]? = some v) : ∃ i j, i < n ∧ j < m ∧ p = i * m + j ∧ v = F i j := by
  have hp := lt_of_getElem? h
  rw [flatF_len] at hp
  have hm : 0 < m := by
    rcases Nat.eq_zero_or_pos m with h0 | h0
    · subst h0; simp at hp
    · exact h0
  have h1 : (flatF F n m)[p]? = some (F (p / m) (p % m)) := by simp [flatF, hp]
  rw [h1] at h
  simp at h
  exact ⟨p / m, p % m, Nat.div_lt_of_lt_mul (by rw [Nat.mul_comm]; exact hp), Nat.mod_lt _ hm, (by rw [Nat.mul_comm]; exact (Nat.div_add_mod p m).symm), h.symm⟩

theorem run_append_base (t ty e : TypeId) (i : TypeInfo) (z : Value) (ht : P.underlying t = some (.slice e)) (hi : P.info? e = some i) (hz : i.zero = some z) (t2 e2 : TypeId) (ht2 : P.underlying t2 = some (.slice e2))
    (s x : Value) (A : Option Addr) (n sCap m : Nat) (olds news : List Value) (hs : s = .slice A n sCap) (hx : (Builtin.lenOf x).run P w = .ok m w)
    (ho : (Builtin.firstCells i.size n s).run P w.drew = .ok olds.toArray w.drew) (hn : (Builtin.firstCells i.size m x).run P w.drew = .ok news.toArray w.drew)
    (hg : sCap < n + m) (h63 : ((n + m : Nat) : Int) ≤ 9223372036854775807) (hfit : Builtin.nextslicecap (n + m) sCap * i.bytes ≤ 281474976710656) :
    (Builtin.append_ #[t, t2] ty #[s, x]).run P w =
      .ok (.slice (some ⟨w.heap.size, 0, none⟩) (n + m) (grownCap w (n + m) sCap e))
        (w.drew.alloc (.cells (olds.toArray ++ news.toArray ++ Builtin.zeroCells z.cells (grownCap w (n + m) sCap e - (n + m))) e)) := by
  subst hs
  have hn' : ¬ (n + m ≤ sCap) := by omega
  have h63' : ¬ (9223372036854775807 < ((n : Int) + (m : Int))) := by omega
  have h48' : ¬ (281474976710656 < Builtin.nextslicecap (n + m) sCap * i.bytes) := by omega
  simp [Builtin.append_, run_underlying ht, run_underlying ht2, sizeOf, typeInfo, zeroValue, hi, hz, hx, hn', h63', h48', Question.forced, ho, hn, newRow, grownCap]
  congr 2
  apply Array.ext'
  simp [List.append_assoc]

theorem run_append_fits (t ty e : TypeId) (i : TypeInfo) (ht : P.underlying t = some (.slice e)) (hi : P.info? e = some i) (t2 e2 : TypeId) (ht2 : P.underlying t2 = some (.slice e2))
    (s x : Value) (b q n sCap m : Nat) (news : List Value) (hs : s = .slice (some ⟨b, q, none⟩) n sCap) (hx : (Builtin.lenOf x).run P w = .ok m w)
    (hn : (Builtin.firstCells i.size m x).run P w = .ok news.toArray w) (h1 : ∀ u ∈ news, u.oneCell' = true) (arr : Array Value) (et : TypeId) (hb : w.heap[b]? = some (.cells arr et (0, 0)))
    (hroom : n + m ≤ sCap) (hfit : q + n * i.size + news.length ≤ arr.size) :
    (Builtin.append_ #[t, t2] ty #[s, x]).run P w =
      .ok (.slice (some ⟨b, q, none⟩) (n + m) sCap) (w.setRow b (arr.toList.take (q + n * i.size) ++ news ++ arr.toList.drop (q + n * i.size + news.length)).toArray) := by
  subst hs
  have hst := run_storeCells_at P b (q + n * i.size) et news 0 arr w hb (by simpa using hfit) h1
  simp only [Nat.add_zero] at hst
  simp [Builtin.append_, run_underlying ht, run_underlying ht2, sizeOf, typeInfo, hi, hx, hroom, hn, Addr.add_mid, hst]

theorem run_append_empty (t ty e : TypeId) (i : TypeInfo) (ht : P.underlying t = some (.slice e)) (hi : P.info? e = some i) (t2 e2 : TypeId) (ht2 : P.underlying t2 = some (.slice e2))
    (s x : Value) (A : Option Addr) (hs : s = .slice A 0 0) (hx : (Builtin.lenOf x).run P w = .ok 0 w) (hn : (Builtin.firstCells i.size 0 x).run P w = .ok #[] w) :
    (Builtin.append_ #[t, t2] ty #[s, x]).run P w = .ok (.slice A 0 0) w := by
  subst hs
  cases A with
  | none => simp [Builtin.append_, run_underlying ht, run_underlying ht2, sizeOf, typeInfo, hi, hx, hn]
  | some A => simp [Builtin.append_, run_underlying ht, run_underlying ht2, sizeOf, typeInfo, hi, hx, hn, storeCells]

end

end Go.Proofs.Ytejfpemjmpoddaa.Vx
/-! Operations, on: rows that are joined. -/
namespace Go.Proofs.Ytejfpemjmpoddaa.Vx
open Go

section
variable {P : Program} {E : Env}
variable {cx : Cx} {w w' : World} {S : Nat → Prop} {β : Nat → Value} {ω : Nat → List Nat} {D : Nat → Prop} {roots : List (Nat × RC E.Ty)} {nx : Nat} {a : Act} {o : Oper}
variable {O : Orc E} {rd : List (Nat × Bool) → Operand → Option (V E.Ty)} {g : Bool}

/-- where a row's cells lie that is to be copied -/
def Src (E : Env) (w : World) (S : Nat → Prop) (β : Nat → Value) (D : Nat → Prop) (κ : Nat) (ys : List (E.Ty κ)) (cv : Value) (N : Nat → Prop) : Prop :=
  ∃ A c, cv = .slice A ys.length c ∧ ys.length ≤ c ∧ (ys = [] ∨ ∃ (b q : Nat) (F : Nat → Nat → Value), A = some ⟨b, q, none⟩ ∧ N b ∧
    ∀ i x, ys[i]? = some x → ∀ j cv, (E.cells κ x)[j]? = some cv → w.cell? ⟨b, q + (i * szOf E κ + j), none⟩ = some (F i j) ∧ RV E w S β D cv (F i j))

theorem Src.first (hG : Good E) {κ : Nat} {ys : List (E.Ty κ)} {cv : Value} {N : Nat → Prop} (h : Src E w S β D κ ys cv N) :
    (Builtin.lenOf cv).run P w = .ok ys.length w ∧ ∃ F : Nat → Nat → Value, (∀ w1 : World, w1.heap = w.heap → (Builtin.firstCells (szOf E κ) ys.length cv).run P w1 = .ok (flatF F ys.length (szOf E κ)).toArray w1) ∧
      ∀ i x, ys[i]? = some x → ∀ j cv, (E.cells κ x)[j]? = some cv → RV E w S β D cv (F i j) := by
  obtain ⟨A, c, rfl, hc, hys⟩ := h
  refine ⟨by simp [Builtin.lenOf], ?_⟩
  rcases hys with rfl | ⟨b, q, F, rfl, _, hF⟩
  · refine ⟨fun _ _ => undef, fun w1 _ => ?_, by simp⟩
    have : flatF (fun _ _ => undef) 0 (szOf E κ) = [] := List.eq_nil_of_length_eq_zero (by simp [flatF])
    cases A with
    | none => simp [Builtin.firstCells, this]
    | some A =>
      have h2 := run_firstCells_some (P := P) w1 (szOf E κ) 0 A 0 c [] (by simp) (by simp)
      simpa [this] using h2
  · refine ⟨F, fun w1 hw1 => ?_, fun i x hx j cv hj => (hF i x hx j cv hj).2⟩
    refine run_firstCells_some (P := P) w1 (szOf E κ) ys.length ⟨b, q, none⟩ ys.length c _ (flatF_len _ _ _) ?_
    intro p v hp
    obtain ⟨i, j, hi, hj, rfl, rfl⟩ := flatF_inv hp
    have hx := List.getElem?_eq_getElem hi
    have hjl : j < (E.cells κ ys[i]).length := by rw [hG.len]; exact hj
    have := (hF i _ hx j _ (List.getElem?_eq_getElem hjl)).1
    rw [Addr.add_mid]
    rw [← this]
    simp only [World.cell?, hw1]

theorem plain_one (hG : Good E) {κ : Nat} {x : E.Ty κ} {j : Nat} {c : V E.Ty} (hj : (E.cells κ x)[j]? = some c) {cv : Value} (h : RV E w S β D c cv) : cv.oneCell' = true := by
  have hp := hG.cell κ x c (List.mem_of_getElem? hj)
  cases h <;> first | rfl | (simp [Plain] at hp; done)

theorem flat_one (hG : Good E) {κ : Nat} {ys : List (E.Ty κ)} {F : Nat → Nat → Value} (h : ∀ i x, ys[i]? = some x → ∀ j cv, (E.cells κ x)[j]? = some cv → RV E w S β D cv (F i j)) :
    ∀ u ∈ flatF F ys.length (szOf E κ), u.oneCell' = true := by
  intro u hu
  obtain ⟨p, hp⟩ := List.mem_iff_getElem?.1 hu
  obtain ⟨i, j, hi, hj, rfl, rfl⟩ := flatF_inv hp
  have hjl : j < (E.cells κ ys[i]).length := by rw [hG.len]; exact hj
  exact plain_one hG (List.getElem?_eq_getElem hjl) (h i _ (List.getElem?_eq_getElem hi) j _ (List.getElem?_eq_getElem hjl))

theorem append_core (hT : TIok P E) (hG : Good E) {t u ty e e2 by_ : Nat} (ht : P.underlying t = some (.slice e)) (hu : P.underlying u = some (.slice e2)) (hgr : growT (E := E) e = some by_)
    {xs ys : List (E.Ty e)} {sv xv : Value} {ob : List Nat} {N : Nat → Prop} (hs : OR E w S β D e xs sv ob) (hob : ∀ b ∈ ob, ¬ S b ∧ b < w.heap.size) (hx : Src E w S β D e ys xv N)
    (hS : ∀ b, S b → b < w.heap.size) (hb : (xs.length + ys.length) * by_ ≤ 140737488355328) :
    ∃ v w' ob', (Builtin.append_ #[t, u] ty #[sv, xv]).run P w = .ok v w' ∧ OR E w' S β D e (xs ++ ys) v ob' ∧ (∀ b ∈ ob', b < w'.heap.size ∧ (w.heap.size ≤ b ∨ b ∈ ob)) ∧
      (∀ b, b < w.heap.size → b ∉ ob → w'.heap[b]? = w.heap[b]?) ∧ w.heap.size ≤ w'.heap.size ∧ w'.os = w.os ∧ w'.tape = w.tape ∧ w'.output = w.output := by
  obtain ⟨d, i, z, hd, hdf, hi, his, hib, hb1, hz, hzs⟩ := growT_ok hT hgr
  have hsz : szOf E e = i.size := by rw [szOf_eq hdf hd, his]
  obtain ⟨hlen, F, hfirst, hF⟩ := hx.first (P := P) hG
  have hone := flat_one hG hF
  rw [hsz] at hfirst hone
  have hsmall : xs.length + ys.length ≤ 140737488355328 := Nat.le_trans (Nat.le_mul_of_pos_right _ (by omega)) hb
  -- a new row
  have hnew : ∀ (A : Option Addr) (cS : Nat) (olds : List Value) (G : Nat → Nat → Value), sv = .slice A xs.length cS → olds = flatF G xs.length i.size →
      (Builtin.firstCells i.size xs.length sv).run P w.drew = .ok olds.toArray w.drew → cS < xs.length + ys.length → 
      (∀ i x, xs[i]? = some x → ∀ j cv, (E.cells e x)[j]? = some cv → RV E w S β D cv (G i j)) →
      ∃ v w' ob', (Builtin.append_ #[t, u] ty #[sv, xv]).run P w = .ok v w' ∧ OR E w' S β D e (xs ++ ys) v ob' ∧ (∀ b ∈ ob', b < w'.heap.size ∧ (w.heap.size ≤ b ∨ b ∈ ob)) ∧
      (∀ b, b < w.heap.size → b ∉ ob → w'.heap[b]? = w.heap[b]?) ∧ w.heap.size ≤ w'.heap.size ∧ w'.os = w.os ∧ w'.tape = w.tape ∧ w'.output = w.output := by
    intro A cS olds G hsv hol hfo hlt hG'
    have hfit := growslice_fits (need := xs.length + ys.length) (old := cS) (bytes := i.bytes) hlt (by rw [hib]; exact hb)
    have hr := run_append_base (P := P) (w := w) t ty e i z ht hi hz u e2 hu sv xv A xs.length cS ys.length olds _ hsv hlen hfo (hfirst w.drew rfl) hlt (by omega) hfit
    have hge := grownCap_ge w (xs.length + ys.length) cS e
    refine ⟨_, _, [w.heap.size], hr, .inr ⟨w.heap.size, 0, _, _, e, rfl, by rw [List.length_append], by rw [List.length_append]; exact hge, heap_alloc_new w.drew _, ?_, ?_⟩, ?_, ?_, ?_, rfl, rfl, rfl⟩
    · have hzz : (Builtin.zeroCells z.cells (grownCap w (xs.length + ys.length) cS e - (xs.length + ys.length))).size = (grownCap w (xs.length + ys.length) cS e - (xs.length + ys.length)) * i.size := by
        rw [size_zeroCells, hzs, his]
      rw [Array.size_append, Array.size_append, hzz, hsz]
      simp only [List.size_toArray, hol, flatF_len]
      rw [← Nat.add_mul, ← Nat.add_mul]
      have : xs.length + ys.length + (grownCap w (xs.length + ys.length) cS e - (xs.length + ys.length)) = grownCap w (xs.length + ys.length) cS e := by omega
      rw [this]; omega
    · intro p x hx' j cv hj
      have hj' := lt_of_getElem? hj
      rw [hG.len, hsz] at hj'
      have hSw : ∀ b, S b → (w.drew.alloc (.cells (olds.toArray ++ (flatF F ys.length i.size).toArray ++ Builtin.zeroCells z.cells (grownCap w (xs.length + ys.length) cS e - (xs.length + ys.length))) e)).heap[b]? = w.heap[b]? :=
        fun b hb => heap_alloc_lt w.drew _ b (hS b hb)
      have hget : ∀ (q : Nat) (v : Value), (olds ++ flatF F ys.length i.size)[q]? = some v → (olds.toArray ++ (flatF F ys.length i.size).toArray ++ Builtin.zeroCells z.cells (grownCap w (xs.length + ys.length) cS e - (xs.length + ys.length))).getD q undef = v := by
        intro q v hq
        have hq' := lt_of_getElem? hq
        have h1 : q < (olds.toArray ++ (flatF F ys.length i.size).toArray ++ Builtin.zeroCells z.cells (grownCap w (xs.length + ys.length) cS e - (xs.length + ys.length))).size := by
          simp only [Array.size_append, List.size_toArray]; simp at hq'; omega
        have h2 : q < (olds.toArray ++ (flatF F ys.length i.size).toArray).size := by simpa using hq'
        simp only [Array.getD, h1, dif_pos]
        show (olds.toArray ++ (flatF F ys.length i.size).toArray ++ _)[q] = v
        rw [Array.getElem_append_left h2]
        rw [List.getElem?_eq_getElem hq'] at hq
        simpa using hq
      rw [Nat.zero_add, hsz]
      by_cases hp : p < xs.length
      · rw [List.getElem?_append_left hp] at hx'
        have h1 : (olds ++ flatF F ys.length i.size)[p * i.size + j]? = some (G p j) := by
          rw [List.getElem?_append_left (by rw [hol, flatF_len]; exact pair_lt hp hj'), hol]
          exact flatF_get G _ _ _ _ hp hj'
        rw [hget _ _ h1]
        exact (hG' p x hx' j cv hj).mono hSw (fun _ h => h) (fun _ h => h) (fun _ _ => rfl)
      · rw [List.getElem?_append_right (by omega)] at hx'
        have hp' := lt_of_getElem? hx'
        have h1 : (olds ++ flatF F ys.length i.size)[p * i.size + j]? = some (F (p - xs.length) j) := by
          have h2 : p * i.size + j = xs.length * i.size + ((p - xs.length) * i.size + j) := by
            rw [← Nat.add_assoc, ← Nat.add_mul]; congr 2; omega
          rw [h2, List.getElem?_append_right (by rw [hol, flatF_len]; omega), hol, flatF_len, Nat.add_sub_cancel_left]
          exact flatF_get F _ _ _ _ hp' hj'
        rw [hget _ _ h1]
        exact (hF _ x hx' j cv hj).mono hSw (fun _ h => h) (fun _ h => h) (fun _ _ => rfl)
    · intro b hb'
      simp at hb'; subst hb'
      exact ⟨by rw [size_alloc]; show w.heap.size < w.heap.size + 1; omega, .inl (Nat.le_refl _)⟩
    · intro b hb' _
      exact heap_alloc_lt w.drew _ b hb'
    · rw [size_alloc]; show w.heap.size ≤ w.heap.size + 1; omega
  rcases hs with ⟨rfl, rfl, A, rfl⟩ | ⟨b, q, c, arr, et, rfl, rfl, hc, hh, hsza, hcells⟩
  · by_cases h0 : ys = []
    · subst h0
      have hf0 : flatF F 0 i.size = [] := List.eq_nil_of_length_eq_zero (by simp [flatF])
      have hf1 := hfirst w rfl
      simp only [List.length_nil, hf0] at hf1 hlen
      refine ⟨.slice A 0 0, w, [], run_append_empty t ty e i ht hi u e2 hu _ xv A rfl hlen hf1, .inl ⟨rfl, rfl, A, rfl⟩, by simp, fun _ _ _ => rfl, Nat.le_refl _, rfl, rfl, rfl⟩
    · refine hnew A 0 [] (fun _ _ => undef) rfl (List.eq_nil_of_length_eq_zero (by simp [flatF])).symm ?_ (by have := List.length_pos_iff.2 h0; simp only [List.length_nil]; omega) (by simp)
      cases A with
      | none => simp [Builtin.firstCells]
      | some A => exact run_firstCells_some (P := P) w.drew i.size 0 A 0 0 [] (by simp) (by simp)
  · by_cases hroom : xs.length + ys.length ≤ c
    · have hfitr : q + xs.length * i.size + (flatF F ys.length i.size).length ≤ arr.size := by
        rw [flatF_len]
        have h1 : (xs.length + ys.length) * i.size ≤ c * i.size := Nat.mul_le_mul_right _ hroom
        rw [Nat.add_mul] at h1
        rw [hsz] at hsza
        omega
      have hr := run_append_fits (P := P) (w := w) t ty e i ht hi u e2 hu _ xv b q xs.length c ys.length _ rfl hlen (hfirst w rfl) hone arr et hh hroom hfitr
      have hbS := hob b (by simp)
      have hSw : ∀ b', S b' → (w.setRow b (arr.toList.take (q + xs.length * i.size) ++ flatF F ys.length i.size ++ arr.toList.drop (q + xs.length * i.size + (flatF F ys.length i.size).length)).toArray).heap[b']? = w.heap[b']? :=
        fun b' hb' => setRow_other w b b' _ (fun e => hbS.1 (e ▸ hb'))
      refine ⟨_, _, [b], hr, .inr ⟨b, q, c, _, et, rfl, by rw [List.length_append], by rw [List.length_append]; exact hroom, setRow_heap w b arr _ et _ hh, ?_, ?_⟩, ?_, ?_, ?_, rfl, rfl, rfl⟩
      · have : (arr.toList.take (q + xs.length * i.size) ++ flatF F ys.length i.size ++ arr.toList.drop (q + xs.length * i.size + (flatF F ys.length i.size).length)).toArray.size = arr.size := by
          simp only [List.size_toArray, List.length_append, List.length_take, List.length_drop, Array.length_toList]; omega
        rw [this]; exact hsza
      · intro p x hx' j cv hj
        have hj' := lt_of_getElem? hj
        rw [hG.len, hsz] at hj'
        have hget : ∀ (k : Nat) (v : Value), (arr.toList.take (q + xs.length * i.size) ++ flatF F ys.length i.size)[k]? = some v →
            (arr.toList.take (q + xs.length * i.size) ++ flatF F ys.length i.size ++ arr.toList.drop (q + xs.length * i.size + (flatF F ys.length i.size).length)).toArray.getD k undef = v := by
          intro k v hk
          have hk' := lt_of_getElem? hk
          have h1 : (arr.toList.take (q + xs.length * i.size) ++ flatF F ys.length i.size ++ arr.toList.drop (q + xs.length * i.size + (flatF F ys.length i.size).length))[k]? = some v := by
            rw [List.getElem?_append_left hk']; exact hk
          have h2 := lt_of_getElem? h1
          simp only [Array.getD, List.size_toArray, h2, dif_pos]
          rw [List.getElem?_eq_getElem h2] at h1
          simpa using h1
        have hql : (arr.toList.take (q + xs.length * i.size)).length = q + xs.length * i.size := by simp; omega
        rw [hsz]
        by_cases hp : p < xs.length
        · rw [List.getElem?_append_left hp] at hx'
          have h3 := pair_lt hp hj'
          have h4 : q + (p * i.size + j) < arr.size := by omega
          have h1 : (arr.toList.take (q + xs.length * i.size) ++ flatF F ys.length i.size)[q + (p * i.size + j)]? = some (arr.getD (q + (p * i.size + j)) undef) := by
            rw [List.getElem?_append_left (by rw [hql]; omega), List.getElem?_take]
            simp only [show q + (p * i.size + j) < q + xs.length * i.size by omega, if_true, Array.getElem?_toList]
            simp [h4]
          rw [hget _ _ h1]
          have := hcells p x hx' j cv hj
          rw [hsz] at this
          exact this.mono hSw (fun _ h => h) (fun _ h => h) (fun _ _ => rfl)
        · rw [List.getElem?_append_right (by omega)] at hx'
          have hp' := lt_of_getElem? hx'
          have h1 : (arr.toList.take (q + xs.length * i.size) ++ flatF F ys.length i.size)[q + (p * i.size + j)]? = some (F (p - xs.length) j) := by
            have h2 : q + (p * i.size + j) = (q + xs.length * i.size) + ((p - xs.length) * i.size + j) := by
              have : p * i.size = xs.length * i.size + (p - xs.length) * i.size := by rw [← Nat.add_mul]; congr 1; omega
              omega
            rw [h2, List.getElem?_append_right (by rw [hql]; omega), hql, Nat.add_sub_cancel_left]
            exact flatF_get F _ _ _ _ hp' hj'
          rw [hget _ _ h1]
          exact (hF _ x hx' j cv hj).mono hSw (fun _ h => h) (fun _ h => h) (fun _ _ => rfl)
      · intro b' hb'
        simp at hb'; subst hb'
        exact ⟨by rw [setRow_size]; exact hbS.2, .inr (by simp)⟩
      · intro b' _ hne
        exact setRow_other w b b' _ (by simpa using hne)
      · rw [setRow_size]; exact Nat.le_refl _
    · refine hnew (some ⟨b, q, none⟩) c _ (fun p j => arr.getD (q + (p * i.size + j)) undef) rfl rfl ?_ (by omega) (fun p x hx' j cv hj => by have := hcells p x hx' j cv hj; rw [hsz] at this; exact this)
      refine run_firstCells_some (P := P) w.drew i.size xs.length ⟨b, q, none⟩ xs.length c _ (flatF_len _ _ _) ?_
      intro p v hp
      obtain ⟨p', j, hp', hj, rfl, rfl⟩ := flatF_inv hp
      have h3 := pair_lt (Nat.lt_of_lt_of_le hp' hc) hj
      rw [hsz] at hsza
      have h4 : q + (p' * i.size + j) < arr.size := by omega
      rw [Addr.add_mid]
      have : w.drew.cell? ⟨b, q + (p' * i.size + j), none⟩ = w.cell? ⟨b, q + (p' * i.size + j), none⟩ := rfl
      rw [this]
      simp [World.cell?, hh, h4]

theorem Mem.slice_of (hm : Mem E cx S β ω D roots w) {r κ : Nat} {xs : List (E.Ty κ)} (h : find roots r = some (.arr κ xs)) : OR E w S β D κ xs (β r) (ω r) := hm.ok r _ h

theorem OR.kindOf {κ : Nat} {xs : List (E.Ty κ)} {v : Value} {ob : List Nat} (h : OR E w S β D κ xs v ob) : ∃ A c, v = .slice A xs.length c := by
  rcases h with ⟨rfl, _, A, rfl⟩ | ⟨b, q, c, arr, et, _, rfl, _⟩
  · exact ⟨A, 0, rfl⟩
  · exact ⟨_, c, rfl⟩

theorem append_ok (hT : TIok P E) (hG : Good E) (hm : Mem E cx S β ω D roots w) {t u : Nat} {x y : V E.Ty} {sv xv : Value} {ty : Nat} (hu : ∃ e2, P.underlying u = some (.slice e2)) (hx : RV E w S β D x sv) (hy : RV E w S β D y xv)
    (hrun : ∀ v w', (Builtin.append_ #[t, u] ty #[sv, xv]).run P w = .ok v w' → (execOp a.eval o).run P w = .ok (.value v) w') :
    AskOk O (Okay P o a w S β ω D roots nx) roots (appendA t x y nx) := by
  obtain ⟨e2, hu⟩ := hu
  unfold appendA
  cases hd : E.ti t with
  | none => exact askOk_fail
  | some d =>
    obtain ⟨kd, sz, bt, lf⟩ := d
    cases kd with
    | slice e =>
      have hk := ti_kind hT hd
      simp only []
      cases hgr : growT (E := E) e with
      | none => exact askOk_fail
      | some by_ =>
        have hdf := (growT_ok hT hgr)
        obtain ⟨_, _, _, _, hdf, _⟩ := hdf
        cases x with
        | nl =>
          obtain ⟨A, rfl⟩ := hx.nl_inv
          simp only []
          refine row_src hG hm hy hdf _ (fun ys rs hrs hsrc => ?_)
          intro hb
          have hb := of_decide_eq_true hb
          obtain ⟨v, w', ob', hr, hor, hob, hold, hsz, h1, h2, h3⟩ := append_core (N := fun b => S b ∨ ∃ r ∈ rs, b ∈ ω r) (ty := ty) hT hG hk hu hgr (xs := []) (ob := []) (.inl ⟨rfl, rfl, A, rfl⟩) (by simp) hsrc hm.sb (by simpa using hb)
          have hSw : ∀ b, S b → w'.heap[b]? = w.heap[b]? := fun b hb => hold b (hm.sb b hb) (by simp)
          obtain ⟨A', c', hv⟩ := hor.kindOf
          refine Okay.new1 hG hm (ob := ob') (ks := []) (fs := []) (hrun _ _ hr) (fun b hb _ => hold b hb (by simp)) hsz h1 h2 h3 (by simp) (by simp) (by simp)
            (fun b hb => ⟨(hob b hb).1, .inl (by rcases (hob b hb).2 with h | h; exact h; simp at h)⟩) ?_ ?_
          · intro hfr
            have := hor
            rw [List.nil_append] at this
            exact OR.mono this (fun _ _ => rfl) (fun _ _ => rfl) (fun _ h => .inl h) (fun _ h => .inl h) (fun _ hr => upd_lt hfr _ _ hr)
          · subst hv
            exact fun _ => .own nx _ _ _ (Grown.self (by simp)) (upd_self _ _ _)
        | own r =>
          obtain ⟨rfl, hr⟩ := hx.own_inv
          intro rc hrc
          cases rc with
          | arr κ xs =>
            simp only [frzOf]
            split
            · rename_i he
              subst he
              refine row_src hG hm hy hdf _ (fun ys rs hrs hsrc => ?_)
              simp only []
              split
              · rename_i hmem
                intro hb
                have hb := of_decide_eq_true hb
                have hok := hm.slice_of hrc
                obtain ⟨v, w', ob', hr', hor, hob, hold, hsz, h1, h2, h3⟩ := append_core (N := fun b => S b ∨ ∃ r ∈ rs, b ∈ ω r) (ty := ty) hT hG hk hu hgr (ob := ω r) hok (fun b hb => ⟨(hm.ob r _ hrc b hb).1, (hm.ob r _ hrc b hb).2.1⟩) hsrc hm.sb hb
                obtain ⟨A', c', hv⟩ := hor.kindOf
                refine Okay.new1 hG hm (ob := ob') (ks := [r]) (fs := []) (hrun _ _ hr') (fun b hb hk => hold b hb (hk r (by simp))) hsz h1 h2 h3 (by intro r' hr'; simp at hr'; subst hr'; exact ⟨_, hrc⟩) (by simp) (by simp)
                  (fun b hb => ⟨(hob b hb).1, by rcases (hob b hb).2 with h | h; exact .inl h; exact .inr ⟨r, by simp, h⟩⟩) ?_ ?_
                · exact fun hfr => OR.mono hor (fun _ _ => rfl) (fun _ _ => rfl) (fun _ h => .inl h) (fun _ h => .inl h) (fun _ hr => upd_lt hfr _ _ hr)
                · subst hv
                  exact fun _ => .own nx _ _ _ (Grown.self (by simp)) (upd_self _ _ _)
              · exact askOk_fail
            · exact askOk_fail
          | _ => exact askOk_fail
        | _ => exact askOk_fail
    | _ => exact askOk_fail

/-! lengths -/

theorem len_ok (hT : TIok P E) (hm : Mem E cx S β ω D roots w) {t ty : Nat} {x : V E.Ty} {xv : Value} (hx : RV E w S β D x xv)
    (hrun : ∀ v, (Builtin.len_ #[t] ty #[xv]).run P w = .ok v w → (execOp a.eval o).run P w = .ok (.value v) w) :
    AskOk O (Okay P o a w S β ω D roots nx) roots (lenA t x) := by
  have hrow : ∀ (A : Option Addr) (n c : Nat), isRow (E := E) t = true → xv = .slice A n c → (execOp a.eval o).run P w = .ok (.value (.int .i64 n)) w := by
    intro A n c h1 h2
    obtain ⟨e, he⟩ := isRow_ok hT h1
    refine hrun _ ?_
    subst h2
    simp [Builtin.len_, run_underlying_ok he, goInt]
  unfold lenA
  split
  · rename_i s
    have hv := hx.str_inv
    split
    · rename_i hs
      have h1 := isStr_ok hT hs
      refine Okay.val hm (cv := .int .i64 s.length) (hrun _ ?_) (.int _ _)
      subst hv
      simp [Builtin.len_, run_underlying_ok h1, goInt, size_toArray]
    · exact askOk_fail
  · obtain ⟨A, hv⟩ := hx.nl_inv
    split
    · rename_i hs
      exact Okay.val hm (hrow A 0 0 hs hv) (.int _ _)
    · exact askOk_fail
  · rename_i κ xs
    obtain ⟨A, c, hv, _⟩ := hx.sl_inv
    split
    · rename_i hs
      exact Okay.val hm (hrow A _ c hs hv) (.int _ _)
    · exact askOk_fail
  · rename_i r
    obtain ⟨hv, hr⟩ := hx.own_inv
    split
    · rename_i hs
      intro rc hrc
      cases rc with
      | arr κ xs =>
        obtain ⟨A, c, he⟩ := (hm.slice_of hrc).kindOf
        exact Okay.val hm (hrow A _ c hs (hv.trans he)) (.int _ _)
      | fz κ xs =>
        obtain ⟨A, c, he, _⟩ := (hm.ok r _ hrc).2.sl_inv
        exact Okay.val hm (hrow A _ c hs (hv.trans he)) (.int _ _)
      | _ => exact askOk_fail
    · exact askOk_fail
  · exact askOk_fail

end

end Go.Proofs.Ytejfpemjmpoddaa.Vx
/-! Operations, on: structs and rows that are built, what is stored, what is made another type. -/
namespace Go.Proofs.Ytejfpemjmpoddaa.Vx
open Go

section
variable {P : Program} {E : Env}
variable {cx : Cx} {w w' : World} {S : Nat → Prop} {β : Nat → Value} {ω : Nat → List Nat} {D : Nat → Prop} {roots : List (Nat × RC E.Ty)} {nx : Nat} {a : Act} {o : Oper}
variable {O : Orc E} {rd : List (Nat × Bool) → Operand → Option (V E.Ty)} {g : Bool}

theorem rdP_nil {os : List (Nat × Operand)} {vs : List (Nat × V E.Ty)} (h : rdP (rd []) os = some vs) : os.length = vs.length := by
  induction os generalizing vs with
  | nil => simp [rdP] at h; subst h; rfl
  | cons q os ih =>
    obtain ⟨i, x⟩ := q
    simp only [rdP] at h
    split at h
    · rename_i hr
      simp only [Option.some.injEq] at h; subst h
      simp [ih hr]
    · cases h

theorem splice_some {cs ds es : List (V E.Ty)} {off : Nat} (h : splice cs off ds = some es) : off + ds.length ≤ cs.length ∧ es.length = cs.length ∧
    ∀ k, es[k]? = if off ≤ k ∧ k < off + ds.length then ds[k - off]? else cs[k]? := by
  unfold splice at h
  split at h
  · rename_i hle
    have hle := Nat.le_of_ble_eq_true hle
    simp only [Option.some.injEq] at h
    subst h
    refine ⟨hle, by simp; omega, fun k => ?_⟩
    have htl : (cs.take off).length = off := by simp; omega
    by_cases h1 : k < off
    · rw [if_neg (by omega), List.getElem?_append_left (by simp; omega), List.getElem?_append_left (by omega), List.getElem?_take]
      simp [h1]
    · by_cases h2 : k < off + ds.length
      · rw [if_pos ⟨by omega, h2⟩, List.getElem?_append_left (by simp; omega), List.getElem?_append_right (by omega), htl]
      · rw [if_neg (by omega), List.getElem?_append_right (by simp; omega), List.getElem?_drop]
        congr 1
        simp; omega
  · cases h

/-- one part goes in -/
theorem fill_step {cs ds es : List (V E.Ty)} {off : Nat} {arr vals : Array Value} (h : splice cs off ds = some es) (hsz : arr.size = cs.length) (hvl : vals.size = ds.length)
    (hcs : ∀ j c, cs[j]? = some c → RV E w S β D c (arr.getD j undef)) (hds : ∀ (j : Nat) (c : V E.Ty), ds[j]? = some c → RV E w S β D c (vals.getD j undef)) :
    ¬ (off + vals.size > arr.size) ∧ (vals.zipIdx.foldl (fun cs (x : Value × Nat) => cs.setIfInBounds (off + x.2) x.1) arr).size = es.length ∧
      ∀ j c, es[j]? = some c → RV E w S β D c ((vals.zipIdx.foldl (fun cs (x : Value × Nat) => cs.setIfInBounds (off + x.2) x.1) arr).getD j undef) := by
  obtain ⟨h1, h2, h3⟩ := splice_some h
  have hfl : vals.zipIdx.foldl (fun cs (x : Value × Nat) => cs.setIfInBounds (off + x.2) x.1) arr = (vals.toList.zipIdx 0).foldl (fun cs (x : Value × Nat) => cs.setIfInBounds (off + x.2) x.1) arr := by
    rw [← Array.foldl_toList, Array.toList_zipIdx]
  obtain ⟨g1, g2⟩ := Great.foldl_set off vals.toList 0 arr
  rw [hfl]
  refine ⟨by omega, by rw [g1]; omega, fun j c hj => ?_⟩
  have hjl := lt_of_getElem? hj
  rw [h3 j] at hj
  have hget : ((vals.toList.zipIdx 0).foldl (fun cs (x : Value × Nat) => cs.setIfInBounds (off + x.2) x.1) arr).getD j undef =
      if off ≤ j ∧ j < off + ds.length then vals.getD (j - off) undef else arr.getD j undef := by
    have h5 := g2 j
    simp only [Array.getD_eq_getD_getElem?, h5, Nat.add_zero, Array.length_toList, hvl]
    by_cases hin : off ≤ j ∧ j < off + ds.length
    · rw [if_pos hin, if_pos ⟨hin.1, hin.2, by omega⟩, Array.getElem?_toList]
    · rw [if_neg hin, if_neg (fun h => hin ⟨h.1, h.2.1⟩)]
  rw [hget]
  by_cases hin : off ≤ j ∧ j < off + ds.length
  · rw [if_pos hin] at hj ⊢
    exact hds _ _ hj
  · rw [if_neg hin] at hj ⊢
    exact hcs _ _ hj

theorem mapM_some {α γ : Type} (f : α → Option γ) (gg : α → γ) : ∀ l : List α, (∀ x ∈ l, f x = some (gg x)) → l.mapM f = some (l.map gg)
  | [], _ => rfl
  | x :: l, h => by
    simp [List.mapM_cons, h x (by simp), mapM_some f gg l (fun y hy => h y (by simp [hy]))]

theorem fillA_ok (hT : TIok P E) (hrd : Reads a w S β D rd) {t : Nat} {fields : Array Field} (hu : P.underlying t = some (.struct fields)) (places : List (Nat × Nat))
    (hp : ∀ (f : Nat) (fd : Field) (i : TypeInfo), fields[f]? = some fd → P.info? fd.type = some i → places.toArray[f]? = some (fd.offset, i.size)) :
    ∀ (os : List (Nat × Operand)) (vs : List (Nat × V E.Ty)) (cs ds : List (V E.Ty)) (arr : Array Value), rdP (rd []) os = some vs → fillA t vs cs = some ds → arr.size = cs.length →
      (∀ j c, cs[j]? = some c → RV E w S β D c (arr.getD j undef)) →
      ∃ arr', Instr.fill (places.toArray[·]?) arr (os.map fun (i, x) => (i, a.eval x)) = some arr' ∧ arr'.size = ds.length ∧ ∀ j c, ds[j]? = some c → RV E w S β D c (arr'.getD j undef)
  | [], vs, cs, ds, arr, h1, h2, h3, h4 => by
    simp only [rdP, Option.some.injEq] at h1; subst h1
    simp only [fillA, Option.some.injEq] at h2; subst h2
    exact ⟨arr, rfl, h3, h4⟩
  | (f, x) :: os, vs, cs, ds, arr, h1, h2, h3, h4 => by
    simp only [rdP] at h1
    split at h1
    · rename_i v vs' hv hvs
      simp only [Option.some.injEq] at h1; subst h1
      simp only [fillA] at h2
      cases hf : fieldOf (E := E) t f with
      | none => simp [hf] at h2
      | some q =>
        obtain ⟨off, u⟩ := q
        simp only [hf] at h2
        cases hd : E.ti u with
        | none => simp [hd] at h2
        | some d =>
          simp only [hd] at h2
          cases hfit : fits v d.size with
          | false => simp [hfit] at h2
          | true =>
            simp only [hfit] at h2
            cases hs : splice cs off (cellsOf v) with
            | none => simp [hs] at h2
            | some es =>
              simp only [hs] at h2
              obtain ⟨k1, k2, k3, k4⟩ := fits_ok hfit (hrd.one _ _ hv)
              obtain ⟨fields', fd, e1, e2, e3, e4, i0, e5, e6⟩ := fieldOf_ok hT hf
              rw [hu] at e1; cases e1
              have e7 := hp f fd i0 e2 e5
              obtain ⟨i, hi, his, _⟩ := hT.info u d hd
              rw [e4, hi] at e5; cases e5
              obtain ⟨s1, s2, s3⟩ := fill_step hs h3 (by omega) h4 k3
              obtain ⟨arr', r1, r2, r3⟩ := fillA_ok hT hrd hu places hp os vs' es ds _ hvs h2 s2 s3
              refine ⟨arr', ?_, r2, r3⟩
              simp only [List.map_cons]
              unfold Instr.fill
              rw [e3, his] at e7
              simp only [e7]
              rw [if_neg (by simp only [Bool.or_eq_true, decide_eq_true_eq, not_or]; exact ⟨by omega, s1⟩)]
              exact r1
    · cases h1

theorem build_ok (hT : TIok P E) (hm : Mem E cx S β ω D roots w) (hrd : Reads a w S β D rd) (t : Nat) (ps : Array (Nat × Operand)) (ho : o.op = .build t ps) :
    AskOk O (Okay P o a w S β ω D roots nx) roots (opA o g rd nx) := by
  simp only [opA, ho]
  cases hr : rdP (rd []) ps.toList with
  | none => exact askOk_fail
  | some vs =>
    simp only []
    unfold buildA
    split
    · rename_i fs sz bt lf zs hk hz
      split
      · rename_i ds hf
        obtain ⟨d, it, z, hd, hi, his, _, hz1, hz2, hz3, hz4⟩ := zeros_ok hT hz
        have hkd := ti_kind hT hk
        obtain ⟨fields, hu, _, hinfo⟩ := hkd
        let gg : Field → Nat × Nat := fun f => (f.offset, ((P.info? f.type).map (·.size)).getD 0)
        have hmap : fields.toList.mapM (fun f => (P.info? f.type).map fun i => (f.offset, i.size)) = some (fields.toList.map gg) := by
          refine mapM_some _ gg _ (fun f hf => ?_)
          obtain ⟨i, hi, _⟩ := hinfo f (by simpa using hf)
          simp [gg, hi]
        obtain ⟨arr', r1, r2, r3⟩ := fillA_ok (P := P) hT hrd hu (fields.toList.map gg) (by
          intro f fd i hfd hi
          simp [hfd, gg, hi]) ps.toList vs zs ds z.cells hr hf hz2 (fun j c hj => hz4 j c hj _ _ _ _)
        have hb : P.built t (ps.toList.map fun (i, x) => (i, a.eval x)) = some arr' := by
          simp only [Program.built, hi, hu, hz1, hmap]
          exact r1
        refine Okay.val hm (cv := .agg arr') ?_ (.agg _ _ r2 r3)
        have := run_build (P := P) w t (ps.map fun (i, x) => (i, a.eval x)) arr' (by rw [Array.toList_map]; exact hb)
        simp only [execOp, ho, Sem.run_bind, this, Result.andThen_ok, Sem.run_pure]
      · exact askOk_fail
    · exact askOk_fail

/-! a row's literal -/

/-- cells told without what they own: the roots that are read for that are read only from then on -/
theorem plain_ok (hG : Good E) (hm : Mem E cx S β ω D roots w) {α : Type} {good : α → Prop} (F : Nat → Value) : ∀ (cs : List (V E.Ty)) (p : Nat) (k : List (V E.Ty) → List Nat → Ask E α),
    (∀ (j : Nat) (c : V E.Ty), cs[j]? = some c → RV E w S β D c (F (p + j))) →
    (∀ ds rs, (∀ r ∈ rs, ∃ rc, find roots r = some rc) → ds.length = cs.length → (∀ (j : Nat) (c : V E.Ty), ds[j]? = some c → RV E w (frozenS S ω rs) β D c (F (p + j))) → AskOk O good roots (k ds rs)) →
    AskOk O good roots (plain cs k)
  | [], p, k, _, hk => hk [] [] (by simp) rfl (by simp)
  | c :: cs, p, k, hcs, hk => by
    have hc := hcs 0 c rfl
    have hrest : ∀ (j : Nat) (c : V E.Ty), cs[j]? = some c → RV E w S β D c (F (p + 1 + j)) := fun j c hj => by
      have := hcs (j + 1) c (by simpa using hj)
      rwa [Nat.add_assoc, Nat.add_comm 1 j]
    have hgen : ∀ (d : V E.Ty) (r0 : List Nat), (∀ r ∈ r0, ∃ rc, find roots r = some rc) → RV E w (frozenS S ω r0) β D d (F p) →
        AskOk O good roots (plain cs fun ds rs => k (d :: ds) (r0 ++ rs)) := by
      intro d r0 hr0 hd
      refine plain_ok hG hm F cs (p + 1) _ hrest (fun ds rs hrs hl hds => hk _ _ (by
        intro r hr
        rcases List.mem_append.1 hr with h | h
        · exact hr0 r h
        · exact hrs r h) (by simp [hl]) ?_)
      intro j c' hj
      cases j with
      | zero =>
        simp at hj; subst hj
        exact hd.more (fun b hb => by
          rcases hb with h | ⟨r, hr, hb⟩
          · exact .inl h
          · exact .inr ⟨r, List.mem_append_left _ hr, hb⟩)
      | succ j =>
        have := hds j c' (by simpa using hj)
        rw [Nat.add_comm j 1, ← Nat.add_assoc]
        exact this.more (fun b hb => by
          rcases hb with h | ⟨r, hr, hb⟩
          · exact .inl h
          · exact .inr ⟨r, List.mem_append_right _ hr, hb⟩)
    by_cases hown : ∃ r, c = .own r
    · obtain ⟨r, rfl⟩ := hown
      simp only [plain]
      obtain ⟨hv, hr⟩ := hc.own_inv
      rw [Nat.add_zero] at hv
      intro rc hrc
      have hok := hm.ok r rc hrc
      cases rc with
      | arr κ xs => exact hgen (.sl κ xs) [r] (by intro r' hr'; simp at hr'; subst hr'; exact ⟨_, hrc⟩) (by rw [hv]; exact OR.froze hok (fun b h => .inl h) (fun b hb => .inr ⟨r, by simp, hb⟩) (fun i x _ => hG.len κ x))
      | fz κ xs => exact hgen (.sl κ xs) [r] (by intro r' hr'; simp at hr'; subst hr'; exact ⟨_, hrc⟩) (by rw [hv]; exact hok.2.more (fun b h => .inl h))
      | _ => exact askOk_fail
    · have he : plain (c :: cs) k = plain cs fun ds rs => k (c :: ds) rs := by
        cases c <;> first | rfl | exact absurd ⟨_, rfl⟩ hown
      rw [he]
      exact hgen c [] (by simp) (hc.more (fun b h => .inl h))

/-- the elements of a literal -/
theorem elems_ok (hG : Good E) (hm : Mem E cx S β ω D roots w) (hrd : Reads a w S β D rd) {good : Eff E → Prop} (e sz : Nat) : ∀ (os : List (Nat × Operand)) (vs : List (Nat × V E.Ty)) (j : Nat) (k : List (E.Ty e) → List Nat → Act' E),
    rdP (rd []) os = some vs →
    (∀ xs rs (us : List Value), (∀ r ∈ rs, ∃ rc, find roots r = some rc) → xs.length = vs.length → us.length = vs.length → (∀ u ∈ us, u.cells.size = sz) → (vs ≠ [] → (E.dflt e).isSome) →
      (os.map fun (i, x) => (i, a.eval x)) = (us.zipIdx j).map (fun x => (x.2, x.1)) →
      (∀ (i : Nat) (x : E.Ty e) (u : Value), xs[i]? = some x → us[i]? = some u → ∀ p c, (E.cells e x)[p]? = some c → RV E w (frozenS S ω rs) β D c (u.cells.getD p undef)) → AskOk O good roots (k xs rs)) →
    AskOk O good roots (elems e sz j vs k)
  | [], vs, j, k, hr, hk => by
    simp only [rdP, Option.some.injEq] at hr; subst hr
    exact hk [] [] [] (by simp) rfl rfl (by simp) (by simp) rfl (by simp)
  | (i, x) :: os, vs, j, k, hr, hk => by
    simp only [rdP] at hr
    split at hr
    · rename_i v vs' hv hvs
      simp only [Option.some.injEq] at hr; subst hr
      simp only [elems]
      split
      · rename_i hij
        simp only [Bool.and_eq_true] at hij
        have hij1 := Nat.eq_of_beq_eq_true hij.1
        subst hij1
        obtain ⟨k1, k2, k3, k4⟩ := fits_ok hij.2 (hrd.one _ _ hv)
        refine plain_ok hG hm (fun p => (a.eval x).cells.getD p undef) (cellsOf v) 0 _ (fun p c hp => by rw [Nat.zero_add]; exact k3 p c hp) (fun ds rs hrs hl hds => ?_)
        split
        · rename_i y hdec
          refine elems_ok hG hm hrd e sz os vs' (i + 1) _ hvs (fun xs rs' us hrs' hxl hul hus hdf heq hRV => ?_)
          refine hk (y :: xs) (rs ++ rs') (a.eval x :: us) (by
            intro r hr
            rcases List.mem_append.1 hr with h | h
            · exact hrs r h
            · exact hrs' r h) (by simp [hxl]) (by simp [hul]) (by
            intro u hu
            rcases List.mem_cons.1 hu with h | h
            · rw [h]; exact k2
            · exact hus u h) (fun _ => (hG.dec e ds y hdec).1) (by simp [heq]) ?_
          intro q x' u hx' hu p c hc
          cases q with
          | zero =>
            simp at hx' hu; subst hx' hu
            have := dec_RV hG hdec (F := fun p => (a.eval x).cells.getD p undef) (fun p c hp => by have := hds p c hp; rwa [Nat.zero_add] at this) p c hc
            exact this.more (fun b hb => by
              rcases hb with h | ⟨r, hr, hb⟩
              · exact .inl h
              · exact .inr ⟨r, List.mem_append_left _ hr, hb⟩)
          | succ q =>
            have := hRV q x' u (by simpa using hx') (by simpa using hu) p c hc
            exact this.more (fun b hb => by
              rcases hb with h | ⟨r, hr, hb⟩
              · exact .inl h
              · exact .inr ⟨r, List.mem_append_right _ hr, hb⟩)
        · exact askOk_fail
      · exact askOk_fail
    · cases hr

theorem buildSlice_ok (hT : TIok P E) (hG : Good E) (hm : Mem E cx S β ω D roots w) (hrd : Reads a w S β D rd) (t len : Nat) (ps : Array (Nat × Operand)) (ho : o.op = .buildSlice t len ps) :
    AskOk O (Okay P o a w S β ω D roots nx) roots (opA o g rd nx) := by
  simp only [opA, ho]
  cases hr : rdP (rd []) ps.toList with
  | none => exact askOk_fail
  | some vs =>
    simp only [buildSliceA]
    cases hd : E.ti t with
    | none => exact askOk_fail
    | some d =>
      obtain ⟨kd, sz, bt, lf⟩ := d
      cases kd with
      | slice e =>
        have hk := ti_kind hT hd
        simp only []
        cases hde : E.ti e with
        | none => exact askOk_fail
        | some de =>
          simp only []
          split
          · rename_i zs hc hz
            simp only [Bool.and_eq_true] at hc
            obtain ⟨⟨c1, c2⟩, c3⟩ := hc
            have c1 := Nat.eq_of_beq_eq_true c1
            have c2 := Nat.le_of_ble_eq_true c2
            have c3 := Nat.le_of_ble_eq_true c3
            obtain ⟨d', i, z, hd', hi, his, hib, hz1, hz2, hz3, hz4⟩ := zeros_ok hT hz
            rw [hde] at hd'; cases hd'
            split
            · -- none at all
              simp only [List.length_nil] at c1
              subst c1
              have hps : ps.toList = [] := List.eq_nil_of_length_eq_zero (by simpa using rdP_nil hr)
              have hps' : ps = #[] := by apply Array.ext'; simpa using hps
              have hrun : (execOp a.eval o).run P w = .ok (.value (.slice (some ⟨w.heap.size, 0, none⟩) 0 0)) (w.alloc (.cells #[] e)) := by
                simp [execOp, ho, hps', Instr.buildSlice, run_underlying_ok hk, sizeOf, typeInfo, hi, Instr.fill, newRow, Array.range_zero']
              intro K Q _ h
              unfold Oper.wp
              rw [hrun, Oper.upon_value]
              exact h _ S β ω _ (Done.grow hm _ (fun b hb => heap_alloc_lt w _ b hb) (by rw [size_alloc]; omega) rfl rfl rfl) (.nl _)
            · rename_i hne
              refine elems_ok hG hm hrd e de.size ps.toList vs 0 _ hr (fun xs rs us hrs hxl hul hus hdf heq hRV => ?_)
              have hvne : vs ≠ [] := fun h => by subst h; exact hne rfl
              have hdf := hdf hvne
              have hsz := szOf_eq hdf hde
              have hlen : 0 < len := by
                rw [← c1]; exact List.length_pos_iff.2 hvne
              have hfill := Great.fill_dense (s := i.size) (by omega) us 0 ((Array.range (len * i.size)).map (z.cells[· % z.cells.size]!)) (fun u hu => by rw [his]; exact hus u hu) (by simp; rw [hul, c1]; exact Nat.le_refl _)
              obtain ⟨arr, f1, f2, f3⟩ := hfill
              have f2' : arr.size = len * i.size := by rw [f2]; simp
              have hrun0 := run_buildSlice (P := P) w t e len (ps.map fun (i, x) => (i, a.eval x)) arr i z hk hi hz1 (by rw [his]; omega) (by
                have := Nat.mul_pos hlen (show 0 < i.size by omega)
                omega) (by rw [Array.toList_map, heq]; exact f1)
              have hrun : (execOp a.eval o).run P w = .ok (.value (.slice (some ⟨w.heap.size, 0, none⟩) len len)) (w.alloc (.cells arr e)) := by
                simp only [execOp, ho, Sem.run_bind, hrun0, Result.andThen_ok, Sem.run_pure]
              have hxl' : xs.length = len := by omega
              refine Okay.new1 hG hm (rc := .arr e xs) (ob := [w.heap.size]) (ks := []) (fs := rs) hrun (fun b hb _ => heap_alloc_lt w _ b hb) (by rw [size_alloc]; omega) rfl rfl rfl (by simp) hrs (by simp)
                (by intro b hb; simp at hb; subst hb; exact ⟨by rw [size_alloc]; omega, .inl (Nat.le_refl _)⟩) ?_ ?_
              · refine fun hfr => .inr ⟨w.heap.size, 0, len, arr, e, rfl, by rw [hxl'], by omega, heap_alloc_new w _, by rw [hsz, f2', his]; omega, ?_⟩
                intro q x hx p c hc
                have hq := lt_of_getElem? hx
                have hp := lt_of_getElem? hc
                rw [hG.len, hsz] at hp
                have hqu : q < us.length := by omega
                have hu := List.getElem?_eq_getElem hqu
                have h1 := hRV q x us[q] hx hu p c hc
                have h2 := pair_div (i := q) (m := i.size) (j := p) (by omega)
                have h3 := pair_lt (i := q) (n := len) (m := i.size) (j := p) (by omega) (by omega)
                have h4 := f3 (q * i.size + p)
                rw [if_pos ⟨by omega, by rw [Nat.zero_add, hul, c1]; exact h3⟩, h2.1, h2.2, Nat.sub_zero, hu] at h4
                simp only [Option.bind_some] at h4
                have husz := hus us[q] (List.getElem_mem hqu)
                have h5 : arr.getD (q * i.size + p) undef = us[q].cells.getD p undef := by
                  simp only [Array.getD_eq_getD_getElem?, h4]
                rw [Nat.zero_add, hsz, ← his, h5]
                refine h1.mono (fun b hb => ?_) (fun _ h => h) (fun _ h => .inl h) (fun _ hr => upd_lt hfr _ _ hr)
                refine heap_alloc_lt w _ b ?_
                rcases hb with h | ⟨r, hr, hb⟩
                · exact hm.sb b h
                · obtain ⟨rc, hrc⟩ := hrs r hr
                  exact (hm.ob r rc hrc b hb).2.1
              · exact fun _ => .own nx _ _ _ (Grown.self (by simp)) (upd_self _ _ _)
          · exact askOk_fail
      | _ => exact askOk_fail

end

end Go.Proofs.Ytejfpemjmpoddaa.Vx
/-! Operations, on: what is stored, what is made another type, the builtins. -/
namespace Go.Proofs.Ytejfpemjmpoddaa.Vx
open Go

section
variable {P : Program} {E : Env}
variable {cx : Cx} {w w' : World} {S : Nat → Prop} {β : Nat → Value} {ω : Nat → List Nat} {D : Nat → Prop} {roots : List (Nat × RC E.Ty)} {nx : Nat} {a : Act} {o : Oper}
variable {O : Orc E} {rd : List (Nat × Bool) → Operand → Option (V E.Ty)} {g : Bool}

theorem Done.wr1 (hG : Good E) (hm : Mem E cx S β ω D roots w) {u : V E.Ty} {r : Nat} {rc' : RC E.Ty} {fs : List Nat} (hr : ∃ rc, find roots r = some rc)
    (hold : ∀ b, b < w.heap.size → b ∉ ω r → w'.heap[b]? = w.heap[b]?) (hsz : w.heap.size ≤ w'.heap.size) (hos : w'.os = w.os) (htape : w'.tape = w.tape) (hout : w'.output = w.output)
    (hf : ∀ r ∈ fs, ∃ rc, find roots r = some rc) (hrf : r ∉ fs) (hok : RootOk E w' (frozenS S ω fs) β D (β r) (ω r) rc') :
    Done E w S β ω D roots nx ⟨u, [(r, rc')], [], [], fs⟩ (frozenS S ω fs) β (unown ω fs) w' where
  hs _ h := .inl h
  hn b h := by
    rcases h with h | ⟨r, hr, hb⟩
    · exact .inl h
    · exact .inr (.inr ⟨r, .inl hr, hf r hr, hb⟩)
  hb b h := by
    rcases h with h | ⟨r, hr, hb⟩
    · exact Nat.lt_of_lt_of_le (hm.sb b h) hsz
    · obtain ⟨rc, hrc⟩ := hf r hr
      exact Nat.lt_of_lt_of_le (hm.ob r rc hrc b hb).2.1 hsz
  bt _ _ := rfl
  om _ _ := rfl
  heap b hb h _ := hold b hb (h r (by simp))
  sz := hsz
  os := hos
  tape := htape
  out := hout
  wr r' rc h := by
    simp at h
    obtain ⟨rfl, rfl⟩ := h
    exact ⟨hr, hok.wide (fun _ h => .inl h)⟩
  kl _ h := by simp at h
  new i rc h := by simp at h
  newb i h := by simp at h
  newd i j h := by simp at h
  frz r' hr' rc hrc := by
    obtain ⟨rc0, hrc0⟩ := hr
    have hne : r' ≠ r := fun e => hrf (e ▸ hr')
    refine RootOk.frz hG (S := S) ?_ (fun b h => Or.inl h) (fun b hb => Or.inr ⟨r', hr', hb⟩)
    exact (hm.ok r' rc hrc).mono (fun b hb => hold b (hm.ob r' rc hrc b hb).2.1 (fun h => hm.dis r' r rc rc0 hrc hrc0 hne b hb h))
      (fun b hb => hold b (hm.sb b hb) (fun h => (hm.ob r rc0 hrc0 b h).1 hb)) (fun _ h => h) (fun _ h => .inl h) (fun _ _ => rfl)
  d1 r' hr' h := by simp at h; subst h; exact hrf hr'
  d2 _ h := by simp at h
  d3 _ h := by simp at h
  nd := by simp

theorem Okay.wr1 (hG : Good E) (hm : Mem E cx S β ω D roots w) {r : Nat} {rc' : RC E.Ty} {fs : List Nat} (hrun : (execOp a.eval o).run P w = .ok .skip w') (hr : ∃ rc, find roots r = some rc)
    (hold : ∀ b, b < w.heap.size → b ∉ ω r → w'.heap[b]? = w.heap[b]?) (hsz : w.heap.size ≤ w'.heap.size) (hos : w'.os = w.os) (htape : w'.tape = w.tape) (hout : w'.output = w.output)
    (hf : ∀ r ∈ fs, ∃ rc, find roots r = some rc) (hrf : r ∉ fs) (hok : RootOk E w' (frozenS S ω fs) β D (β r) (ω r) rc') :
    Okay P o a w S β ω D roots nx ⟨.any, [(r, rc')], [], [], fs⟩ := by
  intro K Q _ h
  unfold Oper.wp
  rw [hrun]
  exact h undef _ _ _ w' (Done.wr1 hG hm hr hold hsz hos htape hout hf hrf hok) (.any _)

/-- what a block holds behind a store -/
def laid (arr : Array Value) (q : Nat) (vals : Array Value) : Array Value := (arr.toList.take q ++ vals.toList ++ arr.toList.drop (q + vals.toList.length)).toArray

theorem laid_size {arr : Array Value} {q : Nat} {vals : Array Value} (h : q + vals.size ≤ arr.size) : (laid arr q vals).size = arr.size := by
  simp [laid]; omega

theorem laid_get {arr : Array Value} {q : Nat} {vals : Array Value} (h : q + vals.size ≤ arr.size) (k : Nat) :
    (laid arr q vals).getD k undef = if q ≤ k ∧ k < q + vals.size then vals.getD (k - q) undef else arr.getD k undef := by
  have htl : (arr.toList.take q).length = q := by simp; omega
  have hk : (laid arr q vals)[k]? = if q ≤ k ∧ k < q + vals.size then vals[k - q]? else arr[k]? := by
    simp only [laid, List.getElem?_toArray]
    by_cases h1 : k < q
    · rw [if_neg (by omega), List.getElem?_append_left (by simp; omega), List.getElem?_append_left (by omega), List.getElem?_take]
      simp [h1]
    · by_cases h2 : k < q + vals.size
      · rw [if_pos ⟨by omega, h2⟩, List.getElem?_append_left (by simp; omega), List.getElem?_append_right (by omega), htl]
        simp
      · rw [if_neg (by omega), List.getElem?_append_right (by simp; omega), List.getElem?_drop]
        simp only [List.length_append, htl, Array.length_toList, Array.getElem?_toList]
        congr 1; omega
  simp only [Array.getD_eq_getD_getElem?, hk]
  split <;> rfl

theorem run_store_at (hT : TIok P E) {t : Nat} {d : TD} (hd : E.ti t = some d) {x y : Operand} (ho : o.op = .store t x y) {b q : Nat} (hx : a.eval x = .pointer (some ⟨b, q, none⟩)) {arr : Array Value} {et : Nat}
    (hb : w.heap[b]? = some (.cells arr et (0, 0))) (hs : (a.eval y).cells.size = d.size) (hone : ∀ u ∈ (a.eval y).cells.toList, u.oneCell' = true) (hfit : q + (a.eval y).cells.size ≤ arr.size) :
    (execOp a.eval o).run P w = .ok .skip (w.setRow b (laid arr q (a.eval y).cells)) := by
  obtain ⟨i, hi, his, _⟩ := hT.info t d hd
  have hst := run_storeCells_at P b q et (a.eval y).cells.toList 0 arr w hb (by simpa using hfit) hone
  simp only [Nat.add_zero] at hst
  simp only [execOp, ho, hx, Instr.storeAt, Instr.sureAddr, storeVar, sizeOf, typeInfo, Sem.run_bind, Sem.run_pure, run_program, Result.andThen_ok, hi]
  have : ¬ ((a.eval y).cells.size ≠ i.size) := by omega
  simp only [this, if_false, Sem.run_pure, Result.andThen_ok, hst, laid]

theorem store_ok (hT : TIok P E) (hG : Good E) (hm : Mem E cx S β ω D roots w) (hrd : Reads a w S β D rd) (t : Nat) (x y : Operand) (ho : o.op = .store t x y) :
    AskOk O (Okay P o a w S β ω D roots nx) roots (opA o g rd nx) := by
  simp only [opA, ho]
  cases hx : rd [] x with
  | none => exact askOk_fail
  | some p =>
    cases hy : rd [] y with
    | none => exact askOk_fail
    | some v =>
      have h1 := hrd.one _ _ hx
      have h2 := hrd.one _ _ hy
      simp only [storeA]
      cases hd : E.ti t with
      | none => exact askOk_fail
      | some d =>
        simp only []
        cases hfit : fits v d.size with
        | false => exact askOk_fail
        | true =>
          obtain ⟨k1, k2, k3, k4⟩ := fits_ok hfit h2
          cases p with
          | ptr r off =>
            obtain ⟨b, hb, hr, hβ⟩ := h1.ptr_inv
            intro rc hrc
            have hok := hm.ok r rc hrc
            cases rc with
            | box ty cs =>
              simp only []
              cases hs : splice cs off (cellsOf v) with
              | none => exact askOk_fail
              | some ds =>
                obtain ⟨b', hob, hb', arr, et, hh, hsz, hcs⟩ := hok
                rw [hβ] at hb'; cases hb'
                obtain ⟨s1, s2, s3⟩ := splice_some hs
                have hle : off + (a.eval y).cells.size ≤ arr.size := by omega
                have hrun := run_store_at (P := P) hT hd ho hb hh k2 k4 hle
                have hSw : ∀ b', S b' → (w.setRow b (laid arr off (a.eval y).cells)).heap[b']? = w.heap[b']? := fun b' hb' => setRow_other w b b' _ (fun e => (hm.ob r _ hrc b (by rw [hob]; simp)).1 (e ▸ hb'))
                refine Okay.wr1 (fs := []) hG hm hrun ⟨_, hrc⟩ (fun b' _ hne => setRow_other w b b' _ (by rw [hob] at hne; simpa using hne)) (by rw [setRow_size]; exact Nat.le_refl _) rfl rfl rfl (by simp) (by simp) ?_
                refine ⟨b, hob, hβ, laid arr off (a.eval y).cells, et, setRow_heap w b arr _ et _ hh, by rw [laid_size hle]; omega, fun j c hj => ?_⟩
                rw [laid_get hle]
                rw [s3 j] at hj
                by_cases hin : off ≤ j ∧ j < off + (cellsOf v).length
                · rw [if_pos hin] at hj
                  rw [if_pos (by omega)]
                  exact (k3 _ c hj).mono hSw (fun _ h => .inl h) (fun _ h => h) (fun _ _ => rfl)
                · rw [if_neg hin] at hj
                  rw [if_neg (by omega)]
                  exact (hcs j c hj).mono hSw (fun _ h => .inl h) (fun _ h => h) (fun _ _ => rfl)
            | _ => exact askOk_fail
          | eptr κ r i off =>
            obtain ⟨b, q, m, c, hb, hr, hβ⟩ := h1.eptr_inv
            intro rc hrc
            have hok := hm.ok r rc hrc
            cases rc with
            | arr κ' xs =>
              simp only []
              cases hκ : Nat.beq κ' κ with
              | false => cases at? κ' xs i <;> exact askOk_fail
              | true =>
                have := Nat.eq_of_beq_eq_true hκ
                subst this
                cases hat : at? κ' xs i with
                | none => exact askOk_fail
                | some y0 =>
                  intro hlt
                  have hlt := of_decide_eq_true hlt
                  obtain ⟨hy0, hks⟩ := at?_ok hat hlt
                  refine plain_ok hG hm (fun p => (a.eval y).cells.getD p undef) (cellsOf v) 0 _ (fun p c hp => by rw [Nat.zero_add]; exact k3 p c hp) (fun vs rs hrs hl hds => ?_)
                  cases hs : splice (E.cells κ' y0) off vs with
                  | none => exact askOk_fail
                  | some ds =>
                    simp only []
                    cases hdec : E.dec κ' ds with
                    | none => exact askOk_fail
                    | some y1 =>
                      cases hmem : mem rs r with
                      | true => exact askOk_fail
                      | false =>
                        have hmem := (mem_false_iff _ _).1 hmem
                        rcases hok with ⟨rfl, _⟩ | ⟨b', q', c', arr, et, hob, he, h6, hh, h7, hcs⟩
                        · simp at hlt
                        · rw [hβ] at he; cases he
                          obtain ⟨s1, s2, s3⟩ := splice_some hs
                          have hylen := hG.len κ' y0
                          have hil : (i + 1) * szOf E κ' ≤ c * szOf E κ' := Nat.mul_le_mul_right _ (by omega)
                          rw [Nat.add_mul, Nat.one_mul] at hil
                          have hvs : (a.eval y).cells.size = vs.length := by omega
                          have hle : q + (i * szOf E κ' + off) + (a.eval y).cells.size ≤ arr.size := by omega
                          have hrun := run_store_at (P := P) hT hd ho hb hh k2 k4 hle
                          have hbS := (hm.ob r _ hrc b (by rw [hob]; simp))
                          have hSw : ∀ b', frozenS S ω rs b' → (w.setRow b (laid arr (q + (i * szOf E κ' + off)) (a.eval y).cells)).heap[b']? = w.heap[b']? := by
                            intro b' hb'
                            refine setRow_other w b b' _ (fun e => ?_)
                            subst e
                            rcases hb' with h | ⟨r', hr', h⟩
                            · exact hbS.1 h
                            · obtain ⟨rc', hrc'⟩ := hrs r' hr'
                              exact hm.dis r r' _ rc' hrc hrc' (fun e => hmem (e ▸ hr')) b' (by rw [hob]; simp) h
                          refine Okay.wr1 (fs := rs) hG hm hrun ⟨_, hrc⟩ (fun b' _ hne => setRow_other w b b' _ (by rw [hob] at hne; simpa using hne)) (by rw [setRow_size]; exact Nat.le_refl _) rfl rfl rfl hrs hmem ?_
                          refine .inr ⟨b, q, c, laid arr (q + (i * szOf E κ' + off)) (a.eval y).cells, et, hob, by rw [List.length_set]; exact hβ, by rw [List.length_set]; exact h6, setRow_heap w b arr _ et _ hh, by rw [laid_size hle]; exact h7, ?_⟩
                          intro k z hk j cc hj
                          have hj' := lt_of_getElem? hj
                          rw [hG.len] at hj'
                          by_cases hki : k = i
                          · subst hki
                            have hz : z = y1 := by
                              rw [List.getElem?_set] at hk
                              simp [hlt] at hk; exact hk.symm
                            subst hz
                            refine dec_RV hG hdec (F := fun j => (laid arr (q + (k * szOf E κ' + off)) (a.eval y).cells).getD (q + (k * szOf E κ' + j)) undef) (fun j c hj => ?_) j cc hj
                            have hjd := lt_of_getElem? hj
                            rw [laid_get hle]
                            rw [s3 j] at hj
                            by_cases hin : off ≤ j ∧ j < off + vs.length
                            · rw [if_pos hin] at hj
                              rw [if_pos (by omega)]
                              have := hds _ c hj
                              rw [Nat.zero_add] at this
                              have e1 : q + (k * szOf E κ' + j) - (q + (k * szOf E κ' + off)) = j - off := by omega
                              rw [e1]
                              exact this.mono hSw (fun _ h => h) (fun _ h => h) (fun _ _ => rfl)
                            · rw [if_neg hin] at hj
                              rw [if_neg (by omega)]
                              exact ((hcs k y0 hy0 j c hj).more (fun b h => Or.inl h)).mono hSw (fun _ h => h) (fun _ h => h) (fun _ _ => rfl)
                          · have hk' : xs[k]? = some z := by
                              rw [List.getElem?_set] at hk
                              simpa [show ¬ i = k from fun e => hki e.symm] using hk
                            have hkl := lt_of_getElem? hk'
                            rw [laid_get hle]
                            have hout : ¬ (q + (i * szOf E κ' + off) ≤ q + (k * szOf E κ' + j) ∧ q + (k * szOf E κ' + j) < q + (i * szOf E κ' + off) + (a.eval y).cells.size) := by
                              rcases Nat.lt_or_gt_of_ne hki with h | h
                              · have := Nat.mul_le_mul_right (szOf E κ') (show k + 1 ≤ i by omega)
                                rw [Nat.add_mul, Nat.one_mul] at this
                                omega
                              · have := Nat.mul_le_mul_right (szOf E κ') (show i + 1 ≤ k by omega)
                                rw [Nat.add_mul, Nat.one_mul] at this
                                omega
                            rw [if_neg hout]
                            exact ((hcs k z hk' j cc hj).more (fun b h => Or.inl h)).mono hSw (fun _ h => h) (fun _ h => h) (fun _ _ => rfl)
            | _ => exact askOk_fail
          | _ => exact askOk_fail

/-! another type -/

theorem push_all (ns : List Int) (s : ByteArray) : ns.foldl (fun r n => r.push (UInt8.ofNat n.toNat)) s = s ++ ⟨(ns.map fun n => UInt8.ofNat n.toNat).toArray⟩ := by
  induction ns generalizing s with
  | nil => apply ByteArray.ext; simp
  | cons n ns ih =>
    simp only [List.foldl_cons, ih]
    apply ByteArray.ext
    simp [List.append_assoc]

theorem convert_ok (hT : TIok P E) (hG : Good E) (hm : Mem E cx S β ω D roots w) (hrd : Reads a w S β D rd) (src dst : Nat) (x : Operand) (ho : o.op = .convert src dst x) :
    AskOk O (Okay P o a w S β ω D roots nx) roots (opA o g rd nx) := by
  simp only [opA, ho]
  cases hx : rd [] x with
  | none => exact askOk_fail
  | some v =>
    have h := hrd.one _ _ hx
    have hrun : ∀ r, (convert src dst (a.eval x)).run P w = .ok r w → (execOp a.eval o).run P w = .ok (.value r) w := by
      intro r hr
      simp only [execOp, ho, Sem.run_bind, hr, Result.andThen_ok, Sem.run_pure]
    simp only [convA]
    cases hs : E.ti src with
    | none => exact askOk_fail
    | some s =>
      cases hd : E.ti dst with
      | none => exact askOk_fail
      | some d =>
        obtain ⟨sk, s1, s2, s3⟩ := s
        obtain ⟨dk, d1, d2, d3⟩ := d
        have hks := ti_kind hT hs
        have hkd := ti_kind hT hd
        simp only []
        split
        · rename_i k0 k i n
          have hv := h.int_inv
          refine Okay.val hm (hrun (.int k (k.wrap n)) ?_) (.int _ _)
          rw [hv]
          simp [convert, run_underlying_ok hks, run_underlying_ok hkd, Conv.intToInt]
        · rename_i k0 i n
          have hv := h.int_inv
          intro hb
          simp only [Bool.and_eq_true, decide_eq_true_eq] at hb
          refine Okay.val hm (hrun (.string ⟨[UInt8.ofNat n.toNat].toArray⟩) ?_) (.str _)
          rw [hv]
          simp [convert, run_underlying_ok hks, run_underlying_ok hkd, Conv.intToString, encode_ascii n hb.1 hb.2]
        · rename_i s
          have hv := h.str_inv
          refine Okay.val hm (hrun (a.eval x) ?_) h
          rw [hv]
          simp [convert, run_underlying_ok hks, run_underlying_ok hkd]
        · rename_i e
          split
          · rename_i b1 b2 b3 he
            have hke := ti_kind hT he
            split
            · rename_i df hdf
              have hdf' : (E.dflt e).isSome := by simp [hdf]
              refine row_src hG hm h hdf' _ (fun xs rs hrs hsrc => ?_)
              have hsz : szOf E e = 1 := by
                rw [← hG.len e df]
                obtain ⟨n, hn⟩ := hG.int e .u8 _ _ _ he hdf' df
                rw [hn]; rfl
              obtain ⟨A, c, hv, hc, hxs⟩ := hsrc
              refine Okay.val hm (hrun (.string ⟨(bytesOfTy e xs).toArray⟩) ?_) (.str _)
              rw [hv]
              rw [run_convert_bytes_string w src dst e A _ c hks hke hkd]
              rcases hxs with rfl | ⟨b, q, F, rfl, _, hF⟩
              · cases A with
                | none => simp [Conv.bytesToString, bytesOfTy]; rfl
                | some A =>
                  have := run_bytesToString (P := P) w A 0 c [] (by simpa using run_loadCells_list (P := P) w A [] (by simp))
                  simp only [List.foldl_nil] at this
                  simpa [bytesOfTy] using this.trans (by rfl)
              · let nat : E.Ty e → Int := fun x => match E.cells e x with
                  | [.int .u8 n] => n
                  | _ => 0
                have hcell : ∀ x, E.cells e x = [.int .u8 (nat x)] := by
                  intro x
                  obtain ⟨n, hn⟩ := hG.int e .u8 _ _ _ he hdf' x
                  simp [nat, hn]
                have hload : (loadCells ⟨b, q, none⟩ xs.length).run P w = .ok ((xs.map nat).map (Value.int .u8)).toArray w := by
                  have hl : ((xs.map nat).map (Value.int .u8)).length = xs.length := by simp
                  rw [← hl]
                  refine run_loadCells_list (P := P) w ⟨b, q, none⟩ _ ?_
                  intro j v hj
                  have hjl := lt_of_getElem? hj
                  rw [hl] at hjl
                  have hxj := List.getElem?_eq_getElem hjl
                  have h1 := hF j xs[j] hxj 0 _ (by rw [hcell]; rfl)
                  rw [hsz, Nat.mul_one, Nat.add_zero] at h1
                  have h2 := h1.2.int_inv
                  rw [Addr.add_mid, h1.1, h2]
                  simp [hxj] at hj
                  rw [← hj]
                rw [run_bytesToString (P := P) w ⟨b, q, none⟩ xs.length c (xs.map nat) hload, push_all]
                congr 2
                apply ByteArray.ext
                simp only [bytesOfTy, List.map_map]
                simp
                intro x _
                rw [hcell]
            · exact askOk_fail
          · exact askOk_fail
        · exact askOk_fail

end

end Go.Proofs.Ytejfpemjmpoddaa.Vx
