import Derived.Tactics
import Derived.Deep.Quiet
import Derived.RowKit
import Derived.KernelRfl
set_option linter.unusedVariables false
namespace Go.Proofs.Ytneceomekgophaa.Ev
open Go.RowKit
/-- The kinds of what lies in slices that are only read, as a small code. -/
inductive RKc where
  | int (k : IntKind)
  | bool
  | pair (a b : RKc)
  | list (e : Nat) (c : RKc)
  deriving DecidableEq
@[reducible] def RKc.T : RKc → Type
  | .int _ => Int
  | .bool => Bool
  | .pair a b => a.T × b.T
  | .list _ c => List c.T
def RKc.dflt : (c : RKc) → c.T
  | .int _ => (0 : Int)
  | .bool => false
  | .pair a b => (a.dflt, b.dflt)
  | .list _ _ => []
def RKc.sz : RKc → Nat
  | .pair a b => a.sz + b.sz
  | _ => 1
def RKc.noList : RKc → Bool
  | .pair a b => a.noList && b.noList
  | .list _ _ => false
  | _ => true
/-- What the evaluator knows of a value: the value itself; a pointer into a block of its own; cells in a row; a slice that is only read; a pointer to an element of such a one. -/
inductive AV where
  | v (x : Value)
  | ptr (b o : Nat)
  | agg (xs : List AV)
  | tup (xs : List AV)
  | row (c : RKc) (xs : List c.T)
  | elem (c : RKc) (x : c.T) (o : Nat)
  /-- a slice of one's own, by its name; what is told of it lies with the blocks -/
  | own (b : Nat)
  | orow (e : Nat) (c : RKc) (xs : List c.T)
def RKc.enc : (c : RKc) → c.T → List AV
  | .int k, x => [.v (.int k x)]
  | .bool, b => [.v (.bool b)]
  | .pair a b, x => a.enc x.1 ++ b.enc x.2
  | .list _ c, xs => [.row c xs]
def RKc.dec : (c : RKc) → List AV → Option (c.T × List AV)
  | .int k, .v (.int k' x) :: r => if k = k' then some (x, r) else none
  | .bool, .v (.bool b) :: r => some (b, r)
  | .pair a b, l => match a.dec l with
    | some (x, r) => match b.dec r with
      | some (y, r') => some ((x, y), r')
      | none => none
    | none => none
  | .list _ c, .row c' xs :: r => if h : c' = c then some (h ▸ xs, r) else none
  | _, _ => none
/-- What is told of a type. -/
inductive TK where
  | int (k : IntKind)
  | bool
  | str
  | struct (fs : List (Nat × Nat × Bool))
  | slice (e : Nat)
  | arr (n e : Nat)
  | other
structure TyI where
  size : Nat
  agg : Bool
  bytes : Nat
  zero : List Value
  kind : TK
  code : Option RKc
  /-- how many cells, all of them numbers that '==' compares; 0: it does not -/
  eqn : Nat := 0
def look {α : Type} : List (Nat × α) → Nat → Option α
  | [], _ => none
  | (n, i) :: r, t => cond (Nat.beq n t) (some i) (look r t)
structure St where
  tmps : List (Option AV)
  blks : List (Nat × List AV × Nat)
  next : Nat
  /-- how many blocks came in: theirs are the names below -/
  np : Nat
def at_ : List (Option AV) → Nat → Option AV
  | [], _ => none
  | x :: _, 0 => x
  | _ :: r, n + 1 => at_ r n
def set_ : List (Option AV) → Nat → Option AV → List (Option AV)
  | [], _, _ => []
  | _ :: r, 0, y => y :: r
  | x :: r, n + 1, y => x :: set_ r n y
def ofVal : Value → AV
  | .agg cs => .agg (cs.toList.map .v)
  | x => .v x
def St.ev (s : St) : Operand → Option AV
  | .tmp t => at_ s.tmps t
  | .const x => some (ofVal x)
  | .func f => some (.v (.func (.func f) #[] #[]))
  | .global _ => none
def St.put (s : St) (d : Option Tmp) (x : AV) : St :=
  match d with
  | some t => { s with tmps := set_ s.tmps t (some x) }
  | none => s
/-- It fills one cell. -/
def AV.one : AV → Bool
  | .v x => match x with
    | .agg _ | .tuple _ => false
    | _ => true
  | .agg _ => false
  | .tup _ => false
  | .own _ => false
  | .orow .. => false
  | _ => true
def AV.b1 (n : Nat) : AV → Bool
  | .ptr b _ => Nat.blt b n
  | .agg _ => false
  | .tup _ => false
  | .own _ => false
  | .orow .. => false
  | _ => true
def AV.b2 (n : Nat) : AV → Bool
  | .agg xs => xs.all (AV.b1 n)
  | x => x.b1 n
def AV.bound (n : Nat) : AV → Bool
  | .tup xs => xs.all (AV.b2 n)
  | x => x.b2 n
def AV.flat : AV → List AV
  | .agg xs => xs
  | x => [x]
/-- A variable's cells. -/
def blk (l : List (Nat × List AV × Nat)) (b : Nat) : Option (List AV × Nat) :=
  match look l b with
  | some ([], _) => none
  | some ([.orow ..], _) => none
  | x => x
/-- A slice of one's own. -/
def orow (l : List (Nat × List AV × Nat)) (b : Nat) : Option (Nat × (c : RKc) × List c.T) :=
  match look l b with
  | some ([.orow e c xs], _) => some (e, ⟨c, xs⟩)
  | _ => none
/-- The cells of a variable of a type, read out of a block's. -/
def part (i : TyI) (cs : List AV) (o : Nat) : Option AV :=
  cond i.agg (cond (Nat.ble (o + i.size) cs.length) (some (.agg ((cs.drop o).take i.size))) none) (cs[o]?)
def wr : IntKind → Int → Int
  | .i64, x => wrap64 x
  | k, x => k.wrap x
def shlI (k : IntKind) (a b : Int) : Int := wr k (a * 2 ^ (min b.toNat k.bits))
def shrI (k : IntKind) (a b : Int) : Int := a.fdiv (2 ^ (min b.toNat k.bits))
def andI (k : IntKind) (a b : Int) : Int := k.wrap (BitVec.ofInt k.bits a &&& BitVec.ofInt k.bits b).toNat
def orI (k : IntKind) (a b : Int) : Int := k.wrap (BitVec.ofInt k.bits a ||| BitVec.ofInt k.bits b).toNat
def xorI (k : IntKind) (a b : Int) : Int := k.wrap (BitVec.ofInt k.bits a ^^^ BitVec.ofInt k.bits b).toNat
section
variable {ρ : Type}
def intOp (op : BinOp) (k : IntKind) (a : Int) (k' : IntKind) (b : Int) (K : AV → Option ρ) : Option ρ :=
  match op with
  | .shl => cond (decide (b < 0)) none (K (.v (.int k (shlI k a b))))
  | .shr => cond (decide (b < 0)) none (K (.v (.int k (shrI k a b))))
  | op => cond (decide (k = k')) (match op with
    | .add => K (.v (.int k (wr k (a + b))))
    | .sub => K (.v (.int k (wr k (a - b))))
    | .mul => K (.v (.int k (wr k (a * b))))
    | .quo => cond (decide (b = 0)) none (K (.v (.int k (wr k (a.tdiv b)))))
    | .rem => cond (decide (b = 0)) none (K (.v (.int k (a.tmod b))))
    | .and => K (.v (.int k (andI k a b)))
    | .or => K (.v (.int k (orI k a b)))
    | .xor => K (.v (.int k (xorI k a b)))
    | .eql => K (.v (.bool (decide (a = b))))
    | .neq => K (.v (.bool (!decide (a = b))))
    | .lss => K (.v (.bool (decide (a < b))))
    | .leq => K (.v (.bool (decide (a ≤ b))))
    | .gtr => K (.v (.bool (decide (b < a))))
    | .geq => K (.v (.bool (decide (b ≤ a))))
    | _ => none) none
def fillAt : List AV → Nat → List AV → Option (List AV)
  | cs, 0, [] => some cs
  | _ :: cs, 0, x :: xs => match fillAt cs 0 xs with | some r => some (x :: r) | none => none
  | c :: cs, n + 1, xs => match fillAt cs n xs with | some r => some (c :: r) | none => none
  | _, _, _ => none
def buildCells (s : St) (fs : List (Nat × Nat × Bool)) : List AV → List (Nat × Operand) → Option (List AV)
  | cs, [] => some cs
  | cs, (i, x) :: r => match fs[i]?, s.ev x with
    | some (o, n, _), some y => cond (Nat.beq y.flat.length n && y.flat.all AV.one) (match fillAt cs o y.flat with | some cs' => buildCells s fs cs' r | none => none) none
    | _, _ => none
def mxI (k : IntKind) (K : AV → Option ρ) (f : Int → Int → Int) : Int → List (Option AV) → Option ρ
  | a, [] => K (.v (.int k a))
  | a, some (.v (.int k' b)) :: r => cond (decide (k = k')) (mxI k K f (f a b) r) none
  | _, _ => none
def maxI (a b : Int) : Int := cond (decide (a < b)) b a
def minI (a b : Int) : Int := cond (decide (b < a)) b a
def arrPlaces (n sz : Nat) : List (Nat × Nat × Bool) := (List.range n).map fun i => (i * sz, sz, false)
def intsOf (k : IntKind) : List AV → Option (List Int)
  | [] => some []
  | .v (.int k' x) :: r => cond (decide (k' = k)) (match intsOf k r with
    | some xs => some (x :: xs)
    | none => none) none
  | _ => none
def eqAVs : List AV → List AV → Option Bool
  | [], [] => some true
  | .v (.int k a) :: r, .v (.int k' b) :: s => cond (decide (k = k')) (match eqAVs r s with
    | some z => some (decide (a = b) && z)
    | none => none) none
  | _, _ => none
def pureOp (T : List (Nat × TyI)) (s : St) (o : Op) (K : AV → Option ρ) : Option ρ :=
  match o with
  | .move x | .assign x => match s.ev x with
    | some y => K y
    | none => none
  | .nilCheck x => match s.ev x with
    | some (.ptr b o) => K (.ptr b o)
    | some (.elem c y o) => K (.elem c y o)
    | some (.v (.func (.func f) a b)) => K (.v (.func (.func f) a b))
    | _ => none
  | .pick c x y => match s.ev c, s.ev x, s.ev y with
    | some (.v (.bool b)), some x, some y => cond b (K x) (K y)
    | _, _, _ => none
  | .binOp op t x y _ => match s.ev x, s.ev y with
    | some (.v (.int k a)), some (.v (.int k' b)) => intOp op k a k' b K
    | some (.v (.bool a)), some (.v (.bool b)) => (match look T t, op with
      | some { kind := .bool, .. }, .eql => K (.v (.bool (a == b)))
      | some { kind := .bool, .. }, .neq => K (.v (.bool (!(a == b))))
      | _, _ => none)
    | some (.agg cs), some (.agg ds) => (match look T t with
      | some i => cond (i.agg && (Nat.beq cs.length i.eqn && Nat.ble 1 i.eqn)) (match eqAVs cs ds, op with
        | some z, .eql => K (.v (.bool z))
        | some z, .neq => K (.v (.bool (!z)))
        | _, _ => none) none
      | none => none)
    | _, _ => none
  | .unOp op _ x => match op, s.ev x with
    | .neg, some (.v (.int k a)) => K (.v (.int k (wr k (-a))))
    | .not, some (.v (.bool b)) => K (.v (.bool (!b)))
    | _, _ => none
  | .convert src dst x => match look T src, look T dst, s.ev x with
    | some _, some { kind := .int k, .. }, some (.v (.int _ a)) => K (.v (.int k (wr k a)))
    | _, _, _ => none
  | .field t x f => match look T t, s.ev x with
    | some { kind := .struct fs, .. }, some (.agg cs) => (match fs[f]? with
      | some (o, n, g) => (match cond g (some (AV.agg ((cs.drop o).take n))) (cs[o]?) with
        | some y => K y
        | none => none)
      | none => none)
    | _, _ => none
  | .fieldAddr t x f => match look T t, s.ev x with
    | some { kind := .struct fs, .. }, some y => (match fs[f]?, y with
      | some (o, n + 1, _), .ptr b p => K (.ptr b (p + o))
      | some (o, n + 1, _), .elem c y p => K (.elem c y (p + o))
      | _, _ => none)
    | _, _ => none
  | .load t x => match look T t, s.ev x with
    | some i, some (.ptr b o) => (match blk s.blks b with
      | some (cs, _) => (match part i cs o with
        | some y => K y
        | none => none)
      | none => none)
    | some i, some (.elem c y o) => (match part i (c.enc y) o with
      | some y => K y
      | none => none)
    | _, _ => none
  | .extract x i => match s.ev x with
    | some (.tup xs) => (match xs[i]? with
      | some y => K y
      | none => none)
    | _ => none
  | .build t parts => match look T t with
    | some { kind := .struct fs, zero := z, .. } => (match buildCells s fs (z.map .v) parts.toList with
      | some cs => K (.agg cs)
      | none => none)
    | some { kind := .arr n e, zero := z, .. } => (match look T e with
      | some ie => (match buildCells s (arrPlaces n ie.size) (z.map .v) parts.toList with
        | some cs => K (.agg cs)
        | none => none)
      | none => none)
    | _ => none
  | .index t x i => match look T t, s.ev x, s.ev i with
    | some { kind := .arr n e, .. }, some (.agg cs), some (.v (.int _ i)) => (match look T e with
      | some { size := 1, kind := .int k, .. } => (match intsOf k cs with
        | some xs => cond (Nat.beq xs.length n) (cond (decide (0 ≤ i)) (cond (decide (i < (n : Int))) (K (.v (.int k (xs.getD i.toNat 0)))) none) none) none
        | none => none)
      | _ => none)
    | _, _, _ => none
  | .indexAddr t x i => match look T t, s.ev x, s.ev i with
    | some { kind := .arr n e, .. }, some (.ptr b p), some (.v (.int _ i)) => (match look T e with
      | some ie => cond (decide (0 ≤ i)) (cond (decide (i < (n : Int))) (K (.ptr b (p + i.toNat * ie.size))) none) none
      | none => none)
    | some { kind := .slice e, .. }, some (.row c xs), some (.v (.int _ i)) => (match look T e with
      | some ie => cond (Nat.beq ie.size c.sz) (cond (decide (0 ≤ i)) (cond (decide (i < (xs.length : Int))) (K (.elem c (xs.getD i.toNat c.dflt) 0)) none) none) none
      | none => none)
    | _, _, _ => none
  | .call { callee := .builtin .len, args, argTypes } => match args.toList, argTypes.toList with
    | [x], [ty] => (match look T ty, s.ev x with
      | some { kind := .slice _, .. }, some (.row _ xs) => K (.v (.int .i64 xs.length))
      | some { kind := .slice _, .. }, some (.own b) => (match orow s.blks b with
        | some (_, ⟨_, xs⟩) => K (.v (.int .i64 xs.length))
        | none => none)
      | _, _ => none)
    | _, _ => none
  | .call { callee := .builtin .max, args, .. } => match args.toList.map s.ev with
    | some (.v (.int k a)) :: r => mxI k K maxI a r
    | _ => none
  | .call { callee := .builtin .min, args, .. } => match args.toList.map s.ev with
    | some (.v (.int k a)) :: r => mxI k K minI a r
    | _ => none
  | _ => none
/-- What a function is handed: a value; a block that it may write. -/
inductive Arg where
  | val (x : AV)
  | blk (cs : List AV)
abbrev CallW (ρ : Type) := List Arg → (AV → List (List AV) → Option ρ) → Option ρ
/-- Pointers of this type are handed on to be read alone. -/
def roCode (T : List (Nat × TyI)) (t : Nat) : Option RKc :=
  match look T t with
  | some { kind := .other, code := some c, .. } => some c
  | some { kind := .struct _, code := some c, .. } => cond c.noList none (some c)
  | _ => none
/-- What is handed on; the blocks that may be written; one's own slices, handed on for good; the blocks that are read alone. -/
def argsOf (T : List (Nat × TyI)) (s : St) : List Operand → List Nat → Option (List Arg × List Nat × List Nat × List Nat)
  | [], _ => some ([], [], [], [])
  | x :: r, ts => match argsOf T s r ts.tail with
    | some (xs, bs, fs, rs) => (match s.ev x, roCode T (ts.headD 0) with
      | some (.ptr b 0), some c => (match blk s.blks b with
        | some (cs, _) => (match c.dec cs with
          | some (z, []) => some (.val (.elem c z 0) :: xs, bs, fs, b :: rs)
          | _ => none)
        | none => none)
      | some (.ptr b 0), none => (match blk s.blks b with
        | some (cs, _) => cond (cs.all (AV.b1 0)) (some (.blk cs :: xs, b :: bs, fs, rs)) none
        | none => none)
      | some (.own b), none => (match orow s.blks b with
        | some (_, ⟨c, ys⟩) => some (.val (.row c ys) :: xs, bs, b :: fs, rs)
        | none => none)
      | some y, _ => cond (y.bound 0) (some (.val y :: xs, bs, fs, rs)) none
      | none, _ => none)
    | none => none
/-- Nothing in it leads to memory. -/
def AV.pl0 : AV → Bool
  | .v _ => true
  | _ => false
def AV.pl1 : AV → Bool
  | .agg xs => xs.all AV.pl0
  | x => x.pl0
def AV.pl : AV → Bool
  | .tup xs => xs.all AV.pl1
  | x => x.pl1
def isNil : List Nat → Bool
  | [] => true
  | _ => false
def setBlk : List (Nat × List AV × Nat) → Nat → List AV → List (Nat × List AV × Nat)
  | [], _, _ => []
  | (n, cs, t) :: r, b, ds => cond (Nat.beq n b) ((n, ds, t) :: r) ((n, cs, t) :: setBlk r b ds)
def setBlks (l : List (Nat × List AV × Nat)) : List Nat → List (List AV) → Option (List (Nat × List AV × Nat))
  | [], [] => some l
  | b :: bs, ds :: dss => setBlks (setBlk l b ds) bs dss
  | _, _ => none
def ends (l : List (Nat × List AV × Nat)) : List Nat → List (Nat × List AV × Nat)
  | [] => l
  | b :: r => ends (setBlk l b []) r
def dupFree : List Nat → Bool
  | [] => true
  | x :: r => !(r.any (Nat.beq x)) && dupFree r
def decRow (s : St) (c : RKc) (sz : Nat) (i : Nat) : List (Nat × Operand) → Option (List c.T)
  | [] => some []
  | (j, x) :: r => match s.ev x with
    | some y => (match c.dec y.flat, decRow s c sz (i + 1) r with
      | some (z, []), some zs => cond (Nat.beq i j && Nat.beq y.flat.length sz && y.flat.all AV.one) (some (z :: zs)) none
      | _, _ => none)
    | none => none
def catOf (c : RKc) (xs : List c.T) (c' : RKc) (ys : List c'.T) : Option (List c.T) := if h : c' = c then some (xs ++ h ▸ ys) else none
/-- A slice that is nothing yet. -/
def nilOf (T : List (Nat × TyI)) (o : Oper) : Option (Nat × RKc) :=
  match o.op with
  | .assign (.const (.slice none 0 0)) | .move (.const (.slice none 0 0)) => match look T o.type with
    | some { kind := .slice e, .. } => (match look T e with
      | some { code := some c, .. } => cond c.noList (some (e, c)) none
      | _ => none)
    | _ => none
  | _ => none
def stepOp (T : List (Nat × TyI)) (C : List (Nat × CallW ρ)) (o : Oper) (s : St) (K : St → Option ρ) : Option ρ :=
  match o.op with
  | .box t x => match s.ev x, roCode T t with
    | some y, some c => (match c.dec y.flat with
      | some (z, []) => cond (y.flat.all AV.one) (K (s.put o.dst (.elem c z 0))) none
      | _ => none)
    | some y, none => cond (y.flat.all AV.one) (K ({ s with blks := (s.next, y.flat, t) :: s.blks, next := s.next + 1 }.put o.dst (.ptr s.next 0))) none
    | _, _ => none
  | .alloc t => match look T t with
    | some i => K ({ s with blks := (s.next, i.zero.map .v, t) :: s.blks, next := s.next + 1 }.put o.dst (.ptr s.next 0))
    | none => none
  | .store t x y => match look T t, s.ev x, s.ev y with
    | some i, some (.ptr b p), some y => cond (Nat.beq i.size y.flat.length) (match blk s.blks b with
      | some (cs, _) => cond (y.flat.all AV.one) (match fillAt cs p y.flat with
        | some cs' => K ({ s with blks := setBlk s.blks b cs' }.put o.dst (.v undef))
        | none => none) none
      | none => none) none
    | _, _, _ => none
  | .buildSlice t len parts => match look T t with
    | some { kind := .slice e, .. } => (match look T e with
      | some { size := sz, code := some c, .. } => (match decRow s c sz 0 parts.toList with
        | some xs => cond (Nat.beq len parts.toList.length && Nat.blt 0 len && Nat.ble (len * sz) 1000 && Nat.beq sz c.sz && c.noList) (K ({ s with blks := (s.next, [.orow e c xs], 0) :: s.blks, next := s.next + 1 }.put o.dst (.own s.next))) none
        | none => none)
      | _ => none)
    | _ => none
  | .call { callee := .value (.func f), args, argTypes } => match look C f, argsOf T s args.toList argTypes.toList with
    | some W, some (xs, bs, fs, rs) => cond (dupFree (fs ++ bs) && bs.all fun b => !(rs.any (Nat.beq b))) (W xs fun r outs => cond (r.bound 0 && outs.all (fun cs => cs.all (AV.b1 0)) && (isNil rs || (r.pl && outs.all fun cs => cs.all AV.pl0))) (match setBlks (ends s.blks fs) bs outs with
      | some l => K ({ s with blks := l }.put o.dst r)
      | none => none) none) none
    | _, _ => none
  | .call { callee := .builtin .append, args, argTypes } => match args.toList, argTypes.toList with
    | [x, y], [t, t'] => (match s.ev x, s.ev y, look T t with
      | some (.own b), some (.own b'), some { kind := .slice e', .. } => (match orow s.blks b, orow s.blks b', look T e' with
        | some (e, ⟨c, xs⟩), some (_, ⟨c', y1 :: ys⟩), some ie => cond (Nat.beq t t' && Nat.beq e e' && Nat.beq ie.size c.sz && Nat.beq ie.zero.length c.sz && Nat.blt 0 ie.bytes) (match catOf c xs c' (y1 :: ys) with
          | some zs => cond (decide (zs.length * ie.bytes ≤ 140737488355328)) (K ({ s with blks := (s.next, [.orow e c zs], 0) :: setBlk s.blks b [], next := s.next + 1 }.put o.dst (.own s.next))) none
          | none => none) none
        | _, _, _ => none)
      | _, _, _ => none)
    | _, _ => none
  | op => match nilOf T o with
    | some (e, c) => K ({ s with blks := (s.next, [.orow e c []], 0) :: s.blks, next := s.next + 1 }.put o.dst (.own s.next))
    | none => pureOp T s op fun x => K (s.put o.dst x)
/-- A slot whose Bool is known now. -/
def St.ref (s : St) (t : Nat) (b : Bool) : St := { s with tmps := set_ s.tmps t (some (.v (.bool b))) }
def St.know (s : St) (c : Operand) (b : Bool) : St :=
  match c with
  | .tmp t => s.ref t b
  | _ => s
/-- An operation may be left out, by its guard. -/
def guarded (ops : List Oper) (o : Oper) (s : St) (A B : St → Option ρ) : Option ρ :=
  match o.guard with
  | none => A s
  | some (j, want) => match ops[j]? with
    | some g => (match g.dst with
      | some t => (match at_ s.tmps t with
        | some (.v (.bool b)) => (match want with
          | true => cond b (A (s.ref t true)) (B (s.ref t false))
          | false => cond b (B (s.ref t true)) (A (s.ref t false)))
        | some (.v (.tuple _)) => B s
        | _ => none)
      | none => none)
    | none => none
def evalOps (T : List (Nat × TyI)) (C : List (Nat × CallW ρ)) (ops : List Oper) : List Oper → St → (St → Option ρ) → Option ρ
  | [], s, K => K s
  | o :: rest, s, K => guarded ops o s (fun s => stepOp T C o s fun s' => evalOps T C ops rest s' K) (fun s => evalOps T C ops rest (s.put o.dst (.v undef)) K)
/-! ### A region that draws its order -/
def ptrOf (s : St) (x : Operand) : List Nat :=
  match s.ev x with
  | some (.ptr b _) => [b]
  | some (.own b) => [b]
  | _ => []
/-- The blocks that an operation reads or writes. -/
def touch (s : St) (o : Op) : List Nat :=
  match o with
  | .load _ x => ptrOf s x
  | .store _ x _ => ptrOf s x
  | .call { args, .. } => args.toList.flatMap (ptrOf s)
  | _ => []
def wrOf (T : List (Nat × TyI)) (s : St) : List Operand → List Nat → List Nat
  | [], _ => []
  | x :: r, ts => (match roCode T (ts.headD 0) with
    | some _ => []
    | none => ptrOf s x) ++ wrOf T s r ts.tail
def writes (T : List (Nat × TyI)) (s : St) (o : Op) : List Nat :=
  match o with
  | .store _ x _ => ptrOf s x
  | .call { callee := .value (.func _), args, argTypes } => wrOf T s args.toList argTypes.toList
  | .call { callee := .builtin .append, args, .. } => args.toList.flatMap (ptrOf s)
  | _ => []
def isNew (T : List (Nat × TyI)) (o : Oper) : Bool :=
  match o.op with
  | .alloc _ => true
  | .box t _ => (roCode T t).isNone
  | .buildSlice .. => true
  | .call { callee := .builtin .append, .. } => true
  | _ => (nilOf T o).isSome
def tw (T : List (Nat × TyI)) (s : St) (o : Oper) : List Nat × List Nat := cond (isNew T o) (s.next :: touch s o.op, s.next :: writes T s o.op) (touch s o.op, writes T s o.op)
def disj (a b : List Nat) : Bool := a.all fun x => !(b.any (Nat.beq x))
structure Dn where
  i : Nat
  o : Oper
  tb : List Nat
  wb : List Nat
def waitsFor (o : Oper) (k : Nat) : Bool := o.after.toList.any fun e => Region.binds .any e && Nat.beq e.on k
def indep (ops : Array Oper) (p q : Dn) : Bool := p.o.apart ops q.o && disj p.wb q.tb && disj p.tb q.wb
/-- One waits for another one by some that lie between. -/
def waitsT (ops : Array Oper) : Nat → Oper → Nat → Bool
  | 0, _, _ => false
  | n + 1, o, k => o.after.toList.any fun e => Region.binds .any e && (Nat.beq e.on k || match ops[e.on]? with
    | some o' => waitsT ops n o' k
    | none => false)
def wOk (ops : Array Oper) (d q : Dn) : Bool := waitsFor q.o d.i || (indep ops d q || waitsT ops 3 q.o d.i)
def okE (ops : Array Oper) (dn : List Dn) (q : Dn) : Bool :=
  (q.o.after.toList.all fun e => !Region.binds .any e || Nat.blt e.on q.i) && dn.all fun d => wOk ops d q
def evalAny (T : List (Nat × TyI)) (C : List (Nat × CallW ρ)) (ops : Array Oper) : List Oper → Nat → List Dn → St → (St → Option ρ) → Option ρ
  | [], _, _, s, K => K s
  | o :: rest, k, dn, s, K => guarded ops.toList o s
    (fun s => cond (okE ops dn ⟨k, o, (tw T s o).1, (tw T s o).2⟩) (stepOp T C o s fun s' => evalAny T C ops rest (k + 1) (⟨k, o, (tw T s o).1, (tw T s o).2⟩ :: dn) s' K) none)
    (fun s => cond (okE ops dn ⟨k, o, [], []⟩) (evalAny T C ops rest (k + 1) (⟨k, o, [], []⟩ :: dn) (s.put o.dst (.v undef)) K) none)
/-- Where a piece of code stands: the steps from the body to it, the last one first. -/
abbrev Path := List Nat
def child : Code → Nat → Code
  | .seq a _, 0 => a
  | .seq _ b, 1 => b
  | .cond _ a _, 0 => a
  | .cond _ _ b, 1 => b
  | .block _ a, _ => a
  | .loop a, _ => a
  | .scope a, _ => a
  | _, _ => .skip
def codeAt (B : Code) : Path → Code
  | [] => B
  | i :: q => child (codeAt B q) i
inductive Out where
  | normal
  | exit (id : Nat)
  | ret
/-- What is left of a state at a loop's head: the slots named, the blocks below a number. -/
def keepT (n : Nat) (keep : List Nat) : Nat → List (Option AV) → List (Option AV)
  | _, [] => []
  | i, none :: r => none :: keepT n keep (i + 1) r
  | i, some (.own b) :: r => cond (keep.any (Nat.beq i)) (some (.own b)) none :: keepT n keep (i + 1) r
  | i, some x :: r => cond (keep.any (Nat.beq i)) (cond (x.bound n) (some x) none) none :: keepT n keep (i + 1) r
def keepB (n : Nat) : List (Nat × List AV × Nat) → List (Nat × List AV × Nat)
  | [] => []
  | (_, [], _) :: r => keepB n r
  | (b, cs, t) :: r => cond (Nat.blt b n) (cond (cs.all (AV.b1 n)) ((b, cs, t) :: keepB n r) (keepB n r)) (keepB n r)
/-- Slices of one's own that are only read from here on. -/
def frz (fs : List Nat) (s : St) : List (Option AV) → List (Option AV)
  | [] => []
  | some (.own b) :: r => cond (fs.any (Nat.beq b)) (match orow s.blks b with
    | some (_, ⟨c, xs⟩) => some (.row c xs)
    | none => none) (some (.own b)) :: frz fs s r
  | x :: r => x :: frz fs s r
/-- The names of slots' slices. -/
def ownsAt : List (Option AV) → List Nat → List Nat
  | _, [] => []
  | l, t :: r => match at_ l t with
    | some (.own b) => b :: ownsAt l r
    | _ => ownsAt l r
def freeze (fs : List Nat) (s : St) : St := { s with tmps := frz fs s s.tmps, blks := ends s.blks fs }
def posOf (b : Nat) : List Nat → Nat
  | [] => 0
  | x :: r => cond (Nat.beq x b) 0 (posOf b r + 1)
/-- The slots kept, slices of one's own under names anew. -/
def nameT (n : Nat) (os : List Nat) : List (Option AV) → List (Option AV)
  | [] => []
  | some (.own b) :: r => cond (os.any (Nat.beq b)) (some (.own (n + posOf b os))) none :: nameT n os r
  | x :: r => x :: nameT n os r
def nameB (n : Nat) (l : List (Nat × List AV × Nat)) (os : List Nat) : Nat → List Nat → List (Nat × List AV × Nat)
  | _, [] => []
  | j, b :: r => cond (Nat.beq (posOf b os) j) (match orow l b with
    | some (e, ⟨c, xs⟩) => (n + j, [.orow e c xs], 0) :: nameB n l os (j + 1) r
    | none => nameB n l os (j + 1) r) (nameB n l os (j + 1) r)
def norm1 (n : Nat) (keep : List Nat) (s : St) : St :=
  let os := ownsAt s.tmps keep
  { tmps := nameT (n + s.np) os (keepT n keep 0 s.tmps), blks := nameB (n + s.np) s.blks os 0 os ++ keepB n s.blks, next := n + s.np + os.length, np := s.np }
def norm (n : Nat) (keep fz : List Nat) (s : St) : St := norm1 n keep (freeze (ownsAt s.tmps fz) s)
/-- How a function is gone through. -/
structure How (ρ : Type) where
  T : List (Nat × TyI)
  C : List (Nat × CallW ρ)
  /-- at each loop, and at each place where paths meet: from which number on blocks are left, which slots are kept -/
  keep : Path → Nat × List Nat × List Nat
  back : Path → St → Option ρ
def evalCode (H : How ρ) : Path → Code → St → (Out → St → Option ρ) → Option ρ
  | _, .skip, s, K => K .normal s
  | _, .label _, s, K => K .normal s
  | _, .region _ ops d, s, K => cond d (evalAny H.T H.C ops ops.toList 0 [] s (K .normal)) (evalOps H.T H.C ops.toList ops.toList s (K .normal))
  | q, .seq a b, s, K => evalCode H (0 :: q) a s fun e s' => match e with
    | .normal => (match (H.keep q).2.1 with
      | [] => evalCode H (1 :: q) b s' K
      | _ :: _ => H.back q (norm (H.keep q).1 (H.keep q).2.1 (H.keep q).2.2 s'))
    | e => K e s'
  | q, .cond c a b, s, K => match s.ev c with
    | some (.v (.bool t)) => cond t (evalCode H (0 :: q) a (s.know c true) K) (evalCode H (1 :: q) b (s.know c false) K)
    | _ => none
  | q, .block id a, s, K => evalCode H (0 :: q) a s fun e s' => match e with
    | .exit i => cond (Nat.beq i id) (K .normal s') (K (.exit i) s')
    | e => K e s'
  | q, .loop _, s, _ => H.back q (norm (H.keep q).1 (H.keep q).2.1 (H.keep q).2.2 s)
  | _, .exit id, s, K => K (.exit id) s
  | _, .ret, s, K => K .ret s
  | _, _, _, _ => none
/-- What stands behind a place. -/
def contAt (H : How ρ) (B : Code) (F : Out → St → Option ρ) : Path → Out → St → Option ρ
  | [], e, s => F e s
  | i :: q, e, s => match codeAt B q with
    | .seq _ b => (match i, e with
      | 0, .normal => (match (H.keep q).2.1 with
        | [] => evalCode H (1 :: q) b s (contAt H B F q)
        | _ :: _ => H.back q (norm (H.keep q).1 (H.keep q).2.1 (H.keep q).2.2 s))
      | _, e => contAt H B F q e s)
    | .block id _ => (match e with
      | .exit j => cond (Nat.beq j id) (contAt H B F q .normal s) (contAt H B F q (.exit j) s)
      | e => contAt H B F q e s)
    | .loop _ => (match e with
      | .normal => H.back q (norm (H.keep q).1 (H.keep q).2.1 (H.keep q).2.2 s)
      | e => contAt H B F q e s)
    | _ => contAt H B F q e s
def evalRound (H : How ρ) (B : Code) (F : Out → St → Option ρ) (p : Path) (s : St) : Option ρ :=
  match codeAt B p with
  | .seq _ b => evalCode H (1 :: p) b s (contAt H B F (1 :: p))
  | _ => evalCode H (0 :: p) (codeAt B (0 :: p)) s (contAt H B F (0 :: p))
def resultsOf (T : List (Nat × TyI)) (s : St) : List ResultVar → Option (List AV)
  | [] => some []
  | .tmp t :: r => match at_ s.tmps t, resultsOf T s r with
    | some (.own b), some xs => (match orow s.blks b with
      | some (_, ⟨c, ys⟩) => some (.row c ys :: xs)
      | none => none)
    | some x, some xs => some (x :: xs)
    | _, _ => none
  | .cell a t :: r => match at_ s.tmps a, look T t, resultsOf T s r with
    | some (.ptr b o), some i, some xs => (match blk s.blks b with
      | some (cs, _) => (match part i cs o with
        | some x => some (x :: xs)
        | none => none)
      | none => none)
    | _, _, _ => none
def startT : Nat → List Arg → List (Option AV)
  | _, [] => []
  | n, .val x :: r => some x :: startT n r
  | n, .blk _ :: r => some (.ptr n 0) :: startT (n + 1) r
def startB : Nat → List Arg → List (Nat × List AV × Nat)
  | _, [] => []
  | n, .val _ :: r => startB n r
  | n, .blk cs :: r => (n, cs, 0) :: startB (n + 1) r
def outsFrom (l : List (Nat × List AV × Nat)) : Nat → Nat → Option (List (List AV))
  | 0, _ => some []
  | n + 1, i => match blk l i, outsFrom l n (i + 1) with
    | some (cs, _), some r => cond (cs.all (AV.b1 0)) (some (cs :: r)) none
    | _, _ => none
def one_ : List AV → AV
  | [x] => x
  | xs => .tup xs
def endOf (T : List (Nat × TyI)) (fn : Func) (np : Nat) (K : AV → List (List AV) → Option ρ) (e : Out) (s : St) : Option ρ :=
  match e with
  | .exit _ => none
  | _ => match resultsOf T s fn.results.toList, outsFrom s.blks np 0 with
    | some xs, some outs => cond ((one_ xs).bound 0) (K (one_ xs) outs) none
    | _, _ => none
/-- The rounds of all loops, k of them at the most. -/
def run (H : How ρ) (B : Code) (F : Out → St → Option ρ) : Nat → Path → St → Option ρ
  | 0, _, _ => none
  | k + 1, p, s => evalRound { H with back := run H B F k } B F p s
def start (fn : Func) (xs : List Arg) : St := { tmps := startT 0 xs ++ List.replicate (fn.ntmps - xs.length) (some (.v undef)), blks := startB 0 xs, next := (startB 0 xs).length, np := (startB 0 xs).length }
def bodyOf (fn : Func) : Code := fn.body.getD .skip
/-- A call: what its loops lead to stands behind 'back'. -/
def evalWith (T : List (Nat × TyI)) (C : List (Nat × CallW ρ)) (keep : Path → Nat × List Nat × List Nat) (back : Path → St → Option ρ) (fn : Func) (xs : List Arg) (K : AV → List (List AV) → Option ρ) : Option ρ :=
  evalCode { T := T, C := C, keep := keep, back := back } [] (bodyOf fn) (start fn xs) (endOf T fn (startB 0 xs).length K)
def runFn (T : List (Nat × TyI)) (C : List (Nat × CallW ρ)) (keep : Path → Nat × List Nat × List Nat) (fn : Func) (np : Nat) (K : AV → List (List AV) → Option ρ) : Nat → Path → St → Option ρ :=
  run { T := T, C := C, keep := keep, back := fun _ _ => none } (bodyOf fn) (endOf T fn np K)
def evalFn (T : List (Nat × TyI)) (C : List (Nat × CallW ρ)) (keep : Path → Nat × List Nat × List Nat) (k : Nat) (fn : Func) (xs : List Arg) (K : AV → List (List AV) → Option ρ) : Option ρ :=
  evalWith T C keep (runFn T C keep fn (startB 0 xs).length K k) fn xs K
end
/-! ### Results, cell by cell -/
inductive S1 where
  | i (k : IntKind)
  | bo
  | rw (c : RKc)
  /-- a pointer to what is only read -/
  | el (c : RKc)
@[reducible] def S1.T : S1 → Type
  | .i _ => Int
  | .bo => Bool
  | .rw c => List c.T
  | .el c => c.T
def S1.enc : (a : S1) → a.T → AV
  | .i k, x => .v (.int k x)
  | .bo, x => .v (.bool x)
  | .rw c, xs => .row c xs
  | .el c, x => .elem c x 0
def S1.dec : (a : S1) → AV → Option a.T
  | .i k, .v (.int k' x) => if k = k' then some x else none
  | .bo, .v (.bool x) => some x
  | .rw c, .row c' xs => if h : c' = c then some (h ▸ xs) else none
  | .el c, .elem c' x 0 => if h : c' = c then some (h ▸ x) else none
  | _, _ => none
@[reducible] def TL : S1 → List S1 → Type
  | a, [] => a.T
  | a, b :: r => a.T × TL b r
def encL : (a : S1) → (r : List S1) → TL a r → List AV
  | a, [], x => [a.enc x]
  | a, b :: r, x => a.enc x.1 :: encL b r x.2
def decL : (a : S1) → (r : List S1) → List AV → Option (TL a r)
  | a, [], [x] => a.dec x
  | a, b :: r, x :: l => match a.dec x, decL b r l with
    | some y, some ys => some (y, ys)
    | _, _ => none
  | _, _, _ => none
/-- How the cells lie in results: one by itself, some together. -/
inductive Gr where
  | s
  | g (n : Nat)
def unG : List Gr → List AV → Option (List AV)
  | [], [] => some []
  | .s :: r, x :: l => match unG r l with
    | some ys => some (x :: ys)
    | none => none
  | .g n :: r, .agg xs :: l => cond (Nat.beq xs.length n) (match unG r l with
    | some ys => some (xs ++ ys)
    | none => none) none
  | _, _ => none
def reG : List Gr → List AV → List AV
  | [], _ => []
  | .s :: r, l => (l.take 1).head? |>.elim [] fun x => x :: reG r (l.drop 1)
  | .g n :: r, l => .agg (l.take n) :: reG r (l.drop n)
/-- A function's result, and what became of the block that it may write (the last so many cells). -/
structure FR where
  c0 : S1
  cs : List S1
  gr : List Gr
  st : Option Nat
@[reducible] def FR.T (f : FR) : Type := TL f.c0 f.cs
def FR.enc (f : FR) (x : f.T) : AV × List (List AV) :=
  match f.st with
  | none => (one_ (reG f.gr (encL f.c0 f.cs x)), [])
  | some n => (one_ (reG f.gr ((encL f.c0 f.cs x).take n)), [(encL f.c0 f.cs x).drop n])
def unone (gr : List Gr) (x : AV) : List AV :=
  match gr, x with
  | [_], x => [x]
  | _, .tup xs => xs
  | _, x => [x]
def FR.dec (f : FR) (x : AV) (outs : List (List AV)) : Option f.T :=
  match f.st, outs with
  | none, [] => match unG f.gr (unone f.gr x) with
    | some l => cond (Nat.beq (unone f.gr x).length f.gr.length) (decL f.c0 f.cs l) none
    | none => none
  | some n, [o] => match unG f.gr (unone f.gr x) with
    | some l => cond (Nat.beq l.length n && Nat.beq (unone f.gr x).length f.gr.length) (decL f.c0 f.cs (l ++ o)) none
    | none => none
  | _, _ => none
/-- How a function is called by its model. -/
def FR.W {ρ : Type} (f : FR) (M : List Arg → Option f.T) : CallW ρ := fun xs K => (M xs).bind fun x => K (f.enc x).1 (f.enc x).2
/-! ### Arguments, cell by cell -/
inductive Sh where
  | s
  | g (n : Nat)
  | b (n : Nat)
def unA : List Sh → List Arg → Option (List AV)
  | [], [] => some []
  | .s :: r, .val x :: l => match unA r l with
    | some ys => some (x :: ys)
    | none => none
  | .g n :: r, .val (.agg xs) :: l => cond (Nat.beq xs.length n) (match unA r l with
    | some ys => some (xs ++ ys)
    | none => none) none
  | .b n :: r, .blk xs :: l => cond (Nat.beq xs.length n) (match unA r l with
    | some ys => some (xs ++ ys)
    | none => none) none
  | _, _ => none
def reA : List Sh → List AV → List Arg
  | [], _ => []
  | .s :: r, x :: l => .val x :: reA r l
  | .s :: _, [] => []
  | .g n :: r, l => .val (.agg (l.take n)) :: reA r (l.drop n)
  | .b n :: r, l => .blk (l.take n) :: reA r (l.drop n)
def MA {χ : Type} (c0 : S1) (cs : List S1) (sh : List Sh) (G : TL c0 cs → Option χ) (xs : List Arg) : Option χ :=
  match unA sh xs with
  | some l => match decL c0 cs l with
    | some x => G x
    | none => none
  | none => none
end Go.Proofs.Ytneceomekgophaa.Ev
