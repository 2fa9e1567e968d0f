/- Operations that make no memory: what they come to, by evaluation; no condition. -/
import Derived.Test.YtpkoebbjnfpifaaSxPut
namespace Go.Sx
open Go

structure TI where
  und : TypeDesc
  size : Nat
  bytes : Nat
  zero : List Value
  eq : Bool := false

abbrev Tab := List (Nat × TI)

def Tab.get : Tab → Nat → Option TI
  | [], _ => none
  | e :: r, k => match Nat.beq e.1 k with | true => some e.2 | false => Tab.get r k

/-- '==' of one cell. -/
def eqTV : TV → TV → Option Bool
  | .int k a, .int k' b => match decide (k = k') with | true => some (a == b) | false => none
  | .bool a, .bool b => some (a == b)
  | .str a, .str b => some (a == b)
  | _, _ => none

def eqTVs : List TV → List TV → Option Bool
  | [x], [y] => eqTV x y
  | x :: xs, y :: ys => match eqTV x y, eqTVs xs ys with
    | some a, some b => some (a && b)
    | _, _ => none
  | _, _ => none

/-- Of one kind? -/
def likeTV : TV → TV → Bool
  | .int _ _, .int _ _ => true
  | .bool _, .bool _ => true
  | .str _, .str _ => true
  | _, _ => false

def likes : List TV → List TV → Bool
  | [], [] => true
  | x :: xs, y :: ys => likeTV x y && likes xs ys
  | _, _ => false

def isAggD : TypeDesc → Bool
  | .struct _ => true
  | .array _ _ => true
  | _ => false

def cTV : Value → TV
  | .int k n => .int k n
  | .bool b => .bool b
  | .string s => .str s.data.toList
  | v => .sc v

def TIOk (P : Program) (t : Nat) (ti : TI) : Prop :=
  P.underlying t = some ti.und ∧ ∃ i z, P.info? t = some i ∧ i.size = ti.size ∧ i.bytes = ti.bytes ∧ i.zero = some z ∧ z.cells.toList = ti.zero ∧
    ti.zero.length = ti.size ∧ (ti.zero.all Value.oneCell' = true) ∧ (isAggD ti.und = false → ti.size = 1) ∧
    (ti.eq = true → P.eqGuardType P.depth t = false ∧ ∀ (w w' : World) (Pr : Nat → Prop) (xs ys : Array Value) (cx cy : List TV) (r : Bool), xs.size = cx.length → ys.size = cy.length →
      (∀ (i : Nat) y, cx[i]? = some y → ∃ u, xs[i]? = some u ∧ FRel Pr w u y) → (∀ (i : Nat) y, cy[i]? = some y → ∃ u, ys[i]? = some u ∧ FRel Pr w u y) →
      likes cx (ti.zero.map cTV) = true → eqTVs cx cy = some r → (Op.equal t (.agg xs) (.agg ys)).run P w' = .ok r w')

def TabOk (P : Program) (T : Tab) : Prop := ∀ t ti, T.get t = some ti → TIOk P t ti

theorem TabOk.nil (P : Program) : TabOk P [] := by intro t ti h; cases h

theorem TabOk.cons {P : Program} {t : Nat} {ti : TI} {T : Tab} (h : TIOk P t ti) (hT : TabOk P T) : TabOk P ((t, ti) :: T) := by
  intro k tk hk
  simp only [Tab.get] at hk
  split at hk
  · rename_i hb
    obtain rfl : t = k := Nat.eq_of_beq_eq_true hb
    obtain rfl := Option.some.inj hk
    exact h
  · exact hT k tk hk

theorem cTV_rel {P : Nat → Prop} {w : World} {v : Value} (h : v.oneCell' = true) : FRel P w v (cTV v) := by
  cases v with
  | int k n => exact .int k n
  | bool b => exact .bool b
  | string s => exact .str s.data.toList
  | _ => exact .sc _ h

theorem cTV_plain (v : Value) : (cTV v).plain = true := by cases v <;> rfl

def cSV : Value → SV
  | .agg cs => match cs.toList.all Value.oneCell' with | true => .agg (cs.toList.map cTV) | false => .junk
  | .tuple _ => .junk
  | v => .tv (cTV v)

def AState.ev (σ : AState) : Operand → SV
  | .tmp t => σ.get t
  | .const v => cSV v
  | .global _ => .junk
  | .func f => .fn f []

abbrev w64 (n : Int) : Int := IntKind.wrap .i64 n

/-- Numbers. -/
def intTV (op : BinOp) (k : IntKind) (a b : Int) : Option (List Prop × TV) :=
  match op with
  | .add => some ([], .int k (k.wrap (a + b)))
  | .sub => some ([], .int k (k.wrap (a - b)))
  | .mul => some ([], .int k (k.wrap (a * b)))
  | .quo => some ([b ≠ 0], .int k (k.wrap (a.tdiv b)))
  | .rem => some ([b ≠ 0], .int k (a.tmod b))
  | .and => some ([], .int k (k.wrap (BitVec.ofInt k.bits a &&& BitVec.ofInt k.bits b).toNat))
  | .or => some ([], .int k (k.wrap (BitVec.ofInt k.bits a ||| BitVec.ofInt k.bits b).toNat))
  | .eql => some ([], .bool (a == b))
  | .neq => some ([], .bool (a != b))
  | .lss => some ([], .bool (decide (a < b)))
  | .leq => some ([], .bool (decide (a ≤ b)))
  | .gtr => some ([], .bool (decide (a > b)))
  | .geq => some ([], .bool (decide (a ≥ b)))
  | _ => none

def shiftTV (op : BinOp) (k : IntKind) (a b : Int) : Option (List Prop × TV) :=
  match op with
  | .shl => some ([0 ≤ b], .int k (k.wrap (a * 2 ^ (min b.toNat k.bits))))
  | .shr => some ([0 ≤ b], .int k (a.fdiv (2 ^ (min b.toNat k.bits))))
  | _ => none

def strTV (op : BinOp) (x y : List UInt8) : Option (List Prop × TV) :=
  match op with
  | .add => some ([((x.length + y.length : Nat) : Int) ≤ 9223372036854775807], .str (x ++ y))
  | .eql => some ([], .bool (x == y))
  | .neq => some ([], .bool (!(x == y)))
  | .lss => some ([], .bool (Op.bytesLess x y))
  | _ => none

def isShift : BinOp → Bool
  | .shl => true
  | .shr => true
  | _ => false

def nilV : Value := .slice none 0 0

/-- Is it a value that reads as a slice, and of what length? -/
def AState.lenOf (σ : AState) : SV → Option Nat
  | .tv (.fz _ n _) => some n
  | .tv (.own _ _ n _) => some n
  | .tv (.sc (.slice none 0 0)) => some 0
  | .al p => match σ.look p with | some (.own _ _ n _) => some n | _ => none
  | _ => none

def isNilTV : TV → Bool
  | .sc (.slice none 0 0) => true
  | _ => false

def binSV (T : Tab) (σ : AState) (op : BinOp) (t : Nat) (x y : SV) : Option (List Prop × SV) :=
  match x, y with
  | .tv (.int k a), .tv (.int k' b) =>
    match isShift op with
    | true => (shiftTV op k a b).map fun r => (r.1, .tv r.2)
    | false => match decide (k = k') with | true => (intTV op k a b).map fun r => (r.1, .tv r.2) | false => none
  | .tv (.str a), .tv (.str b) => (strTV op a b).map fun r => (r.1, .tv r.2)
  | .tv (.bool a), .tv (.bool b) => match op, (T.get t).map TI.und with
    | .eql, some .bool => some ([], .tv (.bool (a == b)))
    | .neq, some .bool => some ([], .tv (.bool (!(a == b))))
    | _, _ => none
  | .agg xs, .agg ys => match op, (T.get t).map (fun ti => ti.eq && likes xs (ti.zero.map cTV)), xs.all TV.plain && ys.all TV.plain, eqTVs xs ys with
    | .eql, some true, true, some r => some ([], .tv (.bool r))
    | .neq, some true, true, some r => some ([], .tv (.bool (!r)))
    | _, _, _, _ => none
  | .pc _ _, .tv (.sc (.pointer none)) => match op, (T.get t).map TI.und with
    | .eql, some (.pointer _) => some ([], .tv (.bool false))
    | .neq, some (.pointer _) => some ([], .tv (.bool true))
    | _, _ => none
  | .tv (.sc (.pointer none)), .tv (.sc (.pointer none)) => match op, (T.get t).map TI.und with
    | .eql, some (.pointer _) => some ([], .tv (.bool true))
    | .neq, some (.pointer _) => some ([], .tv (.bool false))
    | _, _ => none
  | x, .tv (.sc (.slice none 0 0)) => match op, (T.get t).map TI.und, σ.lenOf x with
    | .eql, some (.slice _), some n => some ([0 < n], .tv (.bool false))
    | .neq, some (.slice _), some n => some ([0 < n], .tv (.bool true))
    | _, _, _ => none
  | _, _ => none

def unSV (op : UnOp) (x : SV) : Option (List Prop × SV) :=
  match op, x with
  | .not, .tv (.bool b) => some ([], .tv (.bool (!b)))
  | .neg, .tv (.int k n) => some ([], .tv (.int k (k.wrap (0 - n))))
  | _, _ => none

/-- One of two values. -/
def pickSV (b : Bool) (x y : SV) : SV :=
  match x, y with
  | .tv (.bool x), .tv (.bool y) => .tv (.bool (cond b x y))
  | .tv (.int k x), .tv (.int k' y) => match decide (k = k') with | true => .tv (.int k (cond b x y)) | false => cond b (.tv (.int k x)) (.tv (.int k' y))
  | .tv (.str x), .tv (.str y) => .tv (.str (cond b x y))
  | x, y => cond b x y

/-- Cells as a value. -/
def ofCells (ag : Bool) (n : Nat) (cs : List TV) : Option SV :=
  match Nat.beq cs.length n && cs.all TV.plain with
  | true => (match ag with
    | true => some (.agg cs)
    | false => match cs with
      | [x] => some (.tv x)
      | _ => none)
  | false => none

def AState.cellsAt (σ : AState) (n : Nat) : SV → Option (List TV)
  | .rp cs => some (cs.take n)
  | .pc o off => match σ.heap[o]? with | some (.cells _ cs) => some ((cs.drop off).take n) | _ => none
  | .pe p i j z => match σ.look p with | some (.own z' _ _ f) => (match Nat.beq z z' with | true => some (((f i).drop j).take n) | false => none) | _ => none
  | _ => none


def partsOf (σ : AState) : List (Nat × Operand) → Option (List (Nat × List TV))
  | [] => some []
  | (i, x) :: r => match σ.ev x, partsOf σ r with
    | .tv y, some ps => (match y.plain with | true => some ((i, [y]) :: ps) | false => none)
    | .agg cs, some ps => (match cs.all TV.plain with | true => some ((i, cs) :: ps) | false => none)
    | _, _ => none

/-- Cells into cells from a place on. -/
def putAt (cs : List TV) (off : Nat) : List TV → List TV
  | [] => cs
  | y :: r => putAt (cs.set off y) (off + 1) r

def fillTV (place : Nat → Option (Nat × Nat)) (cells : List TV) : List (Nat × List TV) → Option (List TV)
  | [] => some cells
  | (i, ys) :: rest => match place i with
    | none => none
    | some (off, size) => match Nat.beq ys.length size && Nat.ble (off + ys.length) cells.length with
      | true => fillTV place (putAt cells off ys) rest
      | false => none

def Tab.size (T : Tab) (t : Nat) : Option Nat := (T.get t).map (·.size)

/-- Fields' places and sizes. -/
def placesOf (T : Tab) : List Field → Option (List (Nat × Nat))
  | [] => some []
  | f :: r => match T.size f.type, placesOf T r with
    | some n, some l => some ((f.offset, n) :: l)
    | _, _ => none

def capsOf (σ : AState) : List Operand → Option (List SV)
  | [] => some []
  | x :: r => match capsOf σ r with
    | some l => let s := σ.ev x; (match s.pure1 with | true => some (s :: l) | false => none)
    | none => none

def maxTV (σ : AState) (less : Bool) : SV → List Operand → Option SV
  | s, [] => some s
  | .tv (.int k a), x :: r => match σ.ev x with
    | .tv (.int _ b) => maxTV σ less (.tv (.int k (cond less (if b < a then b else a) (if b > a then b else a)))) r
    | _ => none
  | _, _ => none

def iv : SV → Option Int
  | .tv (.int _ n) => some n
  | _ => none

def AState.bound (σ : AState) (d : Int) : Option Operand → Option Int
  | none => some d
  | some l => iv (σ.ev l)

def someCs (x : Option SV) : Option (List Prop × SV) := match x with | some s => some ([], s) | none => none

def SV.isOwn : SV → Bool
  | .tv (.own _ _ _ _) => true
  | _ => false

def ownCell : List TV → Bool
  | [.own _ _ _ _] => true
  | _ => false

/-- What an operation comes to that makes no memory. -/
def evalPure (T : Tab) (σ : AState) : Op → Option (List Prop × SV)
  | .move x => let s := σ.ev x; (match s.pure with
    | true => some ([], s)
    | false => match x, s.isOwn with
      | .tmp t, true => some ([], .al (.slot t 0, []))
      | _, _ => none)
  | .assign x => let s := σ.ev x; (match s.pure with
    | true => some ([], s)
    | false => none)
  | .pick c a b => match σ.ev c with
    | .tv (.bool e) => let s := pickSV e (σ.ev a) (σ.ev b); (match s.pure with | true => some ([], s) | false => none)
    | _ => none
  | .load t a => match T.get t with
    | some ti => match σ.cellsAt ti.size (σ.ev a) with
      | some cs => match ofCells (isAggD ti.und) ti.size cs with
        | some s => some ([], s)
        | none => match σ.ev a, isAggD ti.und, ownCell cs with
          | .pc o off, false, true => some ([], .al (.cell o off, []))
          | _, _, _ => none
      | none => none
    | none => none
  | .fieldAddr t x f => match T.get t with
    | some ti => match ti.und with
      | .struct fs => match fs[f]? with
        | some fd => match T.size fd.type, σ.ev x with
          | some (_ + 1), .rp cs => some ([], .rp (cs.drop fd.offset))
          | some (_ + 1), .pc o off => some ([], .pc o (off + fd.offset))
          | some (_ + 1), .pe p i j z => some ([], .pe p i (j + fd.offset) z)
          | _, _ => none
        | none => none
      | _ => none
    | none => none
  | .field t x f => match T.get t with
    | some ti => match ti.und with
      | .struct fs => match fs[f]? with
        | some fd => match T.get fd.type, σ.ev x with
          | some fi, .agg cs => someCs (ofCells (isAggD fi.und) fi.size ((cs.drop fd.offset).take fi.size))
          | _, _ => none
        | none => none
      | _ => none
    | none => none
  | .indexAddr t x i => match T.get t, iv (σ.ev i) with
    | some ti, some n => match ti.und, σ.ev x with
      | .slice e, .tv (.fz z len f) => (match T.size e with
        | some z' => match Nat.beq z z' with | true => some ([0 ≤ n, n < (len : Int)], .rp (f n.toNat)) | false => none
        | none => none)
      | .slice e, .al p => (match T.size e, σ.look p with
        | some z', some (.own z _ len _) => (match Nat.beq z z' with | true => some ([0 ≤ n, n < (len : Int)], .pe p n.toNat 0 z) | false => none)
        | _, _ => none)
      | _, _ => none
    | _, _ => none
  | .index t x i => match T.get t, iv (σ.ev i) with
    | some ti, some n => match ti.und, σ.ev x with
      | .string, .tv (.str s) => some ([0 ≤ n, n < (s.length : Int)], .tv (.int .u8 ((s.getD n.toNat 0).toNat : Int)))
      | _, _ => none
    | _, _ => none
  | .binOp op t x y _ => binSV T σ op t (σ.ev x) (σ.ev y)
  | .unOp op _ x => unSV op (σ.ev x)
  | .convert s d x => match T.get s, T.get d, σ.ev x with
    | some si, some di, .tv (.int _ n) => (match si.und, di.und with
      | .int _, .int k => some ([], .tv (.int k (k.wrap n)))
      | _, _ => none)
    | some _, some di, .tv (.str l) => (match di.und with
      | .string => some ([], .tv (.str l))
      | _ => none)
    | _, _, _ => none
  | .makeFunc (.func f) fs caps => match fs.toList, capsOf σ caps.toList with
    | [], some l => some ([], .fn f l)
    | _, _ => none
  | .slice t x lo hi none => match (T.get t).map TI.und, σ.ev x with
    | some .string, .tv (.str s) => (match σ.bound 0 lo, σ.bound (s.length : Int) hi with
      | some l, some h => some ([0 ≤ l, l ≤ h, h ≤ (s.length : Int)], .tv (.str ((s.take h.toNat).drop l.toNat)))
      | _, _ => none)
    | some (.slice e), .tv (.fz z n f) => (match σ.bound 0 lo, σ.bound (n : Int) hi, T.size e with
      | some l, some h, some z' => (match Nat.beq z z' with | true => some ([0 ≤ l, l ≤ h, h ≤ (n : Int)], .tv (.fz z (h.toNat - l.toNat) (fun i => f (l.toNat + i)))) | false => none)
      | _, _, _ => none)
    | _, _ => none
  | .extract x i => match σ.ev x with
    | .tup vs => match vs[i]? with
      | some s => match s.pure1, x, s.isOwn with
        | true, _, _ => some ([], s)
        | false, .tmp t, true => some ([], .al (.slot t i, []))
        | _, _, _ => none
      | none => none
    | _ => none
  | .build t parts => match T.get t with
    | some ti => match ti.und, partsOf σ parts.toList with
      | .struct fs, some ps => match placesOf T fs.toList with
        | some pl => match fillTV (fun i => pl[i]?) (ti.zero.map cTV) ps with
          | some cs => some ([], .agg cs)
          | none => none
        | none => none
      | _, _ => none
    | none => none
  | .call { callee := .builtin .len, args := as, argTypes := ts } => match as.toList, ts.toList with
    | [x], [t] => match (T.get t).map TI.und, σ.ev x, σ.lenOf (σ.ev x) with
      | some .string, .tv (.str l), _ => some ([], .tv (.int .i64 (l.length : Int)))
      | some (.slice _), _, some n => some ([], .tv (.int .i64 (n : Int)))
      | _, _, _ => none
    | _, _ => none
  | .call { callee := .builtin .max, args := as, .. } => match as.toList with
    | x :: r => (match σ.ev x with | .tv (.int k a) => someCs (maxTV σ false (.tv (.int k a)) r) | _ => none)
    | [] => none
  | .call { callee := .builtin .min, args := as, .. } => match as.toList with
    | x :: r => (match σ.ev x with | .tv (.int k a) => someCs (maxTV σ true (.tv (.int k a)) r) | _ => none)
    | [] => none
  | _ => none

end Go.Sx
