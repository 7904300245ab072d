/- What the machine over names does with one operation. -/
import GoSem.Dispatch
import Derived.Test.YtifcganfcjildaaGreatDoorE2
namespace Go.Proofs.YtifcganfcjildaaGreatDoor.E
open Go Go.RowKit
set_option linter.unusedVariables false
set_option linter.unusedSimpArgs false
set_option linter.unnecessarySimpa false
noncomputable section

instance : Monad Fr where
  pure := Fr.ret
  bind := Fr.bind
def scal : Value → Option AV
  | .bool b => some (.bool b)
  | .int k n => some (.int k n)
  | .string s => seqS (s.data.toList.map (·.toNat)) fun l => some (.str l)
  | .pointer none => some .nilp
  | .slice none 0 0 => some .nils
  | .map none => some .nilm
  | .nilFunc => some .nilf
  | .nilIface => some .nili
  | _ => none
def scals : List Value → Option (List AV)
  | [] => some []
  | v :: l => match scal v, scals l with
    | some a, some b => some (a :: b)
    | _, _ => none
/-- A constant. -/
def ofV : Value → Option AV
  | .agg cs => (scals cs.toList).map .agg
  | v => scal v
def cellsA : AV → List AV
  | .agg cs => cs
  | v => [v]
def sz (P : Program) (t : TypeId) : Option Nat := (P.info? t).map (·.size)
def wide : TypeDesc → Bool
  | .struct _ | .array _ _ => true
  | _ => false
def zero (P : Program) (t : TypeId) : Option AV := (P.info? t).bind fun i => i.zero.bind ofV
def ones (l : List AV) : Bool := l.all AV.one
abbrev Temps := Tr AV
def evO (T : Temps) : Operand → Option AV
  | .tmp t => T.get t
  | .const v => ofV v
  | .func f => some (.fn (.func f) [] [])
  | .global _ => none
def evOs (T : Temps) : List Operand → Option (List AV)
  | [] => some []
  | x :: l => match evO T x, evOs T l with
    | some a, some b => some (a :: b)
    | _, _ => none
inductive Re where
  | val (v : AV)
  | call (f : FuncId) (args : List AV)
  | pan (v : AV)
  | yld (h : Nat) (args : List AV)
/-- Cells that a name stands for, its own or not. -/
def cellsOf (h : Nat) : Fr (List AV) := (Fr.get h).bind fun o => match o with
  | .cells cs => .ret cs
  | .still cs => .ret cs
  | _ => .fail
def ownCells (h : Nat) : Fr (List AV) := (Fr.get h).bind fun o => match o with
  | .cells cs => .ret cs
  | _ => .fail
def part (P : Program) (t : TypeId) (cs : List AV) (off : Nat) : Option AV :=
  match P.underlying t with
  | none => none
  | some d => match wide d with
    | true => match sz P t with
      | none => none
      | some n => cd (Nat.ble (off + n) cs.length) (some (.agg ((cs.drop off).take n))) none
    | false => cs[off]?
def loadA (P : Program) (t : TypeId) : AV → Fr AV
  | .ptr h off => (cellsOf h).bind fun cs => .of (part P t cs off)
  | _ => .fail
def splice (cs : List AV) (off : Nat) (vs : List AV) : Option (List AV) :=
  cd (Nat.ble (off + vs.length) cs.length) (some (cs.take off ++ vs ++ cs.drop (off + vs.length))) none
def storeA (P : Program) (t : TypeId) (a v : AV) : Fr AV :=
  match a with
  | .ptr h off => (ownCells h).bind fun cs => match sz P t with
    | none => .fail
    | some n => cd (Nat.beq (cellsA v).length n && ones (cellsA v)) (match splice cs off (cellsA v) with
        | none => .fail
        | some cs' => (Fr.set h (.cells cs')).bind fun _ => .ret .undef) .fail
  | _ => .fail
def allocA (P : Program) (v : AV) : Fr AV := cd (ones (cellsA v)) ((Fr.new (.cells (cellsA v))).bind fun h => .ret (.ptr h 0)) .fail
def fillA (place : Nat → Option (Nat × Nat)) (cells : List AV) : List (Nat × AV) → Option (List AV)
  | [] => some cells
  | (i, v) :: rest => match place i with
    | none => none
    | some (off, s) => cd (Nat.beq (cellsA v).length s && ones (cellsA v)) (match splice cells off (cellsA v) with
      | none => none
      | some c => fillA place c rest) none
def wrapA (k : IntKind) (n : Int) : AV := .int k (k.wrap n)
def bytesLt : List Nat → List Nat → Bool
  | _, [] => false
  | [], _ :: _ => true
  | a :: x, b :: y => cd (Nat.blt a b) true (cd (Nat.beq a b) (bytesLt x y) false)
def eqL : List Nat → List Nat → Bool
  | [], [] => true
  | a :: x, b :: y => cd (Nat.beq a b) (eqL x y) false
  | _, _ => false
/-- Are scalars the same? (of one type) -/
def eqS : AV → AV → Option Bool
  | .int _ a, .int _ b => some (a == b)
  | .bool a, .bool b => some (a == b)
  | .str a, .str b => some (eqL a b)
  | .nilp, .nilp => some true
  | .nilp, .ptr _ _ => some false
  | .ptr _ _, .nilp => some false
  | .nils, .nils => some true
  | .nils, .sl .. => some false
  | .sl .., .nils => some false
  | .nilm, .nilm => some true
  | .nilm, .map _ => some false
  | .map _, .nilm => some false
  | .nilf, .nilf => some true
  | .nilf, .fn .. => some false
  | .fn .., .nilf => some false
  | .nili, .iface .. => some false
  | .iface .., .nili => some false
  | _, _ => none
/-- Are values of a type the same? -/
def eqF (P : Program) (rec : TypeId → AV → AV → Option Bool) (a b : List AV) : List Field → Option Bool
  | [] => some true
  | f :: l => match f.name == "_" with
    | true => eqF P rec a b l
    | false => match part P f.type a f.offset, part P f.type b f.offset with
      | some x, some y => match rec f.type x y with
        | some true => eqF P rec a b l
        | r => r
      | _, _ => none
def eqA (P : Program) : Nat → TypeId → AV → AV → Option Bool
  | 0, _, _, _ => none
  | d + 1, t, x, y => match P.underlying t with
    | none => none
    | some u => match u, x, y with
      | .struct fs, .agg a, .agg b => cd (P.stoodInHeld t) none (eqF P (eqA P d) a b fs.toList)
      | .bool, .bool a, .bool b => some (a == b)
      | .int _, .int k a, .int k' b => cd (decide (k = k')) (some (a == b)) none
      | .string, .str a, .str b => some (eqL a b)
      | .pointer _, .nilp, .nilp => some true
      | .pointer _, .nilp, .ptr _ _ => some false
      | .pointer _, .ptr _ _, .nilp => some false
      | .slice _, .nils, .nils => some true
      | .slice _, .nils, .sl .. => some false
      | .slice _, .sl .., .nils => some false
      | .slice _, .nils, .emp .. => some false
      | .slice _, .emp .., .nils => some false
      | .map _ _, .nilm, .nilm => some true
      | .map _ _, .nilm, .map _ => some false
      | .map _ _, .map _, .nilm => some false
      | .func _ _ _, .nilf, .nilf => some true
      | .func _ _ _, .nilf, .fn .. => some false
      | .func _ _ _, .fn .., .nilf => some false
      | .interface _, .nili, .iface .. => some false
      | .interface _, .iface .., .nili => some false
      | _, _, _ => none
def isNilC : Operand → Bool
  | .const _ => true
  | _ => false
/-- '==' at values that are no numbers and no texts. -/
def eqlA (P : Program) (t : TypeId) (xo yo : Operand) (x y : AV) : Option Bool :=
  match x, y with
  | .nili, .nili => cd (isNilC xo || isNilC yo) (match P.underlying t with | some (.interface _) => some true | _ => none) none
  | .agg a, .agg b => cd (P.eqGuardType P.depth t) none (eqA P Op.maxDepth t (.agg a) (.agg b))
  | x, y => eqA P Op.maxDepth t x y
def intA (op : BinOp) (k : IntKind) (a b : Int) : Option AV :=
  match op with
  | .add => some (wrapA k (a + b))
  | .sub => some (wrapA k (a - b))
  | .mul => some (wrapA k (a * b))
  | .quo => cd (b == 0) none (some (wrapA k (a.tdiv b)))
  | .rem => cd (b == 0) none (some (.int k (a.tmod b)))
  | .and => some (wrapA k ((BitVec.ofInt k.bits a &&& BitVec.ofInt k.bits b).toNat))
  | .or => some (wrapA k ((BitVec.ofInt k.bits a ||| BitVec.ofInt k.bits b).toNat))
  | .xor => some (wrapA k ((BitVec.ofInt k.bits a ^^^ BitVec.ofInt k.bits b).toNat))
  | .andNot => some (wrapA k ((BitVec.ofInt k.bits a &&& ~~~BitVec.ofInt k.bits b).toNat))
  | .eql => some (.bool (a == b))
  | .neq => some (.bool (a != b))
  | .lss => some (.bool (decide (a < b)))
  | .leq => some (.bool (decide (a ≤ b)))
  | .gtr => some (.bool (decide (a > b)))
  | .geq => some (.bool (decide (a ≥ b)))
  | _ => none
def strA (op : BinOp) (a b : List Nat) : Option AV :=
  match op with
  | .add => cd (Nat.ble (a.length + b.length) 1000000000) (seqS (a ++ b) fun l => some (.str l)) none
  | .eql => some (.bool (eqL a b))
  | .neq => some (.bool (!eqL a b))
  | .lss => some (.bool (bytesLt a b))
  | .leq => some (.bool (bytesLt a b || eqL a b))
  | .gtr => some (.bool (!(bytesLt a b || eqL a b)))
  | .geq => some (.bool (!bytesLt a b))
  | _ => none
def shiftA (op : BinOp) (k : IntKind) (a b : Int) : Option AV :=
  cd (decide (b < 0)) none (match op with
    | .shl => some (wrapA k (a * 2 ^ (min b.toNat k.bits)))
    | .shr => some (.int k (a.fdiv (2 ^ (min b.toNat k.bits))))
    | _ => none)
def isShift : BinOp → Bool
  | .shl | .shr => true
  | _ => false
def binA (P : Program) (op : BinOp) (t : TypeId) (xo yo : Operand) (x y : AV) : Option AV :=
  match x, y with
  | .int k a, .int k' b => match isShift op with
    | true => shiftA op k a b
    | false => cd (decide (k = k')) (intA op k a b) none
  | .str a, .str b => strA op a b
  | x, y => match op with
    | .eql => (eqlA P t xo yo x y).map .bool
    | .neq => (eqlA P t xo yo x y).map fun b => .bool (!b)
    | _ => none
def unA (op : UnOp) (x : AV) : Option AV :=
  match op, x with
  | .not, .bool b => some (.bool (!b))
  | .neg, .int k n => some (wrapA k (0 - n))
  | _, _ => none
/-- A bound of a slice. -/
def boundA (hi : Nat) : AV → Option Nat
  | .int _ n => cd (decide (0 ≤ n) && decide (n ≤ (hi : Int))) (some n.toNat) none
  | _ => none
def boundO (T : Temps) (d hi : Nat) : Option Operand → Option Nat
  | none => some d
  | some x => match evO T x with
    | none => none
    | some v => boundA hi v
def sliceA (P : Program) (T : Temps) (t : TypeId) (x : AV) (lo hi mx : Option Operand) : Option AV :=
  match P.underlying t, x with
  | some .string, .str s => match mx with
    | some _ => none
    | none => match boundO T s.length s.length hi with
      | none => none
      | some h => match boundO T 0 h lo with
        | none => none
        | some l => seqS ((s.take h).drop l) fun l => some (.str l)
  | some (.slice e), .nils => match sz P e with
    | none => none
    | some n => match boundO T 0 0 mx with
      | none => none
      | some _ => match boundO T 0 0 hi with
        | none => none
        | some _ => match boundO T 0 0 lo with
          | none => none
          | some _ => some .nils
  | some (.slice e), .sl b off len es cap => match sz P e with
    | none => none
    | some n => cd (Nat.beq n es) (match boundO T (cap.getD len) (cap.getD len) mx with
      | none => none
      | some m => match boundO T len m hi with
        | none => none
        | some h => match boundO T 0 h lo with
          | none => none
          | some l => match cap, mx with
            | none, none => cd (Nat.blt l h || Nat.beq l 0) (some (.sl b (off + l * es) (h - l) es none)) (some (.emp b es))
            | _, _ => some (.sl b (cd (Nat.beq m l) off (off + l * es)) (h - l) es (some (m - l)))) none
  | some (.slice e), .emp b es => match sz P e with
    | none => none
    | some n => match mx with
      | some _ => none
      | none => match boundO T 0 0 hi with
        | none => none
        | some _ => match boundO T 0 0 lo with
          | none => none
          | some _ => some (.emp b es)
  | _, _ => none
def sliceArr (P : Program) (T : Temps) (k : Nat) (e : TypeId) (b off : Nat) (lo hi mx : Option Operand) : Fr AV :=
  match sz P e with
  | none => .fail
  | some n => (cellsOf b).bind fun cs => cd (Nat.ble (off + k * n) cs.length) (match boundO T k k mx with
    | none => .fail
    | some m => match boundO T k m hi with
      | none => .fail
      | some h => match boundO T 0 h lo with
        | none => .fail
        | some l => .ret (.sl b (cd (Nat.beq m l) off (off + l * n)) (h - l) n (some (m - l)))) .fail
/-- A slice beyond its length, as far as its cells are known. -/
def sliceU (P : Program) (T : Temps) (t : TypeId) (x : AV) (lo hi mx : Option Operand) : Fr AV :=
  match P.underlying t, x, mx with
  | some (.slice e), .sl b off len es none, none => match sz P e with
    | none => .fail
    | some n => cd (Nat.beq n es && Nat.blt 0 es) ((cellsOf b).bind fun cs => cd (Nat.ble (off + len * es) cs.length) (match boundO T len ((cs.length - off) / es) hi with
      | none => .fail
      | some h => match boundO T 0 h lo with
        | none => .fail
        | some l => cd (Nat.blt l h) (.ret (.sl b (off + l * es) (h - l) es none)) .fail) .fail) .fail
  | _, _, _ => .fail
def maxed (hi mx : Option Operand) : Bool := match mx, hi with
  | some _, none => false
  | _, _ => true
def lenA : AV → Option Nat
  | .nils => some 0
  | .emp _ _ => some 0
  | .sl _ _ n _ _ => some n
  | .str s => some s.length
  | .nilm => some 0
  | _ => none
/-- The first cells that a slice or a text holds. -/
def readA (es m : Nat) : AV → Fr (List AV)
  | .nils => .ret []
  | .emp _ _ => .ret []
  | .sl h off _ es' _ => cd (Nat.beq es es') ((cellsOf h).bind fun cs => .ret ((cs.drop off).take (m * es))) .fail
  | .str s => cd (Nat.beq es 1) (.ret ((s.take m).map fun b => .int .u8 (Int.ofNat b))) .fail
  | _ => .fail
def rep (l : List AV) : Nat → List AV
  | 0 => []
  | n + 1 => l ++ rep l n
def few (n : Nat) : Bool := Nat.ble n 1000000
/-- append: where it is not known whether there is room, the old name is given up. -/
def growA (h : Nat) (cs : List AV) (n es : Nat) (new : List AV) : Fr AV :=
  (Fr.set h .dead).bind fun _ => (Fr.new (.cells (cs ++ new))).bind fun g => .ret (.sl g 0 n es none)
def isSl : AV → Bool
  | .nils | .emp _ _ | .sl .. => true
  | _ => false
def appendA (es bytes : Nat) (s : AV) (n : Nat) (new : List AV) : Fr AV :=
  match n with
  | 0 => cd (isSl s) (.ret s) .fail
  | n + 1 => cd (ones new && few bytes && few (n + 1)) (match s with
    | .nils => (Fr.new (.cells new)).bind fun g => .ret (.sl g 0 (n + 1) es none)
    | .emp h es' => cd (Nat.beq es es') ((ownCells h).bind fun _ => growA h [] (n + 1) es new) .fail
    | .sl h off len es' cap => cd (Nat.beq es es' && few len) (match cap with
      | none => (ownCells h).bind fun cs => match Nat.blt 0 es && Nat.ble (off + (len + (n + 1)) * es) cs.length with
        | true => match splice cs (off + len * es) new with
          | none => .fail
          | some cs' => (Fr.set h (.cells cs')).bind fun _ => .ret (.sl h off (len + (n + 1)) es none)
        | false => cd (Nat.ble (off + len * es) cs.length) (growA h ((cs.drop off).take (len * es)) (len + (n + 1)) es new) .fail
      | some c => match Nat.ble (len + (n + 1)) c with
        | true => (ownCells h).bind fun cs => match splice cs (off + len * es) new with
          | none => .fail
          | some cs' => (Fr.set h (.cells cs')).bind fun _ => .ret (.sl h off (len + (n + 1)) es (some c))
        | false => (cellsOf h).bind fun cs => cd (Nat.ble (off + len * es) cs.length) ((Fr.new (.cells ((cs.drop off).take (len * es) ++ new))).bind fun g => .ret (.sl g 0 (len + (n + 1)) es none)) .fail) .fail
    | _ => .fail) .fail
/-- Is a type one of numbers, truths, texts? -/
def plainT (P : Program) (t : TypeId) : Bool := match P.underlying t with
  | some .bool | some (.int _) | some .string => true
  | _ => false
def partsOk (P : Program) (cs : List AV) : List Field → Bool
  | [] => true
  | f :: l => !(f.name == "_") && plainT P f.type && (part P f.type cs f.offset).isSome && partsOk P cs l
/-- May a value be a key here? -/
def keyV (P : Program) (t : TypeId) (k : AV) : Bool := match P.underlying t, k with
  | some .bool, _ | some (.int _), _ | some .string, _ => true
  | some (.struct fs), .agg cs => partsOk P cs fs.toList
  | _, _ => false
abbrev Ents := List (AV × AV × Nat)
def findA (P : Program) (t : TypeId) (k : AV) : Ents → Nat → Option (Option (Nat × AV × Nat))
  | [], _ => some none
  | (a, v, b) :: l, i => match eqA P Op.maxDepth t k a with
    | none => none
    | some true => some (some (i, v, b))
    | some false => findA P t k l (i + 1)
def mapOf (h : Nat) : Fr (Ents × Nat) := (Fr.get h).bind fun o => match o with
  | .map es c => .ret (es, c)
  | _ => .fail
def lookA (P : Program) (t : TypeId) (x k : AV) (ok : Bool) : Fr AV :=
  match P.underlying t with
  | some (.map kt e) => match keyV P kt k, zero P e with
    | true, some z => (match x with
      | .nilm => Fr.ret ([], 0)
      | .map h => mapOf h
      | _ => .fail).bind fun (es, _) => match findA P kt k es 0 with
        | none => .fail
        | some r => .ret (match ok, r with
          | true, some (_, v, _) => .tup [v, .bool true]
          | true, none => .tup [z, .bool false]
          | false, some (_, v, _) => v
          | false, none => z)
    | _, _ => .fail
  | _ => .fail
def setNth (l : Ents) (i : Nat) (k v : AV) (b : Nat) : Ents := match l, i with
  | [], _ => []
  | _ :: r, 0 => (k, v, b) :: r
  | x :: r, i + 1 => x :: setNth r i k v b
def sameS : AV → AV → Bool
  | .int k a, .int j b => decide (k = j) && decide (a = b)
  | .bool a, .bool b => decide (a = b)
  | .str a, .str b => eqL a b
  | _, _ => false
def sameL : List AV → List AV → Bool
  | [], [] => true
  | a :: l, b :: m => sameS a b && sameL l m
  | _, _ => false
/-- Is a key the one that stands? -/
def sameAV : AV → AV → Bool
  | .agg a, .agg b => sameL a b
  | a, b => sameS a b
def updA (P : Program) (t : TypeId) (m k v : AV) : Fr AV :=
  match P.underlying t, m with
  | some (.map kt _), .map h => cd (keyV P kt k) ((mapOf h).bind fun (es, c) => match findA P kt k es 0 with
      | none => .fail
      | some (some (i, _, _)) => match es[i]? with
        | some (a, _, b) => cd (sameAV k a) ((Fr.set h (.map (setNth es i k v b) c)).bind fun _ => .ret .undef) .fail
        | none => .fail
      | some none => (Fr.set h (.map (es ++ [(k, v, c)]) (c + 1))).bind fun _ => .ret .undef) .fail
  | _, _ => .fail
def entA (P : Program) (t : TypeId) (m k : AV) : Fr AV :=
  match P.underlying t, m with
  | some (.map kt e), .map h => match keyV P kt k, zero P e with
    | true, some z => (mapOf h).bind fun (es, c) => match findA P kt k es 0 with
      | none => .fail
      | some (some (i, _, _)) => match es[i]? with
        | some (a, v, b) => cd (sameAV k a) ((Fr.set h (.map (setNth es i k v b) c)).bind fun _ => .ret (.tup [v, .int .i64 b])) .fail
        | none => .fail
      | some none => (Fr.set h (.map (es ++ [(k, z, c)]) (c + 1))).bind fun _ => .ret (.tup [z, .int .i64 c])
    | _, _ => .fail
  | _, _ => .fail
def putBorn (n : Nat) (v : AV) : Ents → Option Ents
  | [] => none
  | (k, u, b) :: l => match Nat.beq b n with
    | true => some ((k, v, b) :: l)
    | false => match putBorn n v l with
      | none => none
      | some l' => some ((k, u, b) :: l')
def entSetA (m s v : AV) : Fr AV :=
  match m, s with
  | .map h, .int _ n => cd (decide (0 ≤ n)) ((mapOf h).bind fun (es, c) => match putBorn n.toNat v es with
      | none => .fail
      | some es' => (Fr.set h (.map es' c)).bind fun _ => .ret .undef) .fail
  | _, _ => .fail
def delNth (l : Ents) (i : Nat) : Ents := match l, i with
  | [], _ => []
  | _ :: r, 0 => r
  | x :: r, i + 1 => x :: delNth r i
def delA (P : Program) (t : TypeId) (m k : AV) : Fr AV :=
  match P.underlying t, m with
  | some (.map kt _), .map h => cd (keyV P kt k) ((mapOf h).bind fun (es, c) => match findA P kt k es 0 with
      | none => .fail
      | some (some (i, _, _)) => (Fr.set h (.map (delNth es i) c)).bind fun _ => .ret .undef
      | some none => .ret .undef) .fail
  | _, _ => .fail
def bytesOf (s : List Nat) : ByteArray := ⟨(s.map UInt8.ofNat).toArray⟩
def rangeA (P : Program) (t : TypeId) (x : AV) : Fr AV :=
  match P.underlying t, x with
  | some .string, .str s => (Fr.new (.sit s 0)).bind fun h => .ret (.ptr h 0)
  | some (.map _ _), .nilm => (Fr.new (.mit none 0 [] 0)).bind fun h => .ret (.ptr h 0)
  | some (.map _ _), .map m => (mapOf m).bind fun (_, c) => (Fr.new (.mit (some m) c [] c)).bind fun h => .ret (.ptr h 0)
  | _, _ => .fail
/-- The next step of a walk: along a map where there is no choice. -/
def nextA (x : AV) (str : Bool) : Fr AV :=
  match x, str with
  | .ptr h 0, true => (Fr.get h).bind fun o => match o with
    | .sit s pos => match Nat.blt pos s.length with
      | true => match Utf8.decode (bytesOf s) pos with
        | (c, wd) => (Fr.set h (.sit s (pos + wd))).bind fun _ => .ret (.tup [.bool true, .int .i64 pos, .int .i32 c])
      | false => .ret (.tup [.bool false])
    | _ => .fail
  | .ptr h 0, false => (Fr.get h).bind fun o => match o with
    | .mit none _ _ _ => .ret (.tup [.bool false])
    | .mit (some m) since seen last => (mapOf m).bind fun (es, c) => cd (!seen.isEmpty && !es.isEmpty && es.all fun e => Nat.ble last e.2.2) .fail <| match es.filter fun e => !seen.contains e.2.2 with
      | [] => .ret (.tup [.bool false])
      | [(k, v, b)] => cd (Nat.blt b since) ((Fr.set h (.mit (some m) since (seen ++ [b]) c)).bind fun _ => .ret (.tup [.bool true, k, v])) .fail
      | _ => .fail
    | _ => .fail
  | _, _ => .fail
def maxG (mx : Bool) (k : IntKind) : Int → List AV → Option AV
  | a, [] => some (.int k a)
  | a, .int k' b :: l => maxG mx k (if (if mx then b > a else b < a) then b else a) l
  | _, _ => none
def maxA (mx : Bool) : List AV → Option AV
  | .int k a :: l => maxG mx k a l
  | _ => none
def bytesA : List AV → Option (List Nat)
  | [] => some []
  | .int .u8 n :: l => cd (decide (0 ≤ n) && decide (n < 256)) (match bytesA l with
    | none => none
    | some r => some (n.toNat :: r)) none
  | _ => none
/-- What stands beside the code: of functions without a body, what they answer; of some others, what is known of them. -/
structure Ctx where
  P : Program
  ext : FuncId → Option (List AV → Fr AV)
  sum : FuncId → Option (List AV → Fr AV)
def srcT : TypeDesc → Bool
  | .slice _ | .string => true
  | _ => false
def ofN : Option Nat → Fr AV
  | none => .fail
  | some n => .ret (.int .i64 n)
def lenB (P : Program) (t : TypeId) (x : AV) : Fr AV :=
  match P.underlying t, x with
  | some .string, .str s => .ret (.int .i64 s.length)
  | some (.array n _), _ => .ret (.int .i64 n)
  | some (.slice _), .nils => .ret (.int .i64 0)
  | some (.slice _), .emp _ _ => .ret (.int .i64 0)
  | some (.slice _), .sl _ _ n _ _ => .ret (.int .i64 n)
  | some (.map _ _), .nilm => .ret (.int .i64 0)
  | some (.map _ _), .map h => (Fr.get h).bind fun o => match o with
    | .map es _ => .ret (.int .i64 es.length)
    | _ => .fail
  | _, _ => .fail
def capB (P : Program) (t : TypeId) (x : AV) : Fr AV :=
  match P.underlying t, x with
  | some (.slice _), .nils => .ret (.int .i64 0)
  | some (.slice _), .sl _ _ _ _ (some c) => .ret (.int .i64 c)
  | _, _ => .fail
/-- append(nil, make([]T, m)...): the number stands in the second place. -/
def appendZ (P : Program) (e : TypeId) (u : TypeDesc) (s x : AV) : Fr AV :=
  match u, s, x with
  | .int _, .nils, .int _ m => match P.info? e, zero P e with
    | some i, some z => cd (decide (0 < m) && few m.toNat && few i.bytes && Nat.beq (cellsA z).length i.size && Nat.blt 0 i.size && ones (cellsA z)) ((Fr.new (.cells (rep (cellsA z) m.toNat))).bind fun g => .ret (.sl g 0 m.toNat i.size none)) .fail
    | _, _ => .fail
  | _, _, _ => .fail
def appendB (P : Program) (t tx : TypeId) (s x : AV) : Fr AV :=
  match P.underlying t, P.underlying tx with
  | some (.slice e), some u => match srcT u with
    | false => appendZ P e u s x
    | true => match P.info? e, zero P e, lenA x with
      | some i, some z, some n => (readA i.size n x).bind fun new => cd (Nat.beq new.length (n * i.size) && Nat.beq (cellsA z).length i.size && ones (cellsA z)) (appendA i.size i.bytes s n new) .fail
      | _, _, _ => .fail
  | _, _ => .fail
def notNilm : AV → Bool
  | .nilm => false
  | _ => true
def copyB (P : Program) (t : TypeId) (d s : AV) : Fr AV :=
  match P.underlying t with
  | some (.slice e) => match sz P e, lenA s with
    | some es, some n => cd (notNilm s) (match d with
      | .sl h off len es' _ => (readA es (min n len) s).bind fun src => cd (Nat.beq es es' && Nat.beq src.length (min n len * es) && ones src) ((ownCells h).bind fun cs => match splice cs off src with
        | none => .fail
        | some cs' => (Fr.set h (.cells cs')).bind fun _ => .ret (.int .i64 (min n len : Nat))) .fail
      | _ => .fail) .fail
    | _, _ => .fail
  | _ => .fail
def clearB (P : Program) (t : TypeId) (d : AV) : Fr AV :=
  match P.underlying t, d with
  | some (.slice e), .sl h off (n + 1) es _ => match zero P e with
    | none => .fail
    | some z => cd (Nat.beq (cellsA z).length es && ones (cellsA z)) ((ownCells h).bind fun cs => match splice cs off (rep (cellsA z) (n + 1)) with
      | none => .fail
      | some cs' => (Fr.set h (.cells cs')).bind fun _ => .ret (.tup [])) .fail
  | some (.slice _), .sl _ _ 0 _ _ => .ret (.tup [])
  | some (.slice _), .nils => .ret (.tup [])
  | _, _ => .fail
def builtA (P : Program) (b : Builtin) (ts : Array TypeId) (args : List AV) : Fr AV :=
  match b, args with
  | .len, [x] => match ts[0]? with
    | none => .fail
    | some t => lenB P t x
  | .cap, [x] => match ts[0]? with
    | none => .fail
    | some t => capB P t x
  | .append, [s, x] => match ts.toList with
    | [t, tx] => cd (notNilm x) (appendB P t tx s x) .fail
    | _ => .fail
  | .copy, [d, s] => match ts[0]? with
    | none => .fail
    | some t => copyB P t d s
  | .clear, [d] => match ts[0]? with
    | none => .fail
    | some t => clearB P t d
  | .delete, [m, k] => match ts[0]? with
    | some t => (delA P t m k).bind fun _ => .ret (.tup [])
    | none => .fail
  | .max, l => .of (maxA true l)
  | .min, l => .of (maxA false l)
  | _, _ => .fail
def bytesStr (x : AV) (n : Nat) : Fr AV := (readA 1 n x).bind fun l => cd (Nat.beq l.length n) (match bytesA l with
  | none => .fail
  | some b => seqS b fun b => .ret (.str b)) .fail
def isU8 (P : Program) (e : TypeId) : Bool := match P.underlying e with
  | some (.int .u8) => true
  | _ => false
def convA (P : Program) (src dst : TypeId) (x : AV) : Fr AV :=
  match P.underlying src, P.underlying dst, x with
  | some _, some (.int k), .int _ n => .ret (wrapA k n)
  | some (.slice e), some .string, .nils => cd (isU8 P e) (.ret (.str [])) .fail
  | some (.slice e), some .string, .sl h off len es cap => cd (isU8 P e) (bytesStr (.sl h off len es cap) len) .fail
  | some _, some .string, .str s => .ret (.str s)
  | _, _, _ => .fail
def placesA (P : Program) : List Field → Option (List (Nat × Nat))
  | [] => some []
  | f :: l => match sz P f.type, placesA P l with
    | some n, some r => some ((f.offset, n) :: r)
    | _, _ => none
def buildA (P : Program) (t : TypeId) (z : List AV) (ps : List (Nat × AV)) : Option AV :=
  match P.underlying t with
  | some (.struct fs) => match placesA P fs.toList with
    | none => none
    | some pl => (fillA (fun i => pl[i]?) z ps).map .agg
  | some (.array _ e) => match sz P e with
    | none => none
    | some n => (fillA (fun i => some (i * n, n)) z ps).map .agg
  | _ => none
def newSl (l : List AV) (len es c : Nat) : Fr AV := (Fr.new (.cells l)).bind fun g => .ret (.sl g 0 len es (some c))
def buildSl (P : Program) (t : TypeId) (n : Nat) (ps : List (Nat × AV)) : Fr AV :=
  match P.underlying t with
  | some (.slice e) => match sz P e, zero P e with
    | some s, some z => match Nat.beq (n * s) 0 with
      | true => match ps with
        | [] => newSl [] n s n
        | _ => .fail
      | false => cd (Nat.beq (cellsA z).length s && few (n * s) && ones (cellsA z)) (match fillA (fun i => some (i * s, s)) (rep (cellsA z) n) ps with
        | none => .fail
        | some cs => cd (ones cs) (newSl cs n s n) .fail) .fail
    | _, _ => .fail
  | _ => .fail
def makeSl (P : Program) (t : TypeId) (a b : AV) : Fr AV :=
  match P.underlying t, a, b with
  | some (.slice e), .int _ l, .int _ c => match P.info? e, zero P e with
    | some i, some z => cd (decide (0 ≤ l) && decide (l ≤ c) && few c.toNat && few i.bytes && few (c.toNat * i.size) && Nat.beq (cellsA z).length i.size && ones (cellsA z)) (newSl (rep (cellsA z) c.toNat) l.toNat i.size c.toNat) .fail
    | _, _ => .fail
  | _, _, _ => .fail
def evPs (T : Temps) : List (Nat × Operand) → Option (List (Nat × AV))
  | [] => some []
  | (i, x) :: l => match evO T x, evPs T l with
    | some a, some b => some ((i, a) :: b)
    | _, _ => none
def isIface : TypeDesc → Bool
  | .interface _ => true
  | _ => false
def assertB (P : Program) (asserted : TypeId) : AV → Bool → Option AV
  | .iface t v, true => match Nat.beq t asserted with
    | true => some (.tup [v, .bool true])
    | false => (zero P asserted).map fun z => .tup [z, .bool false]
  | .iface t v, false => cd (Nat.beq t asserted) (some v) none
  | .nili, true => (zero P asserted).map fun z => .tup [z, .bool false]
  | _, _ => none
def assertA (P : Program) (x : AV) (asserted : TypeId) (ok : Bool) : Option AV :=
  match P.underlying asserted with
  | none => none
  | some d => cd (isIface d) none (assertB P asserted x ok)
def callA (X : Ctx) (T : Temps) (c : Call) : Fr Re :=
  match evOs T c.args.toList with
  | none => .fail
  | some args => match c.callee with
    | .builtin .panic => match args with
      | [.iface t v] => .ret (.pan (.iface t v))
      | _ => .fail
    | .builtin b => (builtA X.P b c.argTypes args).bind fun v => .ret (.val v)
    | .value f => match evO T f with
      | some (.fn (.func g) first cap) => match X.P.funcs[g]? with
        | none => .fail
        | some fn => match fn.body with
          | some _ => .ret (.call g (first ++ args ++ cap))
          | none => match X.ext g with
            | none => .fail
            | some e => (e (first ++ args ++ cap)).bind fun v => .ret (.val v)
      | some (.yld h) => .ret (.yld h args)
      | _ => .fail
    | _ => .fail
def vO (o : Option AV) : Fr Re := match o with
  | none => .fail
  | some v => .ret (.val v)
def vF (m : Fr AV) : Fr Re := m.bind fun v => .ret (.val v)
def with1 (T : Temps) (x : Operand) (k : AV → Fr Re) : Fr Re := match evO T x with
  | none => .fail
  | some a => k a
def with2 (T : Temps) (x y : Operand) (k : AV → AV → Fr Re) : Fr Re := match evO T x, evO T y with
  | some a, some b => k a b
  | _, _ => .fail
def with3 (T : Temps) (x y z : Operand) (k : AV → AV → AV → Fr Re) : Fr Re := match evO T x, evO T y, evO T z with
  | some a, some b, some c => k a b c
  | _, _, _ => .fail
abbrev ev_pick (X : Ctx) (T : Temps) (c a b : Operand) : Fr Re := match evO T c with
  | some (.bool true) => vO (evO T a)
  | some (.bool false) => vO (evO T b)
  | _ => .fail
abbrev ev_alloc (X : Ctx) (T : Temps) (t : TypeId) : Fr Re := match zero X.P t with
  | none => .fail
  | some z => vF (allocA X.P z)
abbrev ev_box (X : Ctx) (T : Temps) (x : Operand) : Fr Re := with1 T x fun v => vF (allocA X.P v)
abbrev ev_build (X : Ctx) (T : Temps) (t : TypeId) (ps : Array (Nat × Operand)) : Fr Re := match zero X.P t, evPs T ps.toList with
  | some z, some l => cd (ones (cellsA z)) (vO (buildA X.P t (cellsA z) l)) .fail
  | _, _ => .fail
abbrev ev_buildSlice (X : Ctx) (T : Temps) (t : TypeId) (n : Nat) (ps : Array (Nat × Operand)) : Fr Re := match evPs T ps.toList with
  | some l => vF (buildSl X.P t n l)
  | _ => .fail
abbrev ev_load (X : Ctx) (T : Temps) (t : TypeId) (a : Operand) : Fr Re := with1 T a fun p => vF (loadA X.P t p)
abbrev ev_store (X : Ctx) (T : Temps) (t : TypeId) (a x : Operand) : Fr Re := with2 T a x fun p v => vF (storeA X.P t p v)
abbrev ev_nilCheck (X : Ctx) (T : Temps) (x : Operand) : Fr Re := with1 T x fun v => match v with
  | .ptr h o => .ret (.val (.ptr h o))
  | .fn (.func f) a b => .ret (.val (.fn (.func f) a b))
  | _ => .fail
abbrev ev_binOp (X : Ctx) (T : Temps) (op : BinOp) (t : TypeId) (x y : Operand) : Fr Re := with2 T x y fun a b => vO (binA X.P op t x y a b)
abbrev ev_unOp (X : Ctx) (T : Temps) (op : UnOp) (x : Operand) : Fr Re := with1 T x fun a => vO (unA op a)
abbrev ev_convert (X : Ctx) (T : Temps) (s d : TypeId) (x : Operand) : Fr Re := with1 T x fun a => vF (convA X.P s d a)
abbrev ev_makeInterface (X : Ctx) (T : Temps) (t : TypeId) (x : Operand) : Fr Re := with1 T x fun a => match X.P.underlying t with
  | none => .fail
  | some d => cd (isIface d) .fail (.ret (.val (.iface t a)))
abbrev ev_makeFunc (X : Ctx) (T : Temps) (f : Fn) (a b : Array Operand) : Fr Re := match evOs T a.toList, evOs T b.toList with
  | some l, some k => .ret (.val (.fn f l k))
  | _, _ => .fail
abbrev ev_makeMap (X : Ctx) (T : Temps) (r : Option Operand) : Fr Re := match r with
  | none => vF ((Fr.new (.map [] 0)).bind fun h => .ret (.map h))
  | some _ => .fail
abbrev ev_makeSlice (X : Ctx) (T : Temps) (t : TypeId) (l c : Operand) : Fr Re := with2 T l c fun a b => vF (makeSl X.P t a b)
abbrev ev_slice (X : Ctx) (T : Temps) (t : TypeId) (x : Operand) (lo hi mx : Option Operand) : Fr Re := cd (maxed hi mx) (with1 T x fun a => match X.P.underlying t, a with
  | some (.array k e), .ptr b off => vF (sliceArr X.P T k e b off lo hi mx)
  | _, _ => match sliceA X.P T t a lo hi mx with
    | some v => .ret (.val v)
    | none => vF (sliceU X.P T t a lo hi mx)) .fail
abbrev ev_fieldAddr (X : Ctx) (T : Temps) (s : TypeId) (x : Operand) (f : Nat) : Fr Re := with1 T x fun a => match X.P.underlying s, a with
  | some (.struct fs), .ptr h off => match fs[f]? with
    | none => .fail
    | some f => match sz X.P f.type with
      | some (n + 1) => .ret (.val (.ptr h (off + f.offset)))
      | _ => .fail
  | _, _ => .fail
abbrev ev_field (X : Ctx) (T : Temps) (s : TypeId) (x : Operand) (f : Nat) : Fr Re := with1 T x fun a => match X.P.underlying s, a with
  | some (.struct fs), .agg cs => match fs[f]? with
    | none => .fail
    | some f => vO (part X.P f.type cs f.offset)
  | _, _ => .fail
abbrev ev_indexAddr (X : Ctx) (T : Temps) (t : TypeId) (x i : Operand) : Fr Re := with2 T x i fun a b => match X.P.underlying t, a, b with
  | some (.slice e), .sl h off len es _, .int _ n => match sz X.P e with
    | none => .fail
    | some s => cd (decide (0 ≤ n) && decide (n < (len : Int)) && Nat.beq s es) (.ret (.val (.ptr h (off + n.toNat * es)))) .fail
  | some (.array len e), .ptr h off, .int _ n => match sz X.P e with
    | none => .fail
    | some s => cd (decide (0 ≤ n) && decide (n < (len : Int))) (.ret (.val (.ptr h (off + n.toNat * s)))) .fail
  | _, _, _ => .fail
abbrev ev_index (X : Ctx) (T : Temps) (t : TypeId) (x i : Operand) : Fr Re := with2 T x i fun a b => match X.P.underlying t, a, b with
  | some .string, .str s, .int _ n => cd (decide (0 ≤ n)) (match s[n.toNat]? with
    | none => .fail
    | some c => .ret (.val (.int .u8 (Int.ofNat c)))) .fail
  | some (.array len e), .agg cs, .int _ n => match sz X.P e with
    | none => .fail
    | some s => cd (decide (0 ≤ n) && decide (n < (len : Int))) (vO (part X.P e cs (n.toNat * s))) .fail
  | _, _, _ => .fail
abbrev ev_lookup (X : Ctx) (T : Temps) (t : TypeId) (x k : Operand) (ok : Bool) : Fr Re := with2 T x k fun a b => vF (lookA X.P t a b ok)
abbrev ev_mapUpdate (X : Ctx) (T : Temps) (t : TypeId) (m k x : Operand) : Fr Re := with3 T m k x fun a b c => vF (updA X.P t a b c)
abbrev ev_mapEntry (X : Ctx) (T : Temps) (t : TypeId) (m k : Operand) : Fr Re := with2 T m k fun a b => vF (entA X.P t a b)
abbrev ev_entryStore (X : Ctx) (T : Temps) (m s x : Operand) : Fr Re := with3 T m s x fun a b c => vF (entSetA a b c)
abbrev ev_range (X : Ctx) (T : Temps) (t : TypeId) (x : Operand) : Fr Re := with1 T x fun a => vF (rangeA X.P t a)
abbrev ev_next (X : Ctx) (T : Temps) (x : Operand) (str : Bool) : Fr Re := with1 T x fun a => vF (nextA a str)
abbrev ev_typeAssert (X : Ctx) (T : Temps) (x : Operand) (asserted : TypeId) (ok : Bool) : Fr Re := with1 T x fun a => vO (assertA X.P a asserted ok)
abbrev ev_extract (X : Ctx) (T : Temps) (x : Operand) (i : Nat) : Fr Re := with1 T x fun a => match a with
  | .tup vs => vO vs[i]?
  | _ => .fail
abbrev ev_panic (X : Ctx) (T : Temps) (x : Operand) : Fr Re := with1 T x fun a => match a with
  | .iface t v => .ret (.pan (.iface t v))
  | _ => .fail
def evOp (X : Ctx) (T : Temps) (o : Op) : Fr Re :=
  match o with
  | .move x | .assign x => vO (evO T x)
  | .pick c a b => ev_pick X T c a b
  | .alloc t => ev_alloc X T t
  | .box t x => ev_box X T x
  | .build t ps => ev_build X T t ps
  | .buildSlice t n ps => ev_buildSlice X T t n ps
  | .load t a => ev_load X T t a
  | .store t a x => ev_store X T t a x
  | .nilCheck x => ev_nilCheck X T x
  | .binOp op t x y _ => ev_binOp X T op t x y
  | .unOp op _ x => ev_unOp X T op x
  | .convert s d x => ev_convert X T s d x
  | .makeInterface t x => ev_makeInterface X T t x
  | .makeFunc f a b => ev_makeFunc X T f a b
  | .makeMap t r => ev_makeMap X T r
  | .makeSlice t l c => ev_makeSlice X T t l c
  | .slice t x lo hi mx => ev_slice X T t x lo hi mx
  | .fieldAddr s x f => ev_fieldAddr X T s x f
  | .field s x f => ev_field X T s x f
  | .indexAddr t x i => ev_indexAddr X T t x i
  | .index t x i => ev_index X T t x i
  | .lookup t x k ok => ev_lookup X T t x k ok
  | .mapUpdate t m k x => ev_mapUpdate X T t m k x
  | .insert t m k x => ev_mapUpdate X T t m k x
  | .mapEntry t m k => ev_mapEntry X T t m k
  | .entryStore _ m s x => ev_entryStore X T m s x
  | .range t x => ev_range X T t x
  | .next x str => ev_next X T x str
  | .typeAssert x _ asserted ok => ev_typeAssert X T x asserted ok
  | .extract x i => ev_extract X T x i
  | .call c => callA X T c
  | .panic x => ev_panic X T x
  | _ => .fail
end
end Go.Proofs.YtifcganfcjildaaGreatDoor.E
