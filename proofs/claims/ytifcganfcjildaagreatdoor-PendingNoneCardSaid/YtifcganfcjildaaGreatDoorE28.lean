/- The machine over names: frames, steps, runs. -/
import Derived.Test.YtifcganfcjildaaGreatDoorJ12
namespace Go.Proofs.YtifcganfcjildaaGreatDoor.E
open Go Go.RowKit
set_option linter.unusedVariables false
set_option linter.unusedSimpArgs false
set_option linter.unnecessarySimpa false
noncomputable section

/-- What is still to be done in a frame. -/
inductive AI where
  | code (c : Code) | blk (id : Nat) | lp (body : Code) | sc (body : Code) | reg (ops : Array Oper) (l : List Nat) | inRF (h : Nat) | endRF (h : Nat) | begR
/-- A deferred call: of a function, with all it is handed; a loop's block of them. -/
inductive AD where
  | call (f : FuncId) (args : List AV) | coll (h : Nat)
abbrev Chain := List (AV × Bool)
inductive AMd where
  | run | ret | pan (c : Chain)
structure AF where
  fn : FuncId
  N : Nat
  T : Temps
  todo : List AI
  defers : List AD
  mode : AMd
  dfd : Bool
  up : AMd
  round : Option Nat
/-- How a frame is left. -/
inductive Fin where
  | ret (v : AV) (up : AMd) | pan (c : Chain) (up : AMd)
inductive St where
  | go (A : AF) | fin (r : Fin)
def exitA (id : Nat) : List AI → Option (List AI)
  | [] => none
  | x :: k => match x with
    | .blk i => cd (Nat.beq i id) (some k) (exitA id k)
    | _ => exitA id k
def gotoA (l : Nat) : List AI → Option (List AI)
  | [] => none
  | x :: k => match x with
    | .sc body => match findLabel body l with
      | some rest => some (.code rest :: .sc body :: k)
      | none => gotoA l k
    | _ => gotoA l k
def putT (N : Nat) (T : Temps) (dst : Option Tmp) (v : AV) : Option Temps := match dst with
  | none => some T
  | some d => cd (Nat.blt d N) (v.seq fun v => T.put d (some v)) none
def fillT (N : Nat) : Temps → Nat → List AV → Option Temps
  | T, _, [] => some T
  | T, i, v :: l => match putT N T (some i) v with
    | none => none
    | some T' => fillT N T' (i + 1) l
def parT (N : Nat) : Temps → List Tmp → List AV → Option Temps
  | T, [], [] => some T
  | T, i :: r, v :: l => match putT N T (some i) v with
    | none => none
    | some T' => parT N T' r l
  | _, _, _ => none
def AV.nop : AV := .tup []
def settleA : AMd → AMd
  | .pan ((_, true) :: _) => .ret
  | m => m
def raisedA (m : AMd) (c : Chain) : AMd := match m with
  | .pan d => .pan (c ++ d)
  | _ => .pan c
def enterA (P : Program) (f : FuncId) (args : List AV) (dfd : Bool) (up : AMd) : Option AF := match P.funcs[f]? with
  | none => none
  | some fn => match fn.body with
    | none => none
    | some c => cd (Nat.ble args.length fn.ntmps) (match fillT fn.ntmps .nil 0 args with
      | none => none
      | some T => some ⟨f, fn.ntmps, T, [.code c], [], .run, dfd, up, none⟩) none
/-- Is an operation to be done? -/
def yieldedA (ops : Array Oper) (T : Temps) (j : Nat) : Option (Option Bool) := match ops[j]? with
  | none => none
  | some o => match o.dst with
    | none => none
    | some d => match T.get d with
      | some (.bool b) => some (some b)
      | some (.tup []) => some none
      | _ => none
def wantedA (ops : Array Oper) (T : Temps) (o : Oper) : Option Bool := match o.guard with
  | none => some true
  | some (j, want) => match yieldedA ops T j with
    | none => none
    | some none => some false
    | some (some b) => some (b == want)
inductive Rs where
  | val (v : AV) | pan (c : Chain)
def finR : Fin → Rs
  | .ret v _ => .val v
  | .pan c _ => .pan c
def roundA (h : Nat) (args : List AV) : Fr AF := (Fr.get h).bind fun o => match o with
  | .loop _ _ fn N T ps assign body _ => match parT N T ps.toList args with
    | none => .fail
    | some T' => .ret ⟨fn, N, T', [.code assign, .begR, .code body], [], .run, false, .run, some h⟩
  | _ => .fail
def callN (X : Ctx) (rec : AF → Fr Fin) (g : FuncId) (args : List AV) : Fr Rs := match enterA X.P g args false .run with
  | none => .fail
  | some A => (rec A).bind fun r => .ret (finR r)
def callF (X : Ctx) (rec : AF → Fr Fin) (g : FuncId) (args : List AV) : Fr Rs := match X.sum g with
  | some e => (e args).bind fun v => .ret (.val v)
  | none => callN X rec g args
/-- An operation, calls and all. -/
def opA (X : Ctx) (rec : AF → Fr Fin) (T : Temps) (o : Oper) : Fr Rs := (evOp X T o.op).bind fun r => match r with
  | .val v => .ret (.val v)
  | .pan v => .ret (.pan [(v, false)])
  | .call g args => callF X rec g args
  | .yld h args => (roundA h args).bind fun A => (rec A).bind fun r => .ret (finR r)
/-- What was read and written, of a run. -/
def measR {α : Type} (m : Fr α) : M (α × Nat × Nat × Nat × Nat) := fun s => match m.run { s with rd := 0, wr := 0 } with
  | none => none
  | some (a, s1) => force s1.rd fun r => force s1.wr fun w => force (s.rd ||| r) fun r' => force (s.wr ||| w) fun w' => force s1.next fun n1 => some ((a, r, w, s.next, n1), { s1 with rd := r', wr := w' })
theorem framed_meas {α : Type} (m : Fr α) : Framed (measR m) := by
  intro s x s' h
  unfold measR at h
  cases e : m.run { s with rd := 0, wr := 0 } with
  | none => rw [e] at h; cases h
  | some p =>
    obtain ⟨a, s1⟩ := p
    rw [e] at h
    simp only [force_eq] at h
    obtain ⟨rfl, rfl⟩ := Prod.mk.inj (Option.some.inj h)
    obtain ⟨l1, r, w, p1, q1, f1, n1, t1⟩ := m.ok _ _ _ e
    have p1' : s1.rd = r := by rw [p1]; exact Nat.zero_or r
    have q1' : s1.wr = w := by rw [q1]; exact Nat.zero_or w
    refine ⟨l1, r, w, by simp [p1'], by simp [q1'], f1, n1, fun h0 t h1 h2 h3 => ?_⟩
    obtain ⟨t', k1, k2, k3, k4, k5⟩ := t1 h0 { t with rd := 0, wr := 0 } h1 h2 h3
    have k3' : t'.rd = r := by rw [k3]; exact Nat.zero_or r
    have k4' : t'.wr = w := by rw [k4]; exact Nat.zero_or w
    refine ⟨{ t' with rd := t.rd ||| r, wr := t.wr ||| w }, ?_, k2, rfl, rfl, k5⟩
    unfold measR
    rw [k1]
    simp only [force_eq, k3', k4', p1', q1', h1, k2]
def maskOf (o : Oper) : Option Tmp → Bool
  | none => false
  | some d => o.op.operands.toList.any fun x => match x with
    | .tmp t => Nat.beq t d
    | _ => false
def gdst (ops : Array Oper) (o : Oper) : Option Tmp := match o.guard with
  | none => none
  | some (j, _) => match ops[j]? with
    | none => none
    | some o => o.dst
def eqD : Option Tmp → Option Tmp → Bool
  | some a, some b => Nat.beq a b
  | _, _ => false
/-- Do two operations meet at a temporary? -/
def tmeet (ops : Array Oper) (x y : Oper) : Bool := eqD x.dst y.dst || maskOf y x.dst || maskOf x y.dst || eqD x.dst (gdst ops y) || eqD y.dst (gdst ops x)
/-- Which operations come ahead of which. -/
def edgesM (acc : List Nat) : List Edge → Nat
  | [] => 0
  | e :: r => (cd (Region.binds .any e) (2 ^ e.on ||| acc.getD e.on 0) 0) ||| edgesM acc r
def befs : List Oper → List Nat → List Nat
  | [], acc => acc
  | o :: l, acc => force (edgesM acc o.after.toList) fun m => befs l (acc ++ [m])
def beforeL (ops : Array Oper) : List Nat := befs ops.toList []
def forB (p : Nat → Bool) : Nat → Bool
  | 0 => true
  | n + 1 => cd (p n) (forB p n) false
/-- Operations that meet are in order; each one's reasons come ahead of it. -/
def orderly (ops : Array Oper) : Bool := match ops.toList, beforeL ops with
  | l, bs => Nat.beq l.length bs.length && forB (fun j => match l[j]?, bs[j]? with
    | some y, some b => (y.after.all fun e => !Region.binds .any e || Nat.blt e.on j) && forB (fun i => match l[i]? with
      | some x => b.testBit i || !tmeet ops x y
      | none => false) j
    | _, _ => false) l.length
def blockMask (a b : Nat) : Nat := (2 ^ (b - a) - 1) * 2 ^ a
/-- Ahead of which operations that one met is it not ordered? -/
def apartL (b r w : Nat) : List (Nat × Nat × Nat) → Bool
  | [] => true
  | (i, r', w') :: l => cd (b.testBit i || Nat.beq ((w' &&& (r ||| w)) ||| (r' &&& w)) 0) (apartL b r w l) false
inductive RR where
  | ok (T : Temps) | pan (T : Temps) (c : Chain)
/-- All others come ahead of this one, or behind it. -/
def lastOk (bs : List Nat) (n j : Nat) : Bool := match bs[j]? with
  | none => false
  | some b => forB (fun i => b.testBit i) j && forB (fun k => Nat.ble k j || match bs[k]? with
    | some b => b.testBit j
    | none => false) n
def regA (X : Ctx) (rec : AF → Fr Fin) (ops : Array Oper) (bs : List Nat) (n N : Nat) : List Oper → Nat → List (Nat × Nat × Nat) → Temps → Fr RR
  | [], _, _, T => .ret (.ok T)
  | o :: l, j, acc, T => match wantedA ops T o with
    | none => .fail
    | some false => match putT N T o.dst .nop with
      | none => .fail
      | some T' => regA X rec ops bs n N l (j + 1) acc T'
    | some true => (⟨measR (opA X rec T o), framed_meas _⟩ : Fr (Rs × Nat × Nat × Nat × Nat)).bind fun (res, r, w0, n0, n1) => match bs[j]? with
      | none => .fail
      | some b => force (w0 ||| blockMask n0 n1) fun w => cd (apartL b r w acc) (match res with
        | .val v => match putT N T o.dst v with
          | none => .fail
          | some T' => regA X rec ops bs n N l (j + 1) (cd (Nat.beq (r ||| w) 0) acc ((j, r, w) :: acc)) T'
        | .pan c => cd (lastOk bs n j) (.ret (.pan T c)) .fail) .fail
def resA (P : Program) (T : Temps) : List ResultVar → Fr (List AV)
  | [] => .ret []
  | x :: l => (match x with
    | .tmp t => Fr.of (T.get t)
    | .cell a t => match T.get a with
      | some p => loadA P t p
      | none => .fail).bind fun v => (resA P T l).bind fun r => .ret (v :: r)
def oneOf : List AV → AV
  | [v] => v
  | l => .tup l
/-- A frame that is being left. -/
def leaveA (X : Ctx) (rec : AF → Fr Fin) (A : AF) : Fr St := match A with
  | ⟨fn, N, T, todo, defers, mode, dfd, up, round⟩ => match defers with
    | .coll h :: ds => (Fr.get h).bind fun o => match o with
      | .dfr true => (Fr.set h (.dfr false)).bind fun _ => .ret (.go ⟨fn, N, T, todo, ds, mode, dfd, up, round⟩)
      | _ => .fail
    | .call g args :: ds => match enterA X.P g args true mode with
      | none => .fail
      | some B => (rec B).bind fun r => match r with
        | .ret _ u => match settleA u with
          | .run => .fail
          | m => .ret (.go ⟨fn, N, T, todo, ds, m, dfd, up, round⟩)
        | .pan c u => .ret (.go ⟨fn, N, T, todo, ds, raisedA u c, dfd, up, round⟩)
    | [] => match mode with
      | .run => .fail
      | .pan c => match X.P.funcs[fn]? with
        | none => .fail
        | some _ => .ret (.fin (.pan c up))
      | .ret => match round with
        | some _ => .fail
        | none => match X.P.funcs[fn]? with
          | none => .fail
          | some f => (resA X.P T f.results.toList).bind fun vs => .ret (.fin (.ret (oneOf vs) up))
def jumpA (A : AF) (jump : Option Code) : Fr St := match A with
  | ⟨fn, N, T, todo, defers, mode, dfd, up, round⟩ => match round with
    | none => match jump with
      | none | some .ret => .ret (.go ⟨fn, N, T, todo, defers, .ret, dfd, up, none⟩)
      | _ => .fail
    | some h => (Fr.get h).bind fun o => match o with
      | .loop _ _ fn' N' T' ps assign body dh => match jump with
        | none => (Fr.set h (.loop .ready none fn' N' T' ps assign body dh)).bind fun _ => .ret (.fin (.ret (.bool true) up))
        | some c => (Fr.set h (.loop .done (some c) fn' N' T' ps assign body dh)).bind fun _ => .ret (.fin (.ret (.bool false) up))
      | _ => .fail
def deferA (T : Temps) (c : Call) : Option AD := match c.callee with
  | .value f => match evO T f, evOs T c.args.toList with
    | some (.fn (.func g) first cap), some args => some (.call g (first ++ args ++ cap))
    | _, _ => none
  | _ => none
def recoverA (dfd : Bool) (up : AMd) : AV × AMd := match dfd, up with
  | true, .pan ((v, false) :: older) => (v, .pan ((v, true) :: older))
  | _, m => (.nili, m)
inductive Sp where
  | defer (c : Call) | recover | plain
def spOf (o : Op) : Sp := match o with
  | .defer c => .defer c
  | .call c => match c.callee with
    | .builtin b => match b with
      | .recover => .recover
      | _ => .plain
    | _ => .plain
  | _ => .plain
/-- One step of a frame that runs. -/
abbrev st_range (X : Ctx) (rec : AF → Fr Fin) (fn N : Nat) (T : Temps) (k : List AI) (defers : List AD) (dfd : Bool) (up : AMd) (round : Option Nat) (f : Operand) (ps : Array Tmp) (assign body : Code) : Fr St := match evO T f with
  | some (.fn (.func g) first cap) => (match round with
    | some h => (Fr.get h).bind fun o => match o with
      | .loop _ _ _ _ _ _ _ _ dh => .ret (dh, defers)
      | _ => .fail
    | none => (Fr.new (.dfr true)).bind fun d => .ret (d, .coll d :: defers)).bind fun (dh, defers) =>
      (Fr.new (.loop .ready none fn N T ps assign body dh)).bind fun h => (callN X rec g (first ++ [AV.yld h] ++ cap)).bind fun r => match r with
      | .val _ => .ret (.go ⟨fn, N, T, .endRF h :: k, defers, .run, dfd, up, round⟩)
      | .pan c => .ret (.go ⟨fn, N, T, .inRF h :: k, defers, .pan c, dfd, up, round⟩)
  | _ => .fail
abbrev st_region (X : Ctx) (rec : AF → Fr Fin) (fn N : Nat) (T : Temps) (todo k : List AI) (defers : List AD) (dfd : Bool) (up : AMd) (round : Option Nat) (ops : Array Oper) (draw : Bool) : Fr St := match draw with
  | false => .ret (.go ⟨fn, N, T, .reg ops (List.range ops.size) :: k, defers, .run, dfd, up, round⟩)
  | true => cd (orderly ops) ((regA X rec ops (beforeL ops) ops.size N ops.toList 0 [] T).bind fun r => match r with
    | .ok T' => .ret (.go ⟨fn, N, T', k, defers, .run, dfd, up, round⟩)
    | .pan T' c => .ret (.go ⟨fn, N, T', todo, defers, .pan c, dfd, up, round⟩)) .fail
abbrev st_begR (fn N : Nat) (T : Temps) (k : List AI) (defers : List AD) (dfd : Bool) (up : AMd) (round : Option Nat) : Fr St := match round with
  | none => .fail
  | some h => (Fr.get h).bind fun o => match o with
    | .loop .ready pend fn' N' T' ps assign body dh => (Fr.set h (.loop .busy pend fn' N' T' ps assign body dh)).bind fun _ => .ret (.go ⟨fn, N, T, k, defers, .run, dfd, up, round⟩)
    | _ => .fail
abbrev st_endRF (fn N : Nat) (T : Temps) (k : List AI) (defers : List AD) (dfd : Bool) (up : AMd) (round : Option Nat) (h : Nat) : Fr St := (Fr.get h).bind fun o => match o with
  | .loop .busy _ _ _ _ _ _ _ _ => .fail
  | .loop _ pend fn' N' T' ps assign body dh => (Fr.set h (.loop .exhausted pend fn' N' T' ps assign body dh)).bind fun _ => match pend with
    | none => .ret (.go ⟨fn, N, T, k, defers, .run, dfd, up, round⟩)
    | some c => .ret (.go ⟨fn, N, T, .code c :: k, defers, .run, dfd, up, round⟩)
  | _ => .fail
abbrev st_put (fn N : Nat) (T : Temps) (k : List AI) (defers : List AD) (dfd : Bool) (up : AMd) (round : Option Nat) (ops : Array Oper) (rest : List Nat) (dst : Option Tmp) (v : AV) : Fr St := match putT N T dst v with
  | none => .fail
  | some T' => .ret (.go ⟨fn, N, T', .reg ops rest :: k, defers, .run, dfd, up, round⟩)
abbrev st_defer (fn N : Nat) (T : Temps) (k : List AI) (defers : List AD) (dfd : Bool) (up : AMd) (round : Option Nat) (ops : Array Oper) (rest : List Nat) (dst : Option Tmp) (c : Call) : Fr St := match round, deferA T c, putT N T dst .nop with
  | none, some d, some T' => .ret (.go ⟨fn, N, T', .reg ops rest :: k, d :: defers, .run, dfd, up, round⟩)
  | _, _, _ => .fail
abbrev st_recover (fn N : Nat) (T : Temps) (k : List AI) (defers : List AD) (dfd : Bool) (up : AMd) (round : Option Nat) (ops : Array Oper) (rest : List Nat) (dst : Option Tmp) : Fr St := match round, recoverA dfd up with
  | none, (v, up') => match putT N T dst v with
    | none => .fail
    | some T' => .ret (.go ⟨fn, N, T', .reg ops rest :: k, defers, .run, dfd, up', round⟩)
  | _, _ => .fail
abbrev st_plain (X : Ctx) (rec : AF → Fr Fin) (fn N : Nat) (T : Temps) (todo k : List AI) (defers : List AD) (dfd : Bool) (up : AMd) (round : Option Nat) (ops : Array Oper) (rest : List Nat) (o : Oper) : Fr St := (opA X rec T o).bind fun r => match r with
  | .val v => match putT N T o.dst v with
    | none => .fail
    | some T' => .ret (.go ⟨fn, N, T', .reg ops rest :: k, defers, .run, dfd, up, round⟩)
  | .pan c => .ret (.go ⟨fn, N, T, todo, defers, .pan c, dfd, up, round⟩)
abbrev st_op (X : Ctx) (rec : AF → Fr Fin) (fn N : Nat) (T : Temps) (todo k : List AI) (defers : List AD) (dfd : Bool) (up : AMd) (round : Option Nat) (ops : Array Oper) (rest : List Nat) (o : Oper) : Fr St := match wantedA ops T o with
  | none => .fail
  | some false => match putT N T o.dst .nop with
    | none => .fail
    | some T' => .ret (.go ⟨fn, N, T', .reg ops rest :: k, defers, .run, dfd, up, round⟩)
  | some true => match spOf o.op with
    | .defer c => st_defer fn N T k defers dfd up round ops rest o.dst c
    | .recover => st_recover fn N T k defers dfd up round ops rest o.dst
    | .plain => st_plain X rec fn N T todo k defers dfd up round ops rest o
abbrev st_code (X : Ctx) (rec : AF → Fr Fin) (fn N : Nat) (T : Temps) (todo k : List AI) (defers : List AD) (dfd : Bool) (up : AMd) (round : Option Nat) (c : Code) : Fr St :=
  match c with
  | .ret => jumpA ⟨fn, N, T, todo, defers, .run, dfd, up, round⟩ (some .ret)
  | .skip => .ret (.go ⟨fn, N, T, k, defers, .run, dfd, up, round⟩)
  | .label _ => .ret (.go ⟨fn, N, T, k, defers, .run, dfd, up, round⟩)
  | .seq a b => .ret (.go ⟨fn, N, T, .code a :: .code b :: k, defers, .run, dfd, up, round⟩)
  | .cond c a b => match evO T c with
    | some (.bool true) => .ret (.go ⟨fn, N, T, .code a :: k, defers, .run, dfd, up, round⟩)
    | some (.bool false) => .ret (.go ⟨fn, N, T, .code b :: k, defers, .run, dfd, up, round⟩)
    | _ => .fail
  | .block id body => .ret (.go ⟨fn, N, T, .code body :: .blk id :: k, defers, .run, dfd, up, round⟩)
  | .loop body => .ret (.go ⟨fn, N, T, .code body :: .lp body :: k, defers, .run, dfd, up, round⟩)
  | .scope body => .ret (.go ⟨fn, N, T, .code body :: .sc body :: k, defers, .run, dfd, up, round⟩)
  | .exit id => match exitA id k with
    | some k' => .ret (.go ⟨fn, N, T, k', defers, .run, dfd, up, round⟩)
    | none => jumpA ⟨fn, N, T, todo, defers, .run, dfd, up, round⟩ (some (.exit id))
  | .goto l => match gotoA l k with
    | some k' => .ret (.go ⟨fn, N, T, k', defers, .run, dfd, up, round⟩)
    | none => jumpA ⟨fn, N, T, todo, defers, .run, dfd, up, round⟩ (some (.goto l))
  | .rangeFunc f ps assign body => st_range X rec fn N T k defers dfd up round f ps assign body
  | .refuse _ => .fail
  | .region _ ops draw => st_region X rec fn N T todo k defers dfd up round ops draw
abbrev st_item (X : Ctx) (rec : AF → Fr Fin) (fn N : Nat) (T : Temps) (todo k : List AI) (defers : List AD) (dfd : Bool) (up : AMd) (round : Option Nat) (x : AI) : Fr St := match x with
  | .code c => st_code X rec fn N T todo k defers dfd up round c
  | .blk _ => .ret (.go ⟨fn, N, T, k, defers, .run, dfd, up, round⟩)
  | .sc _ => .ret (.go ⟨fn, N, T, k, defers, .run, dfd, up, round⟩)
  | .lp body => .ret (.go ⟨fn, N, T, .code body :: .lp body :: k, defers, .run, dfd, up, round⟩)
  | .inRF _ => .fail
  | .begR => st_begR fn N T k defers dfd up round
  | .endRF h => st_endRF fn N T k defers dfd up round h
  | .reg ops l => match l with
    | [] => .ret (.go ⟨fn, N, T, k, defers, .run, dfd, up, round⟩)
    | i :: rest => match ops[i]? with
      | none => .fail
      | some o => st_op X rec fn N T todo k defers dfd up round ops rest o
def stepA (X : Ctx) (rec : AF → Fr Fin) (A : AF) : Fr St := match A with
  | ⟨fn, N, T, todo, defers, mode, dfd, up, round⟩ => match mode with
    | .ret => leaveA X rec ⟨fn, N, T, todo, defers, .ret, dfd, up, round⟩
    | .pan c => leaveA X rec ⟨fn, N, T, todo, defers, .pan c, dfd, up, round⟩
    | .run => match todo with
      | [] => jumpA ⟨fn, N, T, [], defers, .run, dfd, up, round⟩ none
      | x :: k => st_item X rec fn N T (x :: k) k defers dfd up round x
def runA (X : Ctx) (n : Nat) : AF → Fr Fin := Nat.rec (motive := fun _ => AF → Fr Fin) (fun _ => .fail) (fun _ ih A => (stepA X ih A).bind fun r => match r with
    | .go B => ih B
    | .fin r => .ret r) n
end
end Go.Proofs.YtifcganfcjildaaGreatDoor.E
