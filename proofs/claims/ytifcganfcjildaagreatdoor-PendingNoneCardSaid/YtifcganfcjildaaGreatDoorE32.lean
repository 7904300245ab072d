/- How a frame of the machine over names lies in the model's machine; steps of the model's machine. -/
import Derived.Defers
import Derived.Test.YtifcganfcjildaaGreatDoorE31
namespace Go.Proofs.YtifcganfcjildaaGreatDoor.E
open Go Go.RowKit
set_option linter.unusedVariables false
set_option linter.unusedSimpArgs false
set_option linter.unnecessarySimpa false
noncomputable section

inductive IR (φ : Map) : AI → Item → Prop
  | code (c : Code) : IR φ (.code c) (.code c)
  | blk (id : Nat) : IR φ (.blk id) (.inBlock id)
  | lp (b : Code) : IR φ (.lp b) (.inLoop b)
  | sc (b : Code) : IR φ (.sc b) (.inScope b)
  | reg (ops : Array Oper) (l : List Nat) : IR φ (.reg ops l) (.inRegion ops l)
  | inRF {h : Nat} {p : Pl} (hp : φ h = some p) : IR φ (.inRF h) (.inRangeFunc p.b)
  | endRF {h : Nat} {p : Pl} (hp : φ h = some p) : IR φ (.endRF h) (.endRangeFunc p.b)
  | begR : IR φ .begR .beginRound
inductive IRs (φ : Map) : List AI → List Item → Prop
  | nil : IRs φ [] []
  | cons {x : AI} {y : Item} {l : List AI} {k : List Item} (h : IR φ x y) (t : IRs φ l k) : IRs φ (x :: l) (y :: k)
theorem IR.mono {φ ψ : Map} (h : φ.le ψ) {x : AI} {y : Item} : IR φ x y → IR ψ x y
  | .code c => .code c
  | .blk i => .blk i
  | .lp b => .lp b
  | .sc b => .sc b
  | .reg o l => .reg o l
  | .inRF hp => .inRF (h _ _ hp)
  | .endRF hp => .endRF (h _ _ hp)
  | .begR => .begR
theorem IRs.mono {φ ψ : Map} (h : φ.le ψ) : ∀ {l : List AI} {k : List Item}, IRs φ l k → IRs ψ l k
  | _, _, .nil => .nil
  | _, _, .cons a t => .cons (a.mono h) (IRs.mono h t)
inductive DR (φ : Map) : AD → Deferred → Prop
  | call {g : FuncId} {args : List AV} {cap L : Array Value} (h : VRs φ args (L ++ cap).toList) : DR φ (.call g args) { target := .fn (.func g) cap, args := L }
  | coll {h : Nat} {p : Pl} (hp : φ h = some p) : DR φ (.coll h) { target := .collected p.b, args := #[] }
inductive DRs (φ : Map) : List AD → List Deferred → Prop
  | nil : DRs φ [] []
  | cons {x : AD} {y : Deferred} {l : List AD} {k : List Deferred} (h : DR φ x y) (t : DRs φ l k) : DRs φ (x :: l) (y :: k)
theorem DR.mono {φ ψ : Map} (h : φ.le ψ) {x : AD} {y : Deferred} : DR φ x y → DR ψ x y
  | .call e => .call (e.mono h)
  | .coll hp => .coll (h _ _ hp)
theorem DRs.mono {φ ψ : Map} (h : φ.le ψ) : ∀ {l : List AD} {k : List Deferred}, DRs φ l k → DRs ψ l k
  | _, _, .nil => .nil
  | _, _, .cons a t => .cons (a.mono h) (DRs.mono h t)
inductive CR (φ : Map) : Chain → List PanicEntry → Prop
  | nil : CR φ [] []
  | cons {v : AV} {V : Value} {r : Bool} {l : Chain} {k : List PanicEntry} (h : VR φ v V) (t : CR φ l k) : CR φ ((v, r) :: l) ({ v := V, recovered := r, goexit := false } :: k)
theorem CR.mono {φ ψ : Map} (h : φ.le ψ) : ∀ {l : Chain} {k : List PanicEntry}, CR φ l k → CR ψ l k
  | _, _, .nil => .nil
  | _, _, .cons a t => .cons (a.mono h) (CR.mono h t)
theorem CR.append {φ : Map} : ∀ {l : Chain} {k : List PanicEntry}, CR φ l k → ∀ {l' : Chain} {k' : List PanicEntry}, CR φ l' k' → CR φ (l ++ l') (k ++ k')
  | _, _, .nil, _, _, h => h
  | _, _, .cons a t, _, _, h => .cons a (CR.append t h)
theorem CR.quiet {φ : Map} : ∀ {l : Chain} {k : List PanicEntry}, CR φ l k → k.dropWhile (!·.goexit) = []
  | _, _, .nil => rfl
  | _, _, .cons a t => by simp [CR.quiet t]
inductive MR (φ : Map) : AMd → FrameMode → Prop
  | run : MR φ .run .run
  | ret : MR φ .ret .returning
  | pan {c : Chain} {k : List PanicEntry} (h : CR φ c k) : MR φ (.pan c) (.panicking k)
theorem MR.mono {φ ψ : Map} (h : φ.le ψ) {x : AMd} {y : FrameMode} : MR φ x y → MR ψ x y
  | .run => .run
  | .ret => .ret
  | .pan e => .pan (e.mono h)
theorem MR.raised {φ : Map} {m : AMd} {u : FrameMode} {c : Chain} {k : List PanicEntry} (h : MR φ m u) (hc : CR φ c k) : MR φ (raisedA m c) (Go.raised u k) := by
  cases h with
  | run => exact .pan hc
  | ret => exact .pan hc
  | pan e => exact .pan (hc.append e)
theorem MR.settle {φ : Map} {m : AMd} {u : FrameMode} (h : MR φ m u) : MR φ (settleA m) (Go.settle u) := by
  cases h with
  | run => exact .run
  | ret => exact .ret
  | pan e =>
    cases e with
    | nil => exact .pan .nil
    | @cons v V r l k hv t =>
      cases r with
      | true => simp only [settleA, Go.settle, t.quiet]; exact .ret
      | false => exact .pan (.cons hv t)
/-- A frame that bears what the machine's frame says. -/
structure FrR (φ : Map) (A : AF) (fr : Frame) : Prop where
  fn : fr.fn = A.fn
  tmps : FRel A.N φ A.T ⟨fr.tmps, []⟩
  todo : A.mode = .run → IRs φ A.todo fr.todo
  defers : DRs φ A.defers fr.defers
  mode : MR φ A.mode fr.mode
  kind : fr.kind = if A.dfd then .deferred else .normal
  round : (A.round = none ∧ fr.roundOf = none) ∨ ∃ h p, A.round = some h ∧ φ h = some p ∧ fr.roundOf = some p.b
theorem FRel.act {N : Nat} {φ : Map} {T : Temps} {a b : Act} (h : FRel N φ T a) (e : b.tmps = a.tmps) : FRel N φ T b := ⟨by rw [e]; exact h.size, by rw [e]; exact h.at_⟩
theorem FrR.mono {φ ψ : Map} {A : AF} {fr : Frame} (h : FrR φ A fr) (hle : φ.le ψ) : FrR ψ A fr :=
  ⟨h.fn, h.tmps.mono hle, fun e => (h.todo e).mono hle, h.defers.mono hle, h.mode.mono hle, h.kind, h.round.imp id fun ⟨h', p, a, b, c⟩ => ⟨h', p, a, hle _ _ b, c⟩⟩
def putV (tm : Array Value) (dst : Option Tmp) (V : Value) : Array Value := match dst with
  | some d => tm.setIfInBounds d V
  | none => tm
theorem FRel.put {N : Nat} {φ : Map} {T T' : Temps} {tm : Array Value} (h : FRel N φ T ⟨tm, []⟩) {dst : Option Tmp} {v : AV} {V : Value} (hv : VR φ v V) (hp : putT N T dst v = some T') :
    FRel N φ T' ⟨putV tm dst V, []⟩ := by
  cases dst with
  | none => obtain rfl := Option.some.inj hp; exact h
  | some d =>
    unfold putT at hp
    dsimp only at hp
    cases hb : Nat.blt d N with
    | false => rw [hb] at hp; cases hp
    | true =>
      rw [hb] at hp
      have hd : d < N := by rwa [Nat.blt_eq] at hb
      dsimp only [cd] at hp
      rw [AV.seq_eq] at hp
      refine ⟨by simpa [putV] using h.size, fun t u e => ?_⟩
      show t < N ∧ VR φ u ((tm.setIfInBounds d V).getD t undef)
      rw [Tr.get_put hp] at e
      have hs : tm.size = N := h.size
      by_cases c : t = d
      · subst c
        rw [if_pos rfl] at e
        obtain rfl := Option.some.inj e
        exact ⟨hd, by simpa [hs, hd] using hv⟩
      · rw [if_neg c] at e
        obtain ⟨q1, q2⟩ := h.at_ t u e
        refine ⟨q1, ?_⟩
        have : (tm.setIfInBounds d V)[t]? = tm[t]? := Array.getElem?_setIfInBounds_ne (fun e => c e.symm)
        simp only [Array.getD_eq_getD_getElem?] at q2 ⊢
        rw [this]; exact q2
section
variable {P : Program} {fr : Frame} {cs : List Frame} {w : World} {k : List Item}
theorem st_to {k' : List Item} (hm : fr.mode = .run) {x : Item} (ht : fr.todo = x :: k)
    (h : (∃ l, x = .code (.label l)) ∧ k' = k ∨ x = .code .skip ∧ k' = k ∨ (∃ i, x = .inBlock i) ∧ k' = k ∨ (∃ b, x = .inScope b) ∧ k' = k ∨ (∃ a b, x = .code (.seq a b) ∧ k' = .code a :: .code b :: k) ∨
      (∃ i b, x = .code (.block i b) ∧ k' = .code b :: .inBlock i :: k) ∨ (∃ b, (x = .code (.loop b) ∨ x = .inLoop b) ∧ k' = .code b :: .inLoop b :: k) ∨ (∃ b, x = .code (.scope b) ∧ k' = .code b :: .inScope b :: k) ∨
      (∃ id, x = .code (.exit id) ∧ exitTo id k = some k') ∨ (∃ l, x = .code (.goto l) ∧ gotoIn l k = some k') ∨ (∃ ops, x = .inRegion ops [] ∧ k' = k) ∨ (∃ id ops, x = .code (.region id ops false) ∧ k' = .inRegion ops (List.range ops.size) :: k)) :
    step P (lone fr cs w) = .next (lone { fr with todo := k' } cs w) := by
  refine step_lone_go ?_
  rcases h with ⟨⟨l, rfl⟩, rfl⟩ | ⟨rfl, rfl⟩ | ⟨⟨l, rfl⟩, rfl⟩ | ⟨⟨l, rfl⟩, rfl⟩ | ⟨a, b, rfl, rfl⟩ | ⟨i, b, rfl, rfl⟩ | ⟨b, rfl | rfl, rfl⟩ | ⟨b, rfl, rfl⟩ | ⟨id, rfl, he⟩ | ⟨l, rfl, he⟩ | ⟨ops, rfl, rfl⟩ | ⟨id, ops, rfl, rfl⟩ <;>
    simp_all [stepG, stepG.exec]
theorem st_cond (hm : fr.mode = .run) {c : Operand} {a b : Code} {t : Bool} (ht : fr.todo = .code (.cond c a b) :: k) (he : fr.eval c = .bool t) :
    step P (lone fr cs w) = .next (lone { fr with todo := .code (if t then a else b) :: k } cs w) := by
  refine step_lone_go ?_
  simp [stepG, hm, stepG.exec, ht, he]
/-- Out of the frame, where no round runs. -/
theorem st_leave (hm : fr.mode = .run) (hr : fr.roundOf = none) (h : fr.todo = [] ∨ fr.todo = .code .ret :: k) : step P (lone fr cs w) = .next (lone { fr with mode := .returning } cs w) := by
  refine step_lone_go ?_
  obtain ⟨fn, tm, td, df, md, kd, ro⟩ := fr
  dsimp only at hm hr h
  subst hm hr
  rcases h with rfl | rfl <;> rfl
theorem st_draw (hm : fr.mode = .run) {id : Nat} {ops : Array Oper} (ht : fr.todo = .code (.region id ops true) :: k) :
    step P (lone fr cs w) = .next (lone { fr with todo := .inRegion ops (Region.schedule (P.follows .mixedOrders) ops (w.tape w.drawn (.order fr.fn id))) :: k } cs w.drew) := by
  refine step_lone_go ?_
  obtain ⟨fn, tm, td, df, md, kd, ro⟩ := fr
  dsimp only at hm ht
  subst hm ht
  rfl
theorem st_skip (hm : fr.mode = .run) {ops : Array Oper} {i : Nat} {rest : List Nat} (ht : fr.todo = .inRegion ops (i :: rest) :: k) {o : Oper} (ho : ops[i]? = some o) (hw : Region.wanted o (yielded ops fr.tmps) = false) :
    step P (lone fr cs w) = .next (lone (fr.finish undef) cs w) := by
  refine step_lone_go ?_
  simp [stepG, hm, stepG.exec, ht, ho, hw]
theorem stG_op (hm : fr.mode = .run) {ops : Array Oper} {i : Nat} {rest : List Nat} (ht : fr.todo = .inRegion ops (i :: rest) :: k) {o : Oper} (ho : ops[i]? = some o) (hw : Region.wanted o (yielded ops fr.tmps) = true) (hd : fr.roundOf = none ∨ ∀ c, o.op ≠ .defer c) :
    stepG P true { frame := fr, callers := cs, status := .running, dying := none } w = stepG.apply P true fr cs none (execOp fr.eval o) w := by
  simp only [stepG, hm, stepG.exec, ht, ho, Option.map_some, Option.getD_some, hw, if_true, stepG.oper, Frame.oper?]
  rcases hd with hd | hd
  · simp [hd]
  · cases hr : fr.roundOf with
    | none => rfl
    | some l =>
      cases hop : o.op with
      | defer c => exact absurd hop (hd c)
      | _ => rfl
end
end
end Go.Proofs.YtifcganfcjildaaGreatDoor.E
