/- The machine's own steps; how its names lie in a world. -/
import Derived.Below
import Derived.Test.YtifcganfcjildaaGreatDoorE0
namespace Go.Proofs.YtifcganfcjildaaGreatDoor.E
open Go Go.RowKit
set_option linter.unusedVariables false
set_option linter.unusedSimpArgs false
set_option linter.unnecessarySimpa false
noncomputable section

theorem Tr.put_some {α : Type} (t : Tr α) {k : Nat} (hk : k < Tr.top) (a : Option α) : ∃ s, t.put k a = some s := by
  unfold Tr.put
  have : Nat.blt k Tr.top = true := Nat.ble_eq_true_of_le hk
  rw [this]
  exact ⟨_, by rw [Tr.seq_eq]; rfl⟩
theorem Tr.put_lt {α : Type} {t s : Tr α} {k : Nat} {a : Option α} (h : t.put k a = some s) : k < Tr.top := by
  unfold Tr.put at h
  cases hb : Nat.blt k Tr.top with
  | false => rw [hb] at h; cases h
  | true => exact Nat.le_of_ble_eq_true hb
theorem bit1 (n h : Nat) : (1 <<< n).testBit h = decide (n = h) := by
  rw [Nat.one_shiftLeft, Nat.testBit_two_pow]
def getR (n : Nat) : M AO := fun s => match s.heap.get n with
  | none => none
  | some o => force (s.rd ||| 1 <<< n) fun r => some (o, { s with rd := r })
theorem framed_get (n : Nat) : Framed (getR n) := by
  intro s a s' h
  unfold getR at h
  cases e : s.heap.get n with
  | none => rw [e] at h; cases h
  | some o =>
    rw [e] at h
    simp only [force_eq] at h
    obtain ⟨rfl, rfl⟩ := Prod.mk.inj (Option.some.inj h)
    refine ⟨Nat.le_refl _, 1 <<< n, 0, rfl, by simp, fun _ _ _ => rfl, fun _ _ h => by simp at h, fun _ t h1 h2 h3 => ?_⟩
    have he : t.heap.get n = some o := by
      rw [h2 n ?_ (by simp [bit1])]; exact e
      show n < s.next ∨ s.next ≤ n
      omega
    refine ⟨{ t with rd := t.rd ||| 1 <<< n }, by unfold getR; rw [he]; simp only [force_eq], h1, rfl, by simp, fun h => by rw [if_neg]; rintro (⟨_, h5⟩ | ⟨h5, h6⟩); · { simp at h5 }; · exact absurd h6 (by show ¬ h < s.next; omega)⟩
/-- A state brought to its signs. -/
def HS.norm {β : Type} (s : HS) (k : HS → β) : β := HS.rec (motive := fun _ => β) (fun a b c d => a.seq fun a => force b fun b => force c fun c => force d fun d => k ⟨a, b, c, d⟩) s
theorem HS.norm_eq {β : Type} (s : HS) (k : HS → β) : s.norm k = k s := by
  cases s
  simp only [HS.norm, Tr.seq_eq, force_eq]
theorem norm_run {α : Type} (m : M α) : (fun s => s.norm fun s => m s) = m := funext fun s => HS.norm_eq s _
def Fr.get (n : Nat) : Fr AO := ⟨fun s => s.norm fun s => getR n s, by rw [norm_run (getR n)]; exact framed_get n⟩
def setR (n : Nat) (o : AO) : M Unit := fun s => match s.heap.get n with
  | none => none
  | some _ => match s.heap.put n (some o) with
    | none => none
    | some hp => force (s.wr ||| 1 <<< n) fun w => some ((), { s with heap := hp, wr := w })
theorem framed_set (n : Nat) (o : AO) : Framed (setR n o) := by
  intro s a s' h
  unfold setR at h
  cases e : s.heap.get n with
  | none => rw [e] at h; cases h
  | some o0 =>
    rw [e] at h
    simp only at h
    cases e2 : s.heap.put n (some o) with
    | none => rw [e2] at h; cases h
    | some hp =>
      rw [e2] at h
      simp only [force_eq] at h
      obtain ⟨-, rfl⟩ := Prod.mk.inj (Option.some.inj h)
      have g1 := Tr.get_put e2
      refine ⟨Nat.le_refl _, 0, 1 <<< n, by simp, rfl, fun h1 h2 h3 => ?_, fun h1 h2 h3 => ?_, fun h0 t h1 h2 h3 => ?_⟩
      · have : h1 ≠ n := fun he => by subst he; rw [bit1] at h3; simp at h3
        show hp.get h1 = _
        rw [g1 h1, if_neg this]
      · rw [bit1, decide_eq_true_eq] at h3
        subst h3
        rw [e]; simp
      · have he : t.heap.get n = some o0 := by
          rw [h2 n ?_ (by simp [bit1])]; exact e
          show n < s.next ∨ s.next ≤ n
          omega
        obtain ⟨tp, e3⟩ := Tr.put_some t.heap (Tr.put_lt e2) (some o)
        refine ⟨{ t with heap := tp, wr := t.wr ||| 1 <<< n }, by unfold setR; rw [he]; simp only; rw [e3]; simp only [force_eq], h1, by simp, rfl, fun h => ?_⟩
        show tp.get h = if _ then hp.get h else _
        rw [Tr.get_put e3 h, g1 h]
        by_cases c : h = n
        · subst c; rw [if_pos rfl, if_pos (Or.inl ⟨Nat.lt_or_ge _ _, by simp [bit1]⟩), if_pos rfl]
        · rw [if_neg c, if_neg c, if_neg]
          rintro (⟨h5, h6⟩ | ⟨h5, h6⟩)
          · rw [bit1, decide_eq_true_eq] at h6; exact c h6.symm
          · exact absurd h6 (by show ¬ h < s.next; omega)
theorem seq_run {α : Type} (m : AO → M α) (o : AO) : (fun s => o.seq fun o => s.norm fun s => m o s) = m o := funext fun s => by rw [AO.seq_eq, HS.norm_eq]
def Fr.set (n : Nat) (o : AO) : Fr Unit := ⟨fun s => o.seq fun o => s.norm fun s => setR n o s, by rw [seq_run (setR n) o]; exact framed_set n o⟩
def newR (o : AO) : M Nat := fun s => match s.heap.put s.next (some o) with
  | none => none
  | some hp => force (s.next + 1) fun n => some (s.next, { s with heap := hp, next := n })
theorem framed_new (o : AO) : Framed (newR o) := by
  intro s a s' h
  unfold newR at h
  cases e2 : s.heap.put s.next (some o) with
  | none => rw [e2] at h; cases h
  | some hp =>
    rw [e2] at h
    simp only [force_eq] at h
    obtain ⟨rfl, rfl⟩ := Prod.mk.inj (Option.some.inj h)
    have g1 := Tr.get_put e2
    refine ⟨Nat.le_succ _, 0, 0, by simp, by simp, fun h1 h2 h3 => ?_, fun _ _ h => by simp at h, fun h0 t h1 h2 h3 => ?_⟩
    · have h2' : h1 < s.next ∨ s.next + 1 ≤ h1 := h2
      show hp.get h1 = _
      rw [g1 h1, if_neg (by omega)]
    · obtain ⟨tp, e3⟩ := Tr.put_some t.heap (Tr.put_lt e2) (some o)
      refine ⟨{ t with heap := tp, next := s.next + 1 }, by unfold newR; rw [h1, e3]; simp only [force_eq], rfl, by simp, by simp, fun h => ?_⟩
      show tp.get h = if _ then hp.get h else _
      rw [Tr.get_put e3 h, g1 h]
      by_cases c : h = s.next
      · rw [if_pos c, if_pos (Or.inr ⟨by omega, by show h < s.next + 1; omega⟩), if_pos c]
      · rw [if_neg c, if_neg]
        rintro (⟨_, h5⟩ | ⟨h5, h6⟩)
        · simp at h5
        · exact absurd h6 (by show ¬ h < s.next + 1; omega)
def Fr.new (o : AO) : Fr Nat := ⟨fun s => o.seq fun o => s.norm fun s => newR o s, by rw [seq_run newR o]; exact framed_new o⟩
def Fr.of {α : Type} (o : Option α) : Fr α := match o with | none => .fail | some a => .ret a
theorem Fr.of_run {α : Type} {o : Option α} {s : HS} {a : α} {s' : HS} (h : (Fr.of o).run s = some (a, s')) : o = some a ∧ s' = s := by
  cases o with
  | none => cases h
  | some b => obtain ⟨rfl, rfl⟩ := Prod.mk.inj (Option.some.inj h); exact ⟨rfl, rfl⟩
theorem Fr.ret_run {α : Type} {b a : α} {s s' : HS} (h : (Fr.ret b).run s = some (a, s')) : b = a ∧ s' = s := by
  obtain ⟨rfl, rfl⟩ := Prod.mk.inj (Option.some.inj h); exact ⟨rfl, rfl⟩
theorem Fr.bind_run {α β : Type} {m : Fr α} {k : α → Fr β} {s s' : HS} {b : β} (h : (m.bind k).run s = some (b, s')) : ∃ a s1, m.run s = some (a, s1) ∧ (k a).run s1 = some (b, s') := by
  change (Option.rec (motive := fun _ => Option (β × HS)) none (fun p => Prod.rec (motive := fun _ => Option (β × HS)) (fun a s1 => (k a).run s1) p) (m.run s)) = some (b, s') at h
  cases e : m.run s with
  | none => rw [e] at h; cases h
  | some p => obtain ⟨a, s1⟩ := p; rw [e] at h; exact ⟨a, s1, rfl, h⟩
theorem Fr.get_run {n : Nat} {s s' : HS} {o : AO} (h : (Fr.get n).run s = some (o, s')) : s.heap.get n = some o ∧ s'.heap = s.heap ∧ s'.next = s.next := by
  change (s.norm fun s => getR n s) = _ at h
  rw [HS.norm_eq] at h
  unfold getR at h
  cases e : s.heap.get n with
  | none => rw [e] at h; cases h
  | some o0 =>
    rw [e] at h; simp only [force_eq] at h
    obtain ⟨rfl, rfl⟩ := Prod.mk.inj (Option.some.inj h)
    exact ⟨rfl, rfl, rfl⟩
theorem Fr.set_run {n : Nat} {o : AO} {s s' : HS} {u : Unit} (h : (Fr.set n o).run s = some (u, s')) : (∃ o0, s.heap.get n = some o0) ∧ s'.next = s.next ∧ ∀ j, s'.heap.get j = if j = n then some o else s.heap.get j := by
  change (o.seq fun o => s.norm fun s => setR n o s) = _ at h
  rw [AO.seq_eq, HS.norm_eq] at h
  unfold setR at h
  cases e : s.heap.get n with
  | none => rw [e] at h; cases h
  | some o0 =>
    rw [e] at h; simp only at h
    cases e2 : s.heap.put n (some o) with
    | none => rw [e2] at h; cases h
    | some hp =>
      rw [e2] at h; simp only [force_eq] at h
      obtain ⟨-, rfl⟩ := Prod.mk.inj (Option.some.inj h)
      exact ⟨⟨o0, rfl⟩, rfl, fun j => Tr.get_put e2 j⟩
theorem Fr.new_run {o : AO} {s s' : HS} {n : Nat} (h : (Fr.new o).run s = some (n, s')) : n = s.next ∧ s'.next = s.next + 1 ∧ ∀ j, s'.heap.get j = if j = s.next then some o else s.heap.get j := by
  change (o.seq fun o => s.norm fun s => newR o s) = _ at h
  rw [AO.seq_eq, HS.norm_eq] at h
  unfold newR at h
  cases e2 : s.heap.put s.next (some o) with
  | none => rw [e2] at h; cases h
  | some hp =>
    rw [e2] at h; simp only [force_eq] at h
    obtain ⟨rfl, rfl⟩ := Prod.mk.inj (Option.some.inj h)
    exact ⟨rfl, rfl, fun j => Tr.get_put e2 j⟩
/-! ### How names lie in a world -/
/-- Where a name lies: a block, the first cell there, how many cells the block has. -/
structure Pl where
  b : Nat
  d : Nat
  n : Nat
abbrev Map := Nat → Option Pl
def Map.le (φ ψ : Map) : Prop := ∀ h p, φ h = some p → ψ h = some p
theorem Map.le_refl (φ : Map) : φ.le φ := fun _ _ h => h
theorem Map.le_trans {φ ψ χ : Map} (h : φ.le ψ) (k : ψ.le χ) : φ.le χ := fun _ _ e => k _ _ (h _ _ e)
mutual
inductive VR (φ : Map) : AV → Value → Prop
  | undef (v : Value) : VR φ .undef v
  | opq {v : Value} (h : v.oneCell' = true) : VR φ .opq v
  | int (k : IntKind) (n : Int) : VR φ (.int k n) (.int k n)
  | bool (b : Bool) : VR φ (.bool b) (.bool b)
  | str {l : List Nat} {s : ByteArray} (h : s.data.toList.map (·.toNat) = l) : VR φ (.str l) (.string s)
  | ptr {h off : Nat} {p : Pl} (hp : φ h = some p) : VR φ (.ptr h off) (.pointer (some ⟨p.b, p.d + off, none⟩))
  | nilp : VR φ .nilp (.pointer none)
  | sl {h off len es c : Nat} {cap : Option Nat} {p : Pl} (hp : φ h = some p) (hc : ∀ k, cap = some k → c = k) (hl : len ≤ c) (hn : p.d + off + c * es ≤ p.n) (hf : cap = none → p.d + off + c * es = p.n) : VR φ (.sl h off len es cap) (.slice (some ⟨p.b, p.d + off, none⟩) len c)
  | nils : VR φ .nils (.slice none 0 0)
  | emp {h o c es : Nat} {p : Pl} (hp : φ h = some p) (hn : o + c * es ≤ p.n) (hf : c ≠ 0 → o + c * es = p.n) : VR φ (.emp h es) (.slice (some ⟨p.b, o, none⟩) 0 c)
  | map {h : Nat} {p : Pl} (hp : φ h = some p) : VR φ (.map h) (.map (some p.b))
  | nilm : VR φ .nilm (.map none)
  | fn {f : Fn} {l k : List AV} {a b : Array Value} (h : VRs φ l a.toList) (h' : VRs φ k b.toList) : VR φ (.fn f l k) (.func f a b)
  | nilf : VR φ .nilf .nilFunc
  | iface {t : TypeId} {v : AV} {x : Value} (h : VR φ v x) : VR φ (.iface t v) (.iface t x)
  | nili : VR φ .nili .nilIface
  | agg {l : List AV} {a : Array Value} (h : VRs φ l a.toList) : VR φ (.agg l) (.agg a)
  | tup {l : List AV} {a : Array Value} (h : VRs φ l a.toList) : VR φ (.tup l) (.tuple a)
  | yld {h : Nat} {p : Pl} (hp : φ h = some p) : VR φ (.yld h) (.func (.yield p.b) #[] #[])
inductive VRs (φ : Map) : List AV → List Value → Prop
  | nil : VRs φ [] []
  | cons {v : AV} {x : Value} {l : List AV} {k : List Value} (h : VR φ v x) (t : VRs φ l k) : VRs φ (v :: l) (x :: k)
end
mutual
theorem VR.mono {φ ψ : Map} (h : φ.le ψ) : ∀ {v : AV} {x : Value}, VR φ v x → VR ψ v x
  | _, _, .undef v => .undef v
  | _, _, .opq h => .opq h
  | _, _, .int k n => .int k n
  | _, _, .bool b => .bool b
  | _, _, .str e => .str e
  | _, _, .ptr hp => .ptr (h _ _ hp)
  | _, _, .nilp => .nilp
  | _, _, .sl hp hc hl hn hf => .sl (h _ _ hp) hc hl hn hf
  | _, _, .nils => .nils
  | _, _, .emp hp hn hf => .emp (h _ _ hp) hn hf
  | _, _, .map hp => .map (h _ _ hp)
  | _, _, .nilm => .nilm
  | _, _, .fn a b => .fn (VRs.mono h a) (VRs.mono h b)
  | _, _, .nilf => .nilf
  | _, _, .iface a => .iface (VR.mono h a)
  | _, _, .nili => .nili
  | _, _, .agg a => .agg (VRs.mono h a)
  | _, _, .tup a => .tup (VRs.mono h a)
  | _, _, .yld hp => .yld (h _ _ hp)
theorem VRs.mono {φ ψ : Map} (h : φ.le ψ) : ∀ {l : List AV} {k : List Value}, VRs φ l k → VRs ψ l k
  | _, _, .nil => .nil
  | _, _, .cons a t => .cons (VR.mono h a) (VRs.mono h t)
end
theorem VRs.length {φ : Map} : ∀ {l : List AV} {k : List Value}, VRs φ l k → l.length = k.length
  | _, _, .nil => rfl
  | _, _, .cons _ t => by simp [VRs.length t]
theorem VRs.get {φ : Map} : ∀ {l : List AV} {k : List Value}, VRs φ l k → ∀ (i : Nat) (v : AV), l[i]? = some v → ∃ x, k[i]? = some x ∧ VR φ v x
  | _, _, .nil, i, v, h => by simp at h
  | _, _, .cons a t, 0, v, h => by
    simp at h; subst h; exact ⟨_, rfl, a⟩
  | _, _, .cons a t, i + 1, v, h => by
    simp at h
    obtain ⟨x, h1, h2⟩ := VRs.get t i v h
    exact ⟨x, by simpa using h1, h2⟩
theorem VRs.append {φ : Map} : ∀ {l : List AV} {k : List Value}, VRs φ l k → ∀ {l' : List AV} {k' : List Value}, VRs φ l' k' → VRs φ (l ++ l') (k ++ k')
  | _, _, .nil, _, _, h => h
  | _, _, .cons a t, _, _, h => .cons a (VRs.append t h)
theorem VRs.take {φ : Map} : ∀ {l : List AV} {k : List Value}, VRs φ l k → ∀ n, VRs φ (l.take n) (k.take n)
  | _, _, .nil, n => by simp; exact .nil
  | _, _, .cons a t, 0 => .nil
  | _, _, .cons a t, n + 1 => .cons a (VRs.take t n)
theorem VRs.drop {φ : Map} : ∀ {l : List AV} {k : List Value}, VRs φ l k → ∀ n, VRs φ (l.drop n) (k.drop n)
  | _, _, .nil, n => by simp; exact .nil
  | _, _, .cons a t, 0 => .cons a t
  | _, _, .cons a t, n + 1 => VRs.drop t n
end
end Go.Proofs.YtifcganfcjildaaGreatDoor.E
