/- Numbers, texts, what is the same: the machine over names and a world. -/
import Derived.Laws.StructEq
import Derived.Test.YtifcganfcjildaaGreatDoorE4
namespace Go.Proofs.YtifcganfcjildaaGreatDoor.E
open Go Go.RowKit
set_option linter.unusedVariables false
set_option linter.unusedSimpArgs false
set_option linter.unnecessarySimpa false
noncomputable section

theorem eqL_map : ∀ (a b : List UInt8), eqL (a.map (·.toNat)) (b.map (·.toNat)) = (a == b)
  | [], [] => rfl
  | [], _ :: _ => rfl
  | _ :: _, [] => rfl
  | x :: a, y :: b => by
    have ih := eqL_map a b
    show cd (Nat.beq x.toNat y.toNat) (eqL (a.map (·.toNat)) (b.map (·.toNat))) false = _
    rw [ih]
    have e : Nat.beq x.toNat y.toNat = (x == y) := by
      rw [Bool.eq_iff_iff, beq_iff_eq]
      exact ⟨fun h => UInt8.toNat_inj.1 (Nat.eq_of_beq_eq_true h), fun h => by subst h; exact Nat.beq_refl _⟩
    rw [e, List.cons_beq_cons]
    cases (x == y) <;> rfl
theorem bytesLt_map : ∀ (a b : List UInt8), bytesLt (a.map (·.toNat)) (b.map (·.toNat)) = Op.bytesLess a b
  | [], [] => rfl
  | _ :: _, [] => rfl
  | [], _ :: _ => rfl
  | x :: a, y :: b => by
    have ih := bytesLt_map a b
    show cd (Nat.blt x.toNat y.toNat) true (cd (Nat.beq x.toNat y.toNat) (bytesLt (a.map (·.toNat)) (b.map (·.toNat))) false) = (decide (x < y) || (x == y && Op.bytesLess a b))
    rw [ih]
    have e : Nat.beq x.toNat y.toNat = (x == y) := by
      rw [Bool.eq_iff_iff, beq_iff_eq]
      exact ⟨fun h => UInt8.toNat_inj.1 (Nat.eq_of_beq_eq_true h), fun h => by subst h; exact Nat.beq_refl _⟩
    have e2 : Nat.blt x.toNat y.toNat = decide (x < y) := by
      rw [Bool.eq_iff_iff, decide_eq_true_eq, UInt8.lt_iff_toNat_lt]
      exact ⟨fun h => Nat.le_of_ble_eq_true h, fun h => Nat.ble_eq_true_of_le h⟩
    rw [e, e2]
    cases decide (x < y) <;> cases (x == y) <;> rfl
theorem size_list (s : ByteArray) : s.size = s.data.toList.length := by simp
section
variable {P : Program} {φ : Map} (w : World)
theorem strA_sound {op : BinOp} {a b : List Nat} {v : AV} {s t : ByteArray} (ha : s.data.toList.map (·.toNat) = a) (hb : t.data.toList.map (·.toNat) = b) (h : strA op a b = some v) :
    ∃ x, (Op.stringOp op s t).run P w = .ok x w ∧ VR φ v x := by
  subst ha; subst hb
  cases op <;> unfold strA at h <;> simp only [eqL_map, bytesLt_map, seqS_eq] at h <;> first
    | (obtain ⟨h1, h2⟩ : _ ∧ _ := (by
        cases hc : Nat.ble ((s.data.toList.map (·.toNat)).length + (t.data.toList.map (·.toNat)).length) 1000000000 with
        | false => rw [hc] at h; cases h
        | true => rw [hc] at h; exact ⟨Nat.le_of_ble_eq_true hc, Option.some.inj h⟩)
       simp only [List.length_map, ← size_list] at h1
       refine ⟨.string (s ++ t), ?_, ?_⟩
       · simp only [Op.stringOp]
         rw [if_neg (by simp only [IntKind.max, IntKind.signed, IntKind.bits]; simp; omega)]
         rfl
       · rw [← h2]; exact .str (by rw [ByteArray.data_append, Array.toList_append, List.map_append]))
    | (obtain rfl := Option.some.inj h
       refine ⟨_, rfl, ?_⟩
       simp only [ByteArray.toList_eq]
       exact .bool _)
    | cases h
theorem intA_sound {op : BinOp} {k : IntKind} {a b : Int} {v : AV} (h : intA op k a b = some v) (hs : isShift op = false) (t : TypeId) :
    ∃ x, (binOp op t (.int k a) (.int k b)).run P w = .ok x w ∧ VR φ v x := by
  cases op <;> unfold intA at h <;> first
    | (cases hs; done)
    | (simp only at h
       cases hc : (b == 0) with
       | true => rw [hc] at h; cases h
       | false =>
         rw [hc] at h
         obtain rfl := Option.some.inj h
         have hb : b ≠ 0 := by simpa using hc
         refine ⟨_, ?_, .int _ _⟩
         simp [binOp, Op.intDiv, hb]
         done)
    | (obtain rfl := Option.some.inj h
       refine ⟨_, ?_, by first | exact .int _ _ | exact .bool _⟩
       simp [binOp, Op.intArith, Op.intBits, Op.intCmp]
       done)
    | cases h
theorem shiftA_sound {op : BinOp} {k k' : IntKind} {a b : Int} {v : AV} (h : shiftA op k a b = some v) (t : TypeId) :
    ∃ x, (binOp op t (.int k a) (.int k' b)).run P w = .ok x w ∧ VR φ v x := by
  unfold shiftA at h
  cases hc : decide (b < 0) with
  | true => rw [hc] at h; cases h
  | false =>
    rw [hc] at h
    have hb : ¬ b < 0 := of_decide_eq_false hc
    cases op <;> first
      | (obtain rfl := Option.some.inj h
         refine ⟨_, ?_, .int _ _⟩
         simp [binOp, Op.shift, hb]
         done)
      | cases h
theorem part_get {t : TypeId} {cs : List AV} {C : Array Value} {off : Nat} {v : AV} (hc : VRs φ cs C.toList) (h : part P t cs off = some v) : ∃ x, (Go.part t C off).run P w = .ok x w ∧ VR φ v x := by
  unfold part at h
  cases hu : P.underlying t with
  | none => rw [hu] at h; cases h
  | some d =>
    rw [hu] at h; simp only at h
    cases hw : wide d with
    | true =>
      rw [hw] at h; simp only at h
      cases hz : sz P t with
      | none => rw [hz] at h; cases h
      | some n =>
        rw [hz] at h; simp only at h
        cases hb : Nat.ble (off + n) cs.length with
        | false => rw [hb] at h; cases h
        | true =>
          rw [hb] at h
          obtain rfl := Option.some.inj h
          refine ⟨.agg (C.extract off (off + n)), ?_, .agg ?_⟩
          · simp [Go.part, run_wide hu, hw, run_sz hz]
          · rw [Array.toList_extract, List.extract_eq_take_drop, Nat.add_sub_cancel_left]
            exact (hc.drop off).take n
    | false =>
      rw [hw] at h; simp only at h
      obtain ⟨x, h1, h2⟩ := hc.get off v h
      refine ⟨x, ?_, h2⟩
      rw [Array.getElem?_toList] at h1
      simp [Go.part, run_wide hu, hw, h1]
theorem eqF_sound {d : Nat} {rec : TypeId → AV → AV → Option Bool} (hrec : ∀ t x y u v b, rec t x y = some b → VR φ x u → VR φ y v → (Op.equalIn d t u v).run P w = .ok b w) {aT bs : List AV} {xs ys : Array Value} (ha : VRs φ aT xs.toList) (hb : VRs φ bs ys.toList) :
    ∀ {l : List Field} {r : Bool}, eqF P rec aT bs l = some r → (Op.eqFields d xs ys l).run P w = .ok r w
  | [], r, h => by obtain rfl := Option.some.inj h; rfl
  | f :: l, r, h => by
    unfold eqF at h
    cases hn : (f.name == "_") with
    | true =>
      rw [hn] at h
      have : f.name = "_" := by simpa using hn
      simp only [Op.eqFields, this, ne_eq, not_true_eq_false, if_false]
      exact eqF_sound hrec ha hb h
    | false =>
      rw [hn] at h
      have hne : f.name ≠ "_" := by simpa using hn
      simp only at h
      cases h1 : part P f.type aT f.offset with
      | none => rw [h1] at h; cases h
      | some x =>
        cases h2 : part P f.type bs f.offset with
        | none => rw [h1, h2] at h; cases h
        | some y =>
          rw [h1, h2] at h
          simp only at h
          obtain ⟨u, p1, p2⟩ := part_get (P := P) w ha h1
          obtain ⟨v, q1, q2⟩ := part_get (P := P) w hb h2
          cases h3 : rec f.type x y with
          | none => rw [h3] at h; cases h
          | some b =>
            have hr := hrec f.type x y u v b h3 p2 q2
            simp only [Op.eqFields, hne, ne_eq, not_false_eq_true, if_true, Sem.run_bind, p1, q1, hr, Result.andThen_ok]
            rw [h3] at h
            cases b with
            | true => simpa using eqF_sound hrec ha hb h
            | false => obtain rfl := Option.some.inj h; rfl
theorem eqA_sound : ∀ (d : Nat) (t : TypeId) (a b : AV) (x y : Value) (r : Bool), eqA P d t a b = some r → VR φ a x → VR φ b y → (Op.equalIn d t x y).run P w = .ok r w
  | 0, _, _, _, _, _, _, h, _, _ => by cases h
  | d + 1, t, a, b, x, y, r, h, hx, hy => by
    unfold eqA at h
    cases hu : P.underlying t with
    | none => rw [hu] at h; cases h
    | some u =>
      rw [hu] at h
      simp only at h
      split at h
      · next fs aT bs =>
        cases hx with
        | agg ha =>
          cases hy with
          | agg hb =>
            cases hs : P.stoodInHeld t with
            | true => rw [hs] at h; cases h
            | false =>
              rw [hs] at h
              have hf : P.fieldsOf t = fs := by unfold Program.fieldsOf; rw [hu]
              rw [run_equalIn_struct w d t _ _ (by rw [hf]; exact hu) hs, hf]
              exact eqF_sound w (fun t x y u v b => eqA_sound d t x y u v b) ha hb h
      · obtain rfl := Option.some.inj h; cases hx; cases hy; simp [Op.equalIn, run_underlying hu]
      · next k1 k a k' b =>
        cases hk : decide (k = k') with
        | false => rw [hk] at h; cases h
        | true =>
          rw [hk] at h
          have := of_decide_eq_true hk; subst this
          obtain rfl := Option.some.inj h; cases hx; cases hy; simp [Op.equalIn, run_underlying hu]
      · obtain rfl := Option.some.inj h
        cases hx with
        | str e1 => cases hy with
          | str e2 =>
            subst e1; subst e2
            rw [run_equalIn_string w d t _ _ hu, eqL_map, ByteArray.toList_eq, ByteArray.toList_eq]
      all_goals first
        | (obtain rfl := Option.some.inj h; cases hx; cases hy; simp [Op.equalIn, run_underlying hu]; done)
        | cases h
theorem equal_nilI (d : Nat) {t : TypeId} {ms : Array (String × TypeId)} (hu : P.underlying t = some (.interface ms)) : (Op.equalIn (d + 1) t .nilIface .nilIface).run P w = .ok true w := by
  simp [Op.equalIn, run_underlying hu]
/-- '==' at values that are no numbers and no texts is the same by type. -/
theorem eql_by_type {t : TypeId} {x y : Value} {r : Bool} (h : (Op.equal t x y).run P w = .ok r w) (he : binOp .eql t x y = (do pure (.bool (← Op.equal t x y)) : Sem Value)) (hn : binOp .neq t x y = (do pure (.bool (!(← Op.equal t x y))) : Sem Value)) :
    (binOp .eql t x y).run P w = .ok (.bool r) w ∧ (binOp .neq t x y).run P w = .ok (.bool (!r)) w := by
  rw [he, hn]
  simp [h]
theorem eqlA_sound {t : TypeId} {xo yo : Operand} {a b : AV} {x y : Value} {r : Bool} (h : eqlA P t xo yo a b = some r) (hx : VR φ a x) (hy : VR φ b y) (op : BinOp)
    (h1 : ∀ k n k' m, a = .int k n → b = .int k' m → False) (h2 : ∀ l m, a = .str l → b = .str m → False) :
    (eqGuard op t xo yo x y).run P w = .ok () w ∧ (binOp .eql t x y).run P w = .ok (.bool r) w ∧ (binOp .neq t x y).run P w = .ok (.bool (!r)) w := by
  unfold eqlA at h
  split at h
  · cases hx; cases hy
    cases hc : isNilC xo || isNilC yo with
    | false => rw [hc] at h; cases h
    | true =>
      rw [hc] at h
      simp only [cd] at h
      split at h
      · next ms hu =>
        obtain rfl := Option.some.inj h
        refine ⟨?_, eql_by_type w (equal_nilI w 9999 hu) rfl rfl⟩
        cases xo <;> cases yo <;> first
          | (simp [isNilC] at hc; done)
          | (cases op <;> simp [eqGuard]; done)
      · cases h
  · next aT bs =>
    cases hg : P.eqGuardType P.depth t with
    | true => rw [hg] at h; cases h
    | false =>
      rw [hg] at h
      have he := eqA_sound w _ t _ _ x y r h hx hy
      cases hx; cases hy
      exact ⟨run_eqGuard_agg w op t xo yo _ _ hg, eql_by_type w he rfl rfl⟩
  · next h3 h4 =>
    have he := eqA_sound w _ t _ _ x y r h hx hy
    have hh : eqA P (9999 + 1) t a b = some r := h
    unfold eqA at hh
    cases hu : P.underlying t with
    | none => rw [hu] at hh; cases hh
    | some u =>
      rw [hu] at hh
      simp only at hh
      split at hh
      · exact (h4 _ _ rfl rfl).elim
      · cases hx; cases hy; exact ⟨by cases op <;> simp [eqGuard], eql_by_type w he rfl rfl⟩
      · exact (h1 _ _ _ _ rfl rfl).elim
      · exact (h2 _ _ rfl rfl).elim
      all_goals first
        | (cases hx; cases hy; exact ⟨by cases op <;> simp [eqGuard], eql_by_type w he rfl rfl⟩)
        | cases hh
theorem binA_sound {op : BinOp} {t : TypeId} {xo yo : Operand} {a b v : AV} {x y : Value} (h : binA P op t xo yo a b = some v) (hx : VR φ a x) (hy : VR φ b y) :
    ∃ z, (do eqGuard op t xo yo x y; binOp op t x y : Sem Value).run P w = .ok z w ∧ VR φ v z := by
  unfold binA at h
  split at h
  · next k a k' b =>
    cases hx; cases hy
    have hg : (eqGuard op t xo yo (.int k a) (.int k' b)).run P w = .ok () w := by cases op <;> simp [eqGuard]
    cases hs : isShift op with
    | true =>
      rw [hs] at h
      obtain ⟨z, h1, h2⟩ := shiftA_sound (P := P) (φ := φ) w (k' := k') h t
      exact ⟨z, by simp [hg, h1], h2⟩
    | false =>
      rw [hs] at h
      cases hk : decide (k = k') with
      | false => simp only [hk] at h; cases h
      | true =>
        have := of_decide_eq_true hk; subst this
        simp only [hk] at h
        obtain ⟨z, h1, h2⟩ := intA_sound (P := P) (φ := φ) w h hs t
        exact ⟨z, by simp [hg, h1], h2⟩
  · next la lb =>
    cases hx with
    | str e1 => cases hy with
      | str e2 =>
        have hg : ∀ s t' : ByteArray, (eqGuard op t xo yo (.string s) (.string t')).run P w = .ok () w := fun s t' => by cases op <;> simp [eqGuard]
        obtain ⟨z, h1, h2⟩ := strA_sound (P := P) (φ := φ) w e1 e2 h
        refine ⟨z, ?_, h2⟩
        simp only [Sem.run_bind, hg, Result.andThen_ok]
        cases op <;> first | exact h1 | (simp [binOp]; exact h1)
  · next h1 h2 =>
    cases op <;> first
      | (simp only at h
         cases hr : eqlA P t xo yo a b with
         | none => rw [hr] at h; cases h
         | some r =>
           rw [hr] at h
           obtain rfl := Option.some.inj h
           first
             | (obtain ⟨k1, k2, k3⟩ := eqlA_sound w hr hx hy .eql (fun k n k' m e e' => h1 k n k' m e e') (fun l m e e' => h2 l m e e')
                exact ⟨_, by rw [Sem.run_bind, k1, Result.andThen_ok, k2], .bool _⟩)
             | (obtain ⟨k1, k2, k3⟩ := eqlA_sound w hr hx hy .neq (fun k n k' m e e' => h1 k n k' m e e') (fun l m e e' => h2 l m e e')
                exact ⟨_, by rw [Sem.run_bind, k1, Result.andThen_ok, k3], .bool _⟩))
      | cases h
end
end
end Go.Proofs.YtifcganfcjildaaGreatDoor.E
