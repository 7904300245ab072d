/- Merged out of: HandFew19, E21. -/
import Derived.WalkKit
import Derived.WalkSpells
import Derived.Deep.LoopGhost
import Derived.Lib.Hide
import Derived.BigQuiet
import Derived.Deep.QuietTactic
import Derived.Test.YtifcganfcjildaaGreatDoorHandFewK
import Derived.Test.YtifcganfcjildaaGreatDoorJ5
import Derived.Test.YtifcganfcjildaaGreatDoorKx0
/- HandFew19: a text of this claim's proof, as printed or written, without what the claim does not use. -/
namespace Go.Proofs.YtifcganfcjildaaGreatDoor.K
open Go.RowKit Go.Proofs.YtifcganfcjildaaGreatDoorW.PrintWords Go.Proofs.YtifcganfcjildaaGreatDoorW.PrintLast Go.Proofs.YtifcganfcjildaaGreatDoorW.PrintMore
set_option linter.unusedVariables false
set_option linter.unusedSimpArgs false
def dvC (kd pr : Int) (nm : ByteArray) (x : EvV) : Array Value := #[.int .i64 kd, .int .i64 pr, .string nm, .string x.room, .string x.type, .string x.sender, .bool x.isS, .string x.key, .int .i64 x.kind, .int .i64 x.n, .string x.text, .slice x.A8 x.keys.length x.c8, .slice x.A9 x.list.length x.c9, .slice x.A10 x.prev.length x.c10, .slice x.A11 x.auth.length x.c11, .int .i64 x.depth, .int .i64 x.ts, .string x.hash, .slice x.A15 x.sigs.length x.c15]
def DB (g : Nat) (kd pr : Int) (nm : ByteArray) (x : EvV) (W : World) : Prop := W.heap[g]? = some (.cells (dvC kd pr nm x) 61 (0, 0))
set_option maxRecDepth 100000 in
set_option maxHeartbeats 8000000 in
theorem few19_c (kd pr : Int) (nm : ByteArray) (x : EvV) (hN : Near x) : ∃ b : Bool, (b = true → FewC x ∧ nm.size ≤ 100) ∧ ∀ w g c, x.OkR w → DB g kd pr nm x w →
    Calls Tryz.prog 25 #[.slice (some ⟨g, 0, none⟩) 1 c] w fun e w' => e = .returned (.bool b) ∧ Below w.heap.size w w' := by
  obtain ⟨b0, hb0, hc0⟩ := few05_c x hN
  by_cases h1 : 100 < nm.size
  · refine ⟨false, fun h => (by cases h), fun w g c hx hk => ?_⟩
    have b1 : decide ((100 : Int) < (nm.size : Int)) = true := decide_eq_true (by omega)
    have q0 : w.cell? ⟨g, 2, none⟩ = some (.string nm) := (blk_cell hk 2).trans rfl
    clear hx hk hc0 hb0 h1
    go_enter Tryz.func25, Tryz.ntmps25
    go_wp2
    go_loopw [3] (fun vi wr => vi = .int .i64 0 ∧ Hid (wr = w)) (fun vi _ => 1 - (intOf vi).toNat)
    case atStart => exact ⟨rfl, Lib.hid rfl⟩
    case round =>
      obtain ⟨rfl, HW⟩ := hrel
      obtain rfl := HW.out
      go_wp2
      go_ret
      exact ⟨rfl, Below.refl _ _⟩
  · refine ⟨b0, fun h => ⟨hb0 h, by omega⟩, fun w g c hx hk => ?_⟩
    have b1 : decide ((100 : Int) < (nm.size : Int)) = false := decide_eq_false (by omega)
    have q0 : w.cell? ⟨g, 2, none⟩ = some (.string nm) := (blk_cell hk 2).trans rfl
    have HX := Lib.hid (hc0 w hx)
    have HK := Lib.hid hk
    have hu := Tryz.underlying47
    clear hx hk hc0 hb0 h1
    go_enter Tryz.func25, Tryz.ntmps25
    go_wp2
    go_loopw [3] (fun vi wr => (vi = .int .i64 0 ∧ Hid (wr = w)) ∨ (vi = .int .i64 1 ∧ b0 = true ∧ Hid (Below w.heap.size w wr))) (fun vi _ => 1 - (intOf vi).toNat)
    case atStart => exact .inl ⟨rfl, Lib.hid rfl⟩
    case round =>
      rcases hrel with ⟨rfl, HW⟩ | ⟨rfl, rfl, HW⟩
      · obtain rfl := HW.out
        cases b0 with
        | false =>
          go_wp2_with (first | ((with_reducible refine gate_dst (N := 27) rfl ?_); refine wpList_load_part (by rfl) 47 (.tmp 26) rfl g 3 rfl 61 (dvC kd pr nm x) (evC x) (0, 0) _ HK.out rfl hu rfl (by kernel_rfl) ?_) | (go_at_call 19; refine HX.out.mono ?_; rintro e w2 ⟨rfl, hb2⟩))
          go_ret
          exact ⟨rfl, hb2⟩
        | true =>
          go_wp2_with (first | ((with_reducible refine gate_dst (N := 27) rfl ?_); refine wpList_load_part (by rfl) 47 (.tmp 26) rfl g 3 rfl 61 (dvC kd pr nm x) (evC x) (0, 0) _ HK.out rfl hu rfl (by kernel_rfl) ?_) | (go_at_call 19; refine HX.out.mono ?_; rintro e w2 ⟨rfl, hb2⟩))
          go_roundw
          case rel => exact .inr ⟨by simp, by first | trivial | rfl, Lib.hid hb2⟩
          case measure => simp [intOf]
      · go_wp2
        go_ret
        exact ⟨rfl, HW.out⟩
end Go.Proofs.YtifcganfcjildaaGreatDoor.K

/- Maps: a value laid under a key. -/
namespace Go.Proofs.YtifcganfcjildaaGreatDoor.E
open Go Go.RowKit
set_option linter.unusedVariables false
set_option linter.unusedSimpArgs false
set_option linter.unnecessarySimpa false
noncomputable section

section
variable {P : Program} {n0 : Nat} {w0 : World} {lm : Nat} {φ : Map} {s s' : HS} {w : World}
theorem keyV_under {t : TypeId} {k : AV} (h : keyV P t k = true) : ∃ d, P.underlying t = some d := by
  unfold keyV at h
  cases hd : P.underlying t with
  | none => rw [hd] at h; cases h
  | some d => exact ⟨d, rfl⟩
theorem updA_sound (h : Rel n0 w0 lm φ s w) {t : TypeId} {m k v r : AV} {X K V : Value} (hx : VR φ m X) (hk : VR φ k K) (hv : VR φ v V) (hr : (updA P t m k v).run s = some (r, s')) :
    r = .undef ∧ s'.next = s.next ∧ ∃ w', (Instr.mapUpdate t X K V).run P w = .ok () w' ∧ Rel n0 w0 lm φ s' w' := by
  unfold updA at hr
  cases hu : P.underlying t with
  | none => rw [hu] at hr; cases hr
  | some d =>
    rw [hu] at hr
    cases d with
    | map kt e =>
      cases hx with
      | map hp =>
        obtain ⟨hkv, hr2⟩ := cond_run hr
        obtain ⟨⟨es, c⟩, s1, h1, h2⟩ := Fr.bind_run hr2
        obtain ⟨r1, q1, q2, q3, p, E, q4, q5, q6⟩ := mapOf_sound h h1
        obtain rfl := Option.some.inj (q4.symm.trans hp)
        dsimp only at h2
        obtain ⟨d, hd⟩ := keyV_under hkv
        have hck : ∀ em, (Instr.checkKey em 10000 kt K).run P w = .ok () w := fun em => check_key hk hkv em 9998
        have hg : (getObj p.b).run P w = .ok (.map E c) w := by simp [getObj, Sem.run, q5]
        cases hf : findA P kt k es 0 with
        | none => rw [hf] at h2; cases h2
        | some q =>
          rw [hf] at h2
          obtain ⟨R, f1, f2⟩ := find_sound (P := P) (w := w) hd hk q6 hf
          cases q with
          | none =>
            obtain rfl : R = none := f2
            obtain ⟨u, s2, k1, k2⟩ := Fr.bind_run h2
            obtain ⟨rfl, rfl⟩ := Fr.ret_run k2
            obtain ⟨a1, a2, a3⟩ := map_set (P := P) (E' := E.push { key := K, val := V, born := c }) r1 (by rw [q1]; exact q3) q4 (by rw [Array.toList_push]; exact q6.push hk hv) k1
            exact ⟨rfl, by rw [a1, q2], _, by simp [Instr.mapUpdate, run_underlying hu, hg, hck, f1, a2], a3⟩
          | some q =>
            obtain ⟨i, v0, b0⟩ := q
            obtain ⟨V0, rfl, f3⟩ := f2
            dsimp only at h2
            cases hes : es[i]? with
            | none => rw [hes] at h2; cases h2
            | some y =>
              obtain ⟨a, u0, b⟩ := y
              rw [hes] at h2
              obtain ⟨hsame, h3⟩ := cond_run h2
              obtain rfl := sameAV_eq hsame
              obtain ⟨A, U, g1, g2, g3⟩ := q6.get hes
              obtain ⟨u, s2, k1, k2⟩ := Fr.bind_run h3
              obtain ⟨rfl, rfl⟩ := Fr.ret_run k2
              obtain ⟨R, w1, y1, y2, y3⟩ := key_stays (P := P) hk g2 w
              have hold : ((E[i]?.map (·.key)).getD K) = A := by rw [← Array.getElem?_toList, g1]; rfl
              have r1' : Rel n0 w0 lm φ s1 w1 := by
                rcases y3 with rfl | rfl
                · exact r1
                · exact r1.drew
              obtain ⟨a1, a2, a3⟩ := map_set (P := P) (E' := E.modify i fun e => { e with key := R, val := V }) r1' (by rw [q1]; exact q3) q4 (by rw [Array.toList_modify]; exact q6.set y2 hv hes) k1
              exact ⟨rfl, by rw [a1, q2], _, by simp [Instr.mapUpdate, run_underlying hu, hg, hck, f1, hold, y1, a2], a3⟩
      | _ => cases hr
    | _ => cases hr
end
end
end Go.Proofs.YtifcganfcjildaaGreatDoor.E

