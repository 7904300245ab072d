/- Merged out of: Shelf, E26, E27. -/
import Derived.Shelf.Small.Bits
import Derived.Shelf.Small.Strs
import Derived.Shelf.Small.Wraps
import Derived.Shelf.Utf8.RuneCount
import Derived.Shelf.Strconv.Itoa0
import Derived.Shelf.Strconv.Itoa1
import Derived.Shelf.LaysM
import Derived.Shelf.Strconv.Itoa2
import Derived.Shelf.Strings.Search1
import Derived.Shelf.Strings.Search2
import Derived.Shelf.Strings.Search3
import Derived.Shelf.Strings.Cut
import Derived.Shelf.Strings.Count
import Derived.Shelf.Strings.Shaped
import Derived.Shelf.Strings.Prefix
import Derived.Shelf.Strings.Split
import Derived.Shelf.Strings.SplitShaped
import Derived.Shelf.Unicode.Decode
import Derived.Shelf.Strings.RuneCount
import Derived.Shelf.Strings.Explode
import Derived.Shelf.Unicode.DecodeSlow
import Derived.Shelf.Unicode.DecodeAny
import Derived.Shelf.Slices.Turned
import Derived.Shelf.Slices.Reverse
import Derived.Shelf.Slices.Equal
import Derived.Ground.Names2Prog
import Derived.Shelf.Slices.Clone
import Derived.Shelf.Slices.CompactI
import Derived.Shelf.Slices.CompactS
import Derived.Shelf.Slices.SearchI
import Derived.Shelf.Slices.Cells
import Derived.Shelf.Slices.Empties
import Derived.Shelf.Slices.Empties2
import Derived.Ground.SlgnProg
import Derived.Shelf.SlicesE.Clone
import Derived.Test.YtifcganfcjildaaGreatDoorProg
import Derived.Test.YtifcganfcjildaaGreatDoorJ8
/- Shelf: a text of this claim's proof, as printed or written, without what the claim does not use. -/
namespace Go.Proofs
open Go.Shelf
def Tryz.lays103_ren : Go.Shelf.Ren := ⟨fun | 103 => 209 | 210 => 308 | 206 => 360 | n => n, fun | 9 => 9 | 4 => 4 | 24 => 138 | 3 => 3 | n => n, fun | n => n⟩
theorem Tryz.lays103 : Go.Proofs.Lays.n103 Tryz.prog Tryz.lays103_ren := {
  mixed := by kernel_rfl
  f103 := Tryz.func209.trans (congrArg some (by kernel_rfl))
  f206 := Tryz.func360.trans (congrArg some (by kernel_rfl))
  f210 := Tryz.func308.trans (congrArg some (by kernel_rfl))
  t3 := Tryz.underlying3
  a3 := Tryz.isAgg3
  z3 := Tryz.sizeOf3
  v3 := Tryz.zeroValue3
  t4 := Tryz.underlying4
  a4 := Tryz.isAgg4
  z4 := Tryz.sizeOf4
  v4 := Tryz.zeroValue4
  t9 := Tryz.underlying9
  a9 := Tryz.isAgg9
  z9 := Tryz.sizeOf9
  v9 := Tryz.zeroValue9
  t24 := Tryz.underlying138
  a24 := Tryz.isAgg138
  z24 := Tryz.sizeOf138
  v24 := Tryz.zeroValue138 }
open Go.RowKit in
theorem Tryz.strings_CutPrefix (s p : ByteArray) (w : World) :
    Calls Tryz.prog 209 #[.string s, .string p] w fun e w' => e = .returned (.tuple #[.string ⟨(Lib.trimPrefix s.data.toList p.data.toList).toArray⟩, .bool (Lib.hasPrefix s.data.toList p.data.toList)]) ∧ w' = w := Any.strings_CutPrefix Tryz.lays103 s p w
def Tryz.lays145_ren : Go.Shelf.Ren := ⟨fun | 145 => 271 | 220 => 364 | 219 => 412 | 217 => 387 | 225 => 456 | 224 => 457 | 267 => 458 | 266 => 443 | 314 => 487 | n => n, fun | 9 => 9 | 4 => 4 | 59 => 141 | 3 => 3 | 5 => 5 | 46 => 237 | 146 => 442 | 51 => 306 | n => n, fun | 1 => 2 | n => n⟩
theorem Tryz.lays145 : Go.Proofs.Lays.n145 Tryz.prog Tryz.lays145_ren := {
  mixed := by kernel_rfl
  f145 := Tryz.func271.trans (congrArg some (by kernel_rfl))
  f217 := Tryz.func387.trans (congrArg some (by kernel_rfl))
  f219 := Tryz.func412.trans (congrArg some (by kernel_rfl))
  f220 := Tryz.func364.trans (congrArg some (by kernel_rfl))
  f224 := Tryz.func457.trans (congrArg some (by kernel_rfl))
  f225 := Tryz.func456.trans (congrArg some (by kernel_rfl))
  f266 := Tryz.func443.trans (congrArg some (by kernel_rfl))
  f267 := Tryz.func458.trans (congrArg some (by kernel_rfl))
  f314 := Tryz.func487.trans (congrArg some (by kernel_rfl))
  t3 := Tryz.underlying3
  a3 := Tryz.isAgg3
  z3 := Tryz.sizeOf3
  v3 := Tryz.zeroValue3
  t4 := Tryz.underlying4
  a4 := Tryz.isAgg4
  z4 := Tryz.sizeOf4
  v4 := Tryz.zeroValue4
  t5 := Tryz.underlying5
  a5 := Tryz.isAgg5
  z5 := Tryz.sizeOf5
  v5 := Tryz.zeroValue5
  t9 := Tryz.underlying9
  a9 := Tryz.isAgg9
  z9 := Tryz.sizeOf9
  v9 := Tryz.zeroValue9
  t46 := Tryz.underlying237
  a46 := Tryz.isAgg237
  z46 := Tryz.sizeOf237
  v46 := Tryz.zeroValue237
  t51 := Tryz.underlying306
  a51 := Tryz.isAgg306
  z51 := Tryz.sizeOf306
  v51 := Tryz.zeroValue306
  t59 := Tryz.underlying141
  a59 := Tryz.isAgg141
  z59 := Tryz.sizeOf141
  v59 := Tryz.zeroValue141
  t146 := Tryz.underlying442
  a146 := Tryz.isAgg442
  z146 := Tryz.sizeOf442
  v146 := Tryz.zeroValue442
  g1 := by kernel_rfl }
open Go.RowKit Go.Lib in
theorem Tryz.strings_Cut (s sep : ByteArray) (m : Int) (w : World) (hs : s.size < 4294967281) (hm : w.cell? ⟨2, 0, none⟩ = some (.int .i64 m)) :
    Calls Tryz.prog 271 #[.string s, .string sep] w fun e w' => e = .returned (.tuple #[.string ⟨(Lib.cut s.data.toList sep.data.toList).1.toArray⟩, .string ⟨(Lib.cut s.data.toList sep.data.toList).2.1.toArray⟩, .bool (Lib.cut s.data.toList sep.data.toList).2.2]) ∧ ∃ n, w' = w.drewN n := Any.strings_Cut Tryz.lays145 s sep m w hs hm
def Tryz.laysM145_ren : Go.Shelf.Ren := ⟨fun | 145 => 271 | 220 => 364 | 219 => 412 | 217 => 387 | 225 => 456 | 224 => 457 | 267 => 458 | 266 => 443 | 314 => 487 | n => n, fun | 9 => 9 | 4 => 4 | 59 => 141 | 3 => 3 | 5 => 5 | 46 => 237 | 146 => 442 | 51 => 306 | n => n, fun | 1 => 2 | n => n⟩
theorem Tryz.laysM145 : Go.Proofs.LaysM.n145 Tryz.prog Tryz.laysM145_ren := {
  mixed := by kernel_rfl
  f145 := Tryz.func271.trans (congrArg some (by kernel_rfl))
  f217 := Tryz.func387.trans (congrArg some (by kernel_rfl))
  f219 := Tryz.func412.trans (congrArg some (by kernel_rfl))
  f220 := Tryz.func364.trans (congrArg some (by kernel_rfl))
  f224 := Tryz.func457.trans (congrArg some (by kernel_rfl))
  f225 := Tryz.func456.trans (congrArg some (by kernel_rfl))
  f266 := Tryz.func443.trans (congrArg some (by kernel_rfl))
  f267 := Tryz.func458.trans (congrArg some (by kernel_rfl))
  f314 := Tryz.func487.trans (congrArg some (by kernel_rfl))
  t3 := Tryz.underlying3
  a3 := Tryz.isAgg3
  z3 := Tryz.sizeOf3
  v3 := Tryz.zeroValue3
  t4 := Tryz.underlying4
  a4 := Tryz.isAgg4
  z4 := Tryz.sizeOf4
  v4 := Tryz.zeroValue4
  t5 := Tryz.underlying5
  a5 := Tryz.isAgg5
  z5 := Tryz.sizeOf5
  v5 := Tryz.zeroValue5
  t9 := Tryz.underlying9
  a9 := Tryz.isAgg9
  z9 := Tryz.sizeOf9
  v9 := Tryz.zeroValue9
  t46 := Tryz.underlying237
  a46 := Tryz.isAgg237
  z46 := Tryz.sizeOf237
  v46 := Tryz.zeroValue237
  t51 := Tryz.underlying306
  a51 := Tryz.isAgg306
  z51 := Tryz.sizeOf306
  v51 := Tryz.zeroValue306
  t59 := Tryz.underlying141
  a59 := Tryz.isAgg141
  z59 := Tryz.sizeOf141
  v59 := Tryz.zeroValue141
  t146 := Tryz.underlying442
  a146 := Tryz.isAgg442
  z146 := Tryz.sizeOf442
  v146 := Tryz.zeroValue442
  g1 := by kernel_rfl
  i3 := by kernel_rfl
  i4 := by kernel_rfl
  i5 := by kernel_rfl
  i9 := by kernel_rfl
  i46 := by kernel_rfl
  i51 := by kernel_rfl
  i59 := by kernel_rfl
  i146 := by kernel_rfl
  m1 := by kernel_rfl
  s1_3 := fun w h => Go.Proofs.cell_of_shapedOpen_int (zero := #[.int .i64 0]) (t := 3) h (of_decide_eq_true (by kernel_rfl)) (by kernel_rfl) rfl (by kernel_rfl) (by kernel_rfl) Tryz.underlying3 }
def Tryz.lays260_ren : Go.Shelf.Ren := ⟨fun | 260 => 446 | n => n, fun | 9 => 9 | 21 => 21 | 3 => 3 | 4 => 4 | 5 => 5 | 119 => 358 | 0 => 0 | 46 => 237 | 139 => 361 | 138 => 360 | n => n, fun | 3 => 0 | 4 => 1 | n => n⟩
theorem Tryz.lays260 : Go.Proofs.Lays.n260 Tryz.prog Tryz.lays260_ren := {
  mixed := by kernel_rfl
  f260 := Tryz.func446.trans (congrArg some (by kernel_rfl))
  t0 := Tryz.underlying0
  a0 := Tryz.isAgg0
  z0 := Tryz.sizeOf0
  v0 := Tryz.zeroValue0
  t3 := Tryz.underlying3
  a3 := Tryz.isAgg3
  z3 := Tryz.sizeOf3
  v3 := Tryz.zeroValue3
  t4 := Tryz.underlying4
  a4 := Tryz.isAgg4
  z4 := Tryz.sizeOf4
  v4 := Tryz.zeroValue4
  t5 := Tryz.underlying5
  a5 := Tryz.isAgg5
  z5 := Tryz.sizeOf5
  v5 := Tryz.zeroValue5
  t9 := Tryz.underlying9
  a9 := Tryz.isAgg9
  z9 := Tryz.sizeOf9
  v9 := Tryz.zeroValue9
  t21 := Tryz.underlying21
  a21 := Tryz.isAgg21
  z21 := Tryz.sizeOf21
  v21 := Tryz.zeroValue21
  t46 := Tryz.underlying237
  a46 := Tryz.isAgg237
  z46 := Tryz.sizeOf237
  v46 := Tryz.zeroValue237
  t119 := Tryz.underlying358
  a119 := Tryz.isAgg358
  z119 := Tryz.sizeOf358
  t138 := Tryz.underlying360
  a138 := Tryz.isAgg360
  z138 := Tryz.sizeOf360
  v138 := Tryz.zeroValue360
  t139 := Tryz.underlying361
  a139 := Tryz.isAgg361
  z139 := Tryz.sizeOf361
  v139 := Tryz.zeroValue361
  g3 := by kernel_rfl
  g4 := by kernel_rfl }
end Go.Proofs

/- A walk begun. -/
namespace Go.Proofs.YtifcganfcjildaaGreatDoor.E
open Go Go.RowKit
set_option linter.unusedVariables false
set_option linter.unusedSimpArgs false
set_option linter.unnecessarySimpa false
noncomputable section

section
variable {P : Program} {n0 : Nat} {w0 : World} {lm : Nat} {φ : Map} {s s' : HS} {w : World}
theorem newIt_sound (h : Rel n0 w0 lm φ s w) {o : AO} {b : Obj} {r : AV} (ho : o.own = true) (hb : ∀ ψ, φ.le ψ → OR ψ o b ⟨w.heap.size, 0, 0⟩) (hr : ((Fr.new o).bind fun h => .ret (AV.ptr h 0)).run s = some (r, s')) (hm : s'.next ≤ lm) :
    ∃ ψ, Ext s.next s'.next φ ψ ∧ Rel n0 w0 lm ψ s' (w.alloc b) ∧ VR ψ r (.pointer (some ⟨w.heap.size, 0, none⟩)) := by
  obtain ⟨g, s1, k1, k2⟩ := Fr.bind_run hr
  obtain ⟨rfl, rfl⟩ := Fr.ret_run k2
  obtain ⟨e1, e2, e3, e4⟩ := h.new k1 hm b 0 0 ho (hb _ (h.ext_add (by have := (Fr.new_run k1).2.1; omega) _).le)
  refine ⟨_, e3, e4, ?_⟩
  have := VR.ptr (φ := φ.add s.next ⟨w.heap.size, 0, 0⟩) (h := g) (off := 0) (p := ⟨w.heap.size, 0, 0⟩) (by rw [e1]; simp [Map.add])
  simpa using this
theorem rangeA_sound (h : Rel n0 w0 lm φ s w) {t : TypeId} {x r : AV} {X : Value} (hx : VR φ x X) (hr : (rangeA P t x).run s = some (r, s')) (hm : s'.next ≤ lm) : Ans P n0 w0 lm φ s s' r (Instr.range t X) w := by
  unfold rangeA at hr
  cases hu : P.underlying t with
  | none => rw [hu] at hr; cases hr
  | some d =>
    rw [hu] at hr
    cases d with
    | string =>
      cases hx with
      | @str l b he =>
        obtain ⟨ψ, a1, a2, a3⟩ := newIt_sound (b := .stringIter b 0) h rfl (fun ψ _ => .sit rfl he) hr hm
        exact ⟨ψ, _, _, by simp [Instr.range, run_underlying hu, newObj, Sem.run], a1, a2, a3⟩
      | _ => cases hr
    | map k e =>
      cases hx with
      | nilm =>
        obtain ⟨ψ, a1, a2, a3⟩ := newIt_sound (b := .mapIter none 0 #[] 0) h rfl (fun ψ _ => .mit0 (seen := #[]) rfl) hr hm
        exact ⟨ψ, _, _, by simp [Instr.range, run_underlying hu, newObj, Sem.run], a1, a2, a3⟩
      | map hp =>
        obtain ⟨⟨es, c⟩, s1, h1, h2⟩ := Fr.bind_run hr
        obtain ⟨r1, q1, q2, q3, p, E, q4, q5, q6⟩ := mapOf_sound h h1
        obtain rfl := Option.some.inj (q4.symm.trans hp)
        have hg : (getObj p.b).run P w = .ok (.map E c) w := by simp [getObj, Sem.run, q5]
        obtain ⟨ψ, a1, a2, a3⟩ := newIt_sound (b := .mapIter (some p.b) c #[] c) r1 rfl (fun ψ hle => .mit (seen := #[]) rfl (hle _ _ q4)) h2 hm
        exact ⟨ψ, _, _, by simp [Instr.range, run_underlying hu, hg, newObj, Sem.run], by rw [← q2]; exact a1, a2, a3⟩
      | _ => cases hr
    | _ => cases hr
end
end
end Go.Proofs.YtifcganfcjildaaGreatDoor.E

/- A walk's next step along a text. -/
namespace Go.Proofs.YtifcganfcjildaaGreatDoor.E
open Go Go.RowKit
set_option linter.unusedVariables false
set_option linter.unusedSimpArgs false
set_option linter.unnecessarySimpa false
noncomputable section

theorem bytesOf_eq (b : ByteArray) : bytesOf (b.data.toList.map (·.toNat)) = b := by
  unfold bytesOf
  have : ((b.data.toList.map (·.toNat)).map UInt8.ofNat).toArray = b.data := by
    apply Array.toList_inj.1
    rw [List.map_map]
    have hf : (UInt8.ofNat ∘ fun x : UInt8 => x.toNat) = id := by funext x; simp
    rw [hf]
    simp
  rw [this]
section
variable {P : Program} {n0 : Nat} {w0 : World} {lm : Nat} {φ : Map} {s s' : HS} {w : World}
theorem nextStr_sound (h : Rel n0 w0 lm φ s w) {x r : AV} {X : Value} {ty : TypeId} (hx : VR φ x X) (hr : (nextA x true).run s = some (r, s')) : Ans P n0 w0 lm φ s s' r (Instr.next X true ty) w := by
  unfold nextA at hr
  split at hr
  · next hh _ _ =>
    cases hx with
    | @ptr _ _ p hp =>
      obtain ⟨o, s1, h1, h2⟩ := Fr.bind_run hr
      obtain ⟨g1, g2, g3⟩ := Fr.get_run h1
      cases o with
      | sit l pos =>
        obtain ⟨p', b, q1, q2, q3, q4, q5⟩ := h.objs _ _ g1 rfl
        obtain rfl := Option.some.inj (q1.symm.trans hp)
        cases q3 with
        | @sit _ bs _ _ hd he =>
          have hg : (getObj p'.b).run P w = .ok (.stringIter bs pos) w := by simp [getObj, Sem.run, q2]
          subst he
          have hlen : (bs.data.toList.map (·.toNat)).length = bs.size := by simp
          dsimp only at h2
          cases hb : Nat.blt pos (bs.data.toList.map (·.toNat)).length with
          | false =>
            rw [hb] at h2
            obtain ⟨rfl, rfl⟩ := Fr.ret_run h2
            have hlt : ¬ pos < bs.size := by
              rw [← hlen]; intro hh
              have : Nat.blt pos (bs.data.toList.map (·.toNat)).length = true := by rw [Nat.blt_eq]; exact hh
              rw [this] at hb; cases hb
            exact ⟨φ, w, .tuple #[.bool false], by simp [Instr.next, hd, hg, hlt], by rw [g3]; exact Ext.refl _ _ _, h.heap g2 g3, .tup (.cons (.bool _) .nil)⟩
          | true =>
            rw [hb] at h2
            have hlt : pos < bs.size := by rw [← hlen]; rw [Nat.blt_eq] at hb; exact hb
            dsimp only at h2
            rw [bytesOf_eq] at h2
            obtain ⟨u, s2, k1, k2⟩ := Fr.bind_run h2
            obtain ⟨rfl, rfl⟩ := Fr.ret_run k2
            obtain ⟨a1, a2⟩ := (h.heap g2 g3).set k1 (by rw [g2]; exact g1) rfl rfl hp (.stringIter bs (pos + (Utf8.decode bs pos).2)) (.sit hd rfl)
            have hset : (setObj p'.b (.stringIter bs (pos + (Utf8.decode bs pos).2))).run P w = .ok () (w.putObj p'.b (.stringIter bs (pos + (Utf8.decode bs pos).2))) := by simp [setObj, Sem.run, q2, World.putObj]
            exact ⟨φ, _, .tuple #[.bool true, .int .i64 pos, .int .i32 (Utf8.decode bs pos).1], by simp [Instr.next, hd, hg, hlt, hset, goInt], by rw [a1, g3]; exact Ext.refl _ _ _, a2, .tup (.cons (.bool _) (.cons (.int _ _) (.cons (.int _ _) .nil)))⟩
      | _ => cases h2
  · rename_i q; first | (cases q; done) | (exfalso; simp_all; done) | contradiction
  · cases hr
end
end
end Go.Proofs.YtifcganfcjildaaGreatDoor.E

