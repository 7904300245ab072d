/- HandDefault: a text of this claim's proof, as printed or written, without what the claim does not use. -/
import Derived.WalkKit
import Derived.WalkSpells
import Derived.Lib.Hide
import Derived.Deep.RegionLaw
import Derived.BigQuiet
import Derived.Deep.QuietTactic
import Derived.Test.YtodhmbnfliajiaaDoorJ5
import Derived.Test.YtodhmbnfliajiaaDoorPureOrders
import Derived.Test.YtodhmbnfliajiaaDoorHandUser
import Derived.Test.YtodhmbnfliajiaaDoorHandInsert
import Derived.Test.YtodhmbnfliajiaaDoorQx0
import Derived.Test.YtodhmbnfliajiaaDoorQx6
namespace Go.Proofs.YtodhmbnfliajiaaDoor.Q
open Go.RowKit Go.Proofs.YtodhmbnfliajiaaDoorW.PrintWords Go.Proofs.YtodhmbnfliajiaaDoorW.PrintLast Go.Proofs.YtodhmbnfliajiaaDoorW.PrintMore
set_option linter.unusedVariables false
set_option linter.unusedSimpArgs false
def RowC (xs : List S38) : World → Value → Prop := fun w v => ∃ A c, v = .slice A xs.length c ∧ xs.length ≤ c ∧ Kd.C k38 w A xs.length xs
def EltC (x : S51) : World → Value → Prop := fun w v => ∃ A c, v = .agg #[.int .i64 x.f0, .string x.f1, .bool x.f2, .slice A x.f3.length c, .bool x.f4, .bool x.f5] ∧ x.f3.length ≤ c ∧ Kd.C k38 w A x.f3.length x.f3
def CondC (x : S38) : World → Value → Prop := fun _ v => v = .agg #[.string x.f0, .string x.f1, .string x.f2, .int .i64 x.f3]
def RulesC (xs : List S51) : World → Value → Prop := fun w v => ∃ A c, v = .slice A xs.length c ∧ xs.length ≤ c ∧ c = xs.length ∧ Kd.C k51 w A xs.length xs
def Lasts (s : World → Value → Prop) : Prop := ∀ w w' v, Below w.heap.size w w' → s w v → s w' v
theorem RowC.lasts (xs) : Lasts (RowC xs) := fun w w' v hb ⟨A, c, h1, h2, h3⟩ => ⟨A, c, h1, h2, Kd.C_below h3 hb⟩
theorem EltC.lasts (x) : Lasts (EltC x) := fun w w' v hb ⟨A, c, h1, h2, h3⟩ => ⟨A, c, h1, h2, Kd.C_below h3 hb⟩
theorem CondC.lasts (x) : Lasts (CondC x) := fun w w' v hb h => h
theorem RulesC.lasts (xs) : Lasts (RulesC xs) := fun w w' v hb ⟨A, c, h1, h2, h4, h3⟩ => ⟨A, c, h1, h2, h4, Kd.C_below h3 hb⟩
def r0 : S51 := (⟨1, (⟨#[46, 109, 46, 114, 117, 108, 101, 46, 109, 97, 115, 116, 101, 114]⟩ : ByteArray), true, ([] : List S38), false, false⟩ : S51)
def r1 : S51 := (⟨1, (⟨#[46, 109, 46, 114, 117, 108, 101, 46, 115, 117, 112, 112, 114, 101, 115, 115, 95, 110, 111, 116, 105, 99, 101, 115]⟩ : ByteArray), false, ([(⟨(⟨#[101, 118, 101, 110, 116, 95, 109, 97, 116, 99, 104]⟩ : ByteArray), (⟨#[99, 111, 110, 116, 101, 110, 116, 46, 109, 115, 103, 116, 121, 112, 101]⟩ : ByteArray), (⟨#[109, 46, 110, 111, 116, 105, 99, 101]⟩ : ByteArray), 0⟩ : S38)] : List S38), false, false⟩ : S51)
def r2 (user : ByteArray) : S51 := (⟨1, (⟨#[46, 109, 46, 114, 117, 108, 101, 46, 105, 110, 118, 105, 116, 101, 95, 102, 111, 114, 95, 109, 101]⟩ : ByteArray), false, ([(⟨(⟨#[101, 118, 101, 110, 116, 95, 109, 97, 116, 99, 104]⟩ : ByteArray), (⟨#[116, 121, 112, 101]⟩ : ByteArray), (⟨#[109, 46, 114, 111, 111, 109, 46, 109, 101, 109, 98, 101, 114]⟩ : ByteArray), 0⟩ : S38), (⟨(⟨#[101, 118, 101, 110, 116, 95, 109, 97, 116, 99, 104]⟩ : ByteArray), (⟨#[99, 111, 110, 116, 101, 110, 116, 46, 109, 101, 109, 98, 101, 114, 115, 104, 105, 112]⟩ : ByteArray), (⟨#[105, 110, 118, 105, 116, 101]⟩ : ByteArray), 0⟩ : S38), (⟨(⟨#[101, 118, 101, 110, 116, 95, 112, 114, 111, 112, 101, 114, 116, 121, 95, 105, 115]⟩ : ByteArray), (⟨#[115, 116, 97, 116, 101, 95, 107, 101, 121]⟩ : ByteArray), user, 0⟩ : S38)] : List S38), true, false⟩ : S51)
def r3 : S51 := (⟨1, (⟨#[46, 109, 46, 114, 117, 108, 101, 46, 99, 111, 110, 116, 97, 105, 110, 115, 95, 100, 105, 115, 112, 108, 97, 121, 95, 110, 97, 109, 101]⟩ : ByteArray), false, ([(⟨(⟨#[99, 111, 110, 116, 97, 105, 110, 115, 95, 100, 105, 115, 112, 108, 97, 121, 95, 110, 97, 109, 101]⟩ : ByteArray), (⟨#[]⟩ : ByteArray), (⟨#[]⟩ : ByteArray), 0⟩ : S38)] : List S38), true, true⟩ : S51)
def r4 : S51 := (⟨1, (⟨#[46, 109, 46, 114, 117, 108, 101, 46, 114, 111, 111, 109, 110, 111, 116, 105, 102]⟩ : ByteArray), false, ([(⟨(⟨#[101, 118, 101, 110, 116, 95, 109, 97, 116, 99, 104]⟩ : ByteArray), (⟨#[99, 111, 110, 116, 101, 110, 116, 46, 98, 111, 100, 121]⟩ : ByteArray), (⟨#[64, 114, 111, 111, 109]⟩ : ByteArray), 0⟩ : S38), (⟨(⟨#[115, 101, 110, 100, 101, 114, 95, 110, 111, 116, 105, 102, 105, 99, 97, 116, 105, 111, 110, 95, 112, 101, 114, 109, 105, 115, 115, 105, 111, 110]⟩ : ByteArray), (⟨#[]⟩ : ByteArray), (⟨#[]⟩ : ByteArray), 50⟩ : S38)] : List S38), true, true⟩ : S51)
def r5 : S51 := (⟨5, (⟨#[46, 109, 46, 114, 117, 108, 101, 46, 114, 111, 111, 109, 95, 111, 110, 101, 95, 116, 111, 95, 111, 110, 101]⟩ : ByteArray), false, ([(⟨(⟨#[114, 111, 111, 109, 95, 109, 101, 109, 98, 101, 114, 95, 99, 111, 117, 110, 116]⟩ : ByteArray), (⟨#[]⟩ : ByteArray), (⟨#[50]⟩ : ByteArray), 0⟩ : S38), (⟨(⟨#[101, 118, 101, 110, 116, 95, 109, 97, 116, 99, 104]⟩ : ByteArray), (⟨#[116, 121, 112, 101]⟩ : ByteArray), (⟨#[109, 46, 114, 111, 111, 109, 46, 109, 101, 115, 115, 97, 103, 101]⟩ : ByteArray), 0⟩ : S38)] : List S38), true, false⟩ : S51)
def r6 : S51 := (⟨5, (⟨#[46, 109, 46, 114, 117, 108, 101, 46, 109, 101, 115, 115, 97, 103, 101]⟩ : ByteArray), false, ([(⟨(⟨#[101, 118, 101, 110, 116, 95, 109, 97, 116, 99, 104]⟩ : ByteArray), (⟨#[116, 121, 112, 101]⟩ : ByteArray), (⟨#[109, 46, 114, 111, 111, 109, 46, 109, 101, 115, 115, 97, 103, 101]⟩ : ByteArray), 0⟩ : S38)] : List S38), true, false⟩ : S51)
def baseRules (user : ByteArray) : List S51 := [r0, r1, r2 user, r3, r4, r5, r6]
set_option maxRecDepth 100000 in
theorem when_any (v : Value) (w : World) : Calls Tryd.prog 17 #[v] w fun e w' => e = .returned v ∧ w' = w := by
  go_enter Tryd.func17, Tryd.ntmps17
  go_wp2
  go_ret
  exact ⟨rfl, rfl⟩
theorem match_any (x y : ByteArray) (w : World) : Calls Tryd.prog 16 #[.string x, .string y] w fun e w' => CondC ⟨(⟨#[101, 118, 101, 110, 116, 95, 109, 97, 116, 99, 104]⟩ : ByteArray), x, y, 0⟩ w' (.agg #[.string (⟨#[101, 118, 101, 110, 116, 95, 109, 97, 116, 99, 104]⟩ : ByteArray), .string x, .string y, .int .i64 0]) ∧ e = .returned (.agg #[.string (⟨#[101, 118, 101, 110, 116, 95, 109, 97, 116, 99, 104]⟩ : ByteArray), .string x, .string y, .int .i64 0]) ∧ Below w.heap.size w w' :=
  (push_match.calls x y _ _ _ _ w rfl).mono fun e w' h => ⟨rfl, h⟩
def defSpecs (u : ByteArray) : List (World → Value → Prop) := [EltC r0,
  CondC (⟨(⟨#[101, 118, 101, 110, 116, 95, 109, 97, 116, 99, 104]⟩ : ByteArray), (⟨#[99, 111, 110, 116, 101, 110, 116, 46, 109, 115, 103, 116, 121, 112, 101]⟩ : ByteArray), (⟨#[109, 46, 110, 111, 116, 105, 99, 101]⟩ : ByteArray), 0⟩ : S38),
  RowC [(⟨(⟨#[101, 118, 101, 110, 116, 95, 109, 97, 116, 99, 104]⟩ : ByteArray), (⟨#[99, 111, 110, 116, 101, 110, 116, 46, 109, 115, 103, 116, 121, 112, 101]⟩ : ByteArray), (⟨#[109, 46, 110, 111, 116, 105, 99, 101]⟩ : ByteArray), 0⟩ : S38)],
  RowC [(⟨(⟨#[101, 118, 101, 110, 116, 95, 109, 97, 116, 99, 104]⟩ : ByteArray), (⟨#[99, 111, 110, 116, 101, 110, 116, 46, 109, 115, 103, 116, 121, 112, 101]⟩ : ByteArray), (⟨#[109, 46, 110, 111, 116, 105, 99, 101]⟩ : ByteArray), 0⟩ : S38)],
  EltC r1,
  CondC (⟨(⟨#[101, 118, 101, 110, 116, 95, 109, 97, 116, 99, 104]⟩ : ByteArray), (⟨#[116, 121, 112, 101]⟩ : ByteArray), (⟨#[109, 46, 114, 111, 111, 109, 46, 109, 101, 109, 98, 101, 114]⟩ : ByteArray), 0⟩ : S38),
  CondC (⟨(⟨#[101, 118, 101, 110, 116, 95, 109, 97, 116, 99, 104]⟩ : ByteArray), (⟨#[99, 111, 110, 116, 101, 110, 116, 46, 109, 101, 109, 98, 101, 114, 115, 104, 105, 112]⟩ : ByteArray), (⟨#[105, 110, 118, 105, 116, 101]⟩ : ByteArray), 0⟩ : S38),
  CondC (⟨(⟨#[101, 118, 101, 110, 116, 95, 112, 114, 111, 112, 101, 114, 116, 121, 95, 105, 115]⟩ : ByteArray), (⟨#[115, 116, 97, 116, 101, 95, 107, 101, 121]⟩ : ByteArray), u, 0⟩ : S38),
  RowC [(⟨(⟨#[101, 118, 101, 110, 116, 95, 109, 97, 116, 99, 104]⟩ : ByteArray), (⟨#[116, 121, 112, 101]⟩ : ByteArray), (⟨#[109, 46, 114, 111, 111, 109, 46, 109, 101, 109, 98, 101, 114]⟩ : ByteArray), 0⟩ : S38), (⟨(⟨#[101, 118, 101, 110, 116, 95, 109, 97, 116, 99, 104]⟩ : ByteArray), (⟨#[99, 111, 110, 116, 101, 110, 116, 46, 109, 101, 109, 98, 101, 114, 115, 104, 105, 112]⟩ : ByteArray), (⟨#[105, 110, 118, 105, 116, 101]⟩ : ByteArray), 0⟩ : S38), (⟨(⟨#[101, 118, 101, 110, 116, 95, 112, 114, 111, 112, 101, 114, 116, 121, 95, 105, 115]⟩ : ByteArray), (⟨#[115, 116, 97, 116, 101, 95, 107, 101, 121]⟩ : ByteArray), u, 0⟩ : S38)],
  RowC [(⟨(⟨#[101, 118, 101, 110, 116, 95, 109, 97, 116, 99, 104]⟩ : ByteArray), (⟨#[116, 121, 112, 101]⟩ : ByteArray), (⟨#[109, 46, 114, 111, 111, 109, 46, 109, 101, 109, 98, 101, 114]⟩ : ByteArray), 0⟩ : S38), (⟨(⟨#[101, 118, 101, 110, 116, 95, 109, 97, 116, 99, 104]⟩ : ByteArray), (⟨#[99, 111, 110, 116, 101, 110, 116, 46, 109, 101, 109, 98, 101, 114, 115, 104, 105, 112]⟩ : ByteArray), (⟨#[105, 110, 118, 105, 116, 101]⟩ : ByteArray), 0⟩ : S38), (⟨(⟨#[101, 118, 101, 110, 116, 95, 112, 114, 111, 112, 101, 114, 116, 121, 95, 105, 115]⟩ : ByteArray), (⟨#[115, 116, 97, 116, 101, 95, 107, 101, 121]⟩ : ByteArray), u, 0⟩ : S38)],
  EltC (r2 u),
  CondC (⟨(⟨#[99, 111, 110, 116, 97, 105, 110, 115, 95, 100, 105, 115, 112, 108, 97, 121, 95, 110, 97, 109, 101]⟩ : ByteArray), (⟨#[]⟩ : ByteArray), (⟨#[]⟩ : ByteArray), 0⟩ : S38),
  RowC [(⟨(⟨#[99, 111, 110, 116, 97, 105, 110, 115, 95, 100, 105, 115, 112, 108, 97, 121, 95, 110, 97, 109, 101]⟩ : ByteArray), (⟨#[]⟩ : ByteArray), (⟨#[]⟩ : ByteArray), 0⟩ : S38)],
  RowC [(⟨(⟨#[99, 111, 110, 116, 97, 105, 110, 115, 95, 100, 105, 115, 112, 108, 97, 121, 95, 110, 97, 109, 101]⟩ : ByteArray), (⟨#[]⟩ : ByteArray), (⟨#[]⟩ : ByteArray), 0⟩ : S38)],
  EltC r3,
  CondC (⟨(⟨#[101, 118, 101, 110, 116, 95, 109, 97, 116, 99, 104]⟩ : ByteArray), (⟨#[99, 111, 110, 116, 101, 110, 116, 46, 98, 111, 100, 121]⟩ : ByteArray), (⟨#[64, 114, 111, 111, 109]⟩ : ByteArray), 0⟩ : S38),
  CondC (⟨(⟨#[115, 101, 110, 100, 101, 114, 95, 110, 111, 116, 105, 102, 105, 99, 97, 116, 105, 111, 110, 95, 112, 101, 114, 109, 105, 115, 115, 105, 111, 110]⟩ : ByteArray), (⟨#[]⟩ : ByteArray), (⟨#[]⟩ : ByteArray), 50⟩ : S38),
  RowC [(⟨(⟨#[101, 118, 101, 110, 116, 95, 109, 97, 116, 99, 104]⟩ : ByteArray), (⟨#[99, 111, 110, 116, 101, 110, 116, 46, 98, 111, 100, 121]⟩ : ByteArray), (⟨#[64, 114, 111, 111, 109]⟩ : ByteArray), 0⟩ : S38), (⟨(⟨#[115, 101, 110, 100, 101, 114, 95, 110, 111, 116, 105, 102, 105, 99, 97, 116, 105, 111, 110, 95, 112, 101, 114, 109, 105, 115, 115, 105, 111, 110]⟩ : ByteArray), (⟨#[]⟩ : ByteArray), (⟨#[]⟩ : ByteArray), 50⟩ : S38)],
  RowC [(⟨(⟨#[101, 118, 101, 110, 116, 95, 109, 97, 116, 99, 104]⟩ : ByteArray), (⟨#[99, 111, 110, 116, 101, 110, 116, 46, 98, 111, 100, 121]⟩ : ByteArray), (⟨#[64, 114, 111, 111, 109]⟩ : ByteArray), 0⟩ : S38), (⟨(⟨#[115, 101, 110, 100, 101, 114, 95, 110, 111, 116, 105, 102, 105, 99, 97, 116, 105, 111, 110, 95, 112, 101, 114, 109, 105, 115, 115, 105, 111, 110]⟩ : ByteArray), (⟨#[]⟩ : ByteArray), (⟨#[]⟩ : ByteArray), 50⟩ : S38)],
  EltC r4,
  CondC (⟨(⟨#[114, 111, 111, 109, 95, 109, 101, 109, 98, 101, 114, 95, 99, 111, 117, 110, 116]⟩ : ByteArray), (⟨#[]⟩ : ByteArray), (⟨#[50]⟩ : ByteArray), 0⟩ : S38),
  CondC (⟨(⟨#[101, 118, 101, 110, 116, 95, 109, 97, 116, 99, 104]⟩ : ByteArray), (⟨#[116, 121, 112, 101]⟩ : ByteArray), (⟨#[109, 46, 114, 111, 111, 109, 46, 109, 101, 115, 115, 97, 103, 101]⟩ : ByteArray), 0⟩ : S38),
  RowC [(⟨(⟨#[114, 111, 111, 109, 95, 109, 101, 109, 98, 101, 114, 95, 99, 111, 117, 110, 116]⟩ : ByteArray), (⟨#[]⟩ : ByteArray), (⟨#[50]⟩ : ByteArray), 0⟩ : S38), (⟨(⟨#[101, 118, 101, 110, 116, 95, 109, 97, 116, 99, 104]⟩ : ByteArray), (⟨#[116, 121, 112, 101]⟩ : ByteArray), (⟨#[109, 46, 114, 111, 111, 109, 46, 109, 101, 115, 115, 97, 103, 101]⟩ : ByteArray), 0⟩ : S38)],
  RowC [(⟨(⟨#[114, 111, 111, 109, 95, 109, 101, 109, 98, 101, 114, 95, 99, 111, 117, 110, 116]⟩ : ByteArray), (⟨#[]⟩ : ByteArray), (⟨#[50]⟩ : ByteArray), 0⟩ : S38), (⟨(⟨#[101, 118, 101, 110, 116, 95, 109, 97, 116, 99, 104]⟩ : ByteArray), (⟨#[116, 121, 112, 101]⟩ : ByteArray), (⟨#[109, 46, 114, 111, 111, 109, 46, 109, 101, 115, 115, 97, 103, 101]⟩ : ByteArray), 0⟩ : S38)],
  EltC r5,
  CondC (⟨(⟨#[101, 118, 101, 110, 116, 95, 109, 97, 116, 99, 104]⟩ : ByteArray), (⟨#[116, 121, 112, 101]⟩ : ByteArray), (⟨#[109, 46, 114, 111, 111, 109, 46, 109, 101, 115, 115, 97, 103, 101]⟩ : ByteArray), 0⟩ : S38),
  RowC [(⟨(⟨#[101, 118, 101, 110, 116, 95, 109, 97, 116, 99, 104]⟩ : ByteArray), (⟨#[116, 121, 112, 101]⟩ : ByteArray), (⟨#[109, 46, 114, 111, 111, 109, 46, 109, 101, 115, 115, 97, 103, 101]⟩ : ByteArray), 0⟩ : S38)],
  RowC [(⟨(⟨#[101, 118, 101, 110, 116, 95, 109, 97, 116, 99, 104]⟩ : ByteArray), (⟨#[116, 121, 112, 101]⟩ : ByteArray), (⟨#[109, 46, 114, 111, 111, 109, 46, 109, 101, 115, 115, 97, 103, 101]⟩ : ByteArray), 0⟩ : S38)],
  EltC r6,
  RulesC (baseRules u),
  RulesC (baseRules u)]
def defV (u : ByteArray) (i : Nat) : World → Value → Prop := (defSpecs u).getD i fun _ _ => True
theorem defV_lasts (u : ByteArray) (i : Nat) (w w' : World) (v : Value) (hb : Below w.heap.size w w') (h : defV u i w v) : defV u i w' v := by
  have key : ∀ s ∈ defSpecs u, Lasts s := by
    intro s hs
    simp only [defSpecs, List.mem_cons, List.not_mem_nil, or_false] at hs
    repeat (rcases hs with rfl | hs; first | exact RowC.lasts _ | exact EltC.lasts _ | exact CondC.lasts _ | exact RulesC.lasts _)
  unfold defV at h ⊢
  rw [List.getD_eq_getElem?_getD] at h ⊢
  cases hx : (defSpecs u)[i]? with
  | none => trivial
  | some s =>
    rw [hx] at h
    exact key s (List.mem_of_getElem? hx) w w' v hb h
def defSlots : List Nat := [13, 14, 15, 16, 17, 18, 19, 20, 21, 22, 23, 24, 25, 26, 27, 28, 29, 30, 31, 32, 33, 34, 35, 36, 37, 38, 39, 40, 41, 42, 5]
theorem range60 (f : Nat → Value) : (List.range 60).map f = [f 0, f 1, f 2, f 3, f 4, f 5, f 6, f 7, f 8, f 9, f 10, f 11, f 12, f 13, f 14, f 15, f 16, f 17, f 18, f 19, f 20, f 21, f 22, f 23, f 24, f 25, f 26, f 27, f 28, f 29, f 30, f 31, f 32, f 33, f 34, f 35, f 36, f 37, f 38, f 39, f 40, f 41, f 42, f 43, f 44, f 45, f 46, f 47, f 48, f 49, f 50, f 51, f 52, f 53, f 54, f 55, f 56, f 57, f 58, f 59] := by
  have h : List.range 60 = [0, 1, 2, 3, 4, 5, 6, 7, 8, 9, 10, 11, 12, 13, 14, 15, 16, 17, 18, 19, 20, 21, 22, 23, 24, 25, 26, 27, 28, 29, 30, 31, 32, 33, 34, 35, 36, 37, 38, 39, 40, 41, 42, 43, 44, 45, 46, 47, 48, 49, 50, 51, 52, 53, 54, 55, 56, 57, 58, 59] := by decide
  rw [h]
  rfl
theorem arr60 (t : Array Value) (h : t.size = 60) : ∃ f : Nat → Value, t = #[f 0, f 1, f 2, f 3, f 4, f 5, f 6, f 7, f 8, f 9, f 10, f 11, f 12, f 13, f 14, f 15, f 16, f 17, f 18, f 19, f 20, f 21, f 22, f 23, f 24, f 25, f 26, f 27, f 28, f 29, f 30, f 31, f 32, f 33, f 34, f 35, f 36, f 37, f 38, f 39, f 40, f 41, f 42, f 43, f 44, f 45, f 46, f 47, f 48, f 49, f 50, f 51, f 52, f 53, f 54, f 55, f 56, f 57, f 58, f 59] ∧ ∀ k, k < 60 → t.getD k undef = f k := by
  have key : t = ((List.range 60).map fun k => t.getD k undef).toArray := by
    apply Array.ext'
    apply List.ext_getElem?
    intro i
    rw [List.getElem?_map]
    by_cases hi : i < 60
    · rw [List.getElem?_range hi, Array.getElem?_toList, Array.getElem?_eq_getElem (by omega)]
      simp [show i < t.size by omega]
    · rw [List.getElem?_eq_none (by simp; omega), List.getElem?_eq_none (by simp; omega)]
      rfl
  exact ⟨fun k => t.getD k undef, key.trans (congrArg List.toArray (range60 _)), fun _ _ => rfl⟩
theorem ev_of {a : Act} {t : Nat} {v : Value} (h : a.eval (.tmp t) = v) : a.tmps[t]?.getD undef = v := by
  rw [← Array.getD_eq_getD_getElem?]; exact h
def ownCond (u : ByteArray) : S38 := (⟨(⟨#[101, 118, 101, 110, 116, 95, 109, 97, 116, 99, 104]⟩ : ByteArray), (⟨#[99, 111, 110, 116, 101, 110, 116, 46, 98, 111, 100, 121]⟩ : ByteArray), (userB u).1, 0⟩ : S38)
def ownRule (u : ByteArray) : S51 := (⟨2, (⟨#[46, 109, 46, 114, 117, 108, 101, 46, 99, 111, 110, 116, 97, 105, 110, 115, 95, 117, 115, 101, 114, 95, 110, 97, 109, 101]⟩ : ByteArray), false, [ownCond u], true, true⟩ : S51)
def defaultRules (u : ByteArray) : List S51 := if (userB u).2.2 then (baseRules u).take 5 ++ [ownRule u] ++ (baseRules u).drop 5 else baseRules u
set_option maxRecDepth 100000 in
set_option maxHeartbeats 4000000 in
theorem default_calls (u : ByteArray) (w : World) (hT : Tabs w) (hs : u.size < 4294967281) :
    Calls Tryd.prog 8 #[.string u] w fun e w' => ∃ A c, e = .returned (.slice A (defaultRules u).length c) ∧ (defaultRules u).length ≤ c ∧ Kd.C k51 w' A (defaultRules u).length (defaultRules u) ∧ Below w.heap.size w w' := by
  have hu := Tryd.underlying38
  have hM := fun x y W => match_any x y W
  have HM := Lib.hid hM
  clear hM
  go_enter Tryd.func8, Tryd.ntmps8
  go_wp2_with (first | (go_at_call 16; refine (HM.out _ _ _).mono ?_; rintro e w1 ⟨-, rfl, hb1⟩; have HB1 := Lib.hid hb1; clear hb1) | ((with_reducible refine gate_dst (N := 3) rfl ?_); refine box_event ?hg (N := 3) ?hd (cs := #[.string (⟨#[]⟩ : ByteArray), .string (⟨#[]⟩ : ByteArray), .string (⟨#[]⟩ : ByteArray), .int .i64 0]) (t := 38) ?hr ?_; (case hd => rfl); (case hg => rfl); (case hr => first | (go_simp; done) | (go_simp; rfl)); intro g3 hg3 w3 hk3 hb3; (have hn3 : w.heap.size ≤ g3 := by (rw [hg3]; exact below_size HB1.out)); have HN3 := Lib.hid hn3; have HK3 := Lib.hid hk3; have HB3 := Lib.hid (below_step HB1.out hb3); have cg30 : w3.cell? ⟨g3, 0, none⟩ = some _ := (blk_cell hk3 0).trans rfl; have fg30 := blk_frozen hk3 0; have cg31 : w3.cell? ⟨g3, 1, none⟩ = some _ := (blk_cell hk3 1).trans rfl; have fg31 := blk_frozen hk3 1; have cg32 : w3.cell? ⟨g3, 2, none⟩ = some _ := (blk_cell hk3 2).trans rfl; have fg32 := blk_frozen hk3 2; have cg33 : w3.cell? ⟨g3, 3, none⟩ = some _ := (blk_cell hk3 3).trans rfl; have fg33 := blk_frozen hk3 3;  clear hk3 hb3 hg3 hn3) | ((with_reducible refine gate_dst (N := 4) rfl ?_); refine box_event ?hg (N := 4) ?hd (cs := #[.string (⟨#[]⟩ : ByteArray), .string (⟨#[]⟩ : ByteArray), .string (⟨#[]⟩ : ByteArray), .int .i64 0]) (t := 38) ?hr ?_; (case hd => rfl); (case hg => rfl); (case hr => first | (go_simp; done) | (go_simp; rfl)); intro g4 hg4 w4 hk4 hb4; (have key : ∃ wp : World, Below w.heap.size w wp ∧ wp.heap[g3]? = some (.cells #[.string (⟨#[101, 118, 101, 110, 116, 95, 109, 97, 116, 99, 104]⟩ : ByteArray), .string (⟨#[116, 121, 112, 101]⟩ : ByteArray), .string (⟨#[109, 46, 114, 111, 111, 109, 46, 109, 101, 115, 115, 97, 103, 101]⟩ : ByteArray), .int .i64 0] 38 (0, 0)) ∧ g4 = wp.heap.size ∧ Below wp.heap.size wp w4 := ⟨_, below_set (below_set (below_set (below_set HB3.out HN3.out) HN3.out) HN3.out) HN3.out, blk_put (blk_put (blk_put (blk_put HK3.out 0 _ rfl) 1 _ rfl) 2 _ rfl) 3 _ rfl, hg4, hb4⟩); clear hg4 hb4; have KEY := Lib.hid key; have HK4 := Lib.hid hk4; have cg40 : w4.cell? ⟨g4, 0, none⟩ = some _ := (blk_cell hk4 0).trans rfl; have fg40 := blk_frozen hk4 0; have cg41 : w4.cell? ⟨g4, 1, none⟩ = some _ := (blk_cell hk4 1).trans rfl; have fg41 := blk_frozen hk4 1; have cg42 : w4.cell? ⟨g4, 2, none⟩ = some _ := (blk_cell hk4 2).trans rfl; have fg42 := blk_frozen hk4 2; have cg43 : w4.cell? ⟨g4, 3, none⟩ = some _ := (blk_cell hk4 3).trans rfl; have fg43 := blk_frozen hk4 3;  clear key hk4))
  generalize hwr : ((((w4.setCell ⟨g4, 0, none⟩ (.string (⟨#[101, 118, 101, 110, 116, 95, 112, 114, 111, 112, 101, 114, 116, 121, 95, 105, 115]⟩ : ByteArray))).setCell ⟨g4, 1, none⟩ (.string (⟨#[115, 116, 97, 116, 101, 95, 107, 101, 121]⟩ : ByteArray))).setCell ⟨g4, 2, none⟩ (.string u)).setCell ⟨g4, 3, none⟩ (.int .i64 0)) = wr
  obtain ⟨hbr, hr3, hr4⟩ : Below w.heap.size w wr ∧ wr.heap[g3]? = some (.cells #[.string (⟨#[101, 118, 101, 110, 116, 95, 109, 97, 116, 99, 104]⟩ : ByteArray), .string (⟨#[116, 121, 112, 101]⟩ : ByteArray), .string (⟨#[109, 46, 114, 111, 111, 109, 46, 109, 101, 115, 115, 97, 103, 101]⟩ : ByteArray), .int .i64 0] 38 (0, 0)) ∧ wr.heap[g4]? = some (.cells #[.string (⟨#[101, 118, 101, 110, 116, 95, 112, 114, 111, 112, 101, 114, 116, 121, 95, 105, 115]⟩ : ByteArray), .string (⟨#[115, 116, 97, 116, 101, 95, 107, 101, 121]⟩ : ByteArray), .string u, .int .i64 0] 38 (0, 0)) := by
    obtain ⟨wp, k1, k2, k3, k4⟩ := KEY.out
    have k5 : Below wp.heap.size wp wr := by
      rw [← hwr]; exact below_set (below_set (below_set (below_set k4 (Nat.le_of_eq k3.symm)) (Nat.le_of_eq k3.symm)) (Nat.le_of_eq k3.symm)) (Nat.le_of_eq k3.symm)
    refine ⟨below_step k1 k5, blk_below k2 k5, ?_⟩
    rw [← hwr]
    exact blk_put (blk_put (blk_put (blk_put HK4.out 0 _ rfl) 1 _ rfl) 2 _ rfl) 3 _ rfl
  clear hwr
  refine wp_region_parts _ defSlots (defV u) (by kernel_rfl) (by kernel_rfl) (by kernel_rfl) (defV_lasts u) ?_ ?_
  · refine ⟨?p0, ?p1, ?p2, ?p3, ?p4, ?p5, ?p6, ?p7, ?p8, ?p9, ?p10, ?p11, ?p12, ?p13, ?p14, ?p15, ?p16, ?p17, ?p18, ?p19, ?p20, ?p21, ?p22, ?p23, ?p24, ?p25, ?p26, ?p27, ?p28, ?p29, ?p30, trivial⟩
    case p0 =>
      intro a w2 hb hk hd K hK
      unfold Oper.wp
      go_simp
      exact hK _ _ ⟨_, _, rfl, Nat.le_refl _, ⟨rfl, by decide, fun h => absurd h (by decide)⟩⟩ (Below.refl _ _)
    case p1 =>
      intro a w2 hb hk hd K hK
      unfold Oper.wp
      go_simp
      refine (match_any _ _ _).mono ?_
      rintro e w3 ⟨-, rfl, hb3⟩
      exact hK _ _ rfl hb3
    case p2 =>
      intro a w2 hb hk hd K hK
      have h14 : a.tmps[14]?.getD undef = .agg #[.string (⟨#[101, 118, 101, 110, 116, 95, 109, 97, 116, 99, 104]⟩ : ByteArray), .string (⟨#[99, 111, 110, 116, 101, 110, 116, 46, 109, 115, 103, 116, 121, 112, 101]⟩ : ByteArray), .string (⟨#[109, 46, 110, 111, 116, 105, 99, 101]⟩ : ByteArray), .int .i64 0] := ev_of (hd ⟨1, .data⟩ (by simp) (by decide))
      unfold Oper.wp
      go_simp
      exact hK _ _ ⟨_, _, rfl, Nat.le_refl _, C_of_block (blk_new _ _) (Nat.le_of_eq rfl) (show 1 ≤ 9223372036854775807 by decide) (by decide) (Reps.c4 (show Kd.K k38 _ (⟨(⟨#[101, 118, 101, 110, 116, 95, 109, 97, 116, 99, 104]⟩ : ByteArray), (⟨#[99, 111, 110, 116, 101, 110, 116, 46, 109, 115, 103, 116, 121, 112, 101]⟩ : ByteArray), (⟨#[109, 46, 110, 111, 116, 105, 99, 101]⟩ : ByteArray), 0⟩ : S38) [.string (⟨#[101, 118, 101, 110, 116, 95, 109, 97, 116, 99, 104]⟩ : ByteArray), .string (⟨#[99, 111, 110, 116, 101, 110, 116, 46, 109, 115, 103, 116, 121, 112, 101]⟩ : ByteArray), .string (⟨#[109, 46, 110, 111, 116, 105, 99, 101]⟩ : ByteArray), .int .i64 0] from k38_mk _ (⟨(⟨#[101, 118, 101, 110, 116, 95, 109, 97, 116, 99, 104]⟩ : ByteArray), (⟨#[99, 111, 110, 116, 101, 110, 116, 46, 109, 115, 103, 116, 121, 112, 101]⟩ : ByteArray), (⟨#[109, 46, 110, 111, 116, 105, 99, 101]⟩ : ByteArray), 0⟩ : S38)) (Reps.none _ _)).2⟩ (below_alloc (Below.refl _ _) _)
    case p3 =>
      intro a w2 hb hk hd K hK
      have hr : defV u 2 w2 (a.tmps[15]?.getD undef) := by
        have h := hd ⟨2, .data⟩ (by simp) (by decide)
        rw [← Array.getD_eq_getD_getElem?]
        exact h
      unfold Oper.wp
      go_simp
      refine (when_any _ _).mono ?_
      rintro e w3 ⟨rfl, rfl⟩
      exact hK _ _ hr (Below.refl _ _)
    case p4 =>
      intro a w2 hb hk hd K hK
      obtain ⟨A, c, h, hc, hr⟩ := hd ⟨3, .data⟩ (by simp) (by decide)
      have h16 : a.tmps[16]?.getD undef = .slice A 1 c := ev_of h
      clear h
      unfold Oper.wp
      go_simp
      exact hK _ _ ⟨_, _, rfl, hc, hr⟩ (Below.refl _ _)
    case p5 =>
      intro a w2 hb hk hd K hK
      unfold Oper.wp
      go_simp
      refine (match_any _ _ _).mono ?_
      rintro e w3 ⟨-, rfl, hb3⟩
      exact hK _ _ rfl hb3
    case p6 =>
      intro a w2 hb hk hd K hK
      unfold Oper.wp
      go_simp
      refine (match_any _ _ _).mono ?_
      rintro e w3 ⟨-, rfl, hb3⟩
      exact hK _ _ rfl hb3
    case p7 =>
      intro a w2 hb hk hd K hK
      have h4 : a.tmps[4]?.getD undef = .pointer (some ⟨g4, 0, none⟩) := ev_of ((hk 4 (show ∀ i, i < 31 → slotAt defSlots i ≠ 4 by decide)).trans rfl)
      have hkk := blk_below (w := wr.drew) hr4 hb
      have c0 : w2.cell? ⟨g4, 0, none⟩ = some (.string (⟨#[101, 118, 101, 110, 116, 95, 112, 114, 111, 112, 101, 114, 116, 121, 95, 105, 115]⟩ : ByteArray)) := (blk_cell hkk 0).trans rfl
      have c1 : w2.cell? ⟨g4, 1, none⟩ = some (.string (⟨#[115, 116, 97, 116, 101, 95, 107, 101, 121]⟩ : ByteArray)) := (blk_cell hkk 1).trans rfl
      have c2 : w2.cell? ⟨g4, 2, none⟩ = some (.string u) := (blk_cell hkk 2).trans rfl
      have c3 : w2.cell? ⟨g4, 3, none⟩ = some (.int .i64 0) := (blk_cell hkk 3).trans rfl
      unfold Oper.wp
      go_simp
      exact hK _ _ rfl (Below.refl _ _)
    case p8 =>
      intro a w2 hb hk hd K hK
      have h18 : a.tmps[18]?.getD undef = .agg #[.string (⟨#[101, 118, 101, 110, 116, 95, 109, 97, 116, 99, 104]⟩ : ByteArray), .string (⟨#[116, 121, 112, 101]⟩ : ByteArray), .string (⟨#[109, 46, 114, 111, 111, 109, 46, 109, 101, 109, 98, 101, 114]⟩ : ByteArray), .int .i64 0] := ev_of (hd ⟨5, .data⟩ (by simp) (by decide))
      have h19 : a.tmps[19]?.getD undef = .agg #[.string (⟨#[101, 118, 101, 110, 116, 95, 109, 97, 116, 99, 104]⟩ : ByteArray), .string (⟨#[99, 111, 110, 116, 101, 110, 116, 46, 109, 101, 109, 98, 101, 114, 115, 104, 105, 112]⟩ : ByteArray), .string (⟨#[105, 110, 118, 105, 116, 101]⟩ : ByteArray), .int .i64 0] := ev_of (hd ⟨6, .data⟩ (by simp) (by decide))
      have h20 : a.tmps[20]?.getD undef = .agg #[.string (⟨#[101, 118, 101, 110, 116, 95, 112, 114, 111, 112, 101, 114, 116, 121, 95, 105, 115]⟩ : ByteArray), .string (⟨#[115, 116, 97, 116, 101, 95, 107, 101, 121]⟩ : ByteArray), .string u, .int .i64 0] := ev_of (hd ⟨7, .data⟩ (by simp) (by decide))
      unfold Oper.wp
      go_simp
      exact hK _ _ ⟨_, _, rfl, Nat.le_refl _, C_of_block (blk_new _ _) (Nat.le_of_eq rfl) (show 3 ≤ 9223372036854775807 by decide) (by decide) (Reps.c4 (show Kd.K k38 _ (⟨(⟨#[101, 118, 101, 110, 116, 95, 109, 97, 116, 99, 104]⟩ : ByteArray), (⟨#[116, 121, 112, 101]⟩ : ByteArray), (⟨#[109, 46, 114, 111, 111, 109, 46, 109, 101, 109, 98, 101, 114]⟩ : ByteArray), 0⟩ : S38) [.string (⟨#[101, 118, 101, 110, 116, 95, 109, 97, 116, 99, 104]⟩ : ByteArray), .string (⟨#[116, 121, 112, 101]⟩ : ByteArray), .string (⟨#[109, 46, 114, 111, 111, 109, 46, 109, 101, 109, 98, 101, 114]⟩ : ByteArray), .int .i64 0] from k38_mk _ (⟨(⟨#[101, 118, 101, 110, 116, 95, 109, 97, 116, 99, 104]⟩ : ByteArray), (⟨#[116, 121, 112, 101]⟩ : ByteArray), (⟨#[109, 46, 114, 111, 111, 109, 46, 109, 101, 109, 98, 101, 114]⟩ : ByteArray), 0⟩ : S38)) (Reps.c4 (show Kd.K k38 _ (⟨(⟨#[101, 118, 101, 110, 116, 95, 109, 97, 116, 99, 104]⟩ : ByteArray), (⟨#[99, 111, 110, 116, 101, 110, 116, 46, 109, 101, 109, 98, 101, 114, 115, 104, 105, 112]⟩ : ByteArray), (⟨#[105, 110, 118, 105, 116, 101]⟩ : ByteArray), 0⟩ : S38) [.string (⟨#[101, 118, 101, 110, 116, 95, 109, 97, 116, 99, 104]⟩ : ByteArray), .string (⟨#[99, 111, 110, 116, 101, 110, 116, 46, 109, 101, 109, 98, 101, 114, 115, 104, 105, 112]⟩ : ByteArray), .string (⟨#[105, 110, 118, 105, 116, 101]⟩ : ByteArray), .int .i64 0] from k38_mk _ (⟨(⟨#[101, 118, 101, 110, 116, 95, 109, 97, 116, 99, 104]⟩ : ByteArray), (⟨#[99, 111, 110, 116, 101, 110, 116, 46, 109, 101, 109, 98, 101, 114, 115, 104, 105, 112]⟩ : ByteArray), (⟨#[105, 110, 118, 105, 116, 101]⟩ : ByteArray), 0⟩ : S38)) (Reps.c4 (show Kd.K k38 _ (⟨(⟨#[101, 118, 101, 110, 116, 95, 112, 114, 111, 112, 101, 114, 116, 121, 95, 105, 115]⟩ : ByteArray), (⟨#[115, 116, 97, 116, 101, 95, 107, 101, 121]⟩ : ByteArray), u, 0⟩ : S38) [.string (⟨#[101, 118, 101, 110, 116, 95, 112, 114, 111, 112, 101, 114, 116, 121, 95, 105, 115]⟩ : ByteArray), .string (⟨#[115, 116, 97, 116, 101, 95, 107, 101, 121]⟩ : ByteArray), .string u, .int .i64 0] from k38_mk _ (⟨(⟨#[101, 118, 101, 110, 116, 95, 112, 114, 111, 112, 101, 114, 116, 121, 95, 105, 115]⟩ : ByteArray), (⟨#[115, 116, 97, 116, 101, 95, 107, 101, 121]⟩ : ByteArray), u, 0⟩ : S38)) (Reps.none _ _)))).2⟩ (below_alloc (Below.refl _ _) _)
    case p9 =>
      intro a w2 hb hk hd K hK
      have hr : defV u 8 w2 (a.tmps[21]?.getD undef) := by
        have h := hd ⟨8, .data⟩ (by simp) (by decide)
        rw [← Array.getD_eq_getD_getElem?]
        exact h
      unfold Oper.wp
      go_simp
      refine (when_any _ _).mono ?_
      rintro e w3 ⟨rfl, rfl⟩
      exact hK _ _ hr (Below.refl _ _)
    case p10 =>
      intro a w2 hb hk hd K hK
      obtain ⟨A, c, h, hc, hr⟩ := hd ⟨9, .data⟩ (by simp) (by decide)
      have h22 : a.tmps[22]?.getD undef = .slice A 3 c := ev_of h
      clear h
      unfold Oper.wp
      go_simp
      exact hK _ _ ⟨_, _, rfl, hc, hr⟩ (Below.refl _ _)
    case p11 =>
      intro a w2 hb hk hd K hK
      unfold Oper.wp
      go_simp
      exact hK _ _ rfl (Below.refl _ _)
    case p12 =>
      intro a w2 hb hk hd K hK
      have h24 : a.tmps[24]?.getD undef = .agg #[.string (⟨#[99, 111, 110, 116, 97, 105, 110, 115, 95, 100, 105, 115, 112, 108, 97, 121, 95, 110, 97, 109, 101]⟩ : ByteArray), .string (⟨#[]⟩ : ByteArray), .string (⟨#[]⟩ : ByteArray), .int .i64 0] := ev_of (hd ⟨11, .data⟩ (by simp) (by decide))
      unfold Oper.wp
      go_simp
      exact hK _ _ ⟨_, _, rfl, Nat.le_refl _, C_of_block (blk_new _ _) (Nat.le_of_eq rfl) (show 1 ≤ 9223372036854775807 by decide) (by decide) (Reps.c4 (show Kd.K k38 _ (⟨(⟨#[99, 111, 110, 116, 97, 105, 110, 115, 95, 100, 105, 115, 112, 108, 97, 121, 95, 110, 97, 109, 101]⟩ : ByteArray), (⟨#[]⟩ : ByteArray), (⟨#[]⟩ : ByteArray), 0⟩ : S38) [.string (⟨#[99, 111, 110, 116, 97, 105, 110, 115, 95, 100, 105, 115, 112, 108, 97, 121, 95, 110, 97, 109, 101]⟩ : ByteArray), .string (⟨#[]⟩ : ByteArray), .string (⟨#[]⟩ : ByteArray), .int .i64 0] from k38_mk _ (⟨(⟨#[99, 111, 110, 116, 97, 105, 110, 115, 95, 100, 105, 115, 112, 108, 97, 121, 95, 110, 97, 109, 101]⟩ : ByteArray), (⟨#[]⟩ : ByteArray), (⟨#[]⟩ : ByteArray), 0⟩ : S38)) (Reps.none _ _)).2⟩ (below_alloc (Below.refl _ _) _)
    case p13 =>
      intro a w2 hb hk hd K hK
      have hr : defV u 12 w2 (a.tmps[25]?.getD undef) := by
        have h := hd ⟨12, .data⟩ (by simp) (by decide)
        rw [← Array.getD_eq_getD_getElem?]
        exact h
      unfold Oper.wp
      go_simp
      refine (when_any _ _).mono ?_
      rintro e w3 ⟨rfl, rfl⟩
      exact hK _ _ hr (Below.refl _ _)
    case p14 =>
      intro a w2 hb hk hd K hK
      obtain ⟨A, c, h, hc, hr⟩ := hd ⟨13, .data⟩ (by simp) (by decide)
      have h26 : a.tmps[26]?.getD undef = .slice A 1 c := ev_of h
      clear h
      unfold Oper.wp
      go_simp
      exact hK _ _ ⟨_, _, rfl, hc, hr⟩ (Below.refl _ _)
    case p15 =>
      intro a w2 hb hk hd K hK
      unfold Oper.wp
      go_simp
      refine (match_any _ _ _).mono ?_
      rintro e w3 ⟨-, rfl, hb3⟩
      exact hK _ _ rfl hb3
    case p16 =>
      intro a w2 hb hk hd K hK
      unfold Oper.wp
      go_simp
      exact hK _ _ rfl (Below.refl _ _)
    case p17 =>
      intro a w2 hb hk hd K hK
      have h28 : a.tmps[28]?.getD undef = .agg #[.string (⟨#[101, 118, 101, 110, 116, 95, 109, 97, 116, 99, 104]⟩ : ByteArray), .string (⟨#[99, 111, 110, 116, 101, 110, 116, 46, 98, 111, 100, 121]⟩ : ByteArray), .string (⟨#[64, 114, 111, 111, 109]⟩ : ByteArray), .int .i64 0] := ev_of (hd ⟨15, .data⟩ (by simp) (by decide))
      have h29 : a.tmps[29]?.getD undef = .agg #[.string (⟨#[115, 101, 110, 100, 101, 114, 95, 110, 111, 116, 105, 102, 105, 99, 97, 116, 105, 111, 110, 95, 112, 101, 114, 109, 105, 115, 115, 105, 111, 110]⟩ : ByteArray), .string (⟨#[]⟩ : ByteArray), .string (⟨#[]⟩ : ByteArray), .int .i64 50] := ev_of (hd ⟨16, .data⟩ (by simp) (by decide))
      unfold Oper.wp
      go_simp
      exact hK _ _ ⟨_, _, rfl, Nat.le_refl _, C_of_block (blk_new _ _) (Nat.le_of_eq rfl) (show 2 ≤ 9223372036854775807 by decide) (by decide) (Reps.c4 (show Kd.K k38 _ (⟨(⟨#[101, 118, 101, 110, 116, 95, 109, 97, 116, 99, 104]⟩ : ByteArray), (⟨#[99, 111, 110, 116, 101, 110, 116, 46, 98, 111, 100, 121]⟩ : ByteArray), (⟨#[64, 114, 111, 111, 109]⟩ : ByteArray), 0⟩ : S38) [.string (⟨#[101, 118, 101, 110, 116, 95, 109, 97, 116, 99, 104]⟩ : ByteArray), .string (⟨#[99, 111, 110, 116, 101, 110, 116, 46, 98, 111, 100, 121]⟩ : ByteArray), .string (⟨#[64, 114, 111, 111, 109]⟩ : ByteArray), .int .i64 0] from k38_mk _ (⟨(⟨#[101, 118, 101, 110, 116, 95, 109, 97, 116, 99, 104]⟩ : ByteArray), (⟨#[99, 111, 110, 116, 101, 110, 116, 46, 98, 111, 100, 121]⟩ : ByteArray), (⟨#[64, 114, 111, 111, 109]⟩ : ByteArray), 0⟩ : S38)) (Reps.c4 (show Kd.K k38 _ (⟨(⟨#[115, 101, 110, 100, 101, 114, 95, 110, 111, 116, 105, 102, 105, 99, 97, 116, 105, 111, 110, 95, 112, 101, 114, 109, 105, 115, 115, 105, 111, 110]⟩ : ByteArray), (⟨#[]⟩ : ByteArray), (⟨#[]⟩ : ByteArray), 50⟩ : S38) [.string (⟨#[115, 101, 110, 100, 101, 114, 95, 110, 111, 116, 105, 102, 105, 99, 97, 116, 105, 111, 110, 95, 112, 101, 114, 109, 105, 115, 115, 105, 111, 110]⟩ : ByteArray), .string (⟨#[]⟩ : ByteArray), .string (⟨#[]⟩ : ByteArray), .int .i64 50] from k38_mk _ (⟨(⟨#[115, 101, 110, 100, 101, 114, 95, 110, 111, 116, 105, 102, 105, 99, 97, 116, 105, 111, 110, 95, 112, 101, 114, 109, 105, 115, 115, 105, 111, 110]⟩ : ByteArray), (⟨#[]⟩ : ByteArray), (⟨#[]⟩ : ByteArray), 50⟩ : S38)) (Reps.none _ _))).2⟩ (below_alloc (Below.refl _ _) _)
    case p18 =>
      intro a w2 hb hk hd K hK
      have hr : defV u 17 w2 (a.tmps[30]?.getD undef) := by
        have h := hd ⟨17, .data⟩ (by simp) (by decide)
        rw [← Array.getD_eq_getD_getElem?]
        exact h
      unfold Oper.wp
      go_simp
      refine (when_any _ _).mono ?_
      rintro e w3 ⟨rfl, rfl⟩
      exact hK _ _ hr (Below.refl _ _)
    case p19 =>
      intro a w2 hb hk hd K hK
      obtain ⟨A, c, h, hc, hr⟩ := hd ⟨18, .data⟩ (by simp) (by decide)
      have h31 : a.tmps[31]?.getD undef = .slice A 2 c := ev_of h
      clear h
      unfold Oper.wp
      go_simp
      exact hK _ _ ⟨_, _, rfl, hc, hr⟩ (Below.refl _ _)
    case p20 =>
      intro a w2 hb hk hd K hK
      unfold Oper.wp
      go_simp
      exact hK _ _ rfl (Below.refl _ _)
    case p21 =>
      intro a w2 hb hk hd K hK
      have h3 : a.tmps[3]?.getD undef = .pointer (some ⟨g3, 0, none⟩) := ev_of ((hk 3 (show ∀ i, i < 31 → slotAt defSlots i ≠ 3 by decide)).trans rfl)
      have hkk := blk_below (w := wr.drew) hr3 hb
      have c0 : w2.cell? ⟨g3, 0, none⟩ = some (.string (⟨#[101, 118, 101, 110, 116, 95, 109, 97, 116, 99, 104]⟩ : ByteArray)) := (blk_cell hkk 0).trans rfl
      have c1 : w2.cell? ⟨g3, 1, none⟩ = some (.string (⟨#[116, 121, 112, 101]⟩ : ByteArray)) := (blk_cell hkk 1).trans rfl
      have c2 : w2.cell? ⟨g3, 2, none⟩ = some (.string (⟨#[109, 46, 114, 111, 111, 109, 46, 109, 101, 115, 115, 97, 103, 101]⟩ : ByteArray)) := (blk_cell hkk 2).trans rfl
      have c3 : w2.cell? ⟨g3, 3, none⟩ = some (.int .i64 0) := (blk_cell hkk 3).trans rfl
      unfold Oper.wp
      go_simp
      exact hK _ _ rfl (Below.refl _ _)
    case p22 =>
      intro a w2 hb hk hd K hK
      have h33 : a.tmps[33]?.getD undef = .agg #[.string (⟨#[114, 111, 111, 109, 95, 109, 101, 109, 98, 101, 114, 95, 99, 111, 117, 110, 116]⟩ : ByteArray), .string (⟨#[]⟩ : ByteArray), .string (⟨#[50]⟩ : ByteArray), .int .i64 0] := ev_of (hd ⟨20, .data⟩ (by simp) (by decide))
      have h34 : a.tmps[34]?.getD undef = .agg #[.string (⟨#[101, 118, 101, 110, 116, 95, 109, 97, 116, 99, 104]⟩ : ByteArray), .string (⟨#[116, 121, 112, 101]⟩ : ByteArray), .string (⟨#[109, 46, 114, 111, 111, 109, 46, 109, 101, 115, 115, 97, 103, 101]⟩ : ByteArray), .int .i64 0] := ev_of (hd ⟨21, .data⟩ (by simp) (by decide))
      unfold Oper.wp
      go_simp
      exact hK _ _ ⟨_, _, rfl, Nat.le_refl _, C_of_block (blk_new _ _) (Nat.le_of_eq rfl) (show 2 ≤ 9223372036854775807 by decide) (by decide) (Reps.c4 (show Kd.K k38 _ (⟨(⟨#[114, 111, 111, 109, 95, 109, 101, 109, 98, 101, 114, 95, 99, 111, 117, 110, 116]⟩ : ByteArray), (⟨#[]⟩ : ByteArray), (⟨#[50]⟩ : ByteArray), 0⟩ : S38) [.string (⟨#[114, 111, 111, 109, 95, 109, 101, 109, 98, 101, 114, 95, 99, 111, 117, 110, 116]⟩ : ByteArray), .string (⟨#[]⟩ : ByteArray), .string (⟨#[50]⟩ : ByteArray), .int .i64 0] from k38_mk _ (⟨(⟨#[114, 111, 111, 109, 95, 109, 101, 109, 98, 101, 114, 95, 99, 111, 117, 110, 116]⟩ : ByteArray), (⟨#[]⟩ : ByteArray), (⟨#[50]⟩ : ByteArray), 0⟩ : S38)) (Reps.c4 (show Kd.K k38 _ (⟨(⟨#[101, 118, 101, 110, 116, 95, 109, 97, 116, 99, 104]⟩ : ByteArray), (⟨#[116, 121, 112, 101]⟩ : ByteArray), (⟨#[109, 46, 114, 111, 111, 109, 46, 109, 101, 115, 115, 97, 103, 101]⟩ : ByteArray), 0⟩ : S38) [.string (⟨#[101, 118, 101, 110, 116, 95, 109, 97, 116, 99, 104]⟩ : ByteArray), .string (⟨#[116, 121, 112, 101]⟩ : ByteArray), .string (⟨#[109, 46, 114, 111, 111, 109, 46, 109, 101, 115, 115, 97, 103, 101]⟩ : ByteArray), .int .i64 0] from k38_mk _ (⟨(⟨#[101, 118, 101, 110, 116, 95, 109, 97, 116, 99, 104]⟩ : ByteArray), (⟨#[116, 121, 112, 101]⟩ : ByteArray), (⟨#[109, 46, 114, 111, 111, 109, 46, 109, 101, 115, 115, 97, 103, 101]⟩ : ByteArray), 0⟩ : S38)) (Reps.none _ _))).2⟩ (below_alloc (Below.refl _ _) _)
    case p23 =>
      intro a w2 hb hk hd K hK
      have hr : defV u 22 w2 (a.tmps[35]?.getD undef) := by
        have h := hd ⟨22, .data⟩ (by simp) (by decide)
        rw [← Array.getD_eq_getD_getElem?]
        exact h
      unfold Oper.wp
      go_simp
      refine (when_any _ _).mono ?_
      rintro e w3 ⟨rfl, rfl⟩
      exact hK _ _ hr (Below.refl _ _)
    case p24 =>
      intro a w2 hb hk hd K hK
      obtain ⟨A, c, h, hc, hr⟩ := hd ⟨23, .data⟩ (by simp) (by decide)
      have h36 : a.tmps[36]?.getD undef = .slice A 2 c := ev_of h
      clear h
      unfold Oper.wp
      go_simp
      exact hK _ _ ⟨_, _, rfl, hc, hr⟩ (Below.refl _ _)
    case p25 =>
      intro a w2 hb hk hd K hK
      have h3 : a.tmps[3]?.getD undef = .pointer (some ⟨g3, 0, none⟩) := ev_of ((hk 3 (show ∀ i, i < 31 → slotAt defSlots i ≠ 3 by decide)).trans rfl)
      have hkk := blk_below (w := wr.drew) hr3 hb
      have c0 : w2.cell? ⟨g3, 0, none⟩ = some (.string (⟨#[101, 118, 101, 110, 116, 95, 109, 97, 116, 99, 104]⟩ : ByteArray)) := (blk_cell hkk 0).trans rfl
      have c1 : w2.cell? ⟨g3, 1, none⟩ = some (.string (⟨#[116, 121, 112, 101]⟩ : ByteArray)) := (blk_cell hkk 1).trans rfl
      have c2 : w2.cell? ⟨g3, 2, none⟩ = some (.string (⟨#[109, 46, 114, 111, 111, 109, 46, 109, 101, 115, 115, 97, 103, 101]⟩ : ByteArray)) := (blk_cell hkk 2).trans rfl
      have c3 : w2.cell? ⟨g3, 3, none⟩ = some (.int .i64 0) := (blk_cell hkk 3).trans rfl
      unfold Oper.wp
      go_simp
      exact hK _ _ rfl (Below.refl _ _)
    case p26 =>
      intro a w2 hb hk hd K hK
      have h38 : a.tmps[38]?.getD undef = .agg #[.string (⟨#[101, 118, 101, 110, 116, 95, 109, 97, 116, 99, 104]⟩ : ByteArray), .string (⟨#[116, 121, 112, 101]⟩ : ByteArray), .string (⟨#[109, 46, 114, 111, 111, 109, 46, 109, 101, 115, 115, 97, 103, 101]⟩ : ByteArray), .int .i64 0] := ev_of (hd ⟨25, .data⟩ (by simp) (by decide))
      unfold Oper.wp
      go_simp
      exact hK _ _ ⟨_, _, rfl, Nat.le_refl _, C_of_block (blk_new _ _) (Nat.le_of_eq rfl) (show 1 ≤ 9223372036854775807 by decide) (by decide) (Reps.c4 (show Kd.K k38 _ (⟨(⟨#[101, 118, 101, 110, 116, 95, 109, 97, 116, 99, 104]⟩ : ByteArray), (⟨#[116, 121, 112, 101]⟩ : ByteArray), (⟨#[109, 46, 114, 111, 111, 109, 46, 109, 101, 115, 115, 97, 103, 101]⟩ : ByteArray), 0⟩ : S38) [.string (⟨#[101, 118, 101, 110, 116, 95, 109, 97, 116, 99, 104]⟩ : ByteArray), .string (⟨#[116, 121, 112, 101]⟩ : ByteArray), .string (⟨#[109, 46, 114, 111, 111, 109, 46, 109, 101, 115, 115, 97, 103, 101]⟩ : ByteArray), .int .i64 0] from k38_mk _ (⟨(⟨#[101, 118, 101, 110, 116, 95, 109, 97, 116, 99, 104]⟩ : ByteArray), (⟨#[116, 121, 112, 101]⟩ : ByteArray), (⟨#[109, 46, 114, 111, 111, 109, 46, 109, 101, 115, 115, 97, 103, 101]⟩ : ByteArray), 0⟩ : S38)) (Reps.none _ _)).2⟩ (below_alloc (Below.refl _ _) _)
    case p27 =>
      intro a w2 hb hk hd K hK
      have hr : defV u 26 w2 (a.tmps[39]?.getD undef) := by
        have h := hd ⟨26, .data⟩ (by simp) (by decide)
        rw [← Array.getD_eq_getD_getElem?]
        exact h
      unfold Oper.wp
      go_simp
      refine (when_any _ _).mono ?_
      rintro e w3 ⟨rfl, rfl⟩
      exact hK _ _ hr (Below.refl _ _)
    case p28 =>
      intro a w2 hb hk hd K hK
      obtain ⟨A, c, h, hc, hr⟩ := hd ⟨27, .data⟩ (by simp) (by decide)
      have h40 : a.tmps[40]?.getD undef = .slice A 1 c := ev_of h
      clear h
      unfold Oper.wp
      go_simp
      exact hK _ _ ⟨_, _, rfl, hc, hr⟩ (Below.refl _ _)
    case p29 =>
      intro a w2 hb hk hd K hK
      obtain ⟨A0, c0, e0, l0, q0⟩ := hd ⟨0, .data⟩ (by simp) (by decide)
      have h13 : a.tmps[13]?.getD undef = .agg #[.int .i64 1, .string (⟨#[46, 109, 46, 114, 117, 108, 101, 46, 109, 97, 115, 116, 101, 114]⟩ : ByteArray), .bool true, .slice A0 0 c0, .bool false, .bool false] := ev_of e0
      clear e0
      obtain ⟨A1, c1, e1, l1, q1⟩ := hd ⟨4, .data⟩ (by simp) (by decide)
      have h17 : a.tmps[17]?.getD undef = .agg #[.int .i64 1, .string (⟨#[46, 109, 46, 114, 117, 108, 101, 46, 115, 117, 112, 112, 114, 101, 115, 115, 95, 110, 111, 116, 105, 99, 101, 115]⟩ : ByteArray), .bool false, .slice A1 1 c1, .bool false, .bool false] := ev_of e1
      clear e1
      obtain ⟨A2, c2, e2, l2, q2⟩ := hd ⟨10, .data⟩ (by simp) (by decide)
      have h23 : a.tmps[23]?.getD undef = .agg #[.int .i64 1, .string (⟨#[46, 109, 46, 114, 117, 108, 101, 46, 105, 110, 118, 105, 116, 101, 95, 102, 111, 114, 95, 109, 101]⟩ : ByteArray), .bool false, .slice A2 3 c2, .bool true, .bool false] := ev_of e2
      clear e2
      obtain ⟨A3, c3, e3, l3, q3⟩ := hd ⟨14, .data⟩ (by simp) (by decide)
      have h27 : a.tmps[27]?.getD undef = .agg #[.int .i64 1, .string (⟨#[46, 109, 46, 114, 117, 108, 101, 46, 99, 111, 110, 116, 97, 105, 110, 115, 95, 100, 105, 115, 112, 108, 97, 121, 95, 110, 97, 109, 101]⟩ : ByteArray), .bool false, .slice A3 1 c3, .bool true, .bool true] := ev_of e3
      clear e3
      obtain ⟨A4, c4, e4, l4, q4⟩ := hd ⟨19, .data⟩ (by simp) (by decide)
      have h32 : a.tmps[32]?.getD undef = .agg #[.int .i64 1, .string (⟨#[46, 109, 46, 114, 117, 108, 101, 46, 114, 111, 111, 109, 110, 111, 116, 105, 102]⟩ : ByteArray), .bool false, .slice A4 2 c4, .bool true, .bool true] := ev_of e4
      clear e4
      obtain ⟨A5, c5, e5, l5, q5⟩ := hd ⟨24, .data⟩ (by simp) (by decide)
      have h37 : a.tmps[37]?.getD undef = .agg #[.int .i64 5, .string (⟨#[46, 109, 46, 114, 117, 108, 101, 46, 114, 111, 111, 109, 95, 111, 110, 101, 95, 116, 111, 95, 111, 110, 101]⟩ : ByteArray), .bool false, .slice A5 2 c5, .bool true, .bool false] := ev_of e5
      clear e5
      obtain ⟨A6, c6, e6, l6, q6⟩ := hd ⟨28, .data⟩ (by simp) (by decide)
      have h41 : a.tmps[41]?.getD undef = .agg #[.int .i64 5, .string (⟨#[46, 109, 46, 114, 117, 108, 101, 46, 109, 101, 115, 115, 97, 103, 101]⟩ : ByteArray), .bool false, .slice A6 1 c6, .bool true, .bool false] := ev_of e6
      clear e6
      unfold Oper.wp
      go_simp
      exact hK _ _ ⟨_, _, rfl, Nat.le_refl _, rfl, C_of_block (blk_new _ _) (Nat.le_of_eq rfl) (show 7 ≤ 9223372036854775807 by decide) (by decide) (Reps.c6 (show Kd.K k51 _ r0 [.int .i64 1, .string (⟨#[46, 109, 46, 114, 117, 108, 101, 46, 109, 97, 115, 116, 101, 114]⟩ : ByteArray), .bool true, .slice A0 0 c0, .bool false, .bool false] from k51_mk _ r0 l0 (Kd.C_below q0 (below_alloc (Below.refl _ _) _))) (Reps.c6 (show Kd.K k51 _ r1 [.int .i64 1, .string (⟨#[46, 109, 46, 114, 117, 108, 101, 46, 115, 117, 112, 112, 114, 101, 115, 115, 95, 110, 111, 116, 105, 99, 101, 115]⟩ : ByteArray), .bool false, .slice A1 1 c1, .bool false, .bool false] from k51_mk _ r1 l1 (Kd.C_below q1 (below_alloc (Below.refl _ _) _))) (Reps.c6 (show Kd.K k51 _ (r2 u) [.int .i64 1, .string (⟨#[46, 109, 46, 114, 117, 108, 101, 46, 105, 110, 118, 105, 116, 101, 95, 102, 111, 114, 95, 109, 101]⟩ : ByteArray), .bool false, .slice A2 3 c2, .bool true, .bool false] from k51_mk _ (r2 u) l2 (Kd.C_below q2 (below_alloc (Below.refl _ _) _))) (Reps.c6 (show Kd.K k51 _ r3 [.int .i64 1, .string (⟨#[46, 109, 46, 114, 117, 108, 101, 46, 99, 111, 110, 116, 97, 105, 110, 115, 95, 100, 105, 115, 112, 108, 97, 121, 95, 110, 97, 109, 101]⟩ : ByteArray), .bool false, .slice A3 1 c3, .bool true, .bool true] from k51_mk _ r3 l3 (Kd.C_below q3 (below_alloc (Below.refl _ _) _))) (Reps.c6 (show Kd.K k51 _ r4 [.int .i64 1, .string (⟨#[46, 109, 46, 114, 117, 108, 101, 46, 114, 111, 111, 109, 110, 111, 116, 105, 102]⟩ : ByteArray), .bool false, .slice A4 2 c4, .bool true, .bool true] from k51_mk _ r4 l4 (Kd.C_below q4 (below_alloc (Below.refl _ _) _))) (Reps.c6 (show Kd.K k51 _ r5 [.int .i64 5, .string (⟨#[46, 109, 46, 114, 117, 108, 101, 46, 114, 111, 111, 109, 95, 111, 110, 101, 95, 116, 111, 95, 111, 110, 101]⟩ : ByteArray), .bool false, .slice A5 2 c5, .bool true, .bool false] from k51_mk _ r5 l5 (Kd.C_below q5 (below_alloc (Below.refl _ _) _))) (Reps.c6 (show Kd.K k51 _ r6 [.int .i64 5, .string (⟨#[46, 109, 46, 114, 117, 108, 101, 46, 109, 101, 115, 115, 97, 103, 101]⟩ : ByteArray), .bool false, .slice A6 1 c6, .bool true, .bool false] from k51_mk _ r6 l6 (Kd.C_below q6 (below_alloc (Below.refl _ _) _))) (Reps.none _ _)))))))).2⟩ (below_alloc (Below.refl _ _) _)
    case p30 =>
      intro a w2 hb hk hd K hK
      have h := hd ⟨29, .data⟩ (by simp) (by decide)
      obtain ⟨A, c, h1, h2, h3, h4⟩ := h
      have h42 : a.tmps[42]?.getD undef = .slice A 7 7 := ev_of (h1.trans (by rw [h3]; rfl))
      clear h1 h2 h3
      unfold Oper.wp
      go_simp
      exact hK _ _ ⟨A, 7, rfl, Nat.le_refl _, rfl, h4⟩ (Below.refl _ _)
  · intro a w5 hb5 hsz hdf hkept hdone
    obtain ⟨A, c, e5, l5, k5, q5⟩ : RulesC (baseRules u) w5 (a.eval (.tmp 5)) := hdone 30 (by decide)
    subst k5
    have e0 : a.eval (.tmp 0) = .string u := (hkept 0 (by decide)).trans rfl
    obtain ⟨tm, df⟩ := a
    obtain ⟨f, hf, hg⟩ := arr60 tm (hsz.trans rfl)
    have f0 : f 0 = .string u := (hg 0 (by decide)).symm.trans e0
    have f5 : f 5 = .slice A 7 7 := (hg 5 (by decide)).symm.trans e5
    clear hg e5 e0 hsz
    subst hf
    rw [f0, f5]
    subst hdf
    dsimp only
    have hb05 : Below w.heap.size w w5 := below_step hbr hb5
    have hU := user_calls u hs w5 (hT.below hb05)
    have hdr : defaultRules u = if (userB u).2.2 then (baseRules u).take 5 ++ [ownRule u] ++ (baseRules u).drop 5 else baseRules u := rfl
    have hoc : ownCond u = ⟨(⟨#[101, 118, 101, 110, 116, 95, 109, 97, 116, 99, 104]⟩ : ByteArray), (⟨#[99, 111, 110, 116, 101, 110, 116, 46, 98, 111, 100, 121]⟩ : ByteArray), (userB u).1, 0⟩ := rfl
    have hor : ownRule u = ⟨2, (⟨#[46, 109, 46, 114, 117, 108, 101, 46, 99, 111, 110, 116, 97, 105, 110, 115, 95, 117, 115, 101, 114, 95, 110, 97, 109, 101]⟩ : ByteArray), false, [ownCond u], true, true⟩ := rfl
    have hb7 : (baseRules u).length = 7 := rfl
    generalize userB u = ub at *
    obtain ⟨u1, u2, u3⟩ := ub
    have Q5 := Lib.hid q5
    have HU := Lib.hid hU
    have HB05 := Lib.hid hb05
    have HOC := Lib.hid hoc
    have HOR := Lib.hid hor
    have HB7 := Lib.hid hb7
    clear q5 hU hb05 hoc hor hb7
    generalize ownRule u = orl at *
    generalize ownCond u = ocd at *
    generalize baseRules u = br at *
    cases u3 with
    | false =>
      simp only [Bool.false_eq_true, if_false] at hdr
      have HDR := Lib.hid hdr
      clear hdr
      go_wp2_with (go_at_call 18; refine HU.out.mono ?_; rintro e wU ⟨rfl, hbU⟩; have HBU := Lib.hid hbU; clear hbU)
      go_ret
      exact ⟨A, 7, by rw [HDR.out, HB7.out]; rfl, by rw [HDR.out, HB7.out]; exact Nat.le_refl _, by rw [HDR.out]; exact Kd.C_below Q5.out HBU.out, below_step HB05.out HBU.out⟩
    | true =>
      simp only [if_true] at hdr
      have HDR := Lib.hid hdr
      clear hdr
      go_wp2_with (first | (go_at_call 18; refine HU.out.mono ?_; rintro e wU ⟨rfl, hbU⟩; have HBU := Lib.hid hbU; clear hbU) | (go_at_call 16; refine (match_any _ _ _).mono ?_; rintro e wM ⟨-, rfl, hbM⟩; have HBM := Lib.hid (below_step HBU.out hbM); clear hbM) | (go_at_call 17; refine (when_any _ _).mono ?_; rintro e wW ⟨rfl, rfl⟩) | ((with_reducible refine gate_dst (N := 9) rfl ?_); refine box_event ?hg (N := 9) ?hd (cs := #[.int .i64 0, .string (⟨#[]⟩ : ByteArray), .bool false, .slice none 0 0, .bool false, .bool false]) (t := 51) ?hr ?_; (case hd => rfl); (case hg => rfl); (case hr => first | (go_simp; done) | (go_simp; rfl)); intro g9 hg9 w9 hk9 hb9; (have key : ∃ wp : World, Below w5.heap.size w5 wp ∧ Kd.C k38 wp (some ⟨wM.heap.size, 0, none⟩) 1 [ocd] ∧ g9 = wp.heap.size ∧ Below wp.heap.size wp w9 := ⟨_, below_alloc HBM.out _, C_of_block (blk_new _ _) (Nat.le_of_eq rfl) (show 1 ≤ 9223372036854775807 by decide) (by decide) (Reps.c4 (show Kd.K k38 _ ocd [.string (⟨#[101, 118, 101, 110, 116, 95, 109, 97, 116, 99, 104]⟩ : ByteArray), .string (⟨#[99, 111, 110, 116, 101, 110, 116, 46, 98, 111, 100, 121]⟩ : ByteArray), .string u1, .int .i64 0] from by rw [HOC.out]; exact k38_mk _ ⟨(⟨#[101, 118, 101, 110, 116, 95, 109, 97, 116, 99, 104]⟩ : ByteArray), (⟨#[99, 111, 110, 116, 101, 110, 116, 46, 98, 111, 100, 121]⟩ : ByteArray), u1, 0⟩) (Reps.none _ _)).2, hg9, hb9⟩); clear hg9 hb9; have KEY9 := Lib.hid key; have HK9 := Lib.hid hk9; have c90 : w9.cell? ⟨g9, 0, none⟩ = some _ := (blk_cell hk9 0).trans rfl; have f90 := blk_frozen hk9 0; have c91 : w9.cell? ⟨g9, 1, none⟩ = some _ := (blk_cell hk9 1).trans rfl; have f91 := blk_frozen hk9 1; have c92 : w9.cell? ⟨g9, 2, none⟩ = some _ := (blk_cell hk9 2).trans rfl; have f92 := blk_frozen hk9 2; have c93 : w9.cell? ⟨g9, 3, none⟩ = some _ := (blk_cell hk9 3).trans rfl; have f93 := blk_frozen hk9 3; have c94 : w9.cell? ⟨g9, 4, none⟩ = some _ := (blk_cell hk9 4).trans rfl; have f94 := blk_frozen hk9 4; have c95 : w9.cell? ⟨g9, 5, none⟩ = some _ := (blk_cell hk9 5).trans rfl; have f95 := blk_frozen hk9 5;  clear key hk9) | ((with_reducible refine gate_dst (N := 56) rfl ?_); refine wpList_load_row rfl 51 (.tmp 9) rfl g9 rfl 51 #[.int .i64 2, .string (⟨#[46, 109, 46, 114, 117, 108, 101, 46, 99, 111, 110, 116, 97, 105, 110, 115, 95, 117, 115, 101, 114, 95, 110, 97, 109, 101]⟩ : ByteArray), .bool false, .slice (some ⟨wM.heap.size, 0, none⟩) 1 1, .bool true, .bool true] (0, 0) _ (blk_put (blk_put (blk_put (blk_put (blk_put (blk_put HK9.out 0 _ rfl) 1 _ rfl) 2 _ rfl) 3 _ rfl) 4 _ rfl) 5 _ rfl) Tryd.underlying51 rfl (by kernel_rfl) ?_))
      generalize hwq : ((((((w9.setCell ⟨g9, 0, none⟩ (.int .i64 2)).setCell ⟨g9, 1, none⟩ (.string (⟨#[46, 109, 46, 114, 117, 108, 101, 46, 99, 111, 110, 116, 97, 105, 110, 115, 95, 117, 115, 101, 114, 95, 110, 97, 109, 101]⟩ : ByteArray))).setCell ⟨g9, 2, none⟩ (.bool false)).setCell ⟨g9, 3, none⟩ (.slice (some ⟨wM.heap.size, 0, none⟩) 1 1)).setCell ⟨g9, 4, none⟩ (.bool true)).setCell ⟨g9, 5, none⟩ (.bool true)) = wq
      obtain ⟨wp, k1, k2, k3, k4⟩ := KEY9.out
      have hq9 : Below wp.heap.size wp wq := by
        rw [← hwq]
        have hle := Nat.le_of_eq k3.symm
        exact below_set (below_set (below_set (below_set (below_set (below_set k4 hle) hle) hle) hle) hle) hle
      have hqs : wq.heap.size = w9.heap.size := by rw [← hwq]; simp
      rw [← hqs]
      clear hqs hwq
      have hbA : Below wp.heap.size wp (wq.alloc (.cells #[.int .i64 2, .string (⟨#[46, 109, 46, 114, 117, 108, 101, 46, 99, 111, 110, 116, 97, 105, 110, 115, 95, 117, 115, 101, 114, 95, 110, 97, 109, 101]⟩ : ByteArray), .bool false, .slice (some ⟨wM.heap.size, 0, none⟩) 1 1, .bool true, .bool true] 51)) := below_alloc hq9 _
      have hbB := below_step k1 hbA
      have hC5 : Kd.C k51 (wq.alloc (.cells #[.int .i64 2, .string (⟨#[46, 109, 46, 114, 117, 108, 101, 46, 99, 111, 110, 116, 97, 105, 110, 115, 95, 117, 115, 101, 114, 95, 110, 97, 109, 101]⟩ : ByteArray), .bool false, .slice (some ⟨wM.heap.size, 0, none⟩) 1 1, .bool true, .bool true] 51)) A 7 br := by
        have := Kd.C_below Q5.out hbB
        rwa [HB7.out] at this
      have hl3 : ({ f0 := 2, f1 := (⟨#[46, 109, 46, 114, 117, 108, 101, 46, 99, 111, 110, 116, 97, 105, 110, 115, 95, 117, 115, 101, 114, 95, 110, 97, 109, 101]⟩ : ByteArray), f2 := false, f3 := [ocd], f4 := true, f5 := true } : S51).f3.length = 1 := rfl
      have hC1 : Kd.C k51 (wq.alloc (.cells #[.int .i64 2, .string (⟨#[46, 109, 46, 114, 117, 108, 101, 46, 99, 111, 110, 116, 97, 105, 110, 115, 95, 117, 115, 101, 114, 95, 110, 97, 109, 101]⟩ : ByteArray), .bool false, .slice (some ⟨wM.heap.size, 0, none⟩) 1 1, .bool true, .bool true] 51)) (some ⟨wq.heap.size, 0, none⟩) 1 [orl] := by
        rw [HOR.out]
        exact C_of_block (xs := [(⟨2, (⟨#[46, 109, 46, 114, 117, 108, 101, 46, 99, 111, 110, 116, 97, 105, 110, 115, 95, 117, 115, 101, 114, 95, 110, 97, 109, 101]⟩ : ByteArray), false, [ocd], true, true⟩ : S51)]) (blk_new _ _) (Nat.le_of_eq rfl) (show 1 ≤ 9223372036854775807 by decide) (by decide) (Reps.c6 (show Kd.K k51 _ (⟨2, (⟨#[46, 109, 46, 114, 117, 108, 101, 46, 99, 111, 110, 116, 97, 105, 110, 115, 95, 117, 115, 101, 114, 95, 110, 97, 109, 101]⟩ : ByteArray), false, [ocd], true, true⟩ : S51) [.int .i64 2, .string (⟨#[46, 109, 46, 114, 117, 108, 101, 46, 99, 111, 110, 116, 97, 105, 110, 115, 95, 117, 115, 101, 114, 95, 110, 97, 109, 101]⟩ : ByteArray), .bool false, .slice (some ⟨wM.heap.size, 0, none⟩) 1 1, .bool true, .bool true] from k51_mk _ ⟨2, (⟨#[46, 109, 46, 114, 117, 108, 101, 46, 99, 111, 110, 116, 97, 105, 110, 115, 95, 117, 115, 101, 114, 95, 110, 97, 109, 101]⟩ : ByteArray), false, [ocd], true, true⟩ (Nat.le_refl _) (Kd.C_below k2 hbA)) (Reps.none _ _)).2
      refine (insert_rules _ A _ 1 br [orl] hC5 hC1).mono ?_
      rintro e wI ⟨g, c, rfl, hc8, hC8, hbI⟩
      have HC8 := Lib.hid hC8
      have HBI := Lib.hid (below_step (below_step HB05.out hbB) hbI)
      clear hC8 hbI hbA hbB hC5 hC1 k1 k2 k4 hq9
      clear k3
      go_wp2
      go_ret
      have hl8 : (br.take 5 ++ [orl] ++ br.drop 5).length = 8 := by
        rw [List.length_append, List.length_append, List.length_take, List.length_drop, HB7.out]; rfl
      refine ⟨some ⟨g, 0, none⟩, c, ?_, ?_, ?_, HBI.out⟩
      · rw [HDR.out, hl8]; rfl
      · rw [HDR.out, hl8]; exact hc8
      · rw [HDR.out, hl8]; exact HC8.out
end Go.Proofs.YtodhmbnfliajiaaDoor.Q
