/- Merged out of: HandGlob, PureMatch, PureTok. -/
import Derived.WalkKit
import Derived.WalkSpells
import Derived.WalkSmall
import Derived.Deep.LoopGhost
import Derived.Lib.OthersKept
import Derived.Lib.Hide
import Derived.Lib.RuneCountTail
import Derived.BigQuiet
import Derived.Deep.QuietTactic
import Derived.Test.YtodhmbnfliajiaaGreatDoorShelf
import Derived.Test.YtodhmbnfliajiaaGreatDoorJ7
import Derived.Test.YtodhmbnfliajiaaGreatDoorHandGlobA
import Derived.Test.YtodhmbnfliajiaaGreatDoorQx0
import Derived.Test.YtodhmbnfliajiaaGreatDoorQx6
import Derived.Lib.ItoaMem
import Derived.Lib.ParseIntBCases
/- HandGlob: a text of this claim's proof,as printed or written,without what the claim does not use. -/
namespace Go.Proofs.YtodhmbnfliajiaaGreatDoor.Q
open Go.RowKit Go.Shelf Go.Proofs.YtodhmbnfliajiaaGreatDoorW.PrintWords Go.Proofs.YtodhmbnfliajiaaGreatDoorW.PrintLast
def glob_Fold.f (k:Nat) (a0 a1:ByteArray):Option Bool:=if 1000000000000 < a0.size then none else if 1000000000000 < a1.size then none else glob_match.f k ((gletters a0).map glow) ((gletters a1).map glow)
set_option maxRecDepth 100000 in
set_option maxHeartbeats 4000000 in
theorem glob_Fold.calls (k:Nat) (a0:ByteArray) (a1:ByteArray) (r:Bool) (w:World) (hT:Tabs w) (h:glob_Fold.f k a0 a1=some r) :
 Calls Tryz.prog 26 #[.string a0,.string a1] w fun e w'=>e=.returned (.bool r)∧Below w.heap.size w w':=by
 unfold glob_Fold.f at h
 by_cases h0:1000000000000 < a0.size
 · rw [if_pos h0] at h;cases h
 by_cases h1:1000000000000 < a1.size
 · rw [if_neg h0,if_pos h1] at h;cases h
 rw [if_neg h0,if_neg h1] at h
 have H:=Lib.hid h;clear h
 go_enter Tryz.func26,Tryz.ntmps26
 go_wp2_with fail
 refine (letters_any a0 (by omega) w hT).mono ?_
 rintro e w1 ⟨v0,rfl,ho1,hb1⟩
 go_wp2_with fail
 refine (low_any w.heap.size v0 (gletters a0) (by have:=gletters_len a0;omega) (glets_i32 a0 _ _) w1 hb1.size ho1).mono ?_
 rintro e w2 ⟨rfl,ho2,hb2⟩
 have hb02:=hb1.trans hb2
 go_wp2_with fail
 refine (letters_any a1 (by omega) w2 (hT.below hb02)).mono ?_
 rintro e w3 ⟨v1,rfl,ho3,hb3⟩
 go_wp2_with fail
 refine (low_any w2.heap.size v1 (gletters a1) (by have:=gletters_len a1;omega) (glets_i32 a1 _ _) w3 hb3.size ho3).mono ?_
 rintro e w4 ⟨rfl,ho4,hb4⟩
 have hb24:=hb3.trans hb4
 have ho5:=pw_own_below ho2 hb24
 obtain ⟨A0,c0,hv0,hc0,hC0⟩:=gl_reads (l:=(gletters a0).map glow) (by simpa using ho5)
 obtain ⟨A1,c1,hv1,hc1,hC1⟩:=gl_reads (l:=(gletters a1).map glow) (by simpa using ho4)
 rw [hv0,hv1]
 have hM:=glob_match.calls k A0 c0 _ A1 c1 _ r w4 hC0 hc0 hC1 hc1 H.out
 simp only [List.length_map] at hM
 have HM:=Lib.hid hM
 clear hM hC0 hC1 ho1 ho2 ho3 ho4 ho5 hv0 hv1
 go_wp2_with fail
 refine (HM.out).mono ?_
 rintro e w5 ⟨rfl,hb5⟩
 go_wp2
 go_ret
 exact ⟨rfl,(hb02.trans (hb24.mono hb02.size)).trans (hb5.mono (Nat.le_trans hb02.size hb24.size))⟩
end Go.Proofs.YtodhmbnfliajiaaGreatDoor.Q


/- PureMatch: a text of this claim's proof,as printed or written,without what the claim does not use. -/
namespace Go.Proofs.YtodhmbnfliajiaaGreatDoor.Q
section
variable {α β:Type} (star:α→Bool) (ok:α→β→Bool)
def mtB:List α→List β→Bool
 | [],s=>s.isEmpty
 | p :: ps,s=>if star p then (List.range (s.length+1)).any (fun j=>mtB ps (s.drop j)) else
  match s with
  | []=>false
  | x :: t=>ok p x && mtB ps t
theorem mtB_star {p:α} (ps:List α) (s:List β) (h:star p=true):mtB star ok (p :: ps) s=true↔∃ j,j≤s.length∧mtB star ok ps (s.drop j)=true:=by
 simp only [mtB,h,if_true,List.any_eq_true,List.mem_range]
 exact ⟨fun ⟨j,h1,h2⟩=>⟨j,by omega,h2⟩,fun ⟨j,h1,h2⟩=>⟨j,by omega,h2⟩⟩
theorem mtB_one {p:α} (ps:List α) (x:β) (t:List β) (h:star p=false):mtB star ok (p :: ps) (x :: t)=(ok p x && mtB star ok ps t):=by
 simp [mtB,h]
theorem mtB_none {p:α} (ps:List α) (h:star p=false):mtB star ok (p :: ps) []=false:=by
 simp [mtB,h]
theorem mtB_nil (s:List β):mtB star ok [] s=s.isEmpty:=rfl
theorem mtB_append (p q:List α) : ∀ s:List β,mtB star ok (p++q) s=true↔∃ j,j≤s.length∧mtB star ok p (s.take j)=true∧mtB star ok q (s.drop j)=true:=by
 induction p with
 | nil=>
  intro s
  simp only [List.nil_append,mtB_nil]
  constructor
  · intro h;exact ⟨0,Nat.zero_le _,by simp,by simpa using h⟩
  · rintro ⟨j,hj,h1,h2⟩
    rw [List.isEmpty_iff,List.take_eq_nil_iff] at h1
    rcases h1 with rfl|rfl
    · simpa using h2
    · simpa using h2
 | cons a p ih=>
  intro s
  rw [List.cons_append]
  cases ha:star a with
  | true=>
   rw [mtB_star _ _ _ _ ha]
   constructor
   · rintro ⟨i,hi,h⟩
     obtain ⟨j,hj,h1,h2⟩:=(ih _).1 h
     rw [List.length_drop] at hj
     refine ⟨i+j,by omega,?_,by rw [List.drop_drop] at h2;exact h2⟩
     rw [mtB_star _ _ _ _ ha]
     refine ⟨i,by rw [List.length_take];omega,?_⟩
     rw [List.drop_take,show i+j - i=j by omega];exact h1
   · rintro ⟨j,hj,h1,h2⟩
     rw [mtB_star _ _ _ _ ha] at h1
     obtain ⟨i,hi,h1⟩:=h1
     rw [List.length_take] at hi
     refine ⟨i,by omega,(ih _).2 ⟨j - i,by rw [List.length_drop];omega,?_,?_⟩⟩
     · rw [List.drop_take] at h1;exact h1
     · rw [List.drop_drop,show i+(j - i)=j by omega];exact h2
  | false=>
   cases s with
   | nil=>
    rw [mtB_none _ _ _ ha]
    constructor
    · intro h;cases h
    · rintro ⟨j,hj,h1,h2⟩
      rw [List.take_nil,mtB_none _ _ _ ha] at h1;cases h1
   | cons x t=>
    rw [mtB_one _ _ _ _ _ ha,Bool.and_eq_true,ih]
    constructor
    · rintro ⟨h0,j,hj,h1,h2⟩
      refine ⟨j+1,by simp;omega,?_,h2⟩
      rw [List.take_succ_cons,mtB_one _ _ _ _ _ ha,h0,h1];rfl
    · rintro ⟨j,hj,h1,h2⟩
      cases j with
      | zero=>rw [List.take_zero,mtB_none _ _ _ ha] at h1;cases h1
      | succ j=>
       rw [List.take_succ_cons,mtB_one _ _ _ _ _ ha,Bool.and_eq_true] at h1
       exact ⟨h1.1,j,by simp at hj;omega,h1.2,h2⟩
theorem mtB_single_star {c:α} (h:star c=true) (s:List β):mtB star ok [c] s=true:=by
 rw [mtB_star _ _ _ _ h];exact ⟨s.length,Nat.le_refl _,by simp [mtB_nil]⟩
theorem mtB_snoc_star (q:List α) {c:α} (h:star c=true) (s:List β):mtB star ok (q++[c]) s=true↔∃ j,j≤s.length∧mtB star ok q (s.take j)=true:=by
 rw [mtB_append]
 exact ⟨fun ⟨j,h1,h2,_⟩=>⟨j,h1,h2⟩,fun ⟨j,h1,h2⟩=>⟨j,h1,h2,mtB_single_star star ok h _⟩⟩
theorem mtB_snoc_one (q:List α) {c:α} (h:star c=false) (s:List β) (x:β):mtB star ok (q++[c]) (s++[x])=(mtB star ok q s && ok c x):=by
 have key:mtB star ok (q++[c]) (s++[x])=true↔(mtB star ok q s && ok c x)=true:=by
  rw [mtB_append,Bool.and_eq_true]
  constructor
  · rintro ⟨j,hj,h1,h2⟩
    rcases Nat.lt_trichotomy j s.length with hlt|rfl|hgt
    · rw [List.drop_append_of_le_length (by omega)] at h2
      cases hd:s.drop j with
      | nil=>rw [List.drop_eq_nil_iff] at hd;omega
      | cons y t=>
       rw [hd,List.cons_append,mtB_one _ _ _ _ _ h,mtB_nil] at h2
       cases t <;> simp at h2
    · rw [List.take_left] at h1
      rw [List.drop_left,mtB_one _ _ _ _ _ h,mtB_nil] at h2
      exact ⟨h1,by simpa using h2⟩
    · have:j=(s++[x]).length:=by simp at hj ⊢;omega
      rw [this,List.drop_length,mtB_none _ _ _ h] at h2;cases h2
  · rintro ⟨h1,h2⟩
    refine ⟨s.length,by simp,by rw [List.take_left];exact h1,?_⟩
    rw [List.drop_left,mtB_one _ _ _ _ _ h,h2];rfl
 cases h1:mtB star ok (q++[c]) (s++[x]) <;> cases h2:(mtB star ok q s && ok c x) <;> simp [h1,h2] at key ⊢
theorem mtB_snoc_none (q:List α) {c:α} (h:star c=false):mtB star ok (q++[c]) []=false:=by
 cases hh:mtB star ok (q++[c]) [] with
 | false=>rfl
 | true=>
  obtain ⟨j,_,_,h2⟩:=(mtB_append star ok q [c] []).1 hh
  rw [List.drop_nil,mtB_none _ _ _ h] at h2;cases h2
theorem mtB_plain (g q:List α) (hg : ∀ a ∈ g,star a=false) : ∀ s:List β,mtB star ok (g++q) s=true→g.length≤s.length∧mtB star ok q (s.drop g.length)=true:=by
 induction g with
 | nil=>intro s h;exact ⟨Nat.zero_le _,by simpa using h⟩
 | cons a g ih=>
  intro s h
  have ha:=hg a (List.mem_cons_self ..)
  cases s with
  | nil=>rw [List.cons_append,mtB_none _ _ _ ha] at h;cases h
  | cons x t=>
   rw [List.cons_append,mtB_one _ _ _ _ _ ha,Bool.and_eq_true] at h
   have:=ih (fun b hb=>hg b (List.mem_cons_of_mem _ hb)) t h.2
   exact ⟨by simp;omega,by simpa using this.2⟩
end
theorem mtB_map {α β α' β':Type} (star:α→Bool) (ok:α→β→Bool) (star':α'→Bool) (ok':α'→β'→Bool) (e:α→α') (g:β→β') : ∀ (p:List α) (s:List β),(∀ a ∈ p,star' (e a)=star a)→(∀ a ∈ p,∀ x ∈ s,ok' (e a) (g x)=ok a x)→mtB star' ok' (p.map e) (s.map g)=mtB star ok p s
 | [],s,_,_=>by cases s <;> rfl
 | a :: p,s,h1,h2=>by
  have ih:=fun s' (hs : ∀ x ∈ s',x ∈ s)=>mtB_map star ok star' ok' e g p s' (fun b hb=>h1 b (List.mem_cons_of_mem _ hb)) (fun b hb x hx=>h2 b (List.mem_cons_of_mem _ hb) x (hs x hx))
  have ha:=h1 a (List.mem_cons_self ..)
  simp only [List.map_cons,mtB,ha,List.length_map]
  cases hst:star a with
  | true=>
   simp only [if_true]
   congr 1
   funext j
   rw [← List.map_drop]
   exact ih (s.drop j) (fun x hx=>List.mem_of_mem_drop hx)
  | false=>
   cases s with
   | nil=>rfl
   | cons x t=>
    simp only [List.map_cons]
    rw [h2 a (List.mem_cons_self ..) x (List.mem_cons_self ..),ih t (fun y hy=>List.mem_cons_of_mem _ hy)]
    rfl
end Go.Proofs.YtodhmbnfliajiaaGreatDoor.Q

/- PureTok: a text of this claim's proof,as printed or written,without what the claim does not use. -/
namespace Go.Proofs.YtodhmbnfliajiaaGreatDoor.Q
open Go.Lib
def dval (acc:Nat) (l:List UInt8):Nat:=l.foldl (fun a c=>a * 10+(c.toNat - 48)) acc
theorem dval_nil (acc:Nat):dval acc []=acc:=rfl
theorem dval_cons (acc:Nat) (c:UInt8) (r:List UInt8):dval acc (c :: r)=dval (acc * 10+(c.toNat - 48)) r:=by unfold dval;rw [List.foldl_cons]
def isD (c:UInt8):Bool:=decide (48≤c.toNat∧c.toNat≤57)
theorem dval_lt : ∀ (l:List UInt8) (acc:Nat),l.all isD=true→dval acc l < (acc+1) * 10 ^ l.length
 | [],acc,_=>by rw [dval_nil,List.length_nil,Nat.pow_zero,Nat.mul_one];exact Nat.lt_succ_self _
 | c :: r,acc,h=>by
  simp only [List.all_cons,Bool.and_eq_true] at h
  have hc:=of_decide_eq_true h.1
  have ih:=dval_lt r (acc * 10+(c.toNat - 48)) h.2
  rw [dval_cons,List.length_cons]
  refine Nat.lt_of_lt_of_le ih ?_
  rw [Nat.pow_succ,Nat.mul_comm (10 ^ r.length) 10,← Nat.mul_assoc]
  exact Nat.mul_le_mul_right _ (by omega)
theorem dval_ge : ∀ (l:List UInt8) (acc:Nat),acc≤dval acc l
 | [],acc=>Nat.le_refl _
 | c :: r,acc=>by
  rw [dval_cons];exact Nat.le_trans (by omega) (dval_ge r _)
theorem pu_ok (M:Nat) : ∀ (l:List UInt8) (acc:Nat),l.all isD=true→dval acc l≤M→dval acc l < 1000000000000000000→parseUintM M acc l=.ok (dval acc l)
 | [],acc,_,_,_=>by rw [parseUintM,dval_nil]
 | c :: r,acc,h,hM,hb=>by
  simp only [List.all_cons,Bool.and_eq_true] at h
  have hc:=of_decide_eq_true h.1
  rw [dval_cons] at hM hb
  have hge:=dval_ge r (acc * 10+(c.toNat - 48))
  rw [parseUintM,if_pos hc,if_neg (by omega),if_neg (by omega),dval_cons]
  exact pu_ok M r _ h.2 hM hb
theorem pi_ok (l:List UInt8) (hne:l≠[]) (hd:l.all isD=true) (hl:l.length≤18):parseIntB 64 l=.ok ((dval 0 l:Nat):Int):=by
 have hb:=dval_lt l 0 hd
 have h18:10 ^ l.length≤10 ^ 18:=Nat.pow_le_pow_right (by omega) hl
 have hb2:dval 0 l < 1000000000000000000:=by
  have e:(10:Nat) ^ 18=1000000000000000000:=by decide
  rw [e] at h18;omega
 cases l with
 | nil=>exact absurd rfl hne
 | cons c r=>
  have hc:48≤c.toNat∧c.toNat≤57:=by simp only [List.all_cons,Bool.and_eq_true] at hd;exact of_decide_eq_true hd.1
  rw [parseIntB_plain 64 c r (by omega) (by omega)]
  have hu:parseUintB 64 (c :: r)=.ok (dval 0 (c :: r)):=by
   unfold parseUintB
   rw [if_neg (by simp)]
   exact pu_ok _ _ 0 hd (by
    have:(2:Nat) ^ 64 - 1=18446744073709551615:=by decide
    omega) hb2
  rw [hu]
  have h63:(2:Nat) ^ (64 - 1)=9223372036854775808:=by decide
  simp only [signlessC,h63]
  rw [if_neg (by omega)]
end Go.Proofs.YtodhmbnfliajiaaGreatDoor.Q

