/- Merged out of: Qx5, HandJson, Qx14. -/
import Derived.Test.YtodhmbnfliajiaaGreatDoorShelf
import Derived.Test.YtodhmbnfliajiaaGreatDoorJ14
/- Qx5: a text of this claim's proof,as printed or written,without what the claim does not use. -/
namespace Go.Proofs.YtodhmbnfliajiaaGreatDoor.Q
open Go.RowKit Go.Proofs.YtodhmbnfliajiaaGreatDoorW.PrintWords Go.Proofs.YtodhmbnfliajiaaGreatDoorW.PrintLast Go.Proofs.YtodhmbnfliajiaaGreatDoorW.PrintMore
attribute [local go_sem] max2_int min2_int max_two min_two max_three min_three max_four min_four
set_option linter.unusedVariables false
set_option linter.unusedSimpArgs false
def glob_letter_is.f (a0_0:Int) (a0_1:Bool) (a1:Int):Option (Bool):=if a0_1=true then (some false) else (some (a0_0==a1))
set_option maxHeartbeats 8000000 in
set_option maxRecDepth 100000 in
theorem glob_letter_is.calls (a0_0:Int) (a0_1:Bool) (a1:Int) (r:Bool) (w:World) (h:glob_letter_is.f a0_0 a0_1 a1=some r) :
 Calls Tryz.prog 80 #[.agg #[.int .i32 a0_0,.bool a0_1],.int .i32 a1] w fun e w'=>e=.returned (.bool r)∧Below w.heap.size w w':=by
 have hu80:=Tryz.underlying80;have HB:=Aside0.mk (Below.refl w.heap.size w);have H:(if a0_1=true then (some false) else (some (a0_0==a1)))=some r:=h;clear h;by_cases c3:a0_1=true
 · subst c3;rw [if_pos rfl] at H;obtain rfl:=Option.some.inj H;go_enter Tryz.func80,Tryz.ntmps80;go_wp2_with (first|((with_reducible refine gate_dst (N:=2) rfl ?_);refine box_event ?hg (N:=2) ?hd (cs:=#[.int .i32 a0_0,.bool true]) (t:=80) ?hr ?_;(case hd=>rfl);(case hg=>rfl);(case hr=>exact hr_);intro gb110 hg w4 hbox hb;have n0_:=Aside0.mk (below_step bz_ hb);have n1_:=Aside0.mk (hbox);have n2_:=Aside0.mk ((by rw [hg];exact (below_size bz_):w.heap.size≤gb110));have n3_:=Aside0.mk ((by rw [hg];exact (below_size bz_):w.heap.size≤gb110));clear HB;have HB:=n0_;have BK110:=n1_;have GW110:=n2_;have GE110:=n3_;clear n0_ n1_ n2_ n3_;clear hb hbox hg;have hcz5_0:w4.cell? ⟨gb110,0,none⟩=some (.int .i32 a0_0):=(blk_cell BK110.out 0).trans rfl;have hcz5_1:w4.cell? ⟨gb110,1,none⟩=some (.bool true):=(blk_cell BK110.out 1).trans rfl;have hfz5_0:=blk_frozen BK110.out 0;have hfz5_1:=blk_frozen BK110.out 1));go_ret;exact ⟨by first|rfl|(simp [errW_none,errW_some] <;> rfl)|(simp [*,errW_none,errW_some] <;> rfl),by repeat (first|(with_reducible first|exact HB.out|apply below_alloc|apply pw_below_drewN|apply below_drew1|refine below_set ?_ GE110.out)|exact HB.out)⟩
 · replace c3:=Bool.eq_false_iff.mpr c3;subst c3;rw [if_neg nf_] at H;obtain rfl:=Option.some.inj H;go_enter Tryz.func80,Tryz.ntmps80;go_wp2_with (first|((with_reducible refine gate_dst (N:=2) rfl ?_);refine box_event ?hg (N:=2) ?hd (cs:=#[.int .i32 a0_0,.bool false]) (t:=80) ?hr ?_;(case hd=>rfl);(case hg=>rfl);(case hr=>exact hr_);intro gb110 hg w6 hbox hb;have n0_:=Aside0.mk (below_step bz_ hb);have n1_:=Aside0.mk (hbox);have n2_:=Aside0.mk ((by rw [hg];exact (below_size bz_):w.heap.size≤gb110));have n3_:=Aside0.mk ((by rw [hg];exact (below_size bz_):w.heap.size≤gb110));clear HB;have HB:=n0_;have BK110:=n1_;have GW110:=n2_;have GE110:=n3_;clear n0_ n1_ n2_ n3_;clear hb hbox hg;have hcz7_0:w6.cell? ⟨gb110,0,none⟩=some (.int .i32 a0_0):=(blk_cell BK110.out 0).trans rfl;have hcz7_1:w6.cell? ⟨gb110,1,none⟩=some (.bool false):=(blk_cell BK110.out 1).trans rfl;have hfz7_0:=blk_frozen BK110.out 0;have hfz7_1:=blk_frozen BK110.out 1));go_ret;exact ⟨by first|rfl|(simp [errW_none,errW_some] <;> rfl)|(simp [*,errW_none,errW_some] <;> rfl),by repeat (first|(with_reducible first|exact HB.out|apply below_alloc|apply pw_below_drewN|apply below_drew1|refine below_set ?_ GE110.out)|exact HB.out)⟩
end Go.Proofs.YtodhmbnfliajiaaGreatDoor.Q

/- HandJson: a text of this claim's proof,as printed or written,without what the claim does not use. -/
namespace Go.Proofs.YtodhmbnfliajiaaGreatDoor.Q
open Go.RowKit Go.Shelf Go.Proofs.YtodhmbnfliajiaaGreatDoorW.PrintWords Go.Proofs.YtodhmbnfliajiaaGreatDoorW.PrintLast
abbrev JS:=S27
def aclIdx:List ByteArray→ByteArray→Int→Int
 | [],_,_=>-1
 | a :: l,x,i=>if a.toList=x.toList then i else aclIdx l x (i+1)
def aclValue (kind:Int) (keys:List ByteArray) (list:List JS) (key:ByteArray):Option JS :=
 if kind≠5 then none else if aclIdx keys key 0 < 0 then none else if (list.length:Int)≤aclIdx keys key 0 then none else some (rd_T27 list (aclIdx keys key 0))
theorem aclIdx_l0 (l:List ByteArray) (hl:l.length≤9223372036854775806) (x:ByteArray) : ∀ (m k i:Nat),m=l.length - i→i≤l.length→m < k→slices_Index_string_string.l0 k l x (l.length:Int) (i:Int)=some (aclIdx (l.drop i) x (i:Int))
 | 0,k,i,hm,hi,hk=>by
  obtain ⟨k,rfl⟩ : ∃ j,k=j+1:=⟨k - 1,by omega⟩;have:i=l.length:=by omega
  subst this;simp [slices_Index_string_string.l0,aclIdx]
 | m+1,k,i,hm,hi,hk=>by
  obtain ⟨k,rfl⟩ : ∃ j,k=j+1:=⟨k - 1,by omega⟩;have hlt:i < l.length:=by omega
  have ih:=aclIdx_l0 l hl x m k (i+1) (by omega) (by omega) (by omega);rw [List.drop_eq_getElem_cons hlt];have hrd:rdOf ByteArray.empty l (i:Int)=l[i]:=by simp [rdOf,hlt]
  have hw:wrap64 ((i:Int)+1)=((i+1:Nat):Int):=by unfold wrap64;omega
  simp only [slices_Index_string_string.l0,aclIdx];rw [if_pos (by omega),if_pos (by omega),if_pos (by omega),hrd,hw,ih];by_cases h:l[i].toList=x.toList
  · rw [if_pos h.symm,if_pos h]
  · rw [if_neg (fun e=>h e.symm),if_neg h];rfl
theorem aclIdx_ge (l:List ByteArray) (x:ByteArray) : ∀ i,-1≤i→-1≤aclIdx l x i∧aclIdx l x i < i+l.length+1:=by
 induction l with
 | nil=>intro i hi;simp [aclIdx];omega
 | cons a l ih=>
  intro i hi;simp only [aclIdx,List.length_cons];split
  · omega
  · have:=ih (i+1) (by omega);omega
theorem acl_index (l:List ByteArray) (hl:l.length≤9223372036854775806) (A:Option Addr) (c:Nat) (x:ByteArray) (w:World) (hr:Kd.C Kd.string w A l.length l) (hc:l.length≤c) :
 Calls Tryz.prog 50 #[.slice A l.length c,.string x] w fun e w'=>e=.returned (.int .i64 (aclIdx l x 0))∧Drawn0 w w':=by
 refine slices_Index_string_string.calls (l.length+1) A c l x _ w hr hc ?_;unfold slices_Index_string_string.f;have:=aclIdx_l0 l hl x l.length (l.length+1) 0 (by omega) (by omega) (by omega);simpa using this
def put5 (W:World) (g:Nat) (v0 v1 v2 v3 v4:Value):World:=((((W.setCell ⟨g,0,none⟩ v0).setCell ⟨g,1,none⟩ v1).setCell ⟨g,2,none⟩ v2).setCell ⟨g,3,none⟩ v3).setCell ⟨g,4,none⟩ v4
theorem put5_heap {W:World} {g:Nat} {a0 a1 a2 a3 a4:Value} {t:TypeId} (h:W.heap[g]?=some (.cells #[a0,a1,a2,a3,a4] t (0,0))) (v0 v1 v2 v3 v4:Value):(put5 W g v0 v1 v2 v3 v4).heap[g]?=some (.cells #[v0,v1,v2,v3,v4] t (0,0)):=by
 unfold put5;refine blk_put (cs:=#[v0,v1,v2,v3,a4]) ?_ 4 _ rfl;refine blk_put (cs:=#[v0,v1,v2,a3,a4]) ?_ 3 _ rfl;refine blk_put (cs:=#[v0,v1,a2,a3,a4]) ?_ 2 _ rfl;refine blk_put (cs:=#[v0,a1,a2,a3,a4]) ?_ 1 _ rfl;exact blk_put (cs:=#[a0,a1,a2,a3,a4]) h 0 _ rfl
theorem put5_below {n:Nat} {w W:World} {g:Nat} (h:Below n w W) (hg:n≤g) (v0 v1 v2 v3 v4:Value):Below n w (put5 W g v0 v1 v2 v3 v4):=by
 unfold put5;exact ((((h.setCell hg _).setCell hg _).setCell hg _).setCell hg _).setCell hg _
end Go.Proofs.YtodhmbnfliajiaaGreatDoor.Q

/- Qx14: a text of this claim's proof,as printed or written,without what the claim does not use. -/
namespace Go.Proofs.YtodhmbnfliajiaaGreatDoor.Q
open Go.RowKit Go.Proofs.YtodhmbnfliajiaaGreatDoorW.PrintWords Go.Proofs.YtodhmbnfliajiaaGreatDoorW.PrintLast Go.Proofs.YtodhmbnfliajiaaGreatDoorW.PrintMore
attribute [local go_sem] max2_int min2_int max_two min_two max_three min_three max_four min_four
set_option linter.unusedVariables false
set_option linter.unusedSimpArgs false
def push_match.f (a0:ByteArray) (a1:ByteArray):Option (ByteArray×ByteArray×ByteArray×Int):=some ((⟨#[101,118,101,110,116,95,109,97,116,99,104]⟩:ByteArray),a0,a1,0)
set_option maxHeartbeats 8000000 in
set_option maxRecDepth 100000 in
theorem push_match.calls (a0:ByteArray) (a1:ByteArray) (r1:ByteArray) (r2:ByteArray) (r3:ByteArray) (r4:Int) (w:World) (h:push_match.f a0 a1=some (r1,r2,r3,r4)) :
 Calls Tryz.prog 40 #[.string a0,.string a1] w fun e w'=>e=.returned (.agg #[.string r1,.string r2,.string r3,.int .i64 r4])∧Below w.heap.size w w':=by
 have hu23:=Tryz.underlying23;have HB:=Aside0.mk (Below.refl w.heap.size w);have H:(some ((⟨#[101,118,101,110,116,95,109,97,116,99,104]⟩:ByteArray),a0,a1,0))=some (r1,r2,r3,r4):=h;clear h;simp only [Option.some.injEq,Prod.mk.injEq] at H;obtain ⟨rfl,rfl,rfl,rfl⟩:=H;go_enter Tryz.func40,Tryz.ntmps40;go_wp2_with (first|((with_reducible refine gate_dst (N:=4) rfl ?_);refine box_event ?hg (N:=4) ?hd (cs:=#[.string (⟨#[]⟩:ByteArray),.string (⟨#[]⟩:ByteArray),.string (⟨#[]⟩:ByteArray),.int .i64 0]) (t:=23) ?hr ?_;(case hd=>rfl);(case hg=>rfl);(case hr=>exact hr_);intro gb224 hg w3 hbox hb;have n0_:=Aside0.mk (below_step bz_ hb);have n1_:=Aside0.mk (hbox);have n2_:=Aside0.mk ((by rw [hg];exact (below_size bz_):w.heap.size≤gb224));have n3_:=Aside0.mk ((by rw [hg];exact (below_size bz_):w.heap.size≤gb224));clear HB;have HB:=n0_;have BK224:=n1_;have GW224:=n2_;have GE224:=n3_;clear n0_ n1_ n2_ n3_;clear hb hbox hg;have hcz4_0:w3.cell? ⟨gb224,0,none⟩=some (.string (⟨#[]⟩:ByteArray)):=(blk_cell BK224.out 0).trans rfl;have hcz4_1:w3.cell? ⟨gb224,1,none⟩=some (.string (⟨#[]⟩:ByteArray)):=(blk_cell BK224.out 1).trans rfl;have hcz4_2:w3.cell? ⟨gb224,2,none⟩=some (.string (⟨#[]⟩:ByteArray)):=(blk_cell BK224.out 2).trans rfl;have hcz4_3:w3.cell? ⟨gb224,3,none⟩=some (.int .i64 0):=(blk_cell BK224.out 3).trans rfl;have hfz4_0:=blk_frozen BK224.out 0;have hfz4_1:=blk_frozen BK224.out 1;have hfz4_2:=blk_frozen BK224.out 2;have hfz4_3:=blk_frozen BK224.out 3));refine bodyPost_ret (results_cell_row rfl _ _ gb224 23 #[.string (⟨#[101,118,101,110,116,95,109,97,116,99,104]⟩:ByteArray),.string a0,.string a1,.int .i64 0] (0,0) _ rfl (by (with_reducible repeat (first|refine blk_drewN ?_ _|refine blk_drew ?_|refine blk_alloc ?_ _));refine blk_put (cs:=#[.string (⟨#[101,118,101,110,116,95,109,97,116,99,104]⟩:ByteArray),.string a0,.string a1,.int .i64 0]) ?_ 3 _ rfl;(with_reducible repeat (first|refine blk_drewN ?_ _|refine blk_drew ?_|refine blk_alloc ?_ _));refine blk_put (cs:=#[.string (⟨#[101,118,101,110,116,95,109,97,116,99,104]⟩:ByteArray),.string a0,.string (⟨#[]⟩:ByteArray),.int .i64 0]) ?_ 2 _ rfl;(with_reducible repeat (first|refine blk_drewN ?_ _|refine blk_drew ?_|refine blk_alloc ?_ _));refine blk_put (cs:=#[.string (⟨#[101,118,101,110,116,95,109,97,116,99,104]⟩:ByteArray),.string (⟨#[]⟩:ByteArray),.string (⟨#[]⟩:ByteArray),.int .i64 0]) ?_ 1 _ rfl;(with_reducible repeat (first|refine blk_drewN ?_ _|refine blk_drew ?_|refine blk_alloc ?_ _));refine blk_put (cs:=#[.string (⟨#[]⟩:ByteArray),.string (⟨#[]⟩:ByteArray),.string (⟨#[]⟩:ByteArray),.int .i64 0]) ?_ 0 _ rfl;(with_reducible repeat (first|refine blk_drewN ?_ _|refine blk_drew ?_|refine blk_alloc ?_ _));exact BK224.out) Tryz.underlying23 rfl kr_) rfl ?_;exact ⟨by first|rfl|(simp [errW_none,errW_some] <;> rfl)|(simp [*,errW_none,errW_some] <;> rfl),by repeat (first|(with_reducible first|exact HB.out|apply below_alloc|apply pw_below_drewN|apply below_drew1|refine below_set ?_ GE224.out)|exact HB.out)⟩
def ident_small.f (a0:Int):Option (Bool):=if 97≤a0 then (if a0≤122 then (some true) else (if 48≤a0 then (if a0≤57 then (some true) else (some (a0==46))) else (some (a0==46)))) else (if 48≤a0 then (if a0≤57 then (some true) else (some (a0==46))) else (some (a0==46)))
set_option maxHeartbeats 8000000 in
set_option maxRecDepth 100000 in
theorem ident_small.calls (a0:Int) (r:Bool) (w:World) (h:ident_small.f a0=some r) :
 Calls Tryz.prog 106 #[.int .u8 a0] w fun e w'=>e=.returned (.bool r)∧Drawn0 w w':=by
 have H:(if 97≤a0 then (if a0≤122 then (some true) else (if 48≤a0 then (if a0≤57 then (some true) else (some (a0==46))) else (some (a0==46)))) else (if 48≤a0 then (if a0≤57 then (some true) else (some (a0==46))) else (some (a0==46))))=some r:=h;clear h;by_cases c2:97≤a0
 · rw [if_pos c2] at H;have c2b0:decide (97≤a0)=true:=decide_eq_true c2;clear c2;by_cases c3:a0≤122
   · rw [if_pos c3] at H;have c3b0:decide (a0≤122)=true:=decide_eq_true c3;clear c3;obtain rfl:=Option.some.inj H;go_enter Tryz.func106,Tryz.ntmps106;go_wp2;go_ret;exact ⟨sz_,dz_⟩
   · rw [if_neg c3] at H;have c3b0:decide (a0≤122)=false:=decide_eq_false c3;clear c3;by_cases c4:48≤a0
     · rw [if_pos c4] at H;have c4b0:decide (48≤a0)=true:=decide_eq_true c4;clear c4;by_cases c5:a0≤57
       · rw [if_pos c5] at H;have c5b0:decide (a0≤57)=true:=decide_eq_true c5;clear c5;obtain rfl:=Option.some.inj H;go_enter Tryz.func106,Tryz.ntmps106;go_wp2;go_ret;exact ⟨sz_,dz_⟩
       · rw [if_neg c5] at H;have c5b0:decide (a0≤57)=false:=decide_eq_false c5;clear c5;obtain rfl:=Option.some.inj H;go_enter Tryz.func106,Tryz.ntmps106;go_wp2;go_ret;exact ⟨sz_,dz_⟩
     · rw [if_neg c4] at H;have c4b0:decide (48≤a0)=false:=decide_eq_false c4;clear c4;obtain rfl:=Option.some.inj H;go_enter Tryz.func106,Tryz.ntmps106;go_wp2;go_ret;exact ⟨sz_,dz_⟩
 · rw [if_neg c2] at H;have c2b0:decide (97≤a0)=false:=decide_eq_false c2;clear c2;by_cases c6:48≤a0
   · rw [if_pos c6] at H;have c6b0:decide (48≤a0)=true:=decide_eq_true c6;clear c6;by_cases c7:a0≤57
     · rw [if_pos c7] at H;have c7b0:decide (a0≤57)=true:=decide_eq_true c7;clear c7;obtain rfl:=Option.some.inj H;go_enter Tryz.func106,Tryz.ntmps106;go_wp2;go_ret;exact ⟨sz_,dz_⟩
     · rw [if_neg c7] at H;have c7b0:decide (a0≤57)=false:=decide_eq_false c7;clear c7;obtain rfl:=Option.some.inj H;go_enter Tryz.func106,Tryz.ntmps106;go_wp2;go_ret;exact ⟨sz_,dz_⟩
   · rw [if_neg c6] at H;have c6b0:decide (48≤a0)=false:=decide_eq_false c6;clear c6;obtain rfl:=Option.some.inj H;go_enter Tryz.func106,Tryz.ntmps106;go_wp2;go_ret;exact ⟨sz_,dz_⟩
def ident_Server_1.f (a0:Int):Option (Bool):=(ident_small.f a0).bind fun t225=>(if t225=true then (some true) else (some (a0==45)))
set_option maxHeartbeats 8000000 in
set_option maxRecDepth 100000 in
theorem ident_Server_1.calls (a0:Int) (r:Bool) (w:World) (h:ident_Server_1.f a0=some r) :
 Calls Tryz.prog 107 #[.int .u8 a0] w fun e w'=>e=.returned (.bool r)∧Drawn0 w w':=by
 have H:((ident_small.f a0).bind fun t225=>(if t225=true then (some true) else (some (a0==45))))=some r:=h;clear h;obtain ⟨t225,A2,H⟩:=bs_ H;(try dsimp only at H);by_cases c3:t225=true
 · subst c3;rw [if_pos rfl] at H;obtain rfl:=Option.some.inj H;go_enter Tryz.func107,Tryz.ntmps107;go_wp2_with (first|((with_reducible refine gate_callee (f:=106) rfl ?_);refine goesL_ (some 4) rfl rfl Tryz.func106 kr_ rfl #[.int .u8 a0] rfl ag_ ?_;(with_reducible refine (ident_small.calls a0 true _ A2.out).mono ?_);rintro e w' ⟨rfl,⟨nd,rfl⟩⟩;refine ⟨_,rfl,?_⟩));go_ret;exact ⟨sz_,dz_⟩
 · replace c3:=Bool.eq_false_iff.mpr c3;subst c3;rw [if_neg nf_] at H;obtain rfl:=Option.some.inj H;go_enter Tryz.func107,Tryz.ntmps107;go_wp2_with (first|((with_reducible refine gate_callee (f:=106) rfl ?_);refine goesL_ (some 4) rfl rfl Tryz.func106 kr_ rfl #[.int .u8 a0] rfl ag_ ?_;(with_reducible refine (ident_small.calls a0 false _ A2.out).mono ?_);rintro e w' ⟨rfl,⟨nd,rfl⟩⟩;refine ⟨_,rfl,?_⟩));go_ret;exact ⟨sz_,dz_⟩
end Go.Proofs.YtodhmbnfliajiaaGreatDoor.Q

