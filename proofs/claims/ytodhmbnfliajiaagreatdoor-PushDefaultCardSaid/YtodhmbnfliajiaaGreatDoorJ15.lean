/- Merged out of: PureFew, PureDefault, HandMessage, HandTell. -/
import Derived.Test.YtodhmbnfliajiaaGreatDoorHandFew05
import Derived.Test.YtodhmbnfliajiaaGreatDoorHandDefault
import Derived.Test.YtodhmbnfliajiaaGreatDoorHandPut
/- PureFew: a text of this claim's proof,as printed or written,without what the claim does not use. -/
namespace Go.Proofs.YtodhmbnfliajiaaGreatDoor.Q
open Go.RowKit Go.Proofs.YtodhmbnfliajiaaGreatDoorW.PrintWords Go.Proofs.YtodhmbnfliajiaaGreatDoorW.PrintLast Go.Proofs.YtodhmbnfliajiaaGreatDoorW.PrintMore
def RuleFits (r:RL):Prop:=r.f3.length≤6∧∀ q ∈ r.f3,q.f2.size≤60
structure FewIs (l:List RL) (x:EvV) (name:ByteArray):Prop where
 len:l.length≤15
 ev:EvFits x.room x.type x.sender x.key ⟨x.kind,x.n,x.text,x.keys,x.list⟩ x.prev x.auth x.hash x.sigs
 name:name.size≤60
 rules : ∀ r ∈ l,RuleFits r
theorem FewIs.small {l:List RL} {x:EvV} {name:ByteArray} (h:FewIs l x name):evSmall x=true:=by
 have f:=h.ev;have h1:=f.room;have h2:=f.type;have h3:=f.sender;have h4:=f.key
 have h5:x.keys.length≤100:=f.okay.1.1;unfold evSmall;rw [Bool.and_eq_true,decide_eq_true_eq,List.all_eq_true];refine ⟨⟨by omega,by omega,by omega,by omega,by omega⟩,fun v hv=>?_⟩;have:v.f2.size≤2000:=(f.okay.2 v hv).1.2.2.1;exact decide_eq_true (by omega)
theorem FewIs.rulesSmall {l:List RL} {x:EvV} {name:ByteArray} (h:FewIs l x name):rulesSmall l=true:=by
 have hl:=h.len;unfold Q.rulesSmall;rw [Bool.and_eq_true,decide_eq_true_eq,List.all_eq_true];refine ⟨by omega,fun r hr=>?_⟩;have:=h.rules r hr;rw [Bool.and_eq_true,decide_eq_true_eq,List.all_eq_true];exact ⟨by have:=this.1;omega,fun q hq=>decide_eq_true (by have:=this.2 q hq;omega)⟩
end Go.Proofs.YtodhmbnfliajiaaGreatDoor.Q

/- PureDefault: a text of this claim's proof,as printed or written,without what the claim does not use. -/
namespace Go.Proofs.YtodhmbnfliajiaaGreatDoor.Q
open Go.RowKit Go.Proofs.YtodhmbnfliajiaaGreatDoorW.PrintWords Go.Proofs.YtodhmbnfliajiaaGreatDoorW.PrintLast Go.Proofs.YtodhmbnfliajiaaGreatDoorW.PrintMore
set_option linter.unusedVariables false
set_option maxRecDepth 100000 in
theorem rdefault_f (u:ByteArray) (hs:u.size≤1000000000) : ∃ K,agoraref27_Default.f K u=some (defaultRules u):=by
 obtain ⟨K,h⟩:=user4_f u hs;refine ⟨K,?_⟩;unfold agoraref27_Default.f;rw [h];unfold defaultRules ownRule ownCond;generalize userB u=t;obtain ⟨t1,t2,t3⟩:=t
 cases t3 with
 | false=>rfl
 | true=>rfl
theorem rdefault_c (u:ByteArray) (hs:u.size≤1000000000) (w:World):Calls Tryz.prog 19 #[.string u] w fun e w'=>∃ A c,e=.returned (.slice A (defaultRules u).length c)∧(defaultRules u).length≤c∧Kd.C k47 w' A (defaultRules u).length (defaultRules u)∧Below w.heap.size w w':=by
 obtain ⟨K,h⟩:=rdefault_f u hs;refine (agoraref27_Default.calls K u _ w h).mono ?_;rintro e w' ⟨v,rfl,hN,hb⟩;obtain ⟨A,c,rfl,hc,hC⟩:=Kd.N_reads hN;exact ⟨A,c,rfl,hc,hC,hb⟩
end Go.Proofs.YtodhmbnfliajiaaGreatDoor.Q

/- HandMessage: a text of this claim's proof,as printed or written,without what the claim does not use. -/
namespace Go.Proofs.YtodhmbnfliajiaaGreatDoor.Q
open Go.RowKit Go.Proofs.YtodhmbnfliajiaaGreatDoorW.PrintWords Go.Proofs.YtodhmbnfliajiaaGreatDoorW.PrintLast Go.Proofs.YtodhmbnfliajiaaGreatDoorW.PrintMore
set_option linter.unusedVariables false
set_option linter.unusedSimpArgs false
def msgBody (s:ByteArray):S27:=⟨3,0,s,[],[]⟩
theorem C_nil {α:Type} (d:Kd α) (w:World) (A:Option Addr):d.C w A 0 []:=⟨rfl,by decide,fun h=>absurd h (by decide)⟩
theorem F_nil {α:Type} (d:Kd α) (w:World) (ok:Nat→Prop) (A:Option Addr):Kd.F d w ok A 0 []:=fun W' _=>C_nil d W' A
set_option maxRecDepth 100000 in
set_option maxHeartbeats 1000000 in
theorem message_calls (s:ByteArray) (w:World) :
 Calls Tryz.prog 33 #[.string s] w fun e w'=>∃ A8 c8 A9 c9,e=.returned (.agg #[.string (⟨#[]⟩:ByteArray),.string (⟨#[109,46,114,111,111,109,46,109,101,115,115,97,103,101]⟩:ByteArray),.string (⟨#[64,98,58,115,49]⟩:ByteArray),.bool false,.string (⟨#[]⟩:ByteArray),.int .i64 5,.int .i64 0,.string (⟨#[]⟩:ByteArray),.slice A8 1 c8,.slice A9 1 c9,.slice none 0 0,.slice none 0 0,.int .i64 0,.int .i64 0,.string (⟨#[]⟩:ByteArray),.slice none 0 0,.string (⟨#[64,97,110,110,58,115,49]⟩:ByteArray),.string (⟨#[]⟩:ByteArray),.int .i64 9,.int .i64 0])∧Kd.C Kd.string w' A8 1 [(⟨#[98,111,100,121]⟩:ByteArray)]∧1≤c8∧Kd.C k27 w' A9 1 [msgBody s]∧1≤c9∧Below w.heap.size w w':=by
 have hu:=Tryz.underlying32;have hu2:=Tryz.underlying27;have hu3:=Tryz.underlying30;go_enter Tryz.func33,Tryz.ntmps33;go_wp2_with (first|((with_reducible refine gate_dst (N:=2) rfl ?_);refine box_event ?hg (N:=2) ?hd (cs:=#[.string (⟨#[]⟩:ByteArray),.string (⟨#[]⟩:ByteArray),.string (⟨#[]⟩:ByteArray),.bool false,.string (⟨#[]⟩:ByteArray),.int .i64 0,.int .i64 0,.string (⟨#[]⟩:ByteArray),.slice none 0 0,.slice none 0 0,.slice none 0 0,.slice none 0 0,.int .i64 0,.int .i64 0,.string (⟨#[]⟩:ByteArray),.slice none 0 0,.string (⟨#[]⟩:ByteArray),.string (⟨#[]⟩:ByteArray),.int .i64 0,.int .i64 0]) (t:=32) ?hr ?_;(case hd=>rfl);(case hg=>rfl);(case hr=>exact hr_);intro g2 hg2 w2 hk2 hb2;have HK2:=Lib.hid hk2;have HB2:=Lib.hid hb2;(have hn2:w.heap.size≤g2:=Nat.le_of_eq hg2.symm);have HN2:=Lib.hid hn2;clear hk2 hb2 hg2 hn2)|(go_at_call 69;refine (agoraref01_Str.calls _ _ _ _ _ _ _ rfl).mono ?_;rintro e w3 ⟨v3,v4,rfl,q3,q4,hb3⟩;(obtain ⟨B3,d3,rfl⟩:=Kd.R_slice q3);(obtain ⟨B4,d4,rfl⟩:=Kd.R_slice q4);have HB3:=Lib.hid (below_step HB2.out hb3);(have hk3:=blk_below HK2.out hb3);have HK3:=Lib.hid hk3;clear q3 q4 hb3 hk3)|(go_at_call 68;refine (Put_F (fun _=>False) 5 0 (⟨#[]⟩:ByteArray) none 0 [] none 0 [] (⟨#[98,111,100,121]⟩:ByteArray) (msgBody s) B3 d3 B4 d4 w3 (C_nil _ _ _) (Nat.le_refl _) (F_nil _ _ _ _) (Nat.le_refl _) (show 0 < 8796093022207 by decide) (show 0 < 1759218604440 by decide) (F_nil _ _ _ _) (Nat.zero_le _) (F_nil _ _ _ _) (Nat.zero_le _)).mono ?_;rintro e w4 ⟨A8,c8,A9,c9,rfl,hb4,q8,l8,q9,l9⟩;have HB4:=Lib.hid (below_step HB3.out hb4);(have hk4:=blk_below HK3.out hb4);have HK4:=Lib.hid hk4;have Q8:=Lib.hid q8;have Q9:=Lib.hid q9;have L8:=Lib.hid l8;have L9:=Lib.hid l9;clear q8 q9 l8 l9 hb4 hk4)|((with_reducible refine gate_dst (N:=3) rfl ?_);refine box_event ?hg (N:=3) ?hd (cs:=#[.int .i64 0,.int .i64 0,.string (⟨#[]⟩:ByteArray),.slice none 0 0,.slice none 0 0]) (t:=27) ?hr ?_;(case hd=>rfl);(case hg=>rfl);(case hr=>exact hr_);intro g3 hg3 w5 hk5 hb5;(have hk6:=blk_below HK4.out hb5);(have hn3:w4.heap.size≤g3:=Nat.le_of_eq hg3.symm);(have hne:g2≠g3:=by (rw [hg3];exact Nat.ne_of_lt (blk_lt HK4.out)));have HNE:=Lib.hid hne;have HN3:=Lib.hid hn3;have HK5:=Lib.hid hk5;have HK6:=Lib.hid hk6;have HB5:=Lib.hid hb5;clear hk5 hb5 hg3 hn3 hk6 hne)|((with_reducible refine gate_store (t:=27) (p:=3) rfl ?_);refine wpList_store_row rfl 27 (.tmp 3) (.tmp 7) rfl g3 #[.int .i64 5,.int .i64 0,.string (⟨#[]⟩:ByteArray),.slice A8 1 c8,.slice A9 1 c9] rfl rfl 27 _ HK5.out kr_ rfl (by simp [Value.oneCell']) ?_)|((with_reducible refine gate_dst (N:=8) rfl ?_);refine wpList_load_row rfl 27 (.tmp 3) rfl g3 rfl 27 #[.int .i64 5,.int .i64 0,.string (⟨#[]⟩:ByteArray),.slice A8 1 c8,.slice A9 1 c9] (0,0) _ (setRow_heap _ _ _ _ _ _ HK5.out) Tryz.underlying27 rfl kr_ ?_)|((with_reducible refine gate_store (t:=32) (p:=2) rfl ?_);refine wpList_store_row rfl 32 (.tmp 2) (.tmp 10) rfl g2 #[.string (⟨#[]⟩:ByteArray),.string (⟨#[109,46,114,111,111,109,46,109,101,115,115,97,103,101]⟩:ByteArray),.string (⟨#[64,98,58,115,49]⟩:ByteArray),.bool false,.string (⟨#[]⟩:ByteArray),.int .i64 5,.int .i64 0,.string (⟨#[]⟩:ByteArray),.slice A8 1 c8,.slice A9 1 c9,.slice none 0 0,.slice none 0 0,.int .i64 0,.int .i64 0,.string (⟨#[]⟩:ByteArray),.slice none 0 0,.string (⟨#[64,97,110,110,58,115,49]⟩:ByteArray),.string (⟨#[]⟩:ByteArray),.int .i64 9,.int .i64 0] rfl rfl 32 _ ((setRow_other _ _ _ _ HNE.out).trans HK6.out) kr_ rfl (by simp [Value.oneCell']) ?_));have hg2:g2 < w3.heap.size:=blk_lt HK3.out;have hb5:Below w.heap.size w ((w5.setRow g3 #[.int .i64 5,.int .i64 0,.string (⟨#[]⟩:ByteArray),.slice A8 1 c8,.slice A9 1 c9]).setRow g2 #[.string (⟨#[]⟩:ByteArray),.string (⟨#[109,46,114,111,111,109,46,109,101,115,115,97,103,101]⟩:ByteArray),.string (⟨#[64,98,58,115,49]⟩:ByteArray),.bool false,.string (⟨#[]⟩:ByteArray),.int .i64 5,.int .i64 0,.string (⟨#[]⟩:ByteArray),.slice A8 1 c8,.slice A9 1 c9,.slice none 0 0,.slice none 0 0,.int .i64 0,.int .i64 0,.string (⟨#[]⟩:ByteArray),.slice none 0 0,.string (⟨#[64,97,110,110,58,115,49]⟩:ByteArray),.string (⟨#[]⟩:ByteArray),.int .i64 9,.int .i64 0]):=below_setRow (below_setRow (below_step HB4.out HB5.out) (Nat.le_trans (below_size HB4.out) HN3.out) _) HN2.out _
 have hk : ∀ k,(False∨w3.heap.size≤k)→k < w4.heap.size→((w5.setRow g3 #[.int .i64 5,.int .i64 0,.string (⟨#[]⟩:ByteArray),.slice A8 1 c8,.slice A9 1 c9]).setRow g2 #[.string (⟨#[]⟩:ByteArray),.string (⟨#[109,46,114,111,111,109,46,109,101,115,115,97,103,101]⟩:ByteArray),.string (⟨#[64,98,58,115,49]⟩:ByteArray),.bool false,.string (⟨#[]⟩:ByteArray),.int .i64 5,.int .i64 0,.string (⟨#[]⟩:ByteArray),.slice A8 1 c8,.slice A9 1 c9,.slice none 0 0,.slice none 0 0,.int .i64 0,.int .i64 0,.string (⟨#[]⟩:ByteArray),.slice none 0 0,.string (⟨#[64,97,110,110,58,115,49]⟩:ByteArray),.string (⟨#[]⟩:ByteArray),.int .i64 9,.int .i64 0]).heap[k]?=w4.heap[k]?:=by
  intro k hk hlt;have hk':w3.heap.size≤k:=hk.resolve_left id;rw [setRow_other _ _ _ _ (by omega),setRow_other _ _ _ _ (by have:=HN3.out;omega)];exact HB5.out.block k hlt
 have q8:=Q8.out _ hk;have q9:=Q9.out _ hk;refine bodyPost_ret (results_cell_row rfl _ _ g2 32 #[.string (⟨#[]⟩:ByteArray),.string (⟨#[109,46,114,111,111,109,46,109,101,115,115,97,103,101]⟩:ByteArray),.string (⟨#[64,98,58,115,49]⟩:ByteArray),.bool false,.string (⟨#[]⟩:ByteArray),.int .i64 5,.int .i64 0,.string (⟨#[]⟩:ByteArray),.slice A8 1 c8,.slice A9 1 c9,.slice none 0 0,.slice none 0 0,.int .i64 0,.int .i64 0,.string (⟨#[]⟩:ByteArray),.slice none 0 0,.string (⟨#[64,97,110,110,58,115,49]⟩:ByteArray),.string (⟨#[]⟩:ByteArray),.int .i64 9,.int .i64 0] (0,0) _ rfl (setRow_heap _ _ _ _ _ _ ((setRow_other _ _ _ _ HNE.out).trans HK6.out)) Tryz.underlying32 rfl kr_) rfl ?_;exact ⟨A8,c8,A9,c9,rfl,q8,L8.out,q9,L9.out,hb5⟩
end Go.Proofs.YtodhmbnfliajiaaGreatDoor.Q

/- HandTell: a text of this claim's proof,as printed or written,without what the claim does not use. -/
namespace Go.Proofs.YtodhmbnfliajiaaGreatDoor.Q
open Go.RowKit Go.Proofs.YtodhmbnfliajiaaGreatDoorW.PrintWords Go.Proofs.YtodhmbnfliajiaaGreatDoorW.PrintLast Go.Proofs.YtodhmbnfliajiaaGreatDoorW.PrintMore
set_option linter.unusedVariables false
set_option linter.unusedSimpArgs false
def scV (x:EvV) (user name:ByteArray) (mem lev:Int):Array Value:=#[.string x.room,.string x.type,.string x.sender,.bool x.isS,.string x.key,.int .i64 x.kind,.int .i64 x.n,.string x.text,.slice x.A8 x.keys.length x.c8,.slice x.A9 x.list.length x.c9,.slice x.A10 x.prev.length x.c10,.slice x.A11 x.auth.length x.c11,.int .i64 x.depth,.int .i64 x.ts,.string x.hash,.slice x.A15 x.sigs.length x.c15,.string user,.string name,.int .i64 mem,.int .i64 lev]
theorem findB_lt {l:List RL} {x:EvV} {user name:ByteArray} {mem lev:Int} (h:(findB l x user name mem lev).2=true):0≤(findB l x user name mem lev).1∧(findB l x user name mem lev).1 < l.length:=by
 have hs:=best_spec (clsOf l) (okAt l x name mem lev) l.length;unfold findB at h ⊢;by_cases c:x.sender.toList=user.toList
 · rw [if_pos c] at h;cases h
 · rw [if_neg c] at h ⊢;generalize bestIdx (clsOf l) (okAt l x name mem lev) l.length=o at *
   cases o with
   | none=>cases h
   | some j=>exact ⟨by show (0:Int)≤(j:Int);omega,by show (j:Int) < _;have:=hs.2.1;omega⟩
def tellB (l:List RL) (x:EvV) (user name:ByteArray) (mem lev:Int):Bool×Bool×ByteArray :=
 if (findB l x user name mem lev).2 then ((rd_T47 l (findB l x user name mem lev).1).f4,(rd_T47 l (findB l x user name mem lev).1).f5,(rd_T47 l (findB l x user name mem lev).1).f1) else (false,false,⟨#[]⟩)
set_option maxRecDepth 100000 in
set_option maxHeartbeats 8000000 in
theorem tell_x (A:Option Addr) (c:Nat) (l:List RL) (x:EvV) (user name:ByteArray) (mem lev:Int) (w:World) (hT:Tabs w) (hl:l.length≤16) (hC:Kd.C k47 w A l.length l) (hc:l.length≤c)
 (hp : ∀ r ∈ l,r.f3.length≤9223372036854775806∧∀ q ∈ r.f3,q.f2.size≤1000000000) (hn:name.size≤1000000000) (hf : ∀ k,(fieldB x k).2.2.size≤1000000000) (hk:x.keys.length≤1000000000) (hx:x.Ok w) :
 Calls Tryz.prog 16 #[.slice A l.length c,.agg (scV x user name mem lev)] w fun e w'=>e=.returned (.tuple #[.bool (tellB l x user name mem lev).1,.bool (tellB l x user name mem lev).2.1,.string (tellB l x user name mem lev).2.2])∧Below w.heap.size w w':=by
 have HFi:=Lib.hid (fun W (h3:Below w.heap.size w W)=>(show Calls Tryz.prog 14 #[.slice A l.length c,.agg (scV x user name mem lev)] W _ from find_calls A c l x user name mem lev W (hT.below h3) hl (Kd.C_below hC h3) hc hp hn hf hk (hx.below h3)));have HC:=Lib.hid hC;have hlt:=fun (h:(findB l x user name mem lev).2=true)=>findB_lt h
 have hte:=tellB.eq_1 l x user name mem lev;clear hT hC hp hf hx hn hk;have hu:=Tryz.underlying32;generalize findB l x user name mem lev=r at *;obtain ⟨at_,ok⟩:=r;go_enter Tryz.func16,Tryz.ntmps16;go_wp2_with (first|((with_reducible refine gate_dst (N:=3) rfl ?_);refine box_event ?hg (N:=3) ?hd (cs:=scV x user name mem lev) (t:=32) ?hr ?_;(case hd=>rfl);(case hg=>rfl);(case hr=>exact hr_);intro g3 hg3 w3 hk3 hb3;have HK3:=Lib.hid hk3;have HB3:=Lib.hid hb3;clear hk3 hb3 hg3)|((with_reducible refine gate_dst (N:=11) rfl ?_);refine wpList_load_row rfl 32 (.tmp 3) rfl g3 rfl 32 (scV x user name mem lev) (0,0) _ HK3.out hu rfl kr_ ?_));refine (HFi.out _ HB3.out).mono ?_;rintro e w4 ⟨rfl,hb4⟩;have HB4:=Lib.hid (below_step HB3.out hb4);clear HFi HB3 HK3 hb4
 cases ok with
 | false=>
  have HTE:=Lib.hid (hte.trans (if_neg (by decide)));clear hte hlt;go_wp2;go_ret3;exact ⟨by rw [HTE.out];rfl,HB4.out⟩
 | true=>
  have HTE:=Lib.hid (hte.trans (if_pos rfl));obtain ⟨j0,j1⟩:=hlt rfl;clear hte hlt;obtain ⟨j,hj⟩:=Int.eq_ofNat_of_zero_le j0;have hj':at_=(j:Int):=hj;subst hj';have i1:(j:Int) < (l.length:Int):=j1;obtain ⟨ad,A3,c3,hA,q0,q1,q2,q3,q4,q5,hl3,hC3⟩:=at_T47 (Kd.C_below HC.out HB4.out) (j:Int) (by omega) i1;rw [Int.toNat_natCast] at *;subst hA;clear j1 hj q0 q2 q3 hl3 hC3;have HTE2:=Lib.hid (HTE.out.trans (show _=((rd_T47 l (j:Int)).f4,(rd_T47 l (j:Int)).f5,(rd_T47 l (j:Int)).f1) from rfl));clear HTE;generalize rd_T47 l (j:Int)=r at *;go_wp2;go_quiet (fail);go_wp2;go_ret3;exact ⟨by rw [HTE2.out];rfl,pw_below_drewN HB4.out _⟩
end Go.Proofs.YtodhmbnfliajiaaGreatDoor.Q

