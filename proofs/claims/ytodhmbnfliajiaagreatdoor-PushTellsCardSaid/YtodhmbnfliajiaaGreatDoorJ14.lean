/- Merged out of: PureFew, OpensE, Qx15, HandMessage. -/
import Derived.Test.YtodhmbnfliajiaaGreatDoorJ7
import Derived.Test.YtodhmbnfliajiaaGreatDoorHandFew05
import Derived.Test.YtodhmbnfliajiaaGreatDoorJ15
import Derived.Test.YtodhmbnfliajiaaGreatDoorQx0
import Derived.Test.YtodhmbnfliajiaaGreatDoorQx3
import Derived.Test.YtodhmbnfliajiaaGreatDoorJ5
import Derived.Test.YtodhmbnfliajiaaGreatDoorJ12
import Derived.WalkKit
import Derived.WalkSpells
import Derived.Lib.Hide
import Derived.BigQuiet
import Derived.Laws.CopyOwn
import Derived.Deep.QuietTactic
import Derived.Test.YtodhmbnfliajiaaGreatDoorHandPut
import Derived.Test.YtodhmbnfliajiaaGreatDoorJ11
import Derived.Test.YtodhmbnfliajiaaGreatDoorQx8
/- PureFew: a text of this claim's proof,as printed or written,without what the claim does not use. -/
namespace Go.Proofs.YtodhmbnfliajiaaGreatDoor.Q
open Go.RowKit Go.Proofs.YtodhmbnfliajiaaGreatDoorW.PrintWords Go.Proofs.YtodhmbnfliajiaaGreatDoorW.PrintLast Go.Proofs.YtodhmbnfliajiaaGreatDoorW.PrintMore
theorem small_total (a b p:ByteArray) (n:Int) : ∃ r,agoralaw27_small.f a b p n=some r∧(r=true→p.size≤60):=by
 unfold agoralaw27_small.f
 by_cases h:wrap64 ((a.size:Int)+(b.size:Int))≤200
 · exact ⟨_,by rw [if_pos h],fun h=>by have:=of_decide_eq_true h;omega⟩
 · exact ⟨_,by rw [if_neg h],fun h=>by cases h⟩
def RuleFits (r:RL):Prop:=r.f3.length≤6∧∀ q ∈ r.f3,q.f2.size≤60
structure FewIs (l:List RL) (x:EvV) (name:ByteArray):Prop where
 len:l.length≤15
 ev:EvFits x.room x.type x.sender x.key ⟨x.kind,x.n,x.text,x.keys,x.list⟩ x.prev x.auth x.hash x.sigs
 name:name.size≤60
 rules : ∀ r ∈ l,RuleFits r
theorem FewIs.small {l:List RL} {x:EvV} {name:ByteArray} (h:FewIs l x name):evSmall x=true:=by
 have f:=h.ev
 have h1:=f.room;have h2:=f.type;have h3:=f.sender;have h4:=f.key
 have h5:x.keys.length≤100:=f.okay.1.1
 unfold evSmall
 rw [Bool.and_eq_true,decide_eq_true_eq,List.all_eq_true]
 refine ⟨⟨by omega,by omega,by omega,by omega,by omega⟩,fun v hv=>?_⟩
 have:v.f2.size≤2000:=(f.okay.2 v hv).1.2.2.1
 exact decide_eq_true (by omega)
theorem FewIs.rulesSmall {l:List RL} {x:EvV} {name:ByteArray} (h:FewIs l x name):rulesSmall l=true:=by
 have hl:=h.len
 unfold Q.rulesSmall
 rw [Bool.and_eq_true,decide_eq_true_eq,List.all_eq_true]
 refine ⟨by omega,fun r hr=>?_⟩
 have:=h.rules r hr
 rw [Bool.and_eq_true,decide_eq_true_eq,List.all_eq_true]
 exact ⟨by have:=this.1;omega,fun q hq=>decide_eq_true (by have:=this.2 q hq;omega)⟩
end Go.Proofs.YtodhmbnfliajiaaGreatDoor.Q

/- OpensE: a text of this claim's proof,as printed or written,without what the claim does not use. -/
namespace Go.Proofs.YtodhmbnfliajiaaGreatDoor.OpensP
open Go.RowKit Go.Proofs.YtodhmbnfliajiaaGreatDoorW.PrintWords Go.Proofs.YtodhmbnfliajiaaGreatDoor.OpensZ Go.Proofs.YtodhmbnfliajiaaGreatDoor.Q
def evS (s:S32) (A8:Option Addr) (c8:Nat) (A9:Option Addr) (c9:Nat) (A10:Option Addr) (c10:Nat) (A11:Option Addr) (c11:Nat) (A15:Option Addr) (c15:Nat):EvV:=⟨s.f0.f0,s.f0.f1,s.f0.f2,s.f0.f3,s.f0.f4,s.f0.f5.f0,s.f0.f5.f1,s.f0.f5.f2,A8,c8,s.f0.f5.f3,A9,c9,s.f0.f5.f4,A10,c10,s.f0.f6,A11,c11,s.f0.f7,s.f0.f8,s.f0.f9,s.f0.f10,A15,c15,s.f0.f11⟩
theorem EvNear.near {s:S32} (h:EvNear s.f0) {A8:Option Addr} {c8:Nat} {A9:Option Addr} {c9:Nat} {A10:Option Addr} {c10:Nat} {A11:Option Addr} {c11:Nat} {A15:Option Addr} {c15:Nat}:Near (evS s A8 c8 A9 c9 A10 c10 A11 c11 A15 c15):=⟨h.room,h.type,h.sender,h.key,h.hash⟩
end Go.Proofs.YtodhmbnfliajiaaGreatDoor.OpensP

/- Qx15: a text of this claim's proof,as printed or written,without what the claim does not use. -/
namespace Go.Proofs.YtodhmbnfliajiaaGreatDoor.Q
open Go.RowKit Go.Proofs.YtodhmbnfliajiaaGreatDoorW.PrintWords Go.Proofs.YtodhmbnfliajiaaGreatDoorW.PrintLast Go.Proofs.YtodhmbnfliajiaaGreatDoorW.PrintMore
attribute [local go_sem] max2_int min2_int max_two min_two max_three min_three max_four min_four
set_option linter.unusedVariables false
set_option linter.unusedSimpArgs false
def ident_local_1.f (a0:Int):Option (Bool):=(ident_small.f a0).bind fun t278=>(if t278=true then (some true) else (if a0=45 then (some true) else (some (a0==95))))
set_option maxHeartbeats 8000000 in
set_option maxRecDepth 100000 in
theorem ident_local_1.calls (a0:Int) (r:Bool) (w:World) (h:ident_local_1.f a0=some r) :
 Calls Tryz.prog 105 #[.int .u8 a0] w fun e w'=>e=.returned (.bool r)∧Drawn0 w w':=by
 have H:((ident_small.f a0).bind fun t278=>(if t278=true then (some true) else (if a0=45 then (some true) else (some (a0==95)))))=some r:=h
 clear h
 replace H:=Option.bind_eq_some_iff.mp H
 obtain ⟨t278,A20,H⟩:=H
 replace H:(if t278=true then (some true) else (if a0=45 then (some true) else (some (a0==95))))=some r:=H
 have A2:=Aside0.mk A20
 clear A20
 by_cases c3:t278=true
 · subst c3
   have H1:(some true)=some r:=by rw [if_pos rfl] at H;exact H
   clear H
   have H:=H1
   clear H1
   obtain rfl:=Option.some.inj H
   go_enter Tryz.func105,Tryz.ntmps105
   go_wp2_with (first|((with_reducible refine gate_callee (f:=106) rfl ?_);refine goesL_ (some 4) rfl rfl Tryz.func106 (by kernel_rfl) rfl #[.int .u8 a0] rfl (by (try simp only [List.map_toArray,List.map_cons,List.map_nil]);first|done|rfl|(simp only [List.length_drop,List.length_take];rfl)) ?_;(with_reducible refine (ident_small.calls a0 true _ A2.out).mono ?_);rintro e w' ⟨rfl,⟨nd,rfl⟩⟩;refine ⟨_,rfl,?_⟩))
   go_ret
   exact ⟨by first|rfl|(simp;done)|(simp [*];done),by repeat (first|exact Drawn0.refl _|apply Drawn0.step)⟩
 · replace c3:=Bool.eq_false_iff.mpr c3
   subst c3
   have H1:(if a0=45 then (some true) else (some (a0==95)))=some r:=by rw [if_neg (show ¬ (false=true) by decide)] at H;exact H
   clear H
   have H:=H1
   clear H1
   by_cases c4:a0=45
   · rw [if_pos c4] at H
     have c4b0:(a0==45)=true:=beq_iff_eq.mpr c4
     have c4b1:(a0 != 45)=false:=bne_eq_false_iff_eq.mpr c4
     clear c4
     obtain rfl:=Option.some.inj H
     go_enter Tryz.func105,Tryz.ntmps105
     go_wp2_with (first|((with_reducible refine gate_callee (f:=106) rfl ?_);refine goesL_ (some 4) rfl rfl Tryz.func106 (by kernel_rfl) rfl #[.int .u8 a0] rfl (by (try simp only [List.map_toArray,List.map_cons,List.map_nil]);first|done|rfl|(simp only [List.length_drop,List.length_take];rfl)) ?_;(with_reducible refine (ident_small.calls a0 false _ A2.out).mono ?_);rintro e w' ⟨rfl,⟨nd,rfl⟩⟩;refine ⟨_,rfl,?_⟩))
     go_ret
     exact ⟨by first|rfl|(simp;done)|(simp [*];done),by repeat (first|exact Drawn0.refl _|apply Drawn0.step)⟩
   · rw [if_neg c4] at H
     have c4b0:(a0==45)=false:=beq_eq_false_iff_ne.mpr c4
     have c4b1:(a0 != 45)=true:=bne_iff_ne.mpr c4
     obtain rfl:=Option.some.inj H
     go_enter Tryz.func105,Tryz.ntmps105
     go_wp2_with (first|((with_reducible refine gate_callee (f:=106) rfl ?_);refine goesL_ (some 4) rfl rfl Tryz.func106 (by kernel_rfl) rfl #[.int .u8 a0] rfl (by (try simp only [List.map_toArray,List.map_cons,List.map_nil]);first|done|rfl|(simp only [List.length_drop,List.length_take];rfl)) ?_;(with_reducible refine (ident_small.calls a0 false _ A2.out).mono ?_);rintro e w' ⟨rfl,⟨nd,rfl⟩⟩;refine ⟨_,rfl,?_⟩))
     go_ret
     exact ⟨by first|rfl|(simp;done)|(simp [*];done),by repeat (first|exact Drawn0.refl _|apply Drawn0.step)⟩
end Go.Proofs.YtodhmbnfliajiaaGreatDoor.Q

/- HandMessage: a text of this claim's proof,as printed or written,without what the claim does not use. -/
namespace Go.Proofs.YtodhmbnfliajiaaGreatDoor.Q
open Go.RowKit Go.Proofs.YtodhmbnfliajiaaGreatDoorW.PrintWords Go.Proofs.YtodhmbnfliajiaaGreatDoorW.PrintLast Go.Proofs.YtodhmbnfliajiaaGreatDoorW.PrintMore
set_option linter.unusedVariables false
set_option linter.unusedSimpArgs false
def msgBody (s:ByteArray):S27:=⟨3,0,s,[],[]⟩
theorem C_nil {α:Type} (d:Kd α) (w:World) (A:Option Addr):d.C w A 0 []:=⟨rfl,by decide,fun h=>absurd h (by decide)⟩
theorem F_nil {α:Type} (d:Kd α) (w:World) (ok:Nat→Prop) (A:Option Addr):Kd.F d w ok A 0 []:=fun W' _=>C_nil d W' A
set_option maxRecDepth 100000 in
set_option maxHeartbeats 1000000 in
theorem message_calls (s:ByteArray) (w:World) :
 Calls Tryz.prog 33 #[.string s] w fun e w'=>∃ A8 c8 A9 c9,e=.returned (.agg #[.string (⟨#[]⟩:ByteArray),.string (⟨#[109,46,114,111,111,109,46,109,101,115,115,97,103,101]⟩:ByteArray),.string (⟨#[64,98,58,115,49]⟩:ByteArray),.bool false,.string (⟨#[]⟩:ByteArray),.int .i64 5,.int .i64 0,.string (⟨#[]⟩:ByteArray),.slice A8 1 c8,.slice A9 1 c9,.slice none 0 0,.slice none 0 0,.int .i64 0,.int .i64 0,.string (⟨#[]⟩:ByteArray),.slice none 0 0,.string (⟨#[64,97,110,110,58,115,49]⟩:ByteArray),.string (⟨#[]⟩:ByteArray),.int .i64 9,.int .i64 0])∧Kd.C Kd.string w' A8 1 [(⟨#[98,111,100,121]⟩:ByteArray)]∧1≤c8∧Kd.C k27 w' A9 1 [msgBody s]∧1≤c9∧Below w.heap.size w w':=by
 have hu:=Tryz.underlying32
 have hu2:=Tryz.underlying27
 have hu3:=Tryz.underlying30
 go_enter Tryz.func33,Tryz.ntmps33
 go_wp2_with (first|((with_reducible refine gate_dst (N:=2) rfl ?_);refine box_event ?hg (N:=2) ?hd (cs:=#[.string (⟨#[]⟩:ByteArray),.string (⟨#[]⟩:ByteArray),.string (⟨#[]⟩:ByteArray),.bool false,.string (⟨#[]⟩:ByteArray),.int .i64 0,.int .i64 0,.string (⟨#[]⟩:ByteArray),.slice none 0 0,.slice none 0 0,.slice none 0 0,.slice none 0 0,.int .i64 0,.int .i64 0,.string (⟨#[]⟩:ByteArray),.slice none 0 0,.string (⟨#[]⟩:ByteArray),.string (⟨#[]⟩:ByteArray),.int .i64 0,.int .i64 0]) (t:=32) ?hr ?_;(case hd=>rfl);(case hg=>rfl);(case hr=>first|(go_simp;done)|(go_simp;rfl));intro g2 hg2 w2 hk2 hb2;have HK2:=Lib.hid hk2;have HB2:=Lib.hid hb2;(have hn2:w.heap.size≤g2:=Nat.le_of_eq hg2.symm);have HN2:=Lib.hid hn2;clear hk2 hb2 hg2 hn2)|(go_at_call 69;refine (agoraref01_Str.calls _ _ _ _ _ _ _ rfl).mono ?_;rintro e w3 ⟨v3,v4,rfl,q3,q4,hb3⟩;(obtain ⟨B3,d3,rfl⟩:=Kd.R_slice q3);(obtain ⟨B4,d4,rfl⟩:=Kd.R_slice q4);have HB3:=Lib.hid (below_step HB2.out hb3);(have hk3:=blk_below HK2.out hb3);have HK3:=Lib.hid hk3;clear q3 q4 hb3 hk3)|(go_at_call 68;refine (Put_F (fun _=>False) 5 0 (⟨#[]⟩:ByteArray) none 0 [] none 0 [] (⟨#[98,111,100,121]⟩:ByteArray) (msgBody s) B3 d3 B4 d4 w3 (C_nil _ _ _) (Nat.le_refl _) (F_nil _ _ _ _) (Nat.le_refl _) (show 0 < 8796093022207 by decide) (show 0 < 1759218604440 by decide) (F_nil _ _ _ _) (Nat.zero_le _) (F_nil _ _ _ _) (Nat.zero_le _)).mono ?_;rintro e w4 ⟨A8,c8,A9,c9,rfl,hb4,q8,l8,q9,l9⟩;have HB4:=Lib.hid (below_step HB3.out hb4);(have hk4:=blk_below HK3.out hb4);have HK4:=Lib.hid hk4;have Q8:=Lib.hid q8;have Q9:=Lib.hid q9;have L8:=Lib.hid l8;have L9:=Lib.hid l9;clear q8 q9 l8 l9 hb4 hk4)|((with_reducible refine gate_dst (N:=3) rfl ?_);refine box_event ?hg (N:=3) ?hd (cs:=#[.int .i64 0,.int .i64 0,.string (⟨#[]⟩:ByteArray),.slice none 0 0,.slice none 0 0]) (t:=27) ?hr ?_;(case hd=>rfl);(case hg=>rfl);(case hr=>first|(go_simp;done)|(go_simp;rfl));intro g3 hg3 w5 hk5 hb5;(have hk6:=blk_below HK4.out hb5);(have hn3:w4.heap.size≤g3:=Nat.le_of_eq hg3.symm);(have hne:g2≠g3:=by (rw [hg3];exact Nat.ne_of_lt (blk_lt HK4.out)));have HNE:=Lib.hid hne;have HN3:=Lib.hid hn3;have HK5:=Lib.hid hk5;have HK6:=Lib.hid hk6;have HB5:=Lib.hid hb5;clear hk5 hb5 hg3 hn3 hk6 hne)|((with_reducible refine gate_store (t:=27) (p:=3) rfl ?_);refine wpList_store_row rfl 27 (.tmp 3) (.tmp 7) rfl g3 #[.int .i64 5,.int .i64 0,.string (⟨#[]⟩:ByteArray),.slice A8 1 c8,.slice A9 1 c9] rfl rfl 27 _ HK5.out (by kernel_rfl) rfl (by simp [Value.oneCell']) ?_)|((with_reducible refine gate_dst (N:=8) rfl ?_);refine wpList_load_row rfl 27 (.tmp 3) rfl g3 rfl 27 #[.int .i64 5,.int .i64 0,.string (⟨#[]⟩:ByteArray),.slice A8 1 c8,.slice A9 1 c9] (0,0) _ (setRow_heap _ _ _ _ _ _ HK5.out) Tryz.underlying27 rfl (by kernel_rfl) ?_)|((with_reducible refine gate_store (t:=32) (p:=2) rfl ?_);refine wpList_store_row rfl 32 (.tmp 2) (.tmp 10) rfl g2 #[.string (⟨#[]⟩:ByteArray),.string (⟨#[109,46,114,111,111,109,46,109,101,115,115,97,103,101]⟩:ByteArray),.string (⟨#[64,98,58,115,49]⟩:ByteArray),.bool false,.string (⟨#[]⟩:ByteArray),.int .i64 5,.int .i64 0,.string (⟨#[]⟩:ByteArray),.slice A8 1 c8,.slice A9 1 c9,.slice none 0 0,.slice none 0 0,.int .i64 0,.int .i64 0,.string (⟨#[]⟩:ByteArray),.slice none 0 0,.string (⟨#[64,97,110,110,58,115,49]⟩:ByteArray),.string (⟨#[]⟩:ByteArray),.int .i64 9,.int .i64 0] rfl rfl 32 _ ((setRow_other _ _ _ _ HNE.out).trans HK6.out) (by kernel_rfl) rfl (by simp [Value.oneCell']) ?_))
 have hg2:g2 < w3.heap.size:=blk_lt HK3.out
 have hb5:Below w.heap.size w ((w5.setRow g3 #[.int .i64 5,.int .i64 0,.string (⟨#[]⟩:ByteArray),.slice A8 1 c8,.slice A9 1 c9]).setRow g2 #[.string (⟨#[]⟩:ByteArray),.string (⟨#[109,46,114,111,111,109,46,109,101,115,115,97,103,101]⟩:ByteArray),.string (⟨#[64,98,58,115,49]⟩:ByteArray),.bool false,.string (⟨#[]⟩:ByteArray),.int .i64 5,.int .i64 0,.string (⟨#[]⟩:ByteArray),.slice A8 1 c8,.slice A9 1 c9,.slice none 0 0,.slice none 0 0,.int .i64 0,.int .i64 0,.string (⟨#[]⟩:ByteArray),.slice none 0 0,.string (⟨#[64,97,110,110,58,115,49]⟩:ByteArray),.string (⟨#[]⟩:ByteArray),.int .i64 9,.int .i64 0]):=below_setRow (below_setRow (below_step HB4.out HB5.out) (Nat.le_trans (below_size HB4.out) HN3.out) _) HN2.out _
 have hk : ∀ k,(False∨w3.heap.size≤k)→k < w4.heap.size→((w5.setRow g3 #[.int .i64 5,.int .i64 0,.string (⟨#[]⟩:ByteArray),.slice A8 1 c8,.slice A9 1 c9]).setRow g2 #[.string (⟨#[]⟩:ByteArray),.string (⟨#[109,46,114,111,111,109,46,109,101,115,115,97,103,101]⟩:ByteArray),.string (⟨#[64,98,58,115,49]⟩:ByteArray),.bool false,.string (⟨#[]⟩:ByteArray),.int .i64 5,.int .i64 0,.string (⟨#[]⟩:ByteArray),.slice A8 1 c8,.slice A9 1 c9,.slice none 0 0,.slice none 0 0,.int .i64 0,.int .i64 0,.string (⟨#[]⟩:ByteArray),.slice none 0 0,.string (⟨#[64,97,110,110,58,115,49]⟩:ByteArray),.string (⟨#[]⟩:ByteArray),.int .i64 9,.int .i64 0]).heap[k]?=w4.heap[k]?:=by
  intro k hk hlt
  have hk':w3.heap.size≤k:=hk.resolve_left id
  rw [setRow_other _ _ _ _ (by omega),setRow_other _ _ _ _ (by have:=HN3.out;omega)]
  exact HB5.out.block k hlt
 have q8:=Q8.out _ hk
 have q9:=Q9.out _ hk
 refine bodyPost_ret (results_cell_row rfl _ _ g2 32 #[.string (⟨#[]⟩:ByteArray),.string (⟨#[109,46,114,111,111,109,46,109,101,115,115,97,103,101]⟩:ByteArray),.string (⟨#[64,98,58,115,49]⟩:ByteArray),.bool false,.string (⟨#[]⟩:ByteArray),.int .i64 5,.int .i64 0,.string (⟨#[]⟩:ByteArray),.slice A8 1 c8,.slice A9 1 c9,.slice none 0 0,.slice none 0 0,.int .i64 0,.int .i64 0,.string (⟨#[]⟩:ByteArray),.slice none 0 0,.string (⟨#[64,97,110,110,58,115,49]⟩:ByteArray),.string (⟨#[]⟩:ByteArray),.int .i64 9,.int .i64 0] (0,0) _ rfl (setRow_heap _ _ _ _ _ _ ((setRow_other _ _ _ _ HNE.out).trans HK6.out)) Tryz.underlying32 rfl (by kernel_rfl)) rfl ?_
 exact ⟨A8,c8,A9,c9,rfl,q8,L8.out,q9,L9.out,hb5⟩
end Go.Proofs.YtodhmbnfliajiaaGreatDoor.Q

