/- Qx18: a text of this claim's proof,as printed or written,without what the claim does not use. -/
import Derived.Test.YtodhmbnfliajiaaGreatDoorQx0
namespace Go.Proofs.YtodhmbnfliajiaaGreatDoor.Q
open Go.RowKit Go.Proofs.YtodhmbnfliajiaaGreatDoorW.PrintWords Go.Proofs.YtodhmbnfliajiaaGreatDoorW.PrintLast Go.Proofs.YtodhmbnfliajiaaGreatDoorW.PrintMore
attribute [local go_sem] max2_int min2_int max_two min_two max_three min_three max_four min_four
set_option linter.unusedVariables false
set_option linter.unusedSimpArgs false
def agoraref27_match.f (a0:ByteArray) (a1:ByteArray):Option (ByteArray×ByteArray×ByteArray×Int):=some ((⟨#[101,118,101,110,116,95,109,97,116,99,104]⟩:ByteArray),a0,a1,0)
set_option maxHeartbeats 8000000 in
set_option maxRecDepth 100000 in
theorem agoraref27_match.calls (a0:ByteArray) (a1:ByteArray) (r1:ByteArray) (r2:ByteArray) (r3:ByteArray) (r4:Int) (w:World) (h:agoraref27_match.f a0 a1=some (r1,r2,r3,r4)) :
 Calls Tryz.prog 44 #[.string a0,.string a1] w fun e w'=>e=.returned (.agg #[.string r1,.string r2,.string r3,.int .i64 r4])∧Below w.heap.size w w':=by
 have hu23:=Tryz.underlying23;have HB:=Aside0.mk (Below.refl w.heap.size w);have H:(some ((⟨#[101,118,101,110,116,95,109,97,116,99,104]⟩:ByteArray),a0,a1,0))=some (r1,r2,r3,r4):=h;clear h;simp only [Option.some.injEq,Prod.mk.injEq] at H;obtain ⟨rfl,rfl,rfl,rfl⟩:=H;go_enter Tryz.func44,Tryz.ntmps44;go_wp2_with (first|((with_reducible refine gate_dst (N:=4) rfl ?_);refine box_event ?hg (N:=4) ?hd (cs:=#[.string (⟨#[]⟩:ByteArray),.string (⟨#[]⟩:ByteArray),.string (⟨#[]⟩:ByteArray),.int .i64 0]) (t:=23) ?hr ?_;(case hd=>rfl);(case hg=>rfl);(case hr=>exact hr_);intro gb322 hg w3 hbox hb;have n0_:=Aside0.mk (below_step bz_ hb);have n1_:=Aside0.mk (hbox);have n2_:=Aside0.mk ((by rw [hg];exact (below_size bz_):w.heap.size≤gb322));have n3_:=Aside0.mk ((by rw [hg];exact (below_size bz_):w.heap.size≤gb322));clear HB;have HB:=n0_;have BK322:=n1_;have GW322:=n2_;have GE322:=n3_;clear n0_ n1_ n2_ n3_;clear hb hbox hg;have hcz4_0:w3.cell? ⟨gb322,0,none⟩=some (.string (⟨#[]⟩:ByteArray)):=(blk_cell BK322.out 0).trans rfl;have hcz4_1:w3.cell? ⟨gb322,1,none⟩=some (.string (⟨#[]⟩:ByteArray)):=(blk_cell BK322.out 1).trans rfl;have hcz4_2:w3.cell? ⟨gb322,2,none⟩=some (.string (⟨#[]⟩:ByteArray)):=(blk_cell BK322.out 2).trans rfl;have hcz4_3:w3.cell? ⟨gb322,3,none⟩=some (.int .i64 0):=(blk_cell BK322.out 3).trans rfl;have hfz4_0:=blk_frozen BK322.out 0;have hfz4_1:=blk_frozen BK322.out 1;have hfz4_2:=blk_frozen BK322.out 2;have hfz4_3:=blk_frozen BK322.out 3));refine bodyPost_ret (results_cell_row rfl _ _ gb322 23 #[.string (⟨#[101,118,101,110,116,95,109,97,116,99,104]⟩:ByteArray),.string a0,.string a1,.int .i64 0] (0,0) _ rfl (by (with_reducible repeat (first|refine blk_drewN ?_ _|refine blk_drew ?_|refine blk_alloc ?_ _));refine blk_put (cs:=#[.string (⟨#[101,118,101,110,116,95,109,97,116,99,104]⟩:ByteArray),.string a0,.string a1,.int .i64 0]) ?_ 3 _ rfl;(with_reducible repeat (first|refine blk_drewN ?_ _|refine blk_drew ?_|refine blk_alloc ?_ _));refine blk_put (cs:=#[.string (⟨#[101,118,101,110,116,95,109,97,116,99,104]⟩:ByteArray),.string a0,.string (⟨#[]⟩:ByteArray),.int .i64 0]) ?_ 2 _ rfl;(with_reducible repeat (first|refine blk_drewN ?_ _|refine blk_drew ?_|refine blk_alloc ?_ _));refine blk_put (cs:=#[.string (⟨#[101,118,101,110,116,95,109,97,116,99,104]⟩:ByteArray),.string (⟨#[]⟩:ByteArray),.string (⟨#[]⟩:ByteArray),.int .i64 0]) ?_ 1 _ rfl;(with_reducible repeat (first|refine blk_drewN ?_ _|refine blk_drew ?_|refine blk_alloc ?_ _));refine blk_put (cs:=#[.string (⟨#[]⟩:ByteArray),.string (⟨#[]⟩:ByteArray),.string (⟨#[]⟩:ByteArray),.int .i64 0]) ?_ 0 _ rfl;(with_reducible repeat (first|refine blk_drewN ?_ _|refine blk_drew ?_|refine blk_alloc ?_ _));exact BK322.out) Tryz.underlying23 rfl kr_) rfl ?_;exact ⟨by first|rfl|(simp [errW_none,errW_some] <;> rfl)|(simp [*,errW_none,errW_some] <;> rfl),by repeat (first|(with_reducible first|exact HB.out|apply below_alloc|apply pw_below_drewN|apply below_drew1|refine below_set ?_ GE322.out)|exact HB.out)⟩
def agoraref04_small.f (a0:Int):Option (Bool):=if a0≥97 then (if a0≤122 then (some true) else (if a0≥48 then (if a0≤57 then (some true) else (some (a0==46))) else (some (a0==46)))) else (if a0≥48 then (if a0≤57 then (some true) else (some (a0==46))) else (some (a0==46)))
set_option maxHeartbeats 8000000 in
set_option maxRecDepth 100000 in
theorem agoraref04_small.calls (a0:Int) (r:Bool) (w:World) (h:agoraref04_small.f a0=some r) :
 Calls Tryz.prog 109 #[.int .u8 a0] w fun e w'=>e=.returned (.bool r)∧Drawn0 w w':=by
 have H:(if a0≥97 then (if a0≤122 then (some true) else (if a0≥48 then (if a0≤57 then (some true) else (some (a0==46))) else (some (a0==46)))) else (if a0≥48 then (if a0≤57 then (some true) else (some (a0==46))) else (some (a0==46))))=some r:=h;clear h;by_cases c2:a0≥97
 · rw [if_pos c2] at H;have c2b0:decide (97≤a0)=true:=decide_eq_true c2;clear c2;by_cases c3:a0≤122
   · rw [if_pos c3] at H;have c3b0:decide (a0≤122)=true:=decide_eq_true c3;clear c3;obtain rfl:=Option.some.inj H;go_enter Tryz.func109,Tryz.ntmps109;go_wp2;go_ret;exact ⟨sz_,dz_⟩
   · rw [if_neg c3] at H;have c3b0:decide (a0≤122)=false:=decide_eq_false c3;clear c3;by_cases c4:a0≥48
     · rw [if_pos c4] at H;have c4b0:decide (48≤a0)=true:=decide_eq_true c4;clear c4;by_cases c5:a0≤57
       · rw [if_pos c5] at H;have c5b0:decide (a0≤57)=true:=decide_eq_true c5;clear c5;obtain rfl:=Option.some.inj H;go_enter Tryz.func109,Tryz.ntmps109;go_wp2;go_ret;exact ⟨sz_,dz_⟩
       · rw [if_neg c5] at H;have c5b0:decide (a0≤57)=false:=decide_eq_false c5;clear c5;obtain rfl:=Option.some.inj H;go_enter Tryz.func109,Tryz.ntmps109;go_wp2;go_ret;exact ⟨sz_,dz_⟩
     · rw [if_neg c4] at H;have c4b0:decide (48≤a0)=false:=decide_eq_false c4;clear c4;obtain rfl:=Option.some.inj H;go_enter Tryz.func109,Tryz.ntmps109;go_wp2;go_ret;exact ⟨sz_,dz_⟩
 · rw [if_neg c2] at H;have c2b0:decide (97≤a0)=false:=decide_eq_false c2;clear c2;by_cases c6:a0≥48
   · rw [if_pos c6] at H;have c6b0:decide (48≤a0)=true:=decide_eq_true c6;clear c6;by_cases c7:a0≤57
     · rw [if_pos c7] at H;have c7b0:decide (a0≤57)=true:=decide_eq_true c7;clear c7;obtain rfl:=Option.some.inj H;go_enter Tryz.func109,Tryz.ntmps109;go_wp2;go_ret;exact ⟨sz_,dz_⟩
     · rw [if_neg c7] at H;have c7b0:decide (a0≤57)=false:=decide_eq_false c7;clear c7;obtain rfl:=Option.some.inj H;go_enter Tryz.func109,Tryz.ntmps109;go_wp2;go_ret;exact ⟨sz_,dz_⟩
   · rw [if_neg c6] at H;have c6b0:decide (48≤a0)=false:=decide_eq_false c6;clear c6;obtain rfl:=Option.some.inj H;go_enter Tryz.func109,Tryz.ntmps109;go_wp2;go_ret;exact ⟨sz_,dz_⟩
mutual
def agoraref04_Local.j0:Nat→ByteArray→Bool→Option (Bool)
 | 0,_,_=>none
 | k+1,x0,x11=>if x11=true then (some false) else (agoraref04_Local.l0 k x0 0)
def agoraref04_Local.l0:Nat→ByteArray→Int→Option (Bool)
 | 0,_,_=>none
 | k+1,x0,x3=>if x3 < (x0.size:Int) then (if 0≤x3 then ((agoraref04_small.f (bt x0 x3)).bind fun t323=>(if t323=true then (agoraref04_Local.l0 k x0 (wrap64 (x3+1))) else (if (bt x0 x3)=45 then (agoraref04_Local.l0 k x0 (wrap64 (x3+1))) else (if (bt x0 x3)=95 then (agoraref04_Local.l0 k x0 (wrap64 (x3+1))) else (some false))))) else (none)) else (some true)
end
def agoraref04_Local.f (k:Nat) (a0:ByteArray):Option (Bool):=if (a0.size:Int) < 1 then (agoraref04_Local.j0 k a0 true) else (agoraref04_Local.j0 k a0 (decide ((a0.size:Int) > 32)))
set_option maxHeartbeats 8000000 in
set_option maxRecDepth 100000 in
theorem agoraref04_Local.calls (k:Nat) (a0:ByteArray) (r:Bool) (w:World) (h:agoraref04_Local.f k a0=some r) :
 Calls Tryz.prog 91 #[.string a0] w fun e w'=>e=.returned (.bool r)∧Drawn0 w w':=by
 have H:(if (a0.size:Int) < 1 then (agoraref04_Local.j0 k a0 true) else (agoraref04_Local.j0 k a0 (decide ((a0.size:Int) > 32))))=some r:=h;clear h;have HC2:=Aside0.mk H;clear H;go_enter Tryz.func91,Tryz.ntmps91;go_upto_region 1 with (fail)
 go_cut [11] (fun v11 wc=>∃ (kq:Nat) (x11_1:Bool),v11=.bool x11_1∧Aside0 (agoraref04_Local.j0 kq a0 x11_1=some r)∧Aside0 (kq≤k)∧Drawn0 w wc)
 case first=>
  have H:=HC2.out;clear HC2;by_cases c3:(a0.size:Int) < 1
  · rw [if_pos c3] at H;have c3b0:decide ((a0.size:Int) < 1)=true:=decide_eq_true c3;have c3b1:decide (a0.size < 1)=true:=decide_eq_true (by omega);clear c3;(first|rw [c3b0]|(simp only [i64_w,i32_w];rw [c3b0])|skip);have H':=Aside0.mk H;clear H;go_wp2;go_meet;case rel=>exact ⟨_,(true),sz_,H',⟨by first|omega|exact Nat.le_refl _⟩,dz_⟩
  · rw [if_neg c3] at H;have c3b0:decide ((a0.size:Int) < 1)=false:=decide_eq_false c3;have c3b1:decide (a0.size < 1)=false:=decide_eq_false (by omega);clear c3;(first|rw [c3b0]|(simp only [i64_w,i32_w];rw [c3b0])|skip);have H':=Aside0.mk H;clear H;go_wp2;go_meet;case rel=>exact ⟨_,(decide ((a0.size:Int) > 32)),sz_,H',⟨by first|omega|exact Nat.le_refl _⟩,dz_⟩
 case rest=>
  clear HC2;try clear p2
  try clear c3
  try clear c3b0
  try clear c3b1
  obtain ⟨kq,x11_1,rfl,HA,HJ1,⟨mc1,rfl⟩⟩:=hcut
  cases kq with
  | zero=>exact absurd HA.out (by simp [agoraref04_Local.j0])
  | succ kj1=>
   have H:=HA.out;clear HA;simp only [agoraref04_Local.j0] at H;by_cases c4:x11_1=true
   · subst c4;rw [if_pos rfl] at H;obtain rfl:=Option.some.inj H;go_wp2;go_ret;exact ⟨sz_,dz_⟩
   · replace c4:=Bool.eq_false_iff.mpr c4;subst c4;rw [if_neg nf_] at H;have H':=Aside0.mk H;clear H;go_wp2;go_loopg [3] kj1 (fun kq v3 w'=>∃ (x3_2:Int),v3=.int .i64 x3_2∧Aside0 (agoraref04_Local.l0 kq a0 x3_2=some r)∧Aside0 (kq≤kj1)∧Drawn0 w w');case atStart=>exact ⟨(0),sz_,H',⟨Nat.le_refl _⟩,dz_⟩
     case round=>
      clear H';(try clear c1);(try clear p2);(try clear c3);(try clear c3b0);(try clear c3b1);(try clear c4);(try clear p2);obtain ⟨x3_2,rfl,HA,HK2,⟨m2,rfl⟩⟩:=hrel
      cases gk with
      | zero=>exact absurd HA.out (by simp [agoraref04_Local.l0])
      | succ k2=>
       have H:=HA.out;clear HA;simp only [agoraref04_Local.l0] at H;by_cases c5:x3_2 < (a0.size:Int)
       · rw [if_pos c5] at H;have c5b0:decide (x3_2 < (a0.size:Int))=true:=decide_eq_true c5;clear c5;by_cases c6:0≤x3_2
         · rw [if_pos c6] at H;have c6b0:decide (0≤x3_2)=true:=decide_eq_true c6;clear c6;obtain ⟨t323,A8,H⟩:=bs_ H;(try dsimp only at H);by_cases c9:t323=true
           · subst c9;rw [if_pos rfl] at H;have H':=Aside0.mk H;clear H;have p7:0≤(x3_2:Int):=of_decide_eq_true as_;have q7:x3_2 < (a0.size:Int):=of_decide_eq_true as_;have hx7:=bt_at a0 x3_2;replace p7:=eq_true p7;replace q7:=eq_true q7;go_wp2_with (first|((with_reducible refine gate_callee (f:=109) rfl ?_);refine goesL_ (some 21) rfl rfl Tryz.func109 kr_ rfl #[.int .u8 (bt a0 x3_2)] rfl ag_ ?_;(with_reducible refine (agoraref04_small.calls (bt a0 x3_2) true _ A8.out).mono ?_);rintro e w' ⟨rfl,⟨nd,rfl⟩⟩;refine ⟨_,rfl,?_⟩));go_roundg k2;case measure=>have:=HJ1.out;have:=HK2.out;omega
             case rel=>exact ⟨(wrap64 (x3_2+1)),sz_,H',⟨by have:=HJ1.out;have:=HK2.out;omega⟩,dz_⟩
           · replace c9:=Bool.eq_false_iff.mpr c9;subst c9;rw [if_neg nf_] at H;by_cases c11:(bt a0 x3_2)=45
             · rw [if_pos c11] at H;have c11b0:((bt a0 x3_2)==45)=true:=beq_iff_eq.mpr c11;have c11b1:((bt a0 x3_2) != 45)=false:=bne_eq_false_iff_eq.mpr c11;clear c11;have H':=Aside0.mk H;clear H;have p7:0≤(x3_2:Int):=of_decide_eq_true as_;have q7:x3_2 < (a0.size:Int):=of_decide_eq_true as_;have hx7:=bt_at a0 x3_2;replace p7:=eq_true p7;replace q7:=eq_true q7;go_wp2_with (first|((with_reducible refine gate_callee (f:=109) rfl ?_);refine goesL_ (some 21) rfl rfl Tryz.func109 kr_ rfl #[.int .u8 (bt a0 x3_2)] rfl ag_ ?_;(with_reducible refine (agoraref04_small.calls (bt a0 x3_2) false _ A8.out).mono ?_);rintro e w' ⟨rfl,⟨nd,rfl⟩⟩;refine ⟨_,rfl,?_⟩;have p10:0≤(x3_2:Int):=of_decide_eq_true as_;have q10:x3_2 < (a0.size:Int):=of_decide_eq_true as_;have hx10:=bt_at a0 x3_2;replace p10:=eq_true p10;replace q10:=eq_true q10));go_roundg k2;case measure=>have:=HJ1.out;have:=HK2.out;omega
               case rel=>exact ⟨(wrap64 (x3_2+1)),sz_,H',⟨by have:=HJ1.out;have:=HK2.out;omega⟩,dz_⟩
             · rw [if_neg c11] at H;have c11b0:((bt a0 x3_2)==45)=false:=beq_eq_false_iff_ne.mpr c11;have c11b1:((bt a0 x3_2) != 45)=true:=bne_iff_ne.mpr c11;by_cases c13:(bt a0 x3_2)=95
               · rw [if_pos c13] at H;have c13b0:((bt a0 x3_2)==95)=true:=beq_iff_eq.mpr c13;have c13b1:((bt a0 x3_2) != 95)=false:=bne_eq_false_iff_eq.mpr c13;clear c13;have H':=Aside0.mk H;clear H;have p7:0≤(x3_2:Int):=of_decide_eq_true as_;have q7:x3_2 < (a0.size:Int):=of_decide_eq_true as_;have hx7:=bt_at a0 x3_2;replace p7:=eq_true p7;replace q7:=eq_true q7;go_wp2_with (first|((with_reducible refine gate_callee (f:=109) rfl ?_);refine goesL_ (some 21) rfl rfl Tryz.func109 kr_ rfl #[.int .u8 (bt a0 x3_2)] rfl ag_ ?_;(with_reducible refine (agoraref04_small.calls (bt a0 x3_2) false _ A8.out).mono ?_);rintro e w' ⟨rfl,⟨nd,rfl⟩⟩;refine ⟨_,rfl,?_⟩;have p10:0≤(x3_2:Int):=of_decide_eq_true as_;have q10:x3_2 < (a0.size:Int):=of_decide_eq_true as_;have hx10:=bt_at a0 x3_2;replace p10:=eq_true p10;replace q10:=eq_true q10;have p12:0≤(x3_2:Int):=of_decide_eq_true as_;have q12:x3_2 < (a0.size:Int):=of_decide_eq_true as_;have hx12:=bt_at a0 x3_2;replace p12:=eq_true p12;replace q12:=eq_true q12));go_roundg k2;case measure=>have:=HJ1.out;have:=HK2.out;omega
                 case rel=>exact ⟨(wrap64 (x3_2+1)),sz_,H',⟨by have:=HJ1.out;have:=HK2.out;omega⟩,dz_⟩
               · rw [if_neg c13] at H;have c13b0:((bt a0 x3_2)==95)=false:=beq_eq_false_iff_ne.mpr c13;have c13b1:((bt a0 x3_2) != 95)=true:=bne_iff_ne.mpr c13;obtain rfl:=Option.some.inj H;have p7:0≤(x3_2:Int):=of_decide_eq_true as_;have q7:x3_2 < (a0.size:Int):=of_decide_eq_true as_;have hx7:=bt_at a0 x3_2;replace p7:=eq_true p7;replace q7:=eq_true q7;go_wp2_with (first|((with_reducible refine gate_callee (f:=109) rfl ?_);refine goesL_ (some 21) rfl rfl Tryz.func109 kr_ rfl #[.int .u8 (bt a0 x3_2)] rfl ag_ ?_;(with_reducible refine (agoraref04_small.calls (bt a0 x3_2) false _ A8.out).mono ?_);rintro e w' ⟨rfl,⟨nd,rfl⟩⟩;refine ⟨_,rfl,?_⟩;have p10:0≤(x3_2:Int):=of_decide_eq_true as_;have q10:x3_2 < (a0.size:Int):=of_decide_eq_true as_;have hx10:=bt_at a0 x3_2;replace p10:=eq_true p10;replace q10:=eq_true q10;have p12:0≤(x3_2:Int):=of_decide_eq_true as_;have q12:x3_2 < (a0.size:Int):=of_decide_eq_true as_;have hx12:=bt_at a0 x3_2;replace p12:=eq_true p12;replace q12:=eq_true q12));go_ret;exact ⟨sz_,dz_⟩
         · rw [if_neg c6] at H;exact absurd H (by simp)
       · rw [if_neg c5] at H;have c5b0:decide (x3_2 < (a0.size:Int))=false:=decide_eq_false c5;clear c5;obtain rfl:=Option.some.inj H;go_wp2;go_ret;exact ⟨sz_,dz_⟩
mutual
def agoraref04_Server.j0:Nat→ByteArray→Bool→Option (Bool)
 | 0,_,_=>none
 | k+1,x0,x11=>if x11=true then (some false) else (agoraref04_Server.l0 k x0 0)
def agoraref04_Server.l0:Nat→ByteArray→Int→Option (Bool)
 | 0,_,_=>none
 | k+1,x0,x3=>if x3 < (x0.size:Int) then (if 0≤x3 then ((agoraref04_small.f (bt x0 x3)).bind fun t324=>(if t324=true then (agoraref04_Server.l0 k x0 (wrap64 (x3+1))) else (if (bt x0 x3)=45 then (agoraref04_Server.l0 k x0 (wrap64 (x3+1))) else (some false)))) else (none)) else (some true)
end
def agoraref04_Server.f (k:Nat) (a0:ByteArray):Option (Bool):=if (a0.size:Int) < 1 then (agoraref04_Server.j0 k a0 true) else (agoraref04_Server.j0 k a0 (decide ((a0.size:Int) > 32)))
set_option maxHeartbeats 8000000 in
set_option maxRecDepth 100000 in
theorem agoraref04_Server.calls (k:Nat) (a0:ByteArray) (r:Bool) (w:World) (h:agoraref04_Server.f k a0=some r) :
 Calls Tryz.prog 92 #[.string a0] w fun e w'=>e=.returned (.bool r)∧Drawn0 w w':=by
 have H:(if (a0.size:Int) < 1 then (agoraref04_Server.j0 k a0 true) else (agoraref04_Server.j0 k a0 (decide ((a0.size:Int) > 32))))=some r:=h;clear h;have HC2:=Aside0.mk H;clear H;go_enter Tryz.func92,Tryz.ntmps92;go_upto_region 1 with (fail)
 go_cut [11] (fun v11 wc=>∃ (kq:Nat) (x11_1:Bool),v11=.bool x11_1∧Aside0 (agoraref04_Server.j0 kq a0 x11_1=some r)∧Aside0 (kq≤k)∧Drawn0 w wc)
 case first=>
  have H:=HC2.out;clear HC2;by_cases c3:(a0.size:Int) < 1
  · rw [if_pos c3] at H;have c3b0:decide ((a0.size:Int) < 1)=true:=decide_eq_true c3;have c3b1:decide (a0.size < 1)=true:=decide_eq_true (by omega);clear c3;(first|rw [c3b0]|(simp only [i64_w,i32_w];rw [c3b0])|skip);have H':=Aside0.mk H;clear H;go_wp2;go_meet;case rel=>exact ⟨_,(true),sz_,H',⟨by first|omega|exact Nat.le_refl _⟩,dz_⟩
  · rw [if_neg c3] at H;have c3b0:decide ((a0.size:Int) < 1)=false:=decide_eq_false c3;have c3b1:decide (a0.size < 1)=false:=decide_eq_false (by omega);clear c3;(first|rw [c3b0]|(simp only [i64_w,i32_w];rw [c3b0])|skip);have H':=Aside0.mk H;clear H;go_wp2;go_meet;case rel=>exact ⟨_,(decide ((a0.size:Int) > 32)),sz_,H',⟨by first|omega|exact Nat.le_refl _⟩,dz_⟩
 case rest=>
  clear HC2;try clear p2
  try clear c3
  try clear c3b0
  try clear c3b1
  obtain ⟨kq,x11_1,rfl,HA,HJ1,⟨mc1,rfl⟩⟩:=hcut
  cases kq with
  | zero=>exact absurd HA.out (by simp [agoraref04_Server.j0])
  | succ kj1=>
   have H:=HA.out;clear HA;simp only [agoraref04_Server.j0] at H;by_cases c4:x11_1=true
   · subst c4;rw [if_pos rfl] at H;obtain rfl:=Option.some.inj H;go_wp2;go_ret;exact ⟨sz_,dz_⟩
   · replace c4:=Bool.eq_false_iff.mpr c4;subst c4;rw [if_neg nf_] at H;have H':=Aside0.mk H;clear H;go_wp2;go_loopg [3] kj1 (fun kq v3 w'=>∃ (x3_2:Int),v3=.int .i64 x3_2∧Aside0 (agoraref04_Server.l0 kq a0 x3_2=some r)∧Aside0 (kq≤kj1)∧Drawn0 w w');case atStart=>exact ⟨(0),sz_,H',⟨Nat.le_refl _⟩,dz_⟩
     case round=>
      clear H';(try clear c1);(try clear p2);(try clear c3);(try clear c3b0);(try clear c3b1);(try clear c4);(try clear p2);obtain ⟨x3_2,rfl,HA,HK2,⟨m2,rfl⟩⟩:=hrel
      cases gk with
      | zero=>exact absurd HA.out (by simp [agoraref04_Server.l0])
      | succ k2=>
       have H:=HA.out;clear HA;simp only [agoraref04_Server.l0] at H;by_cases c5:x3_2 < (a0.size:Int)
       · rw [if_pos c5] at H;have c5b0:decide (x3_2 < (a0.size:Int))=true:=decide_eq_true c5;clear c5;by_cases c6:0≤x3_2
         · rw [if_pos c6] at H;have c6b0:decide (0≤x3_2)=true:=decide_eq_true c6;clear c6;obtain ⟨t324,A8,H⟩:=bs_ H;(try dsimp only at H);by_cases c9:t324=true
           · subst c9;rw [if_pos rfl] at H;have H':=Aside0.mk H;clear H;have p7:0≤(x3_2:Int):=of_decide_eq_true as_;have q7:x3_2 < (a0.size:Int):=of_decide_eq_true as_;have hx7:=bt_at a0 x3_2;replace p7:=eq_true p7;replace q7:=eq_true q7;go_wp2_with (first|((with_reducible refine gate_callee (f:=109) rfl ?_);refine goesL_ (some 21) rfl rfl Tryz.func109 kr_ rfl #[.int .u8 (bt a0 x3_2)] rfl ag_ ?_;(with_reducible refine (agoraref04_small.calls (bt a0 x3_2) true _ A8.out).mono ?_);rintro e w' ⟨rfl,⟨nd,rfl⟩⟩;refine ⟨_,rfl,?_⟩));go_roundg k2;case measure=>have:=HJ1.out;have:=HK2.out;omega
             case rel=>exact ⟨(wrap64 (x3_2+1)),sz_,H',⟨by have:=HJ1.out;have:=HK2.out;omega⟩,dz_⟩
           · replace c9:=Bool.eq_false_iff.mpr c9;subst c9;rw [if_neg nf_] at H;by_cases c11:(bt a0 x3_2)=45
             · rw [if_pos c11] at H;have c11b0:((bt a0 x3_2)==45)=true:=beq_iff_eq.mpr c11;have c11b1:((bt a0 x3_2) != 45)=false:=bne_eq_false_iff_eq.mpr c11;clear c11;have H':=Aside0.mk H;clear H;have p7:0≤(x3_2:Int):=of_decide_eq_true as_;have q7:x3_2 < (a0.size:Int):=of_decide_eq_true as_;have hx7:=bt_at a0 x3_2;replace p7:=eq_true p7;replace q7:=eq_true q7;go_wp2_with (first|((with_reducible refine gate_callee (f:=109) rfl ?_);refine goesL_ (some 21) rfl rfl Tryz.func109 kr_ rfl #[.int .u8 (bt a0 x3_2)] rfl ag_ ?_;(with_reducible refine (agoraref04_small.calls (bt a0 x3_2) false _ A8.out).mono ?_);rintro e w' ⟨rfl,⟨nd,rfl⟩⟩;refine ⟨_,rfl,?_⟩;have p10:0≤(x3_2:Int):=of_decide_eq_true as_;have q10:x3_2 < (a0.size:Int):=of_decide_eq_true as_;have hx10:=bt_at a0 x3_2;replace p10:=eq_true p10;replace q10:=eq_true q10));go_roundg k2;case measure=>have:=HJ1.out;have:=HK2.out;omega
               case rel=>exact ⟨(wrap64 (x3_2+1)),sz_,H',⟨by have:=HJ1.out;have:=HK2.out;omega⟩,dz_⟩
             · rw [if_neg c11] at H;have c11b0:((bt a0 x3_2)==45)=false:=beq_eq_false_iff_ne.mpr c11;have c11b1:((bt a0 x3_2) != 45)=true:=bne_iff_ne.mpr c11;obtain rfl:=Option.some.inj H;have p7:0≤(x3_2:Int):=of_decide_eq_true as_;have q7:x3_2 < (a0.size:Int):=of_decide_eq_true as_;have hx7:=bt_at a0 x3_2;replace p7:=eq_true p7;replace q7:=eq_true q7;go_wp2_with (first|((with_reducible refine gate_callee (f:=109) rfl ?_);refine goesL_ (some 21) rfl rfl Tryz.func109 kr_ rfl #[.int .u8 (bt a0 x3_2)] rfl ag_ ?_;(with_reducible refine (agoraref04_small.calls (bt a0 x3_2) false _ A8.out).mono ?_);rintro e w' ⟨rfl,⟨nd,rfl⟩⟩;refine ⟨_,rfl,?_⟩;have p10:0≤(x3_2:Int):=of_decide_eq_true as_;have q10:x3_2 < (a0.size:Int):=of_decide_eq_true as_;have hx10:=bt_at a0 x3_2;replace p10:=eq_true p10;replace q10:=eq_true q10));go_ret;exact ⟨sz_,dz_⟩
         · rw [if_neg c6] at H;exact absurd H (by simp)
       · rw [if_neg c5] at H;have c5b0:decide (x3_2 < (a0.size:Int))=false:=decide_eq_false c5;clear c5;obtain rfl:=Option.some.inj H;go_wp2;go_ret;exact ⟨sz_,dz_⟩
mutual
def agoraref04_parts.l0:Nat→Int→ByteArray→Int→Option (ByteArray×ByteArray×Bool)
 | 0,_,_,_=>none
 | k+1,x0,x1,x7=>if x7 < (x1.size:Int) then (if 0 < (x1.size:Int) then (agoraref04_parts.j1 k x0 x1 x7 ((bt x1 0)==x0)) else (none)) else (agoraref04_parts.j1 k x0 x1 x7 false)
def agoraref04_parts.j1:Nat→Int→ByteArray→Int→Bool→Option (ByteArray×ByteArray×Bool)
 | 0,_,_,_,_=>none
 | k+1,x0,x1,x7,x17=>if x17=true then (if 0≤x7 then (if x7 < (x1.size:Int) then (if (bt x1 x7)=58 then (if 1≤x7 then (if x7≤(x1.size:Int) then ((agoraref04_Local.f k (x1.extract 1 (x7:Int).toNat)).bind fun t325=>(if t325=true then (if 0≤(wrap64 (x7+1)) then (if (wrap64 (x7+1))≤(x1.size:Int) then ((agoraref04_Server.f k (x1.extract ((wrap64 (x7+1)):Int).toNat x1.size)).bind fun t326=>(if t326=true then (some (x1.extract 1 (x7:Int).toNat,x1.extract ((wrap64 (x7+1)):Int).toNat x1.size,true)) else (some ((⟨#[]⟩:ByteArray),(⟨#[]⟩:ByteArray),false)))) else (none)) else (none)) else (some ((⟨#[]⟩:ByteArray),(⟨#[]⟩:ByteArray),false)))) else (none)) else (none)) else (agoraref04_parts.l0 k x0 x1 (wrap64 (x7+1)))) else (none)) else (none)) else (some ((⟨#[]⟩:ByteArray),(⟨#[]⟩:ByteArray),false))
end
def agoraref04_parts.f (k:Nat) (a0:Int) (a1:ByteArray):Option (ByteArray×ByteArray×Bool):=agoraref04_parts.l0 k a0 a1 1
set_option maxHeartbeats 8000000 in
set_option maxRecDepth 100000 in
theorem agoraref04_parts.calls (k:Nat) (a0:Int) (a1:ByteArray) (r1:ByteArray) (r2:ByteArray) (r3:Bool) (w:World) (h:agoraref04_parts.f k a0 a1=some (r1,r2,r3)) :
 Calls Tryz.prog 76 #[.int .u8 a0,.string a1] w fun e w'=>e=.returned (.tuple #[.string r1,.string r2,.bool r3])∧Drawn0 w w':=by
 have H:(agoraref04_parts.l0 k a0 a1 1)=some (r1,r2,r3):=h;clear h;have H':=Aside0.mk H;clear H;go_enter Tryz.func76,Tryz.ntmps76;go_wp2;repeat (go_quiet (fail);try go_wp2)
 go_loopg [7] k (fun kq v7 w'=>∃ (x7_1:Int),v7=.int .i64 x7_1∧Aside0 (agoraref04_parts.l0 kq a0 a1 x7_1=some (r1,r2,r3))∧Aside0 (kq≤k)∧Drawn0 w w');case atStart=>exact ⟨(1),sz_,H',⟨Nat.le_refl _⟩,dz_⟩
 case round=>
  clear H';try clear p2
  obtain ⟨x7_1,rfl,HA,HK1,⟨m1,rfl⟩⟩:=hrel
  cases gk with
  | zero=>exact absurd HA.out (by simp [agoraref04_parts.l0])
  | succ k1=>
   have H:=HA.out;clear HA;simp only [agoraref04_parts.l0] at H;have HC3:=Aside0.mk H;clear H;go_upto_region 2 with (fail)
   repeat (go_quiet (fail);go_upto_region 2 with (fail))
   go_cut [17] (fun v17 wc=>∃ (kq:Nat) (x17_2:Bool),v17=.bool x17_2∧Aside0 (agoraref04_parts.j1 kq a0 a1 x7_1 x17_2=some (r1,r2,r3))∧Aside0 (kq≤k1)∧Drawn0 w wc)
   case first=>
    have H:=HC3.out;clear HC3;by_cases c4:x7_1 < (a1.size:Int)
    · rw [if_pos c4] at H;have c4b0:decide (x7_1 < (a1.size:Int))=true:=decide_eq_true c4;clear c4;(first|rw [c4b0]|(simp only [i64_w,i32_w];rw [c4b0])|skip);by_cases c5:0 < (a1.size:Int)
      · rw [if_pos c5] at H;have c5b0:decide (0 < (a1.size:Int))=true:=decide_eq_true c5;have c5b1:decide (0 < a1.size)=true:=decide_eq_true (by omega);clear c5;have H':=Aside0.mk H;clear H;have p6:0≤(0:Int):=(by omega);have q6:0 < a1.size:=(by have:(0:Int) < (a1.size:Int):=of_decide_eq_true as_;omega);have hx6 : ∀ h:0 < a1.size,((a1[0]'h).toNat:Int)=bt a1 0:=bt_at a1 0;clear p6;have qi6:(0 < (a1.size:Int))=True:=eq_true (of_decide_eq_true as_);replace q6:=eq_true q6;go_wp2;repeat (go_quiet (fail);try go_wp2)
        go_meet;case rel=>exact ⟨_,(((bt a1 0)==a0)),sz_,H',⟨by have:=HK1.out;first|omega|exact Nat.le_refl _⟩,dz_⟩
      · rw [if_neg c5] at H;exact absurd H (by simp)
    · rw [if_neg c4] at H;have c4b0:decide (x7_1 < (a1.size:Int))=false:=decide_eq_false c4;clear c4;(first|rw [c4b0]|(simp only [i64_w,i32_w];rw [c4b0])|skip);have H':=Aside0.mk H;clear H;go_wp2;repeat (go_quiet (fail);try go_wp2)
      go_meet;case rel=>exact ⟨_,(false),sz_,H',⟨by have:=HK1.out;first|omega|exact Nat.le_refl _⟩,dz_⟩
   case rest=>
    clear HC3;(try clear p2);(try clear c4);(try clear c4b0);(try clear c5);(try clear c5b0);(try clear c5b1);(try clear p6);(try clear q6);(try clear hx6);(try clear qi6);(try clear p2);(try clear p6);(try clear q6);obtain ⟨kq,x17_2,rfl,HA,HJ2,⟨mc2,rfl⟩⟩:=hcut
    cases kq with
    | zero=>exact absurd HA.out (by simp [agoraref04_parts.j1])
    | succ kj2=>
     have H:=HA.out;clear HA;simp only [agoraref04_parts.j1] at H;by_cases c7:x17_2=true
     · subst c7;rw [if_pos rfl] at H;by_cases c8:0≤x7_1
       · rw [if_pos c8] at H;have c8b0:decide (0≤x7_1)=true:=decide_eq_true c8;clear c8;by_cases c9:x7_1 < (a1.size:Int)
         · rw [if_pos c9] at H;have c9b0:decide (x7_1 < (a1.size:Int))=true:=decide_eq_true c9;clear c9;by_cases c11:(bt a1 x7_1)=58
           · rw [if_pos c11] at H;have c11b0:((bt a1 x7_1)==58)=true:=beq_iff_eq.mpr c11;have c11b1:((bt a1 x7_1) != 58)=false:=bne_eq_false_iff_eq.mpr c11;clear c11;by_cases c12:1≤x7_1
             · rw [if_pos c12] at H;have c12b0:=eq_true c12;have c12b1:decide (1≤x7_1)=true:=decide_eq_true c12;clear c12;by_cases c13:x7_1≤(a1.size:Int)
               · rw [if_pos c13] at H;have c13b0:=eq_true c13;have c13b1:decide (x7_1≤(a1.size:Int))=true:=decide_eq_true c13;clear c13;obtain ⟨t325,A14,H⟩:=bs_ H;(try dsimp only at H);by_cases c15:t325=true
                 · subst c15;rw [if_pos rfl] at H;obtain ⟨ji16,hji16⟩ : ∃ j_:Int,(wrap64 (x7_1+1))=j_:=⟨_,rfl⟩;replace H:(if 0≤(ji16) then (if (ji16)≤(a1.size:Int) then ((agoraref04_Server.f kj2 (a1.extract ((ji16):Int).toNat a1.size)).bind fun t326=>(if t326=true then (some (a1.extract 1 (x7_1:Int).toNat,a1.extract ((ji16):Int).toNat a1.size,true)) else (some ((⟨#[]⟩:ByteArray),(⟨#[]⟩:ByteArray),false)))) else (none)) else (none))=some (r1,r2,r3):=by first|(rw [hji16] at H;exact H)|(simp only [hji16] at H ⊢;exact H)
                   (try rw [hji16] at A14);have hji16w:(IntKind.i64.wrap (x7_1+1))=ji16:=(i64_w _).trans hji16;by_cases c17:0≤(ji16)
                   · rw [if_pos c17] at H;have c17b0:=eq_true c17;have c17b1:decide (0≤(ji16))=true:=decide_eq_true c17;clear c17;by_cases c18:(ji16)≤(a1.size:Int)
                     · rw [if_pos c18] at H;have c18b0:=eq_true c18;have c18b1:decide ((ji16)≤(a1.size:Int))=true:=decide_eq_true c18;clear c18;obtain ⟨t326,A19,H⟩:=bs_ H;(try dsimp only at H);by_cases c20:t326=true
                       · subst c20;rw [if_pos rfl] at H;have c21b0:=eq_true (of_decide_eq_true as_:1≤x7_1);have c22b0:=eq_true (of_decide_eq_true as_:x7_1≤(a1.size:Int));have c23b0:=eq_true (of_decide_eq_true as_:0≤(ji16));have c24b0:=eq_true (of_decide_eq_true as_:(ji16)≤(a1.size:Int));simp only [Option.some.injEq,Prod.mk.injEq] at H;obtain ⟨rfl,rfl,rfl⟩:=H;have p10:0≤(x7_1:Int):=of_decide_eq_true as_;have q10:x7_1 < (a1.size:Int):=of_decide_eq_true as_;have hx10:=bt_at a1 x7_1;replace p10:=eq_true p10;replace q10:=eq_true q10;go_wp2_with (first|(go_at_call 91;(with_reducible refine (agoraref04_Local.calls kj2 (a1.extract 1 (x7_1:Int).toNat) true _ A14.out).mono ?_);rintro e w' ⟨rfl,⟨nd,rfl⟩⟩;(try first|exact ⟨rfl,_,World.drewN_drewN _ _ _⟩|exact ⟨rfl,_,Eq.trans (World.drewN_drewN _ _ _) (congrArg (World.drewN _) (Nat.add_assoc _ _ _))⟩))|(go_at_call 92;(with_reducible refine (agoraref04_Server.calls kj2 (a1.extract ((ji16):Int).toNat a1.size) true _ A19.out).mono ?_);rintro e w' ⟨rfl,⟨nd,rfl⟩⟩;(try first|exact ⟨rfl,_,World.drewN_drewN _ _ _⟩|exact ⟨rfl,_,Eq.trans (World.drewN_drewN _ _ _) (congrArg (World.drewN _) (Nat.add_assoc _ _ _))⟩)));repeat (go_quiet (first|(go_at_call 91;(with_reducible refine (agoraref04_Local.calls kj2 (a1.extract 1 (x7_1:Int).toNat) true _ A14.out).mono ?_);rintro e w' ⟨rfl,⟨nd,rfl⟩⟩;(try first|exact ⟨rfl,_,World.drewN_drewN _ _ _⟩|exact ⟨rfl,_,Eq.trans (World.drewN_drewN _ _ _) (congrArg (World.drewN _) (Nat.add_assoc _ _ _))⟩))|(go_at_call 92;(with_reducible refine (agoraref04_Server.calls kj2 (a1.extract ((ji16):Int).toNat a1.size) true _ A19.out).mono ?_);rintro e w' ⟨rfl,⟨nd,rfl⟩⟩;(try first|exact ⟨rfl,_,World.drewN_drewN _ _ _⟩|exact ⟨rfl,_,Eq.trans (World.drewN_drewN _ _ _) (congrArg (World.drewN _) (Nat.add_assoc _ _ _))⟩)));try go_wp2_with (first|(go_at_call 91;(with_reducible refine (agoraref04_Local.calls kj2 (a1.extract 1 (x7_1:Int).toNat) true _ A14.out).mono ?_);rintro e w' ⟨rfl,⟨nd,rfl⟩⟩;(try first|exact ⟨rfl,_,World.drewN_drewN _ _ _⟩|exact ⟨rfl,_,Eq.trans (World.drewN_drewN _ _ _) (congrArg (World.drewN _) (Nat.add_assoc _ _ _))⟩))|(go_at_call 92;(with_reducible refine (agoraref04_Server.calls kj2 (a1.extract ((ji16):Int).toNat a1.size) true _ A19.out).mono ?_);rintro e w' ⟨rfl,⟨nd,rfl⟩⟩;(try first|exact ⟨rfl,_,World.drewN_drewN _ _ _⟩|exact ⟨rfl,_,Eq.trans (World.drewN_drewN _ _ _) (congrArg (World.drewN _) (Nat.add_assoc _ _ _))⟩))))
                         go_ret3;exact ⟨by first|rfl|(simp;done)|(simp only [← hji16] <;> (first|rfl|simp))|(simp [*];done),dz_⟩
                       · replace c20:=Bool.eq_false_iff.mpr c20;subst c20;rw [if_neg nf_] at H;simp only [Option.some.injEq,Prod.mk.injEq] at H;obtain ⟨rfl,rfl,rfl⟩:=H;have p10:0≤(x7_1:Int):=of_decide_eq_true as_;have q10:x7_1 < (a1.size:Int):=of_decide_eq_true as_;have hx10:=bt_at a1 x7_1;replace p10:=eq_true p10;replace q10:=eq_true q10;go_wp2_with (first|(go_at_call 91;(with_reducible refine (agoraref04_Local.calls kj2 (a1.extract 1 (x7_1:Int).toNat) true _ A14.out).mono ?_);rintro e w' ⟨rfl,⟨nd,rfl⟩⟩;(try first|exact ⟨rfl,_,World.drewN_drewN _ _ _⟩|exact ⟨rfl,_,Eq.trans (World.drewN_drewN _ _ _) (congrArg (World.drewN _) (Nat.add_assoc _ _ _))⟩))|(go_at_call 92;(with_reducible refine (agoraref04_Server.calls kj2 (a1.extract ((ji16):Int).toNat a1.size) false _ A19.out).mono ?_);rintro e w' ⟨rfl,⟨nd,rfl⟩⟩;(try first|exact ⟨rfl,_,World.drewN_drewN _ _ _⟩|exact ⟨rfl,_,Eq.trans (World.drewN_drewN _ _ _) (congrArg (World.drewN _) (Nat.add_assoc _ _ _))⟩)));repeat (go_quiet (first|(go_at_call 91;(with_reducible refine (agoraref04_Local.calls kj2 (a1.extract 1 (x7_1:Int).toNat) true _ A14.out).mono ?_);rintro e w' ⟨rfl,⟨nd,rfl⟩⟩;(try first|exact ⟨rfl,_,World.drewN_drewN _ _ _⟩|exact ⟨rfl,_,Eq.trans (World.drewN_drewN _ _ _) (congrArg (World.drewN _) (Nat.add_assoc _ _ _))⟩))|(go_at_call 92;(with_reducible refine (agoraref04_Server.calls kj2 (a1.extract ((ji16):Int).toNat a1.size) false _ A19.out).mono ?_);rintro e w' ⟨rfl,⟨nd,rfl⟩⟩;(try first|exact ⟨rfl,_,World.drewN_drewN _ _ _⟩|exact ⟨rfl,_,Eq.trans (World.drewN_drewN _ _ _) (congrArg (World.drewN _) (Nat.add_assoc _ _ _))⟩)));try go_wp2_with (first|(go_at_call 91;(with_reducible refine (agoraref04_Local.calls kj2 (a1.extract 1 (x7_1:Int).toNat) true _ A14.out).mono ?_);rintro e w' ⟨rfl,⟨nd,rfl⟩⟩;(try first|exact ⟨rfl,_,World.drewN_drewN _ _ _⟩|exact ⟨rfl,_,Eq.trans (World.drewN_drewN _ _ _) (congrArg (World.drewN _) (Nat.add_assoc _ _ _))⟩))|(go_at_call 92;(with_reducible refine (agoraref04_Server.calls kj2 (a1.extract ((ji16):Int).toNat a1.size) false _ A19.out).mono ?_);rintro e w' ⟨rfl,⟨nd,rfl⟩⟩;(try first|exact ⟨rfl,_,World.drewN_drewN _ _ _⟩|exact ⟨rfl,_,Eq.trans (World.drewN_drewN _ _ _) (congrArg (World.drewN _) (Nat.add_assoc _ _ _))⟩))))
                         go_ret3;exact ⟨by first|rfl|(simp;done)|(simp only [← hji16] <;> (first|rfl|simp))|(simp [*];done),dz_⟩
                     · rw [if_neg c18] at H;exact absurd H (by simp)
                   · rw [if_neg c17] at H;exact absurd H (by simp)
                 · replace c15:=Bool.eq_false_iff.mpr c15;subst c15;rw [if_neg nf_] at H;simp only [Option.some.injEq,Prod.mk.injEq] at H;obtain ⟨rfl,rfl,rfl⟩:=H;have p10:0≤(x7_1:Int):=of_decide_eq_true as_;have q10:x7_1 < (a1.size:Int):=of_decide_eq_true as_;have hx10:=bt_at a1 x7_1;replace p10:=eq_true p10;replace q10:=eq_true q10;go_wp2_with (first|(go_at_call 91;(with_reducible refine (agoraref04_Local.calls kj2 (a1.extract 1 (x7_1:Int).toNat) false _ A14.out).mono ?_);rintro e w' ⟨rfl,⟨nd,rfl⟩⟩;(try first|exact ⟨rfl,_,World.drewN_drewN _ _ _⟩|exact ⟨rfl,_,Eq.trans (World.drewN_drewN _ _ _) (congrArg (World.drewN _) (Nat.add_assoc _ _ _))⟩)));repeat (go_quiet (first|(go_at_call 91;(with_reducible refine (agoraref04_Local.calls kj2 (a1.extract 1 (x7_1:Int).toNat) false _ A14.out).mono ?_);rintro e w' ⟨rfl,⟨nd,rfl⟩⟩;(try first|exact ⟨rfl,_,World.drewN_drewN _ _ _⟩|exact ⟨rfl,_,Eq.trans (World.drewN_drewN _ _ _) (congrArg (World.drewN _) (Nat.add_assoc _ _ _))⟩)));try go_wp2_with (first|(go_at_call 91;(with_reducible refine (agoraref04_Local.calls kj2 (a1.extract 1 (x7_1:Int).toNat) false _ A14.out).mono ?_);rintro e w' ⟨rfl,⟨nd,rfl⟩⟩;(try first|exact ⟨rfl,_,World.drewN_drewN _ _ _⟩|exact ⟨rfl,_,Eq.trans (World.drewN_drewN _ _ _) (congrArg (World.drewN _) (Nat.add_assoc _ _ _))⟩))))
                   go_ret3;exact ⟨sz_,dz_⟩
               · rw [if_neg c13] at H;exact absurd H (by simp)
             · rw [if_neg c12] at H;exact absurd H (by simp)
           · rw [if_neg c11] at H;have c11b0:((bt a1 x7_1)==58)=false:=beq_eq_false_iff_ne.mpr c11;have c11b1:((bt a1 x7_1) != 58)=true:=bne_iff_ne.mpr c11;have H':=Aside0.mk H;clear H;have p10:0≤(x7_1:Int):=of_decide_eq_true as_;have q10:x7_1 < (a1.size:Int):=of_decide_eq_true as_;have hx10:=bt_at a1 x7_1;replace p10:=eq_true p10;replace q10:=eq_true q10;go_wp2;repeat (go_quiet (fail);try go_wp2)
             go_roundg kj2;case measure=>have:=HK1.out;have:=HJ2.out;omega
             case rel=>exact ⟨(wrap64 (x7_1+1)),sz_,H',⟨by have:=HK1.out;have:=HJ2.out;omega⟩,dz_⟩
         · rw [if_neg c9] at H;exact absurd H (by simp)
       · rw [if_neg c8] at H;exact absurd H (by simp)
     · replace c7:=Bool.eq_false_iff.mpr c7;subst c7;rw [if_neg nf_] at H;simp only [Option.some.injEq,Prod.mk.injEq] at H;obtain ⟨rfl,rfl,rfl⟩:=H;go_wp2;repeat (go_quiet (fail);try go_wp2)
       go_ret3;exact ⟨sz_,dz_⟩
end Go.Proofs.YtodhmbnfliajiaaGreatDoor.Q
