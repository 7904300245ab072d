/- Qx11: a text of this claim's proof,as printed or written,without what the claim does not use. -/
import Derived.Test.YtodhmbnfliajiaaGreatDoorQx0
namespace Go.Proofs.YtodhmbnfliajiaaGreatDoor.Q
open Go.RowKit Go.Proofs.YtodhmbnfliajiaaGreatDoorW.PrintWords Go.Proofs.YtodhmbnfliajiaaGreatDoorW.PrintLast Go.Proofs.YtodhmbnfliajiaaGreatDoorW.PrintMore
attribute [local go_sem] max2_int min2_int max_two min_two max_three min_three max_four min_four
set_option linter.unusedVariables false
set_option linter.unusedSimpArgs false
mutual
def agoraref23_match.l0:Nat→List ByteArray→List ByteArray→List Bool→Int→Option (Bool)
 | 0,_,_,_,_=>none
 | k+1,x0,x1,x5,x6=>if x6 < (x0.length:Int) then (if 0≤(wrap64 ((x1.length:Int)+1)) then (if (wrap64 ((x1.length:Int)+1):Int).toNat≤281474976710656 then (agoraref23_match.l1 k x0 x1 x5 x6 0 (List.replicate (wrap64 ((x1.length:Int)+1):Int).toNat false)) else (none)) else (none)) else (if 0≤(x1.length:Int) then (if (x1.length:Int) < (x5.length:Int) then (some (rdOf false x5 (x1.length:Int))) else (none)) else (none))
def agoraref23_match.l1:Nat→List ByteArray→List ByteArray→List Bool→Int→Int→List Bool→Option (Bool)
 | 0,_,_,_,_,_,_=>none
 | k+1,x0,x1,x5,x6,x8,x24=>if x8≤(x1.length:Int) then (if 0≤x6 then (if x6 < (x0.length:Int) then (if (rdOf ByteArray.empty x0 x6).toList=([42]:List UInt8) then (if 0≤x8 then (if x8 < (x5.length:Int) then (if rdOf false x5 x8=true then (if x8 < (x24.length:Int) then (agoraref23_match.l1 k x0 x1 x5 x6 (wrap64 (x8+1)) (x24.set (x8:Int).toNat true)) else (none)) else (if x8 > 0 then (if 0≤(wrap64 (x8 - 1)) then (if (wrap64 (x8 - 1)) < (x24.length:Int) then (if x8 < (x24.length:Int) then (agoraref23_match.l1 k x0 x1 x5 x6 (wrap64 (x8+1)) (x24.set (x8:Int).toNat (rdOf false x24 (wrap64 (x8 - 1))))) else (none)) else (none)) else (none)) else (if x8 < (x24.length:Int) then (agoraref23_match.l1 k x0 x1 x5 x6 (wrap64 (x8+1)) (x24.set (x8:Int).toNat false)) else (none)))) else (none)) else (none)) else (if x8 > 0 then (if 0≤(wrap64 (x8 - 1)) then (if (wrap64 (x8 - 1)) < (x5.length:Int) then (if rdOf false x5 (wrap64 (x8 - 1))=true then (if (rdOf ByteArray.empty x0 x6).toList=([63]:List UInt8) then (if 0≤x8 then (if x8 < (x24.length:Int) then (agoraref23_match.l1 k x0 x1 x5 x6 (wrap64 (x8+1)) (x24.set (x8:Int).toNat true)) else (none)) else (none)) else (if (wrap64 (x8 - 1)) < (x1.length:Int) then (if 0≤x8 then (if x8 < (x24.length:Int) then (agoraref23_match.l1 k x0 x1 x5 x6 (wrap64 (x8+1)) (x24.set (x8:Int).toNat ((rdOf ByteArray.empty x0 x6).toList==(rdOf ByteArray.empty x1 (wrap64 (x8 - 1))).toList))) else (none)) else (none)) else (none))) else (if 0≤x8 then (if x8 < (x24.length:Int) then (agoraref23_match.l1 k x0 x1 x5 x6 (wrap64 (x8+1)) (x24.set (x8:Int).toNat false)) else (none)) else (none))) else (none)) else (none)) else (agoraref23_match.l1 k x0 x1 x5 x6 (wrap64 (x8+1)) x24))) else (none)) else (none)) else (agoraref23_match.l0 k x0 x1 x24 (wrap64 (x6+1)))
end
def agoraref23_match.f (k:Nat) (l0:List ByteArray) (l1:List ByteArray):Option (Bool):=if 0≤(wrap64 ((l1.length:Int)+1)) then (if (wrap64 ((l1.length:Int)+1):Int).toNat≤281474976710656 then ((some (List.replicate (wrap64 ((l1.length:Int)+1):Int).toNat false:List Bool)).bind fun y201=>(if 0 < (y201.length:Int) then (agoraref23_match.l0 k l0 l1 (y201.set (0:Int).toNat true) 0) else (none))) else (none)) else (none)
theorem agoraref23_match.mono_l : ∀ k,(∀ y0 y1 y2 y3,LeO (agoraref23_match.l0 k y0 y1 y2 y3) (agoraref23_match.l0 (k+1) y0 y1 y2 y3))∧(∀ y0 y1 y2 y3 y4 y5,LeO (agoraref23_match.l1 k y0 y1 y2 y3 y4 y5) (agoraref23_match.l1 (k+1) y0 y1 y2 y3 y4 y5))
 | 0=>⟨fun _ _ _ _ r h=>by simp [agoraref23_match.l0] at h,fun _ _ _ _ _ _ r h=>by simp [agoraref23_match.l1] at h⟩
 | k+1=>by
  obtain ⟨ih0,ih1⟩:=agoraref23_match.mono_l k
  refine ⟨?_,?_⟩
  · intro y0 y1 y2 y3
    unfold agoraref23_match.l0
    repeat' first
    | (with_reducible exact ih0 _ _ _ _)
    | (with_reducible exact ih1 _ _ _ _ _ _)
    | (with_reducible exact LeO.refl _)
    | (with_reducible exact LeO.none _)
    | (with_reducible refine LeO.ite ?_ ?_)
    | (with_reducible refine LeO.bind ?_ (fun _=>?_))
    | exact ih0 _ _ _ _
    | exact ih1 _ _ _ _ _ _
    | exact LeO.none _
    | refine LeO.ite ?_ ?_
    | refine LeO.bind ?_ (fun _=>?_)
  · intro y0 y1 y2 y3 y4 y5
    unfold agoraref23_match.l1
    repeat' first
    | (with_reducible exact ih0 _ _ _ _)
    | (with_reducible exact ih1 _ _ _ _ _ _)
    | (with_reducible exact LeO.refl _)
    | (with_reducible exact LeO.none _)
    | (with_reducible refine LeO.ite ?_ ?_)
    | (with_reducible refine LeO.bind ?_ (fun _=>?_))
    | exact ih0 _ _ _ _
    | exact ih1 _ _ _ _ _ _
    | exact LeO.none _
    | refine LeO.ite ?_ ?_
    | refine LeO.bind ?_ (fun _=>?_)
theorem agoraref23_match.mono : ∀ a0 a1 k,LeO (agoraref23_match.f k a0 a1) (agoraref23_match.f (k+1) a0 a1):=by
 intro a0 a1 k
 obtain ⟨ih0,ih1⟩:=agoraref23_match.mono_l k
 unfold agoraref23_match.f
 repeat' first
  | (with_reducible exact ih0 _ _ _ _)
  | (with_reducible exact ih1 _ _ _ _ _ _)
  | (with_reducible exact LeO.refl _)
  | (with_reducible exact LeO.none _)
  | (with_reducible refine LeO.ite ?_ ?_)
  | (with_reducible refine LeO.bind ?_ (fun _=>?_))
  | exact ih0 _ _ _ _
  | exact ih1 _ _ _ _ _ _
  | exact LeO.none _
  | refine LeO.ite ?_ ?_
  | refine LeO.bind ?_ (fun _=>?_)
def agoraref23_match.T13:Bool×List (List Nat×List Nat):=(true,[([],[]),([],[]),([],[]),([],[]),([3],[3]),([2,4],[2,4]),([5],[5]),([6],[6]),([7],[7]),([7],[7]),([8,9,7],[7,8,9]),([10,7],[7,10]),([11,7],[7,11]),([12,7,7],[7,12]),([13],[13]),([13],[13]),([14,15,13],[13,14,15]),([16,13],[13,16]),([13],[13]),([13],[13]),([19,13],[13,19]),([18,20,13],[13,18,20]),([21,13],[13,21]),([17,22,13],[13,17,22]),([13,23,7],[7,13,23]),([7,24],[7,24]),([0,1,0,1,2,3,4,5,6,7,8,9,10,11,12,13,14,15,16,17,18,19,20,21,22,23,24,25],[0,1]),([26,25,13,0,1,2,3,4,5,6,7,8,9,10,11,12,13,14,15,16,17,18,19,20,21,22,23,24,25],[25,26])])
def agoraref23_match.B13:List Nat:=[0,0,0,0,8,28,60,124,252,252,1020,2044,4092,8188,16380,16380,65532,131068,16380,16380,540668,1851388,3948540,8388604,16777212,33554428,67108863,134217727]
theorem agoraref23_match.tab13:rtab .any (opsOf Tryz.f64 13)=agoraref23_match.T13:=by kernel_rfl
theorem agoraref23_match.bits13:waitsOk agoraref23_match.T13.2 agoraref23_match.B13=true:=by kernel_rfl
set_option maxHeartbeats 8000000 in
set_option maxRecDepth 100000 in
theorem agoraref23_match.calls (k:Nat) (A0:Option Addr) (c0:Nat) (l0:List ByteArray) (A1:Option Addr) (c1:Nat) (l1:List ByteArray) (r:Bool) (w:World) (hr0:Kd.C Kd.string w A0 l0.length l0) (hc0:l0.length≤c0) (hr1:Kd.C Kd.string w A1 l1.length l1) (hc1:l1.length≤c1) (h:agoraref23_match.f k l0 l1=some r) :
 Calls Tryz.prog 64 #[.slice A0 l0.length c0,.slice A1 l1.length c1] w fun e w'=>e=.returned (.bool r)∧Below w.heap.size w w':=by
 have HR0:=Aside0.mk hr0
 have HC0:=Aside0.mk hc0
 clear hr0 hc0
 have HR1:=Aside0.mk hr1
 have HC1:=Aside0.mk hc1
 clear hr1 hc1
 have HB:=Aside0.mk (Below.refl w.heap.size w)
 have H:(if 0≤(wrap64 ((l1.length:Int)+1)) then (if (wrap64 ((l1.length:Int)+1):Int).toNat≤281474976710656 then ((some (List.replicate (wrap64 ((l1.length:Int)+1):Int).toNat false:List Bool)).bind fun y201=>(if 0 < (y201.length:Int) then (agoraref23_match.l0 k l0 l1 (y201.set (0:Int).toNat true) 0) else (none))) else (none)) else (none))=some r:=h
 clear h
 obtain ⟨ji3,hji3⟩ : ∃ j_:Int,(wrap64 ((l1.length:Int)+1))=j_:=⟨_,rfl⟩
 replace H:(if 0≤(ji3) then (if (ji3:Int).toNat≤281474976710656 then ((some (List.replicate (ji3:Int).toNat false:List Bool)).bind fun y201=>(if 0 < (y201.length:Int) then (agoraref23_match.l0 k l0 l1 (y201.set (0:Int).toNat true) 0) else (none))) else (none)) else (none))=some r:=by first|(rw [hji3] at H;exact H)|(simp only [hji3] at H ⊢;exact H)
 have hji3w:(IntKind.i64.wrap ((l1.length:Int)+1))=ji3:=(i64_w _).trans hji3
 by_cases c4:0≤(ji3)
 · rw [if_pos c4] at H
   have c4b0:=eq_true c4
   have c4b1:decide (0≤(ji3))=true:=decide_eq_true c4
   clear c4
   by_cases c5:(ji3:Int).toNat≤281474976710656
   · rw [if_pos c5] at H
     have c5b0:=eq_true c5
     have c5b1:decide ((ji3:Int).toNat≤281474976710656)=true:=decide_eq_true c5
     clear c5
     obtain ⟨y201,hy201⟩ : ∃ y_:List Bool,y_=(List.replicate (ji3:Int).toNat false):=⟨_,rfl⟩
     replace H:(if 0 < (y201.length:Int) then (agoraref23_match.l0 k l0 l1 (y201.set (0:Int).toNat true) 0) else (none))=some r:=by first|(rw [hy201];with_reducible exact H)|(have H2_:=(Option.bind_some _ _).symm.trans H;rw [hy201];with_reducible exact H2_)|(have H2_:=(Option.bind_some _ _).symm.trans H;with_reducible exact H2_)|with_reducible exact H|(rw [hy201];exact H)|exact H
     have Ny201:=Aside0.mk hy201
     clear hy201
     by_cases c6:0 < (y201.length:Int)
     · rw [if_pos c6] at H
       have c6b0:decide (0 < (y201.length:Int))=true:=decide_eq_true c6
       have c6b1:decide (0 < y201.length)=true:=decide_eq_true (by omega)
       clear c6
       obtain ⟨y204,hy204⟩ : ∃ y_:List Bool,y_=(y201.set (0:Int).toNat true):=⟨_,rfl⟩
       replace H:(agoraref23_match.l0 k l0 l1 y204 0)=some r:=by first|(rw [hy204];with_reducible exact H)|(have H2_:=(Option.bind_some _ _).symm.trans H;rw [hy204];with_reducible exact H2_)|(have H2_:=(Option.bind_some _ _).symm.trans H;with_reducible exact H2_)|with_reducible exact H|(rw [hy204];exact H)|exact H
       have Ny204:=Aside0.mk hy204
       clear hy204
       have H':=Aside0.mk H
       clear H
       go_enter Tryz.func64,Tryz.ntmps64
       go_wp2_with (first|((with_reducible refine gate_dst (N:=12) rfl ?_);refine Kd.R_make Kd.bool _ 4 rfl (N:=12) rfl 107 _ _ rfl ji3 rfl rfl Tryz.underlying107 (.bool false) 1 info4 rfl (by decide) (by omega) false (ok:=fun _=>True) (okp:=fun _=>True) rfl (fun _ hk=>hk) trivial (of_decide_eq_true (by first|(with_reducible assumption)|assumption)) (Nat.le_trans (Nat.mul_le_mul_right _ (of_decide_eq_true (by first|(with_reducible assumption)|assumption):ji3.toNat≤281474976710656)) (by omega)) (Below.refl _ _) (Nat.le_refl _) ?_;intro v202 w8 ho9 hb hg_ hnew_;clear hg_ hnew_;(first|rw [← Ny201.out] at ho9|(simp only [Int.reduceToNat] at ho9;rw [← Ny201.out] at ho9));have n0_:=Aside0.mk (Kd.R_lower ho9 (below_size (by repeat (first|(with_reducible first|exact HB.out|apply below_alloc|apply pw_below_drewN|apply below_drew1)|exact HB.out))));have n1_:=Aside0.mk (below_step (by repeat (first|(with_reducible first|exact HB.out|apply below_alloc|apply pw_below_drewN|apply below_drew1)|exact HB.out)) hb);clear HB;have HO203:=n0_;have HB:=n1_;clear n0_ n1_;clear hb ho9;have p7:0≤(0:Int):=(by omega);have q7:(0:Int) < ((y201.length:Int):Int):=of_decide_eq_true (by first|(with_reducible assumption)|assumption);have qi7:(0 < y201.length)=True:=eq_true (by omega);obtain ⟨go7,co7,eo7,gb7,gl7,cl7,HG7⟩:=Kd.R_form HO203.out (by omega);(first|cases eo7|(injection eo7 with ea_ en_ ec_;(first|subst ea_|(injection ea_ with ea_;subst ea_));subst ec_;clear en_));have GB7:=Aside0.mk gb7;have GG7:=Aside0.mk HG7;clear gb7 gl7 HG7;obtain ⟨hx7_0,hf7_0⟩:=Kd.R_celln false HO203.out (0:Int) p7 q7;(try rw [show ((0:Int)).toNat=0 from rfl] at hx7_0);(try simp only [Nat.reduceMul,Nat.zero_mul,Nat.zero_add,Nat.reduceAdd] at hx7_0);(try rw [show ((0:Int)).toNat=0 from rfl] at hf7_0);(try simp only [Nat.reduceMul,Nat.zero_mul,Nat.zero_add,Nat.reduceAdd] at hf7_0);replace p7:=eq_true p7;replace q7:=eq_true q7;obtain ⟨hy10_,hz10_⟩:=Kd.R_celln false HO203.out (0:Int) (by omega) (of_decide_eq_true (by first|(with_reducible assumption)|assumption));(try simp only [Int.reduceToNat,Int.toNat_zero,Int.toNat_ofNat,Nat.reduceMul,Nat.zero_mul,Nat.zero_add] at hy10_ hz10_);(try rw [show ((0:Int)).toNat=0 from rfl] at hy10_);(try rw [show ((0:Int)).toNat=0 from rfl] at hz10_);have HP10:=Kd.R_putg HO203.out (0:Int) true)|((with_reducible refine gate_store (t:=4) (p:=14) rfl ?_);refine store_event (t:=4) (p:=14) (v:=?vo_w11) (w1:=(w8.setCell ⟨go7,(0:Int).toNat,none⟩ (.bool true))) ?hg ?ho ?hn ?hr ?_;(case ho=>rfl);(case hg=>rfl);(case hn=>rfl);(case hr=>first|(go_simp;done)|(go_simp;rfl));intro w11 hw;have hg:w8.grownBy w11 (some go7):=(by rw [hw];exact HP10.2);have hp_:Kd.R Kd.bool 4 w11 w.heap.size (fun _=>True) (.slice (some ⟨go7,0,none⟩) y201.length co7) y204:=(by rw [hw,Ny204.out];exact HP10.1);clear HP10;have n0_:=Aside0.mk (hp_);have n1_:=Aside0.mk ((by rw [hw];exact below_set (HB.out) GB7.out:Below w.heap.size w w11));clear HO203;clear HB;have HO203:=n0_;have HB:=n1_;clear n0_ n1_;clear hg hw hp_))
       go_loopg [5,6] k (fun kq v5 v6 w'=>∃ (x5_1:List Bool) (x6_1:Int),v6=.int .i64 x6_1∧Aside0 (agoraref23_match.l0 kq l0 l1 x5_1 x6_1=some r)∧Aside0 (kq≤k)∧Aside0 (Kd.R Kd.bool 4 w' w.heap.size (fun _=>True) v5 x5_1)∧Aside0 (Below w.heap.size w w'))
       case atStart=>exact ⟨(y204),(0),(by first|rfl|(simp;done)|(simp [*];done)),H',⟨Nat.le_refl _⟩,⟨by (with_reducible repeat (first|apply Kd.R_alloc|apply Kd.R_drewN|apply Kd.R_drew));exact HO203.out⟩,⟨by repeat (first|(with_reducible first|exact HB.out|apply below_alloc|apply pw_below_drewN|apply below_drew1)|exact HB.out)⟩⟩
       case round=>
        clear H'
        try clear c1
        try clear p2
        try clear c4
        try clear c4b0
        try clear c4b1
        try clear c5
        try clear c5b0
        try clear c5b1
        try clear c6
        try clear c6b0
        try clear c6b1
        try clear p6
        try clear p7
        try clear q7
        try clear hx7
        try clear qi7
        try clear hf7
        try clear hx7_0
        try clear p7
        try clear q7
        obtain ⟨x5_1,x6_1,rfl,HA,HK1,HO_5,HB⟩:=hrel
        cases gk with
        | zero=>exact absurd HA.out (by simp [agoraref23_match.l0])
        | succ k1=>
         have H:=HA.out
         clear HA
         simp only [agoraref23_match.l0] at H
         by_cases c12:x6_1 < (l0.length:Int)
         · rw [if_pos c12] at H
           have c12b0:decide (x6_1 < (l0.length:Int))=true:=decide_eq_true c12
           clear c12
           obtain ⟨ji13,hji13⟩ : ∃ j_:Int,(wrap64 ((l1.length:Int)+1))=j_:=⟨_,rfl⟩
           replace H:(if 0≤(ji13) then (if (ji13:Int).toNat≤281474976710656 then (agoraref23_match.l1 k1 l0 l1 x5_1 x6_1 0 (List.replicate (ji13:Int).toNat false)) else (none)) else (none))=some r:=by first|(rw [hji13] at H;exact H)|(simp only [hji13] at H ⊢;exact H)
           have hji13w:(IntKind.i64.wrap ((l1.length:Int)+1))=ji13:=(i64_w _).trans hji13
           obtain rfl:ji13=ji3:=hji13.symm.trans hji3
           by_cases c14:0≤(ji13)
           · rw [if_pos c14] at H
             have c14b0:=eq_true c14
             have c14b1:decide (0≤(ji13))=true:=decide_eq_true c14
             clear c14
             by_cases c15:(ji13:Int).toNat≤281474976710656
             · rw [if_pos c15] at H
               have c15b0:=eq_true c15
               have c15b1:decide ((ji13:Int).toNat≤281474976710656)=true:=decide_eq_true c15
               clear c15
               obtain ⟨y206,hy206⟩ : ∃ y_:List Bool,y_=(List.replicate (ji13:Int).toNat false):=⟨_,rfl⟩
               replace H:(agoraref23_match.l1 k1 l0 l1 x5_1 x6_1 0 y206)=some r:=by first|(rw [hy206];with_reducible exact H)|(have H2_:=(Option.bind_some _ _).symm.trans H;rw [hy206];with_reducible exact H2_)|(have H2_:=(Option.bind_some _ _).symm.trans H;with_reducible exact H2_)|with_reducible exact H|(rw [hy206];exact H)|exact H
               have Ny206:=Aside0.mk hy206
               clear hy206
               have H':=Aside0.mk H
               clear H
               go_wp2_with (first|((with_reducible refine gate_dst (N:=24) rfl ?_);refine Kd.R_make Kd.bool _ 4 rfl (N:=24) rfl 107 _ _ rfl ji13 rfl rfl Tryz.underlying107 (.bool false) 1 info4 rfl (by decide) (by omega) false (ok:=fun _=>True) (okp:=fun _=>True) rfl (fun _ hk=>hk) trivial (of_decide_eq_true (by first|(with_reducible assumption)|assumption)) (Nat.le_trans (Nat.mul_le_mul_right _ (of_decide_eq_true (by first|(with_reducible assumption)|assumption):ji13.toNat≤281474976710656)) (by omega)) (Below.refl _ _) (Nat.le_refl _) ?_;intro v207 w16 ho17 hb hg_ hnew_;clear hg_ hnew_;(first|rw [← Ny206.out] at ho17|(simp only [Int.reduceToNat] at ho17;rw [← Ny206.out] at ho17));have n0_:=Aside0.mk (Kd.R_elder' (by (with_reducible repeat (first|apply Kd.R_alloc|apply Kd.R_drewN|apply Kd.R_drew));exact HO_5.out) (Kd.R_base ho17) hb);have n1_:=Aside0.mk (Kd.R_lower (Kd.R_new' ho17 (Kd.R_lt (by (with_reducible repeat (first|apply Kd.R_alloc|apply Kd.R_drewN|apply Kd.R_drew));exact HO_5.out))) (below_size (by repeat (first|(with_reducible first|exact HB.out|apply below_alloc|apply pw_below_drewN|apply below_drew1)|exact HB.out))));have n2_:=Aside0.mk (below_step (by repeat (first|(with_reducible first|exact HB.out|apply below_alloc|apply pw_below_drewN|apply below_drew1)|exact HB.out)) hb);clear HO_5;clear HB;have HO_5:=n0_;have HO208:=n1_;have HB:=n2_;clear n0_ n1_ n2_;clear hb ho17))
               go_loopg [8] k1 (fun kq v8 w'=>∃ (x8_2:Int) (x24_2:List Bool),v8=.int .i64 x8_2∧Aside0 (agoraref23_match.l1 kq l0 l1 x5_1 x6_1 x8_2 x24_2=some r)∧Aside0 (kq≤k1)∧Aside0 (Kd.R Kd.bool 4 w' w.heap.size (fun k_=>some k_≠(v207:Value).ownBlock) u5 x5_1)∧Aside0 (Kd.R Kd.bool 4 w' w.heap.size (fun k_=>some k_≠(u5:Value).ownBlock) v207 x24_2)∧Aside0 (Below w.heap.size w w'))
               case atStart=>exact ⟨(0),(y206),(by first|rfl|(simp;done)|(simp [*];done)),H',⟨Nat.le_refl _⟩,⟨by (with_reducible repeat (first|apply Kd.R_alloc|apply Kd.R_drewN|apply Kd.R_drew));exact Kd.R_mono HO_5.out (fun _ hk=>hk.2)⟩,⟨by (with_reducible repeat (first|apply Kd.R_alloc|apply Kd.R_drewN|apply Kd.R_drew));exact Kd.R_mono HO208.out (fun _ hk=>hk.2)⟩,⟨by repeat (first|(with_reducible first|exact HB.out|apply below_alloc|apply pw_below_drewN|apply below_drew1)|exact HB.out)⟩⟩
               case round=>
                clear H'
                try clear c1
                try clear p2
                try clear c4
                try clear c4b0
                try clear c4b1
                try clear c5
                try clear c5b0
                try clear c5b1
                try clear c6
                try clear c6b0
                try clear c6b1
                try clear p6
                try clear p7
                try clear q7
                try clear hx7
                try clear qi7
                try clear hf7
                try clear c12
                try clear c12b0
                try clear c14
                try clear c14b0
                try clear c14b1
                try clear c15
                try clear c15b0
                try clear c15b1
                try clear hx7_0
                try clear p2
                try clear p6
                try clear p7
                try clear q7
                obtain ⟨x8_2,x24_2,rfl,HA,HK2,HO_5,HO_24,HB⟩:=hrel
                cases gk with
                | zero=>exact absurd HA.out (by simp [agoraref23_match.l1])
                | succ k2=>
                 have H:=HA.out
                 clear HA
                 simp only [agoraref23_match.l1] at H
                 by_cases c18:x8_2≤(l1.length:Int)
                 · rw [if_pos c18] at H
                   have c18b0:decide (x8_2≤(l1.length:Int))=true:=decide_eq_true c18
                   clear c18
                   by_cases c19:0≤x6_1
                   · rw [if_pos c19] at H
                     have c19b0:decide (0≤x6_1)=true:=decide_eq_true c19
                     clear c19
                     by_cases c20:x6_1 < (l0.length:Int)
                     · rw [if_pos c20] at H
                       have c20b0:decide (x6_1 < (l0.length:Int))=true:=decide_eq_true c20
                       clear c20
                       by_cases c21:(rdOf ByteArray.empty l0 x6_1).toList=([42]:List UInt8)
                       · rw [if_pos c21] at H
                         have c21b0:((rdOf ByteArray.empty l0 x6_1).toList==([42]:List UInt8))=true:=beq_iff_eq.mpr c21
                         have c21b1:((rdOf ByteArray.empty l0 x6_1).toList != ([42]:List UInt8))=false:=bne_eq_false_iff_eq.mpr c21
                         clear c21
                         by_cases c22:0≤x8_2
                         · rw [if_pos c22] at H
                           have c22b0:decide (0≤x8_2)=true:=decide_eq_true c22
                           clear c22
                           by_cases c23:x8_2 < (x5_1.length:Int)
                           · rw [if_pos c23] at H
                             have c23b0:decide (x8_2 < (x5_1.length:Int))=true:=decide_eq_true c23
                             clear c23
                             obtain ⟨bq24,hbq24⟩ : ∃ b_:Bool,b_=(rdOf false x5_1 x8_2):=⟨_,rfl⟩
                             replace H:(if bq24=true then (if x8_2 < (x24_2.length:Int) then (agoraref23_match.l1 k2 l0 l1 x5_1 x6_1 (wrap64 (x8_2+1)) (x24_2.set (x8_2:Int).toNat true)) else (none)) else (if x8_2 > 0 then (if 0≤(wrap64 (x8_2 - 1)) then (if (wrap64 (x8_2 - 1)) < (x24_2.length:Int) then (if x8_2 < (x24_2.length:Int) then (agoraref23_match.l1 k2 l0 l1 x5_1 x6_1 (wrap64 (x8_2+1)) (x24_2.set (x8_2:Int).toNat (rdOf false x24_2 (wrap64 (x8_2 - 1))))) else (none)) else (none)) else (none)) else (if x8_2 < (x24_2.length:Int) then (agoraref23_match.l1 k2 l0 l1 x5_1 x6_1 (wrap64 (x8_2+1)) (x24_2.set (x8_2:Int).toNat false)) else (none))))=some r:=by rw [← hbq24] at H;exact H
                             have Nbq24:=Aside0.mk hbq24
                             clear hbq24
                             by_cases c25:bq24=true
                             · subst c25
                               have H1:(if x8_2 < (x24_2.length:Int) then (agoraref23_match.l1 k2 l0 l1 x5_1 x6_1 (wrap64 (x8_2+1)) (x24_2.set (x8_2:Int).toNat true)) else (none))=some r:=by rw [if_pos rfl] at H;exact H
                               clear H
                               have H:=H1
                               clear H1
                               by_cases c26:x8_2 < (x24_2.length:Int)
                               · rw [if_pos c26] at H
                                 have c26b0:decide (x8_2 < (x24_2.length:Int))=true:=decide_eq_true c26
                                 clear c26
                                 obtain ⟨y211,hy211⟩ : ∃ y_:List Bool,y_=(x24_2.set (x8_2:Int).toNat true):=⟨_,rfl⟩
                                 replace H:(agoraref23_match.l1 k2 l0 l1 x5_1 x6_1 (wrap64 (x8_2+1)) y211)=some r:=by first|(rw [hy211];with_reducible exact H)|(have H2_:=(Option.bind_some _ _).symm.trans H;rw [hy211];with_reducible exact H2_)|(have H2_:=(Option.bind_some _ _).symm.trans H;with_reducible exact H2_)|with_reducible exact H|(rw [hy211];exact H)|exact H
                                 have Ny211:=Aside0.mk hy211
                                 clear hy211
                                 have H':=Aside0.mk H
                                 clear H
                                 have p209:0≤(x6_1:Int):=of_decide_eq_true (by first|(with_reducible assumption)|assumption)
                                 have q209:x6_1 < (l0.length:Int):=of_decide_eq_true (by first|(with_reducible assumption)|assumption)
                                 obtain ⟨ad209,e209,hx209_0⟩:=Kd.at_string HR0.out x6_1 p209 q209
                                 cases e209
                                 replace hx209_0:=(HB.out.cell (World.block_lt_of_cell? w _ hx209_0)).trans hx209_0
                                 replace p209:=eq_true p209
                                 replace q209:=eq_true q209
                                 obtain ⟨Ao28,co28,eo28⟩:=Kd.R_slice HO_5.out
                                 subst eo28
                                 have p210:0≤(x8_2:Int):=of_decide_eq_true (by first|(with_reducible assumption)|assumption)
                                 have q210:x8_2 < (x5_1.length:Int):=of_decide_eq_true (by first|(with_reducible assumption)|assumption)
                                 obtain ⟨ad210,e210,hx210_0⟩:=Kd.at_bool (Kd.R_reads' HO_5.out).2.2 x8_2 p210 q210
                                 (try rw [← Nbq24.out] at hx210_0)
                                 cases e210
                                 replace p210:=eq_true p210
                                 replace q210:=eq_true q210
                                 have p27:0≤(x8_2:Int):=of_decide_eq_true (by first|(with_reducible assumption)|assumption)
                                 have q27:(x8_2:Int) < ((x24_2.length:Int):Int):=of_decide_eq_true (by first|(with_reducible assumption)|assumption)
                                 obtain ⟨go27,co27,eo27,gb27,gl27,cl27,HG27⟩:=Kd.R_form HO_24.out (by omega)
                                 (first|cases eo27|(injection eo27 with ea_ en_ ec_;(first|subst ea_|(injection ea_ with ea_;subst ea_));subst ec_;clear en_))
                                 have GB27:=Aside0.mk gb27
                                 have GG27:=Aside0.mk HG27
                                 clear gb27 gl27 HG27
                                 obtain ⟨hx27_0,hf27_0⟩:=Kd.R_celln false HO_24.out (x8_2:Int) p27 q27
                                 replace p27:=eq_true p27
                                 replace q27:=eq_true q27
                                 have HP29:=Kd.R_putg HO_24.out (x8_2:Int) true
                                 go_wp2_with (first|((with_reducible refine gate_store (t:=4) (p:=54) rfl ?_);refine store_event (t:=4) (p:=54) (v:=?vo_w30) (w1:=(wr.setCell ⟨go27,(x8_2:Int).toNat,none⟩ (.bool true))) ?hg ?ho ?hn ?hr ?_;(case ho=>rfl);(case hg=>rfl);(case hn=>rfl);(case hr=>first|(go_simp;done)|(go_simp;rfl));intro w30 hw;have hg:wr.grownBy w30 (some go27):=(by rw [hw];exact HP29.2);have hp_:Kd.R Kd.bool 4 w30 w.heap.size (fun k_=>some k_≠(.slice (some ad210) x5_1.length co28:Value).ownBlock) (.slice (some ⟨go27,0,none⟩) x24_2.length co27) y211:=(by rw [hw,Ny211.out];exact HP29.1);clear HP29;have n0_:=Aside0.mk (Kd.R_after (v:=(.slice (some ⟨go27,0,none⟩) x24_2.length co27)) (v1:=(.slice (some ⟨go27,0,none⟩) x24_2.length co27)) (ok:=(fun _=>True)) (by (with_reducible repeat (first|apply Kd.R_alloc|apply Kd.R_drewN|apply Kd.R_drew));exact Kd.R_mono HO_5.out (fun _ hk=>⟨trivial,hk⟩)) hg (.inl rfl));have n1_:=Aside0.mk (hp_);have n2_:=Aside0.mk ((by rw [hw];exact below_set (HB.out) GB27.out:Below w.heap.size w w30));clear HO_5;clear HO_24;clear HB;have HO_5:=n0_;have HO_24:=n1_;have HB:=n2_;clear n0_ n1_ n2_;clear hg hw hp_))
                                 go_roundg k2
                                 case measure=>have:=HK1.out;have:=HK2.out;omega
                                 case rel=>exact ⟨(wrap64 (x8_2+1)),(y211),(by first|rfl|(simp;done)|(simp [*];done)),H',⟨by have:=HK1.out;have:=HK2.out;omega⟩,⟨by (with_reducible repeat (first|apply Kd.R_alloc|apply Kd.R_drewN|apply Kd.R_drew));exact Kd.R_mono HO_5.out (fun _ hk=>hk.2)⟩,⟨by (with_reducible repeat (first|apply Kd.R_alloc|apply Kd.R_drewN|apply Kd.R_drew));exact HO_24.out⟩,⟨by repeat (first|(with_reducible first|exact HB.out|apply below_alloc|apply pw_below_drewN|apply below_drew1)|exact HB.out)⟩⟩
                               · rw [if_neg c26] at H
                                 exact absurd H (by simp)
                             · replace c25:=Bool.eq_false_iff.mpr c25
                               subst c25
                               have H1:(if x8_2 > 0 then (if 0≤(wrap64 (x8_2 - 1)) then (if (wrap64 (x8_2 - 1)) < (x24_2.length:Int) then (if x8_2 < (x24_2.length:Int) then (agoraref23_match.l1 k2 l0 l1 x5_1 x6_1 (wrap64 (x8_2+1)) (x24_2.set (x8_2:Int).toNat (rdOf false x24_2 (wrap64 (x8_2 - 1))))) else (none)) else (none)) else (none)) else (if x8_2 < (x24_2.length:Int) then (agoraref23_match.l1 k2 l0 l1 x5_1 x6_1 (wrap64 (x8_2+1)) (x24_2.set (x8_2:Int).toNat false)) else (none)))=some r:=by rw [if_neg (show ¬ (false=true) by decide)] at H;exact H
                               clear H
                               have H:=H1
                               clear H1
                               by_cases c31:x8_2 > 0
                               · rw [if_pos c31] at H
                                 have c31b0:decide (0 < x8_2)=true:=decide_eq_true c31
                                 clear c31
                                 obtain ⟨ji32,hji32⟩ : ∃ j_:Int,(wrap64 (x8_2 - 1))=j_:=⟨_,rfl⟩
                                 replace H:(if 0≤(ji32) then (if (ji32) < (x24_2.length:Int) then (if x8_2 < (x24_2.length:Int) then (agoraref23_match.l1 k2 l0 l1 x5_1 x6_1 (wrap64 (x8_2+1)) (x24_2.set (x8_2:Int).toNat (rdOf false x24_2 (ji32)))) else (none)) else (none)) else (none))=some r:=by first|(rw [hji32] at H;exact H)|(simp only [hji32] at H ⊢;exact H)
                                 have hji32w:(IntKind.i64.wrap (x8_2 - 1))=ji32:=(i64_w _).trans hji32
                                 by_cases c33:0≤(ji32)
                                 · rw [if_pos c33] at H
                                   have c33b0:decide (0≤(ji32))=true:=decide_eq_true c33
                                   clear c33
                                   by_cases c34:(ji32) < (x24_2.length:Int)
                                   · rw [if_pos c34] at H
                                     have c34b0:decide ((ji32) < (x24_2.length:Int))=true:=decide_eq_true c34
                                     clear c34
                                     by_cases c35:x8_2 < (x24_2.length:Int)
                                     · rw [if_pos c35] at H
                                       have c35b0:decide (x8_2 < (x24_2.length:Int))=true:=decide_eq_true c35
                                       clear c35
                                       obtain ⟨y213,hy213⟩ : ∃ y_:List Bool,y_=(x24_2.set (x8_2:Int).toNat (rdOf false x24_2 (ji32))):=⟨_,rfl⟩
                                       replace H:(agoraref23_match.l1 k2 l0 l1 x5_1 x6_1 (wrap64 (x8_2+1)) y213)=some r:=by first|(rw [hy213];with_reducible exact H)|(have H2_:=(Option.bind_some _ _).symm.trans H;rw [hy213];with_reducible exact H2_)|(have H2_:=(Option.bind_some _ _).symm.trans H;with_reducible exact H2_)|with_reducible exact H|(rw [hy213];exact H)|exact H
                                       have Ny213:=Aside0.mk hy213
                                       clear hy213
                                       have H':=Aside0.mk H
                                       clear H
                                       have p209:0≤(x6_1:Int):=of_decide_eq_true (by first|(with_reducible assumption)|assumption)
                                       have q209:x6_1 < (l0.length:Int):=of_decide_eq_true (by first|(with_reducible assumption)|assumption)
                                       obtain ⟨ad209,e209,hx209_0⟩:=Kd.at_string HR0.out x6_1 p209 q209
                                       cases e209
                                       replace hx209_0:=(HB.out.cell (World.block_lt_of_cell? w _ hx209_0)).trans hx209_0
                                       replace p209:=eq_true p209
                                       replace q209:=eq_true q209
                                       obtain ⟨Ao37,co37,eo37⟩:=Kd.R_slice HO_5.out
                                       subst eo37
                                       have p210:0≤(x8_2:Int):=of_decide_eq_true (by first|(with_reducible assumption)|assumption)
                                       have q210:x8_2 < (x5_1.length:Int):=of_decide_eq_true (by first|(with_reducible assumption)|assumption)
                                       obtain ⟨ad210,e210,hx210_0⟩:=Kd.at_bool (Kd.R_reads' HO_5.out).2.2 x8_2 p210 q210
                                       (try rw [← Nbq24.out] at hx210_0)
                                       cases e210
                                       replace p210:=eq_true p210
                                       replace q210:=eq_true q210
                                       obtain ⟨Ao38,co38,eo38⟩:=Kd.R_slice HO_24.out
                                       subst eo38
                                       have p212:0≤((ji32):Int):=of_decide_eq_true (by first|(with_reducible assumption)|assumption)
                                       have q212:(ji32) < (x24_2.length:Int):=of_decide_eq_true (by first|(with_reducible assumption)|assumption)
                                       obtain ⟨ad212,e212,hx212_0⟩:=Kd.at_bool (Kd.R_reads' HO_24.out).2.2 (ji32) p212 q212
                                       (try rw [← Nbq24.out] at hx212_0)
                                       cases e212
                                       replace p212:=eq_true p212
                                       replace q212:=eq_true q212
                                       have p36:0≤(x8_2:Int):=of_decide_eq_true (by first|(with_reducible assumption)|assumption)
                                       have q36:(x8_2:Int) < ((x24_2.length:Int):Int):=of_decide_eq_true (by first|(with_reducible assumption)|assumption)
                                       obtain ⟨go36,co36,eo36,gb36,gl36,cl36,HG36⟩:=Kd.R_form HO_24.out (by omega)
                                       (first|cases eo36|(injection eo36 with ea_ en_ ec_;(first|subst ea_|(injection ea_ with ea_;subst ea_));subst ec_;clear en_))
                                       have GB36:=Aside0.mk gb36
                                       have GG36:=Aside0.mk HG36
                                       clear gb36 gl36 HG36
                                       (first|simp only [add_plain] at hx212_0|skip)
                                       obtain ⟨hx36_0,hf36_0⟩:=Kd.R_celln false HO_24.out (x8_2:Int) p36 q36
                                       replace p36:=eq_true p36
                                       replace q36:=eq_true q36
                                       have HP39:=Kd.R_putg HO_24.out (x8_2:Int) (rdOf false x24_2 (ji32))
                                       go_wp2_with (first|((with_reducible refine gate_store (t:=4) (p:=54) rfl ?_);refine store_event (t:=4) (p:=54) (v:=?vo_w40) (w1:=(wr.setCell ⟨go36,(x8_2:Int).toNat,none⟩ (.bool (rdOf false x24_2 (ji32))))) ?hg ?ho ?hn ?hr ?_;(case ho=>rfl);(case hg=>rfl);(case hn=>rfl);(case hr=>first|(go_simp;done)|(go_simp;rfl));intro w40 hw;have hg:wr.grownBy w40 (some go36):=(by rw [hw];exact HP39.2);have hp_:Kd.R Kd.bool 4 w40 w.heap.size (fun k_=>some k_≠(.slice (some ad210) x5_1.length co37:Value).ownBlock) (.slice (some ⟨go36,0,none⟩) x24_2.length co38) y213:=(by rw [hw,Ny213.out];exact HP39.1);clear HP39;have n0_:=Aside0.mk (Kd.R_after (v:=(.slice (some ⟨go36,0,none⟩) x24_2.length co38)) (v1:=(.slice (some ⟨go36,0,none⟩) x24_2.length co38)) (ok:=(fun _=>True)) (by (with_reducible repeat (first|apply Kd.R_alloc|apply Kd.R_drewN|apply Kd.R_drew));exact Kd.R_mono HO_5.out (fun _ hk=>⟨trivial,hk⟩)) hg (.inl rfl));have n1_:=Aside0.mk (hp_);have n2_:=Aside0.mk ((by rw [hw];exact below_set (HB.out) GB36.out:Below w.heap.size w w40));clear HO_5;clear HO_24;clear HB;have HO_5:=n0_;have HO_24:=n1_;have HB:=n2_;clear n0_ n1_ n2_;clear hg hw hp_))
                                       go_roundg k2
                                       case measure=>have:=HK1.out;have:=HK2.out;omega
                                       case rel=>exact ⟨(wrap64 (x8_2+1)),(y213),(by first|rfl|(simp;done)|(simp [*];done)),H',⟨by have:=HK1.out;have:=HK2.out;omega⟩,⟨by (with_reducible repeat (first|apply Kd.R_alloc|apply Kd.R_drewN|apply Kd.R_drew));exact Kd.R_mono HO_5.out (fun _ hk=>hk.2)⟩,⟨by (with_reducible repeat (first|apply Kd.R_alloc|apply Kd.R_drewN|apply Kd.R_drew));exact HO_24.out⟩,⟨by repeat (first|(with_reducible first|exact HB.out|apply below_alloc|apply pw_below_drewN|apply below_drew1)|exact HB.out)⟩⟩
                                     · rw [if_neg c35] at H
                                       exact absurd H (by simp)
                                   · rw [if_neg c34] at H
                                     exact absurd H (by simp)
                                 · rw [if_neg c33] at H
                                   exact absurd H (by simp)
                               · rw [if_neg c31] at H
                                 have c31b0:decide (0 < x8_2)=false:=decide_eq_false c31
                                 clear c31
                                 by_cases c41:x8_2 < (x24_2.length:Int)
                                 · rw [if_pos c41] at H
                                   have c41b0:decide (x8_2 < (x24_2.length:Int))=true:=decide_eq_true c41
                                   clear c41
                                   obtain ⟨y214,hy214⟩ : ∃ y_:List Bool,y_=(x24_2.set (x8_2:Int).toNat false):=⟨_,rfl⟩
                                   replace H:(agoraref23_match.l1 k2 l0 l1 x5_1 x6_1 (wrap64 (x8_2+1)) y214)=some r:=by first|(rw [hy214];with_reducible exact H)|(have H2_:=(Option.bind_some _ _).symm.trans H;rw [hy214];with_reducible exact H2_)|(have H2_:=(Option.bind_some _ _).symm.trans H;with_reducible exact H2_)|with_reducible exact H|(rw [hy214];exact H)|exact H
                                   have Ny214:=Aside0.mk hy214
                                   clear hy214
                                   have H':=Aside0.mk H
                                   clear H
                                   have p209:0≤(x6_1:Int):=of_decide_eq_true (by first|(with_reducible assumption)|assumption)
                                   have q209:x6_1 < (l0.length:Int):=of_decide_eq_true (by first|(with_reducible assumption)|assumption)
                                   obtain ⟨ad209,e209,hx209_0⟩:=Kd.at_string HR0.out x6_1 p209 q209
                                   cases e209
                                   replace hx209_0:=(HB.out.cell (World.block_lt_of_cell? w _ hx209_0)).trans hx209_0
                                   replace p209:=eq_true p209
                                   replace q209:=eq_true q209
                                   obtain ⟨Ao43,co43,eo43⟩:=Kd.R_slice HO_5.out
                                   subst eo43
                                   have p210:0≤(x8_2:Int):=of_decide_eq_true (by first|(with_reducible assumption)|assumption)
                                   have q210:x8_2 < (x5_1.length:Int):=of_decide_eq_true (by first|(with_reducible assumption)|assumption)
                                   obtain ⟨ad210,e210,hx210_0⟩:=Kd.at_bool (Kd.R_reads' HO_5.out).2.2 x8_2 p210 q210
                                   (try rw [← Nbq24.out] at hx210_0)
                                   cases e210
                                   replace p210:=eq_true p210
                                   replace q210:=eq_true q210
                                   have p42:0≤(x8_2:Int):=of_decide_eq_true (by first|(with_reducible assumption)|assumption)
                                   have q42:(x8_2:Int) < ((x24_2.length:Int):Int):=of_decide_eq_true (by first|(with_reducible assumption)|assumption)
                                   obtain ⟨go42,co42,eo42,gb42,gl42,cl42,HG42⟩:=Kd.R_form HO_24.out (by omega)
                                   (first|cases eo42|(injection eo42 with ea_ en_ ec_;(first|subst ea_|(injection ea_ with ea_;subst ea_));subst ec_;clear en_))
                                   have GB42:=Aside0.mk gb42
                                   have GG42:=Aside0.mk HG42
                                   clear gb42 gl42 HG42
                                   obtain ⟨hx42_0,hf42_0⟩:=Kd.R_celln false HO_24.out (x8_2:Int) p42 q42
                                   replace p42:=eq_true p42
                                   replace q42:=eq_true q42
                                   have HP44:=Kd.R_putg HO_24.out (x8_2:Int) false
                                   go_wp2_with (first|((with_reducible refine gate_store (t:=4) (p:=54) rfl ?_);refine store_event (t:=4) (p:=54) (v:=?vo_w45) (w1:=(wr.setCell ⟨go42,(x8_2:Int).toNat,none⟩ (.bool false))) ?hg ?ho ?hn ?hr ?_;(case ho=>rfl);(case hg=>rfl);(case hn=>rfl);(case hr=>first|(go_simp;done)|(go_simp;rfl));intro w45 hw;have hg:wr.grownBy w45 (some go42):=(by rw [hw];exact HP44.2);have hp_:Kd.R Kd.bool 4 w45 w.heap.size (fun k_=>some k_≠(.slice (some ad210) x5_1.length co43:Value).ownBlock) (.slice (some ⟨go42,0,none⟩) x24_2.length co42) y214:=(by rw [hw,Ny214.out];exact HP44.1);clear HP44;have n0_:=Aside0.mk (Kd.R_after (v:=(.slice (some ⟨go42,0,none⟩) x24_2.length co42)) (v1:=(.slice (some ⟨go42,0,none⟩) x24_2.length co42)) (ok:=(fun _=>True)) (by (with_reducible repeat (first|apply Kd.R_alloc|apply Kd.R_drewN|apply Kd.R_drew));exact Kd.R_mono HO_5.out (fun _ hk=>⟨trivial,hk⟩)) hg (.inl rfl));have n1_:=Aside0.mk (hp_);have n2_:=Aside0.mk ((by rw [hw];exact below_set (HB.out) GB42.out:Below w.heap.size w w45));clear HO_5;clear HO_24;clear HB;have HO_5:=n0_;have HO_24:=n1_;have HB:=n2_;clear n0_ n1_ n2_;clear hg hw hp_))
                                   go_roundg k2
                                   case measure=>have:=HK1.out;have:=HK2.out;omega
                                   case rel=>exact ⟨(wrap64 (x8_2+1)),(y214),(by first|rfl|(simp;done)|(simp [*];done)),H',⟨by have:=HK1.out;have:=HK2.out;omega⟩,⟨by (with_reducible repeat (first|apply Kd.R_alloc|apply Kd.R_drewN|apply Kd.R_drew));exact Kd.R_mono HO_5.out (fun _ hk=>hk.2)⟩,⟨by (with_reducible repeat (first|apply Kd.R_alloc|apply Kd.R_drewN|apply Kd.R_drew));exact HO_24.out⟩,⟨by repeat (first|(with_reducible first|exact HB.out|apply below_alloc|apply pw_below_drewN|apply below_drew1)|exact HB.out)⟩⟩
                                 · rw [if_neg c41] at H
                                   exact absurd H (by simp)
                           · rw [if_neg c23] at H
                             exact absurd H (by simp)
                         · rw [if_neg c22] at H
                           exact absurd H (by simp)
                       · rw [if_neg c21] at H
                         have c21b0:((rdOf ByteArray.empty l0 x6_1).toList==([42]:List UInt8))=false:=beq_eq_false_iff_ne.mpr c21
                         have c21b1:((rdOf ByteArray.empty l0 x6_1).toList != ([42]:List UInt8))=true:=bne_iff_ne.mpr c21
                         by_cases c46:x8_2 > 0
                         · rw [if_pos c46] at H
                           have c46b0:decide (0 < x8_2)=true:=decide_eq_true c46
                           clear c46
                           obtain ⟨ji47,hji47⟩ : ∃ j_:Int,(wrap64 (x8_2 - 1))=j_:=⟨_,rfl⟩
                           replace H:(if 0≤(ji47) then (if (ji47) < (x5_1.length:Int) then (if rdOf false x5_1 (ji47)=true then (if (rdOf ByteArray.empty l0 x6_1).toList=([63]:List UInt8) then (if 0≤x8_2 then (if x8_2 < (x24_2.length:Int) then (agoraref23_match.l1 k2 l0 l1 x5_1 x6_1 (wrap64 (x8_2+1)) (x24_2.set (x8_2:Int).toNat true)) else (none)) else (none)) else (if (ji47) < (l1.length:Int) then (if 0≤x8_2 then (if x8_2 < (x24_2.length:Int) then (agoraref23_match.l1 k2 l0 l1 x5_1 x6_1 (wrap64 (x8_2+1)) (x24_2.set (x8_2:Int).toNat ((rdOf ByteArray.empty l0 x6_1).toList==(rdOf ByteArray.empty l1 (ji47)).toList))) else (none)) else (none)) else (none))) else (if 0≤x8_2 then (if x8_2 < (x24_2.length:Int) then (agoraref23_match.l1 k2 l0 l1 x5_1 x6_1 (wrap64 (x8_2+1)) (x24_2.set (x8_2:Int).toNat false)) else (none)) else (none))) else (none)) else (none))=some r:=by first|(rw [hji47] at H;exact H)|(simp only [hji47] at H ⊢;exact H)
                           have hji47w:(IntKind.i64.wrap (x8_2 - 1))=ji47:=(i64_w _).trans hji47
                           by_cases c48:0≤(ji47)
                           · rw [if_pos c48] at H
                             have c48b0:decide (0≤(ji47))=true:=decide_eq_true c48
                             clear c48
                             by_cases c49:(ji47) < (x5_1.length:Int)
                             · rw [if_pos c49] at H
                               have c49b0:decide ((ji47) < (x5_1.length:Int))=true:=decide_eq_true c49
                               clear c49
                               obtain ⟨bq50,hbq50⟩ : ∃ b_:Bool,b_=(rdOf false x5_1 (ji47)):=⟨_,rfl⟩
                               replace H:(if bq50=true then (if (rdOf ByteArray.empty l0 x6_1).toList=([63]:List UInt8) then (if 0≤x8_2 then (if x8_2 < (x24_2.length:Int) then (agoraref23_match.l1 k2 l0 l1 x5_1 x6_1 (wrap64 (x8_2+1)) (x24_2.set (x8_2:Int).toNat true)) else (none)) else (none)) else (if (ji47) < (l1.length:Int) then (if 0≤x8_2 then (if x8_2 < (x24_2.length:Int) then (agoraref23_match.l1 k2 l0 l1 x5_1 x6_1 (wrap64 (x8_2+1)) (x24_2.set (x8_2:Int).toNat ((rdOf ByteArray.empty l0 x6_1).toList==(rdOf ByteArray.empty l1 (ji47)).toList))) else (none)) else (none)) else (none))) else (if 0≤x8_2 then (if x8_2 < (x24_2.length:Int) then (agoraref23_match.l1 k2 l0 l1 x5_1 x6_1 (wrap64 (x8_2+1)) (x24_2.set (x8_2:Int).toNat false)) else (none)) else (none)))=some r:=by rw [← hbq50] at H;exact H
                               have Nbq50:=Aside0.mk hbq50
                               clear hbq50
                               by_cases c51:bq50=true
                               · subst c51
                                 have H1:(if (rdOf ByteArray.empty l0 x6_1).toList=([63]:List UInt8) then (if 0≤x8_2 then (if x8_2 < (x24_2.length:Int) then (agoraref23_match.l1 k2 l0 l1 x5_1 x6_1 (wrap64 (x8_2+1)) (x24_2.set (x8_2:Int).toNat true)) else (none)) else (none)) else (if (ji47) < (l1.length:Int) then (if 0≤x8_2 then (if x8_2 < (x24_2.length:Int) then (agoraref23_match.l1 k2 l0 l1 x5_1 x6_1 (wrap64 (x8_2+1)) (x24_2.set (x8_2:Int).toNat ((rdOf ByteArray.empty l0 x6_1).toList==(rdOf ByteArray.empty l1 (ji47)).toList))) else (none)) else (none)) else (none)))=some r:=by rw [if_pos rfl] at H;exact H
                                 clear H
                                 have H:=H1
                                 clear H1
                                 by_cases c52:(rdOf ByteArray.empty l0 x6_1).toList=([63]:List UInt8)
                                 · rw [if_pos c52] at H
                                   have c52b0:((rdOf ByteArray.empty l0 x6_1).toList==([63]:List UInt8))=true:=beq_iff_eq.mpr c52
                                   have c52b1:((rdOf ByteArray.empty l0 x6_1).toList != ([63]:List UInt8))=false:=bne_eq_false_iff_eq.mpr c52
                                   clear c52
                                   by_cases c53:0≤x8_2
                                   · rw [if_pos c53] at H
                                     have c53b0:decide (0≤x8_2)=true:=decide_eq_true c53
                                     clear c53
                                     by_cases c54:x8_2 < (x24_2.length:Int)
                                     · rw [if_pos c54] at H
                                       have c54b0:decide (x8_2 < (x24_2.length:Int))=true:=decide_eq_true c54
                                       clear c54
                                       obtain ⟨y217,hy217⟩ : ∃ y_:List Bool,y_=(x24_2.set (x8_2:Int).toNat true):=⟨_,rfl⟩
                                       replace H:(agoraref23_match.l1 k2 l0 l1 x5_1 x6_1 (wrap64 (x8_2+1)) y217)=some r:=by first|(rw [hy217];with_reducible exact H)|(have H2_:=(Option.bind_some _ _).symm.trans H;rw [hy217];with_reducible exact H2_)|(have H2_:=(Option.bind_some _ _).symm.trans H;with_reducible exact H2_)|with_reducible exact H|(rw [hy217];exact H)|exact H
                                       have Ny217:=Aside0.mk hy217
                                       clear hy217
                                       have H':=Aside0.mk H
                                       clear H
                                       have p209:0≤(x6_1:Int):=of_decide_eq_true (by first|(with_reducible assumption)|assumption)
                                       have q209:x6_1 < (l0.length:Int):=of_decide_eq_true (by first|(with_reducible assumption)|assumption)
                                       obtain ⟨ad209,e209,hx209_0⟩:=Kd.at_string HR0.out x6_1 p209 q209
                                       cases e209
                                       replace hx209_0:=(HB.out.cell (World.block_lt_of_cell? w _ hx209_0)).trans hx209_0
                                       replace p209:=eq_true p209
                                       replace q209:=eq_true q209
                                       try go_wp2
                                       have n0_:=Aside0.mk (Kd.R_drew HO_5.out)
                                       have n1_:=Aside0.mk (Kd.R_drew HO_24.out)
                                       have n2_:=Aside0.mk (below_drew1 HB.out)
                                       clear HO_5
                                       clear HO_24
                                       clear HB
                                       have HO_5:=n0_
                                       have HO_24:=n1_
                                       have HB:=n2_
                                       clear n0_ n1_ n2_
                                       obtain ⟨Ao57,co57,eo57⟩:=Kd.R_slice HO_5.out
                                       (first|subst eo57|(injection eo57 with f1_ f2_ f3_;have f4_:=f1_.symm;have f5_:=f3_.symm;clear f1_ f2_ f3_;subst f4_;subst f5_))
                                       have p215:0≤((ji47):Int):=of_decide_eq_true (by first|(with_reducible assumption)|assumption)
                                       have q215:(ji47) < (x5_1.length:Int):=of_decide_eq_true (by first|(with_reducible assumption)|assumption)
                                       obtain ⟨ad215,e215,hx215_0⟩:=Kd.at_bool (Kd.R_reads' HO_5.out).2.2 (ji47) p215 q215
                                       (try rw [← Nbq50.out] at hx215_0)
                                       cases e215
                                       replace p215:=eq_true p215
                                       replace q215:=eq_true q215
                                       have p216:0≤(x6_1:Int):=of_decide_eq_true (by first|(with_reducible assumption)|assumption)
                                       have q216:x6_1 < (l0.length:Int):=of_decide_eq_true (by first|(with_reducible assumption)|assumption)
                                       obtain ⟨ad216,e216,hx216_0⟩:=Kd.at_string HR0.out x6_1 p216 q216
                                       have hw216_0:=hx216_0
                                       obtain rfl:ad209=ad216:=(by injection e216)
                                       replace hx216_0:=(HB.out.cell (World.block_lt_of_cell? w _ hx216_0)).trans hx216_0
                                       replace p216:=eq_true p216
                                       replace q216:=eq_true q216
                                       have p55:0≤(x8_2:Int):=of_decide_eq_true (by first|(with_reducible assumption)|assumption)
                                       have q55:(x8_2:Int) < ((x24_2.length:Int):Int):=of_decide_eq_true (by first|(with_reducible assumption)|assumption)
                                       obtain ⟨go55,co55,eo55,gb55,gl55,cl55,HG55⟩:=Kd.R_form HO_24.out (by omega)
                                       (first|cases eo55|(injection eo55 with ea_ en_ ec_;(first|subst ea_|(injection ea_ with ea_;subst ea_));subst ec_;clear en_))
                                       have GB55:=Aside0.mk gb55
                                       have GG55:=Aside0.mk HG55
                                       clear gb55 gl55 HG55
                                       obtain ⟨hx55_0,hf55_0⟩:=Kd.R_celln false HO_24.out (x8_2:Int) p55 q55
                                       replace p55:=eq_true p55
                                       replace q55:=eq_true q55
                                       have HP58:=Kd.R_putn HO_24.out (x8_2:Int) true
                                       rw [← Ny217.out] at HP58
                                       have HQ58:=Aside0.mk HP58
                                       clear HP58
                                       refine start_ (n:=28) (S:=fun w'=>w'.cell? (ad215.add ((ji47)).toNat)=some (.bool true)∧w'.cell? (ad209.add (x6_1).toNat)=some (.string (rdOf ByteArray.empty l0 x6_1))) (ds:=[27]) #[false,false,false,false,false,false,false,false,false,false,false,false,false,false,false,false,false,false,false,false,false,false,false,false,false,false,false,false] (by kernel_rfl) rfl rfl ⟨hx215_0,((HB.out.cell (World.block_lt_of_cell? w _ hw216_0)).trans hw216_0)⟩ (fun hHeld=>?_);refine with_tabW agoraref23_match.tab13 agoraref23_match.bits13 (fun HT_ HW_=>?_)
                                       generalize wr.drew=w56 at HO_5 HO_24 HB GG55 HQ58 hf55_0 hx215_0 hx216_0 hx55_0 hHeld ⊢
                                       refine pure_ (i:=0) (N:=some 58) (v:=?_) (a':=?_) #[true,false,false,false,false,false,false,false,false,false,false,false,false,false,false,false,false,false,false,false,false,false,false,false,false,false,false,false] rfl rfl (any_of HT_.out (by kernel_rfl)) (fun _ _ _ h=>h) (Or.inl ⟨by rfl,?_⟩) ?_ ?_
                                       rotate_left
                                       · intro w'
                                         go_simp
                                         with_reducible rfl
                                       rotate_left
                                       · simp only [Act.put,List.setIfInBounds_toArray,List.set_cons_zero,List.set_cons_succ,i64_w,i32_w]
                                         rfl
                                       refine pure_ (i:=1) (N:=some 59) (v:=?_) (a':=?_) #[true,true,false,false,false,false,false,false,false,false,false,false,false,false,false,false,false,false,false,false,false,false,false,false,false,false,false,false] rfl rfl (any_of HT_.out (by kernel_rfl)) (fun _ _ _ h=>h) (Or.inl ⟨by rfl,?_⟩) ?_ ?_
                                       rotate_left
                                       · intro w'
                                         go_simp
                                         with_reducible rfl
                                       rotate_left
                                       · simp only [Act.put,List.setIfInBounds_toArray,List.set_cons_zero,List.set_cons_succ,i64_w,i32_w]
                                         rfl
                                       refine pure_ (i:=2) (N:=some 60) (v:=?_) (a':=?_) #[true,true,true,false,false,false,false,false,false,false,false,false,false,false,false,false,false,false,false,false,false,false,false,false,false,false,false,false] rfl rfl (any_of HT_.out (by kernel_rfl)) (fun _ _ _ h=>h) (Or.inl ⟨by rfl,?_⟩) ?_ ?_
                                       rotate_left
                                       · intro w'
                                         go_simp
                                         with_reducible rfl
                                       rotate_left
                                       · simp only [Act.put,List.setIfInBounds_toArray,List.set_cons_zero,List.set_cons_succ,i64_w,i32_w]
                                         rfl
                                       refine pure_ (i:=3) (N:=some 61) (v:=?_) (a':=?_) #[true,true,true,true,false,false,false,false,false,false,false,false,false,false,false,false,false,false,false,false,false,false,false,false,false,false,false,false] rfl rfl (any_of HT_.out (by kernel_rfl)) (fun _ _ _ h=>h) (Or.inl ⟨by rfl,?_⟩) ?_ ?_
                                       rotate_left
                                       · intro w'
                                         go_simp
                                         with_reducible rfl
                                       rotate_left
                                       · simp only [Act.put,List.setIfInBounds_toArray,List.set_cons_zero,List.set_cons_succ,i64_w,i32_w]
                                         rfl
                                       refine pure_ (i:=4) (N:=some 62) (v:=?_) (a':=?_) #[true,true,true,true,true,false,false,false,false,false,false,false,false,false,false,false,false,false,false,false,false,false,false,false,false,false,false,false] rfl rfl (any_of HT_.out (by kernel_rfl)) (fun _ _ _ h=>h) (Or.inl ⟨by rfl,?_⟩) ?_ ?_
                                       rotate_left
                                       · intro w'
                                         go_simp
                                         with_reducible rfl
                                       rotate_left
                                       · simp only [Act.put,List.setIfInBounds_toArray,List.set_cons_zero,List.set_cons_succ,i64_w,i32_w]
                                         rfl
                                       refine pure_ (i:=5) (N:=some 63) (v:=?_) (a':=?_) #[true,true,true,true,true,true,false,false,false,false,false,false,false,false,false,false,false,false,false,false,false,false,false,false,false,false,false,false] rfl rfl (any_of HT_.out (by kernel_rfl)) (fun _ _ _ h=>h) (Or.inl ⟨by rfl,?_⟩) ?_ ?_
                                       rotate_left
                                       · intro w'
                                         go_simp
                                         with_reducible rfl
                                       rotate_left
                                       · simp only [Act.put,List.setIfInBounds_toArray,List.set_cons_zero,List.set_cons_succ,i64_w,i32_w]
                                         rfl
                                       refine take_ (i:=6) (N:=some 64) (v:=?_) (a':=?_) #[true,true,true,true,true,true,true,false,false,false,false,false,false,false,false,false,false,false,false,false,false,false,false,false,false,false,false,false] rfl rfl (take_ofW HT_.out HW_.out (by kernel_rfl)) (fun _ _ _ h=>h) (Or.inl ⟨by rfl,?_⟩) hHeld ?_ ?_
                                       rotate_left
                                       · rintro w' ⟨s0,s1⟩
                                         go_simp
                                         with_reducible rfl
                                       rotate_left
                                       · simp only [Act.put,List.setIfInBounds_toArray,List.set_cons_zero,List.set_cons_succ,i64_w,i32_w]
                                         rfl
                                       refine pure_ (i:=7) (N:=some 65) (v:=?_) (a':=?_) #[true,true,true,true,true,true,true,true,false,false,false,false,false,false,false,false,false,false,false,false,false,false,false,false,false,false,false,false] rfl rfl (any_of HT_.out (by kernel_rfl)) (fun _ _ _ h=>h) (Or.inl ⟨by rfl,?_⟩) ?_ ?_
                                       rotate_left
                                       · intro w'
                                         go_simp
                                         with_reducible rfl
                                       rotate_left
                                       · simp only [Act.put,List.setIfInBounds_toArray,List.set_cons_zero,List.set_cons_succ,i64_w,i32_w]
                                         rfl
                                       refine pure_ (i:=8) (N:=some 66) (v:=?_) (a':=?_) #[true,true,true,true,true,true,true,true,true,false,false,false,false,false,false,false,false,false,false,false,false,false,false,false,false,false,false,false] rfl rfl (any_of HT_.out (by kernel_rfl)) (fun _ _ _ h=>h) (Or.inl ⟨by rfl,?_⟩) ?_ ?_
                                       rotate_left
                                       · intro w'
                                         go_simp
                                         with_reducible rfl
                                       rotate_left
                                       · simp only [Act.put,List.setIfInBounds_toArray,List.set_cons_zero,List.set_cons_succ,i64_w,i32_w]
                                         rfl
                                       refine pure_ (i:=9) (N:=some 67) (v:=?_) (a':=?_) #[true,true,true,true,true,true,true,true,true,true,false,false,false,false,false,false,false,false,false,false,false,false,false,false,false,false,false,false] rfl rfl (any_of HT_.out (by kernel_rfl)) (fun _ _ _ h=>h) (Or.inl ⟨by rfl,?_⟩) ?_ ?_
                                       rotate_left
                                       · intro w'
                                         go_simp
                                         with_reducible rfl
                                       rotate_left
                                       · simp only [Act.put,List.setIfInBounds_toArray,List.set_cons_zero,List.set_cons_succ,i64_w,i32_w]
                                         rfl
                                       refine pure_ (i:=10) (N:=some 68) (v:=?_) (a':=?_) #[true,true,true,true,true,true,true,true,true,true,true,false,false,false,false,false,false,false,false,false,false,false,false,false,false,false,false,false] rfl rfl (any_of HT_.out (by kernel_rfl)) (fun _ _ _ h=>h) (Or.inl ⟨by rfl,?_⟩) ?_ ?_
                                       rotate_left
                                       · intro w'
                                         go_simp
                                         with_reducible rfl
                                       rotate_left
                                       · simp only [Act.put,List.setIfInBounds_toArray,List.set_cons_zero,List.set_cons_succ,i64_w,i32_w]
                                         rfl
                                       refine take_ (i:=11) (N:=some 69) (v:=?_) (a':=?_) #[true,true,true,true,true,true,true,true,true,true,true,true,false,false,false,false,false,false,false,false,false,false,false,false,false,false,false,false] rfl rfl (take_ofW HT_.out HW_.out (by kernel_rfl)) (fun _ _ _ h=>h) (Or.inl ⟨by rfl,?_⟩) hHeld ?_ ?_
                                       rotate_left
                                       · rintro w' ⟨s0,s1⟩
                                         go_simp
                                         with_reducible rfl
                                       rotate_left
                                       · simp only [Act.put,List.setIfInBounds_toArray,List.set_cons_zero,List.set_cons_succ,i64_w,i32_w]
                                         rfl
                                       refine pure_ (i:=12) (N:=some 70) (v:=?_) (a':=?_) #[true,true,true,true,true,true,true,true,true,true,true,true,true,false,false,false,false,false,false,false,false,false,false,false,false,false,false,false] rfl rfl (any_of HT_.out (by kernel_rfl)) (fun _ _ _ h=>h) (Or.inl ⟨by rfl,?_⟩) ?_ ?_
                                       rotate_left
                                       · intro w'
                                         go_simp
                                         with_reducible rfl
                                       rotate_left
                                       · simp only [Act.put,List.setIfInBounds_toArray,List.set_cons_zero,List.set_cons_succ,i64_w,i32_w]
                                         rfl
                                       refine pure_ (i:=13) (N:=some 71) (v:=?_) (a':=?_) #[true,true,true,true,true,true,true,true,true,true,true,true,true,true,false,false,false,false,false,false,false,false,false,false,false,false,false,false] rfl rfl (any_of HT_.out (by kernel_rfl)) (fun _ _ _ h=>h) (Or.inl ⟨by rfl,?_⟩) ?_ ?_
                                       rotate_left
                                       · intro w'
                                         go_simp
                                         with_reducible rfl
                                       rotate_left
                                       · simp only [Act.put,List.setIfInBounds_toArray,List.set_cons_zero,List.set_cons_succ,i64_w,i32_w]
                                         rfl
                                       refine pure_ (i:=14) (N:=some 72) (v:=undef) (a':=?_) #[true,true,true,true,true,true,true,true,true,true,true,true,true,true,true,false,false,false,false,false,false,false,false,false,false,false,false,false] rfl rfl (any_of HT_.out (by kernel_rfl)) (fun _ _ _ h=>h) (Or.inr ⟨by rfl,rfl⟩) ?_ ?_
                                       rotate_left
                                       · simp only [Act.put,List.setIfInBounds_toArray,List.set_cons_zero,List.set_cons_succ,i64_w,i32_w]
                                         rfl
                                       refine pure_ (i:=15) (N:=some 73) (v:=undef) (a':=?_) #[true,true,true,true,true,true,true,true,true,true,true,true,true,true,true,true,false,false,false,false,false,false,false,false,false,false,false,false] rfl rfl (any_of HT_.out (by kernel_rfl)) (fun _ _ _ h=>h) (Or.inr ⟨by rfl,rfl⟩) ?_ ?_
                                       rotate_left
                                       · simp only [Act.put,List.setIfInBounds_toArray,List.set_cons_zero,List.set_cons_succ,i64_w,i32_w]
                                         rfl
                                       refine pure_ (i:=16) (N:=some 74) (v:=undef) (a':=?_) #[true,true,true,true,true,true,true,true,true,true,true,true,true,true,true,true,true,false,false,false,false,false,false,false,false,false,false,false] rfl rfl (any_of HT_.out (by kernel_rfl)) (fun _ _ _ h=>h) (Or.inr ⟨by rfl,rfl⟩) ?_ ?_
                                       rotate_left
                                       · simp only [Act.put,List.setIfInBounds_toArray,List.set_cons_zero,List.set_cons_succ,i64_w,i32_w]
                                         rfl
                                       refine pure_ (i:=17) (N:=some 75) (v:=undef) (a':=?_) #[true,true,true,true,true,true,true,true,true,true,true,true,true,true,true,true,true,true,false,false,false,false,false,false,false,false,false,false] rfl rfl (any_of HT_.out (by kernel_rfl)) (fun _ _ _ h=>h) (Or.inr ⟨by rfl,rfl⟩) ?_ ?_
                                       rotate_left
                                       · simp only [Act.put,List.setIfInBounds_toArray,List.set_cons_zero,List.set_cons_succ,i64_w,i32_w]
                                         rfl
                                       refine pure_ (i:=18) (N:=some 76) (v:=undef) (a':=?_) #[true,true,true,true,true,true,true,true,true,true,true,true,true,true,true,true,true,true,true,false,false,false,false,false,false,false,false,false] rfl rfl (any_of HT_.out (by kernel_rfl)) (fun _ _ _ h=>h) (Or.inr ⟨by rfl,rfl⟩) ?_ ?_
                                       rotate_left
                                       · simp only [Act.put,List.setIfInBounds_toArray,List.set_cons_zero,List.set_cons_succ,i64_w,i32_w]
                                         rfl
                                       refine pure_ (i:=19) (N:=some 77) (v:=undef) (a':=?_) #[true,true,true,true,true,true,true,true,true,true,true,true,true,true,true,true,true,true,true,true,false,false,false,false,false,false,false,false] rfl rfl (any_of HT_.out (by kernel_rfl)) (fun _ _ _ h=>h) (Or.inr ⟨by rfl,rfl⟩) ?_ ?_
                                       rotate_left
                                       · simp only [Act.put,List.setIfInBounds_toArray,List.set_cons_zero,List.set_cons_succ,i64_w,i32_w]
                                         rfl
                                       refine pure_ (i:=20) (N:=some 78) (v:=undef) (a':=?_) #[true,true,true,true,true,true,true,true,true,true,true,true,true,true,true,true,true,true,true,true,true,false,false,false,false,false,false,false] rfl rfl (any_of HT_.out (by kernel_rfl)) (fun _ _ _ h=>h) (Or.inr ⟨by rfl,rfl⟩) ?_ ?_
                                       rotate_left
                                       · simp only [Act.put,List.setIfInBounds_toArray,List.set_cons_zero,List.set_cons_succ,i64_w,i32_w]
                                         rfl
                                       refine pure_ (i:=21) (N:=some 79) (v:=undef) (a':=?_) #[true,true,true,true,true,true,true,true,true,true,true,true,true,true,true,true,true,true,true,true,true,true,false,false,false,false,false,false] rfl rfl (any_of HT_.out (by kernel_rfl)) (fun _ _ _ h=>h) (Or.inr ⟨by rfl,rfl⟩) ?_ ?_
                                       rotate_left
                                       · simp only [Act.put,List.setIfInBounds_toArray,List.set_cons_zero,List.set_cons_succ,i64_w,i32_w]
                                         rfl
                                       refine pure_ (i:=22) (N:=some 80) (v:=undef) (a':=?_) #[true,true,true,true,true,true,true,true,true,true,true,true,true,true,true,true,true,true,true,true,true,true,true,false,false,false,false,false] rfl rfl (any_of HT_.out (by kernel_rfl)) (fun _ _ _ h=>h) (Or.inr ⟨by rfl,rfl⟩) ?_ ?_
                                       rotate_left
                                       · simp only [Act.put,List.setIfInBounds_toArray,List.set_cons_zero,List.set_cons_succ,i64_w,i32_w]
                                         rfl
                                       refine pure_ (i:=23) (N:=some 81) (v:=undef) (a':=?_) #[true,true,true,true,true,true,true,true,true,true,true,true,true,true,true,true,true,true,true,true,true,true,true,true,false,false,false,false] rfl rfl (any_of HT_.out (by kernel_rfl)) (fun _ _ _ h=>h) (Or.inr ⟨by rfl,rfl⟩) ?_ ?_
                                       rotate_left
                                       · simp only [Act.put,List.setIfInBounds_toArray,List.set_cons_zero,List.set_cons_succ,i64_w,i32_w]
                                         rfl
                                       refine pure_ (i:=24) (N:=some 82) (v:=?_) (a':=?_) #[true,true,true,true,true,true,true,true,true,true,true,true,true,true,true,true,true,true,true,true,true,true,true,true,true,false,false,false] rfl rfl (any_of HT_.out (by kernel_rfl)) (fun _ _ _ h=>h) (Or.inl ⟨by rfl,?_⟩) ?_ ?_
                                       rotate_left
                                       · intro w'
                                         go_simp
                                         with_reducible rfl
                                       rotate_left
                                       · simp only [Act.put,List.setIfInBounds_toArray,List.set_cons_zero,List.set_cons_succ,i64_w,i32_w]
                                         rfl
                                       refine pure_ (i:=25) (N:=some 83) (v:=?_) (a':=?_) #[true,true,true,true,true,true,true,true,true,true,true,true,true,true,true,true,true,true,true,true,true,true,true,true,true,true,false,false] rfl rfl (any_of HT_.out (by kernel_rfl)) (fun _ _ _ h=>h) (Or.inl ⟨by rfl,?_⟩) ?_ ?_
                                       rotate_left
                                       · intro w'
                                         go_simp
                                         with_reducible rfl
                                       rotate_left
                                       · simp only [Act.put,List.setIfInBounds_toArray,List.set_cons_zero,List.set_cons_succ,i64_w,i32_w]
                                         rfl
                                       refine pure_ (i:=26) (N:=some 84) (v:=?_) (a':=?_) #[true,true,true,true,true,true,true,true,true,true,true,true,true,true,true,true,true,true,true,true,true,true,true,true,true,true,true,false] rfl rfl (any_of HT_.out (by kernel_rfl)) (fun _ _ _ h=>h) (Or.inl ⟨by rfl,?_⟩) ?_ ?_
                                       rotate_left
                                       · intro w'
                                         go_simp
                                         with_reducible rfl
                                       rotate_left
                                       · simp only [Act.put,List.setIfInBounds_toArray,List.set_cons_zero,List.set_cons_succ,i64_w,i32_w]
                                         rfl
                                       refine last_ (i:=27) (N:=none) #[true,true,true,true,true,true,true,true,true,true,true,true,true,true,true,true,true,true,true,true,true,true,true,true,true,true,true,true] rfl rfl (one_of HT_.out (by kernel_rfl)) (by decide) (fun K hK=>?_)
                                       refine skip_ (w1:=?_) (by rfl) rfl ?_ ?_
                                       rotate_left
                                       · go_simp
                                         rfl
                                       refine hK.out _ _ ?_
                                       clear hK K
                                       refine done_ (done_of HT_.out (by kernel_rfl)) ?_
                                       try go_wp2
                                       go_roundg k2
                                       case measure=>have:=HK1.out;have:=HK2.out;omega
                                       case rel=>exact ⟨(wrap64 (x8_2+1)),(y217),(by first|rfl|(simp;done)|(simp [*];done)),H',⟨by have:=HK1.out;have:=HK2.out;omega⟩,⟨by (with_reducible repeat (first|apply Kd.R_alloc|apply Kd.R_drewN|apply Kd.R_drew));exact Kd.R_mono (Kd.R_far (p:=⟨go55,(x8_2:Int).toNat,none⟩) (Kd.R_mono HO_5.out (fun k_ hk=>(⟨hk,fun e_=>hk (by rw [e_];rfl)⟩:_∧k_≠go55))) (fun _ hk=>hk.2) (.bool true)) (fun _ hk=>hk.1)⟩,⟨by (with_reducible repeat (first|apply Kd.R_alloc|apply Kd.R_drewN|apply Kd.R_drew));exact HQ58.out⟩,⟨by repeat (first|(with_reducible first|exact HB.out|apply below_alloc|apply pw_below_drewN|apply below_drew1|refine below_set ?_ GB55.out)|exact HB.out)⟩⟩
                                     · rw [if_neg c54] at H
                                       exact absurd H (by simp)
                                   · rw [if_neg c53] at H
                                     exact absurd H (by simp)
                                 · rw [if_neg c52] at H
                                   have c52b0:((rdOf ByteArray.empty l0 x6_1).toList==([63]:List UInt8))=false:=beq_eq_false_iff_ne.mpr c52
                                   have c52b1:((rdOf ByteArray.empty l0 x6_1).toList != ([63]:List UInt8))=true:=bne_iff_ne.mpr c52
                                   by_cases c59:(ji47) < (l1.length:Int)
                                   · rw [if_pos c59] at H
                                     have c59b0:decide ((ji47) < (l1.length:Int))=true:=decide_eq_true c59
                                     clear c59
                                     by_cases c60:0≤x8_2
                                     · rw [if_pos c60] at H
                                       have c60b0:decide (0≤x8_2)=true:=decide_eq_true c60
                                       clear c60
                                       by_cases c61:x8_2 < (x24_2.length:Int)
                                       · rw [if_pos c61] at H
                                         have c61b0:decide (x8_2 < (x24_2.length:Int))=true:=decide_eq_true c61
                                         clear c61
                                         obtain ⟨y220,hy220⟩ : ∃ y_:List Bool,y_=(x24_2.set (x8_2:Int).toNat ((rdOf ByteArray.empty l0 x6_1).toList==(rdOf ByteArray.empty l1 (ji47)).toList)):=⟨_,rfl⟩
                                         replace H:(agoraref23_match.l1 k2 l0 l1 x5_1 x6_1 (wrap64 (x8_2+1)) y220)=some r:=by first|(rw [hy220];with_reducible exact H)|(have H2_:=(Option.bind_some _ _).symm.trans H;rw [hy220];with_reducible exact H2_)|(have H2_:=(Option.bind_some _ _).symm.trans H;with_reducible exact H2_)|with_reducible exact H|(rw [hy220];exact H)|exact H
                                         have Ny220:=Aside0.mk hy220
                                         clear hy220
                                         have H':=Aside0.mk H
                                         clear H
                                         have p209:0≤(x6_1:Int):=of_decide_eq_true (by first|(with_reducible assumption)|assumption)
                                         have q209:x6_1 < (l0.length:Int):=of_decide_eq_true (by first|(with_reducible assumption)|assumption)
                                         obtain ⟨ad209,e209,hx209_0⟩:=Kd.at_string HR0.out x6_1 p209 q209
                                         cases e209
                                         replace hx209_0:=(HB.out.cell (World.block_lt_of_cell? w _ hx209_0)).trans hx209_0
                                         replace p209:=eq_true p209
                                         replace q209:=eq_true q209
                                         try go_wp2
                                         have n0_:=Aside0.mk (Kd.R_drew HO_5.out)
                                         have n1_:=Aside0.mk (Kd.R_drew HO_24.out)
                                         have n2_:=Aside0.mk (below_drew1 HB.out)
                                         clear HO_5
                                         clear HO_24
                                         clear HB
                                         have HO_5:=n0_
                                         have HO_24:=n1_
                                         have HB:=n2_
                                         clear n0_ n1_ n2_
                                         obtain ⟨Ao64,co64,eo64⟩:=Kd.R_slice HO_5.out
                                         (first|subst eo64|(injection eo64 with f1_ f2_ f3_;have f4_:=f1_.symm;have f5_:=f3_.symm;clear f1_ f2_ f3_;subst f4_;subst f5_))
                                         have p215:0≤((ji47):Int):=of_decide_eq_true (by first|(with_reducible assumption)|assumption)
                                         have q215:(ji47) < (x5_1.length:Int):=of_decide_eq_true (by first|(with_reducible assumption)|assumption)
                                         obtain ⟨ad215,e215,hx215_0⟩:=Kd.at_bool (Kd.R_reads' HO_5.out).2.2 (ji47) p215 q215
                                         (try rw [← Nbq50.out] at hx215_0)
                                         cases e215
                                         replace p215:=eq_true p215
                                         replace q215:=eq_true q215
                                         have p216:0≤(x6_1:Int):=of_decide_eq_true (by first|(with_reducible assumption)|assumption)
                                         have q216:x6_1 < (l0.length:Int):=of_decide_eq_true (by first|(with_reducible assumption)|assumption)
                                         obtain ⟨ad216,e216,hx216_0⟩:=Kd.at_string HR0.out x6_1 p216 q216
                                         have hw216_0:=hx216_0
                                         obtain rfl:ad209=ad216:=(by injection e216)
                                         replace hx216_0:=(HB.out.cell (World.block_lt_of_cell? w _ hx216_0)).trans hx216_0
                                         replace p216:=eq_true p216
                                         replace q216:=eq_true q216
                                         have p218:0≤(x6_1:Int):=of_decide_eq_true (by first|(with_reducible assumption)|assumption)
                                         have q218:x6_1 < (l0.length:Int):=of_decide_eq_true (by first|(with_reducible assumption)|assumption)
                                         obtain ⟨ad218,e218,hx218_0⟩:=Kd.at_string HR0.out x6_1 p218 q218
                                         have hw218_0:=hx218_0
                                         obtain rfl:ad209=ad218:=(by injection e218)
                                         replace hx218_0:=(HB.out.cell (World.block_lt_of_cell? w _ hx218_0)).trans hx218_0
                                         replace p218:=eq_true p218
                                         replace q218:=eq_true q218
                                         have p219:0≤((ji47):Int):=of_decide_eq_true (by first|(with_reducible assumption)|assumption)
                                         have q219:(ji47) < (l1.length:Int):=of_decide_eq_true (by first|(with_reducible assumption)|assumption)
                                         obtain ⟨ad219,e219,hx219_0⟩:=Kd.at_string HR1.out (ji47) p219 q219
                                         have hw219_0:=hx219_0
                                         cases e219
                                         replace hx219_0:=(HB.out.cell (World.block_lt_of_cell? w _ hx219_0)).trans hx219_0
                                         replace p219:=eq_true p219
                                         replace q219:=eq_true q219
                                         have p62:0≤(x8_2:Int):=of_decide_eq_true (by first|(with_reducible assumption)|assumption)
                                         have q62:(x8_2:Int) < ((x24_2.length:Int):Int):=of_decide_eq_true (by first|(with_reducible assumption)|assumption)
                                         obtain ⟨go62,co62,eo62,gb62,gl62,cl62,HG62⟩:=Kd.R_form HO_24.out (by omega)
                                         (first|cases eo62|(injection eo62 with ea_ en_ ec_;(first|subst ea_|(injection ea_ with ea_;subst ea_));subst ec_;clear en_))
                                         have GB62:=Aside0.mk gb62
                                         have GG62:=Aside0.mk HG62
                                         clear gb62 gl62 HG62
                                         obtain ⟨hx62_0,hf62_0⟩:=Kd.R_celln false HO_24.out (x8_2:Int) p62 q62
                                         replace p62:=eq_true p62
                                         replace q62:=eq_true q62
                                         have HP65:=Kd.R_putn HO_24.out (x8_2:Int) ((rdOf ByteArray.empty l0 x6_1).toList==(rdOf ByteArray.empty l1 (ji47)).toList)
                                         rw [← Ny220.out] at HP65
                                         have HQ65:=Aside0.mk HP65
                                         clear HP65
                                         refine start_ (n:=28) (S:=fun w'=>w'.cell? (ad215.add ((ji47)).toNat)=some (.bool true)∧w'.cell? (ad209.add (x6_1).toNat)=some (.string (rdOf ByteArray.empty l0 x6_1))∧w'.cell? (ad209.add (x6_1).toNat)=some (.string (rdOf ByteArray.empty l0 x6_1))∧w'.cell? (ad219.add ((ji47)).toNat)=some (.string (rdOf ByteArray.empty l1 (ji47)))) (ds:=[27]) #[false,false,false,false,false,false,false,false,false,false,false,false,false,false,false,false,false,false,false,false,false,false,false,false,false,false,false,false] (by kernel_rfl) rfl rfl ⟨hx215_0,((HB.out.cell (World.block_lt_of_cell? w _ hw216_0)).trans hw216_0),((HB.out.cell (World.block_lt_of_cell? w _ hw218_0)).trans hw218_0),((HB.out.cell (World.block_lt_of_cell? w _ hw219_0)).trans hw219_0)⟩ (fun hHeld=>?_);refine with_tabW agoraref23_match.tab13 agoraref23_match.bits13 (fun HT_ HW_=>?_)
                                         generalize wr.drew=w63 at HO_5 HO_24 HB GG62 HQ65 hf62_0 hx215_0 hx216_0 hx218_0 hx219_0 hx62_0 hHeld ⊢
                                         refine pure_ (i:=0) (N:=some 58) (v:=?_) (a':=?_) #[true,false,false,false,false,false,false,false,false,false,false,false,false,false,false,false,false,false,false,false,false,false,false,false,false,false,false,false] rfl rfl (any_of HT_.out (by kernel_rfl)) (fun _ _ _ h=>h) (Or.inl ⟨by rfl,?_⟩) ?_ ?_
                                         rotate_left
                                         · intro w'
                                           go_simp
                                           with_reducible rfl
                                         rotate_left
                                         · simp only [Act.put,List.setIfInBounds_toArray,List.set_cons_zero,List.set_cons_succ,i64_w,i32_w]
                                           rfl
                                         refine pure_ (i:=1) (N:=some 59) (v:=?_) (a':=?_) #[true,true,false,false,false,false,false,false,false,false,false,false,false,false,false,false,false,false,false,false,false,false,false,false,false,false,false,false] rfl rfl (any_of HT_.out (by kernel_rfl)) (fun _ _ _ h=>h) (Or.inl ⟨by rfl,?_⟩) ?_ ?_
                                         rotate_left
                                         · intro w'
                                           go_simp
                                           with_reducible rfl
                                         rotate_left
                                         · simp only [Act.put,List.setIfInBounds_toArray,List.set_cons_zero,List.set_cons_succ,i64_w,i32_w]
                                           rfl
                                         refine pure_ (i:=2) (N:=some 60) (v:=?_) (a':=?_) #[true,true,true,false,false,false,false,false,false,false,false,false,false,false,false,false,false,false,false,false,false,false,false,false,false,false,false,false] rfl rfl (any_of HT_.out (by kernel_rfl)) (fun _ _ _ h=>h) (Or.inl ⟨by rfl,?_⟩) ?_ ?_
                                         rotate_left
                                         · intro w'
                                           go_simp
                                           with_reducible rfl
                                         rotate_left
                                         · simp only [Act.put,List.setIfInBounds_toArray,List.set_cons_zero,List.set_cons_succ,i64_w,i32_w]
                                           rfl
                                         refine pure_ (i:=3) (N:=some 61) (v:=?_) (a':=?_) #[true,true,true,true,false,false,false,false,false,false,false,false,false,false,false,false,false,false,false,false,false,false,false,false,false,false,false,false] rfl rfl (any_of HT_.out (by kernel_rfl)) (fun _ _ _ h=>h) (Or.inl ⟨by rfl,?_⟩) ?_ ?_
                                         rotate_left
                                         · intro w'
                                           go_simp
                                           with_reducible rfl
                                         rotate_left
                                         · simp only [Act.put,List.setIfInBounds_toArray,List.set_cons_zero,List.set_cons_succ,i64_w,i32_w]
                                           rfl
                                         refine pure_ (i:=4) (N:=some 62) (v:=?_) (a':=?_) #[true,true,true,true,true,false,false,false,false,false,false,false,false,false,false,false,false,false,false,false,false,false,false,false,false,false,false,false] rfl rfl (any_of HT_.out (by kernel_rfl)) (fun _ _ _ h=>h) (Or.inl ⟨by rfl,?_⟩) ?_ ?_
                                         rotate_left
                                         · intro w'
                                           go_simp
                                           with_reducible rfl
                                         rotate_left
                                         · simp only [Act.put,List.setIfInBounds_toArray,List.set_cons_zero,List.set_cons_succ,i64_w,i32_w]
                                           rfl
                                         refine pure_ (i:=5) (N:=some 63) (v:=?_) (a':=?_) #[true,true,true,true,true,true,false,false,false,false,false,false,false,false,false,false,false,false,false,false,false,false,false,false,false,false,false,false] rfl rfl (any_of HT_.out (by kernel_rfl)) (fun _ _ _ h=>h) (Or.inl ⟨by rfl,?_⟩) ?_ ?_
                                         rotate_left
                                         · intro w'
                                           go_simp
                                           with_reducible rfl
                                         rotate_left
                                         · simp only [Act.put,List.setIfInBounds_toArray,List.set_cons_zero,List.set_cons_succ,i64_w,i32_w]
                                           rfl
                                         refine take_ (i:=6) (N:=some 64) (v:=?_) (a':=?_) #[true,true,true,true,true,true,true,false,false,false,false,false,false,false,false,false,false,false,false,false,false,false,false,false,false,false,false,false] rfl rfl (take_ofW HT_.out HW_.out (by kernel_rfl)) (fun _ _ _ h=>h) (Or.inl ⟨by rfl,?_⟩) hHeld ?_ ?_
                                         rotate_left
                                         · rintro w' ⟨s0,s1,s2,s3⟩
                                           go_simp
                                           with_reducible rfl
                                         rotate_left
                                         · simp only [Act.put,List.setIfInBounds_toArray,List.set_cons_zero,List.set_cons_succ,i64_w,i32_w]
                                           rfl
                                         refine pure_ (i:=7) (N:=some 65) (v:=?_) (a':=?_) #[true,true,true,true,true,true,true,true,false,false,false,false,false,false,false,false,false,false,false,false,false,false,false,false,false,false,false,false] rfl rfl (any_of HT_.out (by kernel_rfl)) (fun _ _ _ h=>h) (Or.inl ⟨by rfl,?_⟩) ?_ ?_
                                         rotate_left
                                         · intro w'
                                           go_simp
                                           with_reducible rfl
                                         rotate_left
                                         · simp only [Act.put,List.setIfInBounds_toArray,List.set_cons_zero,List.set_cons_succ,i64_w,i32_w]
                                           rfl
                                         refine pure_ (i:=8) (N:=some 66) (v:=?_) (a':=?_) #[true,true,true,true,true,true,true,true,true,false,false,false,false,false,false,false,false,false,false,false,false,false,false,false,false,false,false,false] rfl rfl (any_of HT_.out (by kernel_rfl)) (fun _ _ _ h=>h) (Or.inl ⟨by rfl,?_⟩) ?_ ?_
                                         rotate_left
                                         · intro w'
                                           go_simp
                                           with_reducible rfl
                                         rotate_left
                                         · simp only [Act.put,List.setIfInBounds_toArray,List.set_cons_zero,List.set_cons_succ,i64_w,i32_w]
                                           rfl
                                         refine pure_ (i:=9) (N:=some 67) (v:=?_) (a':=?_) #[true,true,true,true,true,true,true,true,true,true,false,false,false,false,false,false,false,false,false,false,false,false,false,false,false,false,false,false] rfl rfl (any_of HT_.out (by kernel_rfl)) (fun _ _ _ h=>h) (Or.inl ⟨by rfl,?_⟩) ?_ ?_
                                         rotate_left
                                         · intro w'
                                           go_simp
                                           with_reducible rfl
                                         rotate_left
                                         · simp only [Act.put,List.setIfInBounds_toArray,List.set_cons_zero,List.set_cons_succ,i64_w,i32_w]
                                           rfl
                                         refine pure_ (i:=10) (N:=some 68) (v:=?_) (a':=?_) #[true,true,true,true,true,true,true,true,true,true,true,false,false,false,false,false,false,false,false,false,false,false,false,false,false,false,false,false] rfl rfl (any_of HT_.out (by kernel_rfl)) (fun _ _ _ h=>h) (Or.inl ⟨by rfl,?_⟩) ?_ ?_
                                         rotate_left
                                         · intro w'
                                           go_simp
                                           with_reducible rfl
                                         rotate_left
                                         · simp only [Act.put,List.setIfInBounds_toArray,List.set_cons_zero,List.set_cons_succ,i64_w,i32_w]
                                           rfl
                                         refine take_ (i:=11) (N:=some 69) (v:=?_) (a':=?_) #[true,true,true,true,true,true,true,true,true,true,true,true,false,false,false,false,false,false,false,false,false,false,false,false,false,false,false,false] rfl rfl (take_ofW HT_.out HW_.out (by kernel_rfl)) (fun _ _ _ h=>h) (Or.inl ⟨by rfl,?_⟩) hHeld ?_ ?_
                                         rotate_left
                                         · rintro w' ⟨s0,s1,s2,s3⟩
                                           go_simp
                                           with_reducible rfl
                                         rotate_left
                                         · simp only [Act.put,List.setIfInBounds_toArray,List.set_cons_zero,List.set_cons_succ,i64_w,i32_w]
                                           rfl
                                         refine pure_ (i:=12) (N:=some 70) (v:=?_) (a':=?_) #[true,true,true,true,true,true,true,true,true,true,true,true,true,false,false,false,false,false,false,false,false,false,false,false,false,false,false,false] rfl rfl (any_of HT_.out (by kernel_rfl)) (fun _ _ _ h=>h) (Or.inl ⟨by rfl,?_⟩) ?_ ?_
                                         rotate_left
                                         · intro w'
                                           go_simp
                                           with_reducible rfl
                                         rotate_left
                                         · simp only [Act.put,List.setIfInBounds_toArray,List.set_cons_zero,List.set_cons_succ,i64_w,i32_w]
                                           rfl
                                         refine pure_ (i:=13) (N:=some 71) (v:=?_) (a':=?_) #[true,true,true,true,true,true,true,true,true,true,true,true,true,true,false,false,false,false,false,false,false,false,false,false,false,false,false,false] rfl rfl (any_of HT_.out (by kernel_rfl)) (fun _ _ _ h=>h) (Or.inl ⟨by rfl,?_⟩) ?_ ?_
                                         rotate_left
                                         · intro w'
                                           go_simp
                                           with_reducible rfl
                                         rotate_left
                                         · simp only [Act.put,List.setIfInBounds_toArray,List.set_cons_zero,List.set_cons_succ,i64_w,i32_w]
                                           rfl
                                         refine pure_ (i:=14) (N:=some 72) (v:=?_) (a':=?_) #[true,true,true,true,true,true,true,true,true,true,true,true,true,true,true,false,false,false,false,false,false,false,false,false,false,false,false,false] rfl rfl (any_of HT_.out (by kernel_rfl)) (fun _ _ _ h=>h) (Or.inl ⟨by rfl,?_⟩) ?_ ?_
                                         rotate_left
                                         · intro w'
                                           go_simp
                                           with_reducible rfl
                                         rotate_left
                                         · simp only [Act.put,List.setIfInBounds_toArray,List.set_cons_zero,List.set_cons_succ,i64_w,i32_w]
                                           rfl
                                         refine pure_ (i:=15) (N:=some 73) (v:=?_) (a':=?_) #[true,true,true,true,true,true,true,true,true,true,true,true,true,true,true,true,false,false,false,false,false,false,false,false,false,false,false,false] rfl rfl (any_of HT_.out (by kernel_rfl)) (fun _ _ _ h=>h) (Or.inl ⟨by rfl,?_⟩) ?_ ?_
                                         rotate_left
                                         · intro w'
                                           go_simp
                                           with_reducible rfl
                                         rotate_left
                                         · simp only [Act.put,List.setIfInBounds_toArray,List.set_cons_zero,List.set_cons_succ,i64_w,i32_w]
                                           rfl
                                         refine pure_ (i:=16) (N:=some 74) (v:=?_) (a':=?_) #[true,true,true,true,true,true,true,true,true,true,true,true,true,true,true,true,true,false,false,false,false,false,false,false,false,false,false,false] rfl rfl (any_of HT_.out (by kernel_rfl)) (fun _ _ _ h=>h) (Or.inl ⟨by rfl,?_⟩) ?_ ?_
                                         rotate_left
                                         · intro w'
                                           go_simp
                                           with_reducible rfl
                                         rotate_left
                                         · simp only [Act.put,List.setIfInBounds_toArray,List.set_cons_zero,List.set_cons_succ,i64_w,i32_w]
                                           rfl
                                         refine pure_ (i:=18) (N:=some 76) (v:=?_) (a':=?_) #[true,true,true,true,true,true,true,true,true,true,true,true,true,true,true,true,true,false,true,false,false,false,false,false,false,false,false,false] rfl rfl (any_of HT_.out (by kernel_rfl)) (fun _ _ _ h=>h) (Or.inl ⟨by rfl,?_⟩) ?_ ?_
                                         rotate_left
                                         · intro w'
                                           go_simp
                                           with_reducible rfl
                                         rotate_left
                                         · simp only [Act.put,List.setIfInBounds_toArray,List.set_cons_zero,List.set_cons_succ,i64_w,i32_w]
                                           rfl
                                         refine pure_ (i:=19) (N:=some 77) (v:=?_) (a':=?_) #[true,true,true,true,true,true,true,true,true,true,true,true,true,true,true,true,true,false,true,true,false,false,false,false,false,false,false,false] rfl rfl (any_of HT_.out (by kernel_rfl)) (fun _ _ _ h=>h) (Or.inl ⟨by rfl,?_⟩) ?_ ?_
                                         rotate_left
                                         · intro w'
                                           go_simp
                                           with_reducible rfl
                                         rotate_left
                                         · simp only [Act.put,List.setIfInBounds_toArray,List.set_cons_zero,List.set_cons_succ,i64_w,i32_w]
                                           rfl
                                         refine pure_ (i:=20) (N:=some 78) (v:=?_) (a':=?_) #[true,true,true,true,true,true,true,true,true,true,true,true,true,true,true,true,true,false,true,true,true,false,false,false,false,false,false,false] rfl rfl (any_of HT_.out (by kernel_rfl)) (fun _ _ _ h=>h) (Or.inl ⟨by rfl,?_⟩) ?_ ?_
                                         rotate_left
                                         · intro w'
                                           go_simp
                                           with_reducible rfl
                                         rotate_left
                                         · simp only [Act.put,List.setIfInBounds_toArray,List.set_cons_zero,List.set_cons_succ,i64_w,i32_w]
                                           rfl
                                         refine pure_ (i:=21) (N:=some 79) (v:=?_) (a':=?_) #[true,true,true,true,true,true,true,true,true,true,true,true,true,true,true,true,true,false,true,true,true,true,false,false,false,false,false,false] rfl rfl (any_of HT_.out (by kernel_rfl)) (fun _ _ _ h=>h) (Or.inl ⟨by rfl,?_⟩) ?_ ?_
                                         rotate_left
                                         · intro w'
                                           go_simp
                                           with_reducible rfl
                                         rotate_left
                                         · simp only [Act.put,List.setIfInBounds_toArray,List.set_cons_zero,List.set_cons_succ,i64_w,i32_w]
                                           rfl
                                         refine take_ (i:=17) (N:=some 75) (v:=?_) (a':=?_) #[true,true,true,true,true,true,true,true,true,true,true,true,true,true,true,true,true,true,true,true,true,true,false,false,false,false,false,false] rfl rfl (take_ofW HT_.out HW_.out (by kernel_rfl)) (fun _ _ _ h=>h) (Or.inl ⟨by rfl,?_⟩) hHeld ?_ ?_
                                         rotate_left
                                         · rintro w' ⟨s0,s1,s2,s3⟩
                                           go_simp
                                           with_reducible rfl
                                         rotate_left
                                         · simp only [Act.put,List.setIfInBounds_toArray,List.set_cons_zero,List.set_cons_succ,i64_w,i32_w]
                                           rfl
                                         refine take_ (i:=22) (N:=some 80) (v:=?_) (a':=?_) #[true,true,true,true,true,true,true,true,true,true,true,true,true,true,true,true,true,true,true,true,true,true,true,false,false,false,false,false] rfl rfl (take_ofW HT_.out HW_.out (by kernel_rfl)) (fun _ _ _ h=>h) (Or.inl ⟨by rfl,?_⟩) hHeld ?_ ?_
                                         rotate_left
                                         · rintro w' ⟨s0,s1,s2,s3⟩
                                           go_simp
                                           with_reducible rfl
                                         rotate_left
                                         · simp only [Act.put,List.setIfInBounds_toArray,List.set_cons_zero,List.set_cons_succ,i64_w,i32_w]
                                           rfl
                                         refine pure_ (i:=23) (N:=some 81) (v:=?_) (a':=?_) #[true,true,true,true,true,true,true,true,true,true,true,true,true,true,true,true,true,true,true,true,true,true,true,true,false,false,false,false] rfl rfl (any_of HT_.out (by kernel_rfl)) (fun _ _ _ h=>h) (Or.inl ⟨by rfl,?_⟩) ?_ ?_
                                         rotate_left
                                         · intro w'
                                           go_simp
                                           with_reducible rfl
                                         rotate_left
                                         · simp only [Act.put,List.setIfInBounds_toArray,List.set_cons_zero,List.set_cons_succ,i64_w,i32_w]
                                           rfl
                                         refine pure_ (i:=24) (N:=some 82) (v:=?_) (a':=?_) #[true,true,true,true,true,true,true,true,true,true,true,true,true,true,true,true,true,true,true,true,true,true,true,true,true,false,false,false] rfl rfl (any_of HT_.out (by kernel_rfl)) (fun _ _ _ h=>h) (Or.inl ⟨by rfl,?_⟩) ?_ ?_
                                         rotate_left
                                         · intro w'
                                           go_simp
                                           with_reducible rfl
                                         rotate_left
                                         · simp only [Act.put,List.setIfInBounds_toArray,List.set_cons_zero,List.set_cons_succ,i64_w,i32_w]
                                           rfl
                                         refine pure_ (i:=25) (N:=some 83) (v:=?_) (a':=?_) #[true,true,true,true,true,true,true,true,true,true,true,true,true,true,true,true,true,true,true,true,true,true,true,true,true,true,false,false] rfl rfl (any_of HT_.out (by kernel_rfl)) (fun _ _ _ h=>h) (Or.inl ⟨by rfl,?_⟩) ?_ ?_
                                         rotate_left
                                         · intro w'
                                           go_simp
                                           with_reducible rfl
                                         rotate_left
                                         · simp only [Act.put,List.setIfInBounds_toArray,List.set_cons_zero,List.set_cons_succ,i64_w,i32_w]
                                           rfl
                                         refine pure_ (i:=26) (N:=some 84) (v:=?_) (a':=?_) #[true,true,true,true,true,true,true,true,true,true,true,true,true,true,true,true,true,true,true,true,true,true,true,true,true,true,true,false] rfl rfl (any_of HT_.out (by kernel_rfl)) (fun _ _ _ h=>h) (Or.inl ⟨by rfl,?_⟩) ?_ ?_
                                         rotate_left
                                         · intro w'
                                           go_simp
                                           with_reducible rfl
                                         rotate_left
                                         · simp only [Act.put,List.setIfInBounds_toArray,List.set_cons_zero,List.set_cons_succ,i64_w,i32_w]
                                           rfl
                                         refine last_ (i:=27) (N:=none) #[true,true,true,true,true,true,true,true,true,true,true,true,true,true,true,true,true,true,true,true,true,true,true,true,true,true,true,true] rfl rfl (one_of HT_.out (by kernel_rfl)) (by decide) (fun K hK=>?_)
                                         refine skip_ (w1:=?_) (by rfl) rfl ?_ ?_
                                         rotate_left
                                         · go_simp
                                           rfl
                                         refine hK.out _ _ ?_
                                         clear hK K
                                         refine done_ (done_of HT_.out (by kernel_rfl)) ?_
                                         try go_wp2
                                         go_roundg k2
                                         case measure=>have:=HK1.out;have:=HK2.out;omega
                                         case rel=>exact ⟨(wrap64 (x8_2+1)),(y220),(by first|rfl|(simp;done)|(simp [*];done)),H',⟨by have:=HK1.out;have:=HK2.out;omega⟩,⟨by (with_reducible repeat (first|apply Kd.R_alloc|apply Kd.R_drewN|apply Kd.R_drew));exact Kd.R_mono (Kd.R_far (p:=⟨go62,(x8_2:Int).toNat,none⟩) (Kd.R_mono HO_5.out (fun k_ hk=>(⟨hk,fun e_=>hk (by rw [e_];rfl)⟩:_∧k_≠go62))) (fun _ hk=>hk.2) (.bool ((rdOf ByteArray.empty l0 x6_1).toList==(rdOf ByteArray.empty l1 (ji47)).toList))) (fun _ hk=>hk.1)⟩,⟨by (with_reducible repeat (first|apply Kd.R_alloc|apply Kd.R_drewN|apply Kd.R_drew));exact HQ65.out⟩,⟨by repeat (first|(with_reducible first|exact HB.out|apply below_alloc|apply pw_below_drewN|apply below_drew1|refine below_set ?_ GB62.out)|exact HB.out)⟩⟩
                                       · rw [if_neg c61] at H
                                         exact absurd H (by simp)
                                     · rw [if_neg c60] at H
                                       exact absurd H (by simp)
                                   · rw [if_neg c59] at H
                                     exact absurd H (by simp)
                               · replace c51:=Bool.eq_false_iff.mpr c51
                                 subst c51
                                 have H1:(if 0≤x8_2 then (if x8_2 < (x24_2.length:Int) then (agoraref23_match.l1 k2 l0 l1 x5_1 x6_1 (wrap64 (x8_2+1)) (x24_2.set (x8_2:Int).toNat false)) else (none)) else (none))=some r:=by rw [if_neg (show ¬ (false=true) by decide)] at H;exact H
                                 clear H
                                 have H:=H1
                                 clear H1
                                 by_cases c66:0≤x8_2
                                 · rw [if_pos c66] at H
                                   have c66b0:decide (0≤x8_2)=true:=decide_eq_true c66
                                   clear c66
                                   by_cases c67:x8_2 < (x24_2.length:Int)
                                   · rw [if_pos c67] at H
                                     have c67b0:decide (x8_2 < (x24_2.length:Int))=true:=decide_eq_true c67
                                     clear c67
                                     obtain ⟨y221,hy221⟩ : ∃ y_:List Bool,y_=(x24_2.set (x8_2:Int).toNat false):=⟨_,rfl⟩
                                     replace H:(agoraref23_match.l1 k2 l0 l1 x5_1 x6_1 (wrap64 (x8_2+1)) y221)=some r:=by first|(rw [hy221];with_reducible exact H)|(have H2_:=(Option.bind_some _ _).symm.trans H;rw [hy221];with_reducible exact H2_)|(have H2_:=(Option.bind_some _ _).symm.trans H;with_reducible exact H2_)|with_reducible exact H|(rw [hy221];exact H)|exact H
                                     have Ny221:=Aside0.mk hy221
                                     clear hy221
                                     have H':=Aside0.mk H
                                     clear H
                                     have p209:0≤(x6_1:Int):=of_decide_eq_true (by first|(with_reducible assumption)|assumption)
                                     have q209:x6_1 < (l0.length:Int):=of_decide_eq_true (by first|(with_reducible assumption)|assumption)
                                     obtain ⟨ad209,e209,hx209_0⟩:=Kd.at_string HR0.out x6_1 p209 q209
                                     cases e209
                                     replace hx209_0:=(HB.out.cell (World.block_lt_of_cell? w _ hx209_0)).trans hx209_0
                                     replace p209:=eq_true p209
                                     replace q209:=eq_true q209
                                     try go_wp2
                                     have n0_:=Aside0.mk (Kd.R_drew HO_5.out)
                                     have n1_:=Aside0.mk (Kd.R_drew HO_24.out)
                                     have n2_:=Aside0.mk (below_drew1 HB.out)
                                     clear HO_5
                                     clear HO_24
                                     clear HB
                                     have HO_5:=n0_
                                     have HO_24:=n1_
                                     have HB:=n2_
                                     clear n0_ n1_ n2_
                                     obtain ⟨Ao70,co70,eo70⟩:=Kd.R_slice HO_5.out
                                     (first|subst eo70|(injection eo70 with f1_ f2_ f3_;have f4_:=f1_.symm;have f5_:=f3_.symm;clear f1_ f2_ f3_;subst f4_;subst f5_))
                                     have p215:0≤((ji47):Int):=of_decide_eq_true (by first|(with_reducible assumption)|assumption)
                                     have q215:(ji47) < (x5_1.length:Int):=of_decide_eq_true (by first|(with_reducible assumption)|assumption)
                                     obtain ⟨ad215,e215,hx215_0⟩:=Kd.at_bool (Kd.R_reads' HO_5.out).2.2 (ji47) p215 q215
                                     (try rw [← Nbq50.out] at hx215_0)
                                     cases e215
                                     replace p215:=eq_true p215
                                     replace q215:=eq_true q215
                                     have p68:0≤(x8_2:Int):=of_decide_eq_true (by first|(with_reducible assumption)|assumption)
                                     have q68:(x8_2:Int) < ((x24_2.length:Int):Int):=of_decide_eq_true (by first|(with_reducible assumption)|assumption)
                                     obtain ⟨go68,co68,eo68,gb68,gl68,cl68,HG68⟩:=Kd.R_form HO_24.out (by omega)
                                     (first|cases eo68|(injection eo68 with ea_ en_ ec_;(first|subst ea_|(injection ea_ with ea_;subst ea_));subst ec_;clear en_))
                                     have GB68:=Aside0.mk gb68
                                     have GG68:=Aside0.mk HG68
                                     clear gb68 gl68 HG68
                                     obtain ⟨hx68_0,hf68_0⟩:=Kd.R_celln false HO_24.out (x8_2:Int) p68 q68
                                     replace p68:=eq_true p68
                                     replace q68:=eq_true q68
                                     have HP71:=Kd.R_putn HO_24.out (x8_2:Int) false
                                     rw [← Ny221.out] at HP71
                                     have HQ71:=Aside0.mk HP71
                                     clear HP71
                                     refine start_ (n:=28) (S:=fun w'=>w'.cell? (ad215.add ((ji47)).toNat)=some (.bool false)) (ds:=[27]) #[false,false,false,false,false,false,false,false,false,false,false,false,false,false,false,false,false,false,false,false,false,false,false,false,false,false,false,false] (by kernel_rfl) rfl rfl (hx215_0) (fun hHeld=>?_);refine with_tabW agoraref23_match.tab13 agoraref23_match.bits13 (fun HT_ HW_=>?_)
                                     generalize wr.drew=w69 at HO_5 HO_24 HB GG68 HQ71 hf68_0 hx215_0 hx68_0 hHeld ⊢
                                     refine pure_ (i:=0) (N:=some 58) (v:=?_) (a':=?_) #[true,false,false,false,false,false,false,false,false,false,false,false,false,false,false,false,false,false,false,false,false,false,false,false,false,false,false,false] rfl rfl (any_of HT_.out (by kernel_rfl)) (fun _ _ _ h=>h) (Or.inl ⟨by rfl,?_⟩) ?_ ?_
                                     rotate_left
                                     · intro w'
                                       go_simp
                                       with_reducible rfl
                                     rotate_left
                                     · simp only [Act.put,List.setIfInBounds_toArray,List.set_cons_zero,List.set_cons_succ,i64_w,i32_w]
                                       rfl
                                     refine pure_ (i:=1) (N:=some 59) (v:=?_) (a':=?_) #[true,true,false,false,false,false,false,false,false,false,false,false,false,false,false,false,false,false,false,false,false,false,false,false,false,false,false,false] rfl rfl (any_of HT_.out (by kernel_rfl)) (fun _ _ _ h=>h) (Or.inl ⟨by rfl,?_⟩) ?_ ?_
                                     rotate_left
                                     · intro w'
                                       go_simp
                                       with_reducible rfl
                                     rotate_left
                                     · simp only [Act.put,List.setIfInBounds_toArray,List.set_cons_zero,List.set_cons_succ,i64_w,i32_w]
                                       rfl
                                     refine pure_ (i:=2) (N:=some 60) (v:=?_) (a':=?_) #[true,true,true,false,false,false,false,false,false,false,false,false,false,false,false,false,false,false,false,false,false,false,false,false,false,false,false,false] rfl rfl (any_of HT_.out (by kernel_rfl)) (fun _ _ _ h=>h) (Or.inl ⟨by rfl,?_⟩) ?_ ?_
                                     rotate_left
                                     · intro w'
                                       go_simp
                                       with_reducible rfl
                                     rotate_left
                                     · simp only [Act.put,List.setIfInBounds_toArray,List.set_cons_zero,List.set_cons_succ,i64_w,i32_w]
                                       rfl
                                     refine pure_ (i:=3) (N:=some 61) (v:=?_) (a':=?_) #[true,true,true,true,false,false,false,false,false,false,false,false,false,false,false,false,false,false,false,false,false,false,false,false,false,false,false,false] rfl rfl (any_of HT_.out (by kernel_rfl)) (fun _ _ _ h=>h) (Or.inl ⟨by rfl,?_⟩) ?_ ?_
                                     rotate_left
                                     · intro w'
                                       go_simp
                                       with_reducible rfl
                                     rotate_left
                                     · simp only [Act.put,List.setIfInBounds_toArray,List.set_cons_zero,List.set_cons_succ,i64_w,i32_w]
                                       rfl
                                     refine pure_ (i:=4) (N:=some 62) (v:=?_) (a':=?_) #[true,true,true,true,true,false,false,false,false,false,false,false,false,false,false,false,false,false,false,false,false,false,false,false,false,false,false,false] rfl rfl (any_of HT_.out (by kernel_rfl)) (fun _ _ _ h=>h) (Or.inl ⟨by rfl,?_⟩) ?_ ?_
                                     rotate_left
                                     · intro w'
                                       go_simp
                                       with_reducible rfl
                                     rotate_left
                                     · simp only [Act.put,List.setIfInBounds_toArray,List.set_cons_zero,List.set_cons_succ,i64_w,i32_w]
                                       rfl
                                     refine pure_ (i:=5) (N:=some 63) (v:=?_) (a':=?_) #[true,true,true,true,true,true,false,false,false,false,false,false,false,false,false,false,false,false,false,false,false,false,false,false,false,false,false,false] rfl rfl (any_of HT_.out (by kernel_rfl)) (fun _ _ _ h=>h) (Or.inl ⟨by rfl,?_⟩) ?_ ?_
                                     rotate_left
                                     · intro w'
                                       go_simp
                                       with_reducible rfl
                                     rotate_left
                                     · simp only [Act.put,List.setIfInBounds_toArray,List.set_cons_zero,List.set_cons_succ,i64_w,i32_w]
                                       rfl
                                     refine take_ (i:=6) (N:=some 64) (v:=?_) (a':=?_) #[true,true,true,true,true,true,true,false,false,false,false,false,false,false,false,false,false,false,false,false,false,false,false,false,false,false,false,false] rfl rfl (take_ofW HT_.out HW_.out (by kernel_rfl)) (fun _ _ _ h=>h) (Or.inl ⟨by rfl,?_⟩) hHeld ?_ ?_
                                     rotate_left
                                     · intro w' s0
                                       go_simp
                                       with_reducible rfl
                                     rotate_left
                                     · simp only [Act.put,List.setIfInBounds_toArray,List.set_cons_zero,List.set_cons_succ,i64_w,i32_w]
                                       rfl
                                     refine pure_ (i:=7) (N:=some 65) (v:=?_) (a':=?_) #[true,true,true,true,true,true,true,true,false,false,false,false,false,false,false,false,false,false,false,false,false,false,false,false,false,false,false,false] rfl rfl (any_of HT_.out (by kernel_rfl)) (fun _ _ _ h=>h) (Or.inl ⟨by rfl,?_⟩) ?_ ?_
                                     rotate_left
                                     · intro w'
                                       go_simp
                                       with_reducible rfl
                                     rotate_left
                                     · simp only [Act.put,List.setIfInBounds_toArray,List.set_cons_zero,List.set_cons_succ,i64_w,i32_w]
                                       rfl
                                     refine pure_ (i:=8) (N:=some 66) (v:=undef) (a':=?_) #[true,true,true,true,true,true,true,true,true,false,false,false,false,false,false,false,false,false,false,false,false,false,false,false,false,false,false,false] rfl rfl (any_of HT_.out (by kernel_rfl)) (fun _ _ _ h=>h) (Or.inr ⟨by rfl,rfl⟩) ?_ ?_
                                     rotate_left
                                     · simp only [Act.put,List.setIfInBounds_toArray,List.set_cons_zero,List.set_cons_succ,i64_w,i32_w]
                                       rfl
                                     refine pure_ (i:=9) (N:=some 67) (v:=undef) (a':=?_) #[true,true,true,true,true,true,true,true,true,true,false,false,false,false,false,false,false,false,false,false,false,false,false,false,false,false,false,false] rfl rfl (any_of HT_.out (by kernel_rfl)) (fun _ _ _ h=>h) (Or.inr ⟨by rfl,rfl⟩) ?_ ?_
                                     rotate_left
                                     · simp only [Act.put,List.setIfInBounds_toArray,List.set_cons_zero,List.set_cons_succ,i64_w,i32_w]
                                       rfl
                                     refine pure_ (i:=10) (N:=some 68) (v:=undef) (a':=?_) #[true,true,true,true,true,true,true,true,true,true,true,false,false,false,false,false,false,false,false,false,false,false,false,false,false,false,false,false] rfl rfl (any_of HT_.out (by kernel_rfl)) (fun _ _ _ h=>h) (Or.inr ⟨by rfl,rfl⟩) ?_ ?_
                                     rotate_left
                                     · simp only [Act.put,List.setIfInBounds_toArray,List.set_cons_zero,List.set_cons_succ,i64_w,i32_w]
                                       rfl
                                     refine pure_ (i:=11) (N:=some 69) (v:=undef) (a':=?_) #[true,true,true,true,true,true,true,true,true,true,true,true,false,false,false,false,false,false,false,false,false,false,false,false,false,false,false,false] rfl rfl (any_of HT_.out (by kernel_rfl)) (fun _ _ _ h=>h) (Or.inr ⟨by rfl,rfl⟩) ?_ ?_
                                     rotate_left
                                     · simp only [Act.put,List.setIfInBounds_toArray,List.set_cons_zero,List.set_cons_succ,i64_w,i32_w]
                                       rfl
                                     refine pure_ (i:=12) (N:=some 70) (v:=undef) (a':=?_) #[true,true,true,true,true,true,true,true,true,true,true,true,true,false,false,false,false,false,false,false,false,false,false,false,false,false,false,false] rfl rfl (any_of HT_.out (by kernel_rfl)) (fun _ _ _ h=>h) (Or.inr ⟨by rfl,rfl⟩) ?_ ?_
                                     rotate_left
                                     · simp only [Act.put,List.setIfInBounds_toArray,List.set_cons_zero,List.set_cons_succ,i64_w,i32_w]
                                       rfl
                                     refine pure_ (i:=13) (N:=some 71) (v:=undef) (a':=?_) #[true,true,true,true,true,true,true,true,true,true,true,true,true,true,false,false,false,false,false,false,false,false,false,false,false,false,false,false] rfl rfl (any_of HT_.out (by kernel_rfl)) (fun _ _ _ h=>h) (Or.inr ⟨by rfl,rfl⟩) ?_ ?_
                                     rotate_left
                                     · simp only [Act.put,List.setIfInBounds_toArray,List.set_cons_zero,List.set_cons_succ,i64_w,i32_w]
                                       rfl
                                     refine pure_ (i:=14) (N:=some 72) (v:=undef) (a':=?_) #[true,true,true,true,true,true,true,true,true,true,true,true,true,true,true,false,false,false,false,false,false,false,false,false,false,false,false,false] rfl rfl (any_of HT_.out (by kernel_rfl)) (fun _ _ _ h=>h) (Or.inr ⟨by rfl,rfl⟩) ?_ ?_
                                     rotate_left
                                     · simp only [Act.put,List.setIfInBounds_toArray,List.set_cons_zero,List.set_cons_succ,i64_w,i32_w]
                                       rfl
                                     refine pure_ (i:=15) (N:=some 73) (v:=undef) (a':=?_) #[true,true,true,true,true,true,true,true,true,true,true,true,true,true,true,true,false,false,false,false,false,false,false,false,false,false,false,false] rfl rfl (any_of HT_.out (by kernel_rfl)) (fun _ _ _ h=>h) (Or.inr ⟨by rfl,rfl⟩) ?_ ?_
                                     rotate_left
                                     · simp only [Act.put,List.setIfInBounds_toArray,List.set_cons_zero,List.set_cons_succ,i64_w,i32_w]
                                       rfl
                                     refine pure_ (i:=16) (N:=some 74) (v:=undef) (a':=?_) #[true,true,true,true,true,true,true,true,true,true,true,true,true,true,true,true,true,false,false,false,false,false,false,false,false,false,false,false] rfl rfl (any_of HT_.out (by kernel_rfl)) (fun _ _ _ h=>h) (Or.inr ⟨by rfl,rfl⟩) ?_ ?_
                                     rotate_left
                                     · simp only [Act.put,List.setIfInBounds_toArray,List.set_cons_zero,List.set_cons_succ,i64_w,i32_w]
                                       rfl
                                     refine pure_ (i:=17) (N:=some 75) (v:=undef) (a':=?_) #[true,true,true,true,true,true,true,true,true,true,true,true,true,true,true,true,true,true,false,false,false,false,false,false,false,false,false,false] rfl rfl (any_of HT_.out (by kernel_rfl)) (fun _ _ _ h=>h) (Or.inr ⟨by rfl,rfl⟩) ?_ ?_
                                     rotate_left
                                     · simp only [Act.put,List.setIfInBounds_toArray,List.set_cons_zero,List.set_cons_succ,i64_w,i32_w]
                                       rfl
                                     refine pure_ (i:=18) (N:=some 76) (v:=undef) (a':=?_) #[true,true,true,true,true,true,true,true,true,true,true,true,true,true,true,true,true,true,true,false,false,false,false,false,false,false,false,false] rfl rfl (any_of HT_.out (by kernel_rfl)) (fun _ _ _ h=>h) (Or.inr ⟨by rfl,rfl⟩) ?_ ?_
                                     rotate_left
                                     · simp only [Act.put,List.setIfInBounds_toArray,List.set_cons_zero,List.set_cons_succ,i64_w,i32_w]
                                       rfl
                                     refine pure_ (i:=19) (N:=some 77) (v:=undef) (a':=?_) #[true,true,true,true,true,true,true,true,true,true,true,true,true,true,true,true,true,true,true,true,false,false,false,false,false,false,false,false] rfl rfl (any_of HT_.out (by kernel_rfl)) (fun _ _ _ h=>h) (Or.inr ⟨by rfl,rfl⟩) ?_ ?_
                                     rotate_left
                                     · simp only [Act.put,List.setIfInBounds_toArray,List.set_cons_zero,List.set_cons_succ,i64_w,i32_w]
                                       rfl
                                     refine pure_ (i:=20) (N:=some 78) (v:=undef) (a':=?_) #[true,true,true,true,true,true,true,true,true,true,true,true,true,true,true,true,true,true,true,true,true,false,false,false,false,false,false,false] rfl rfl (any_of HT_.out (by kernel_rfl)) (fun _ _ _ h=>h) (Or.inr ⟨by rfl,rfl⟩) ?_ ?_
                                     rotate_left
                                     · simp only [Act.put,List.setIfInBounds_toArray,List.set_cons_zero,List.set_cons_succ,i64_w,i32_w]
                                       rfl
                                     refine pure_ (i:=21) (N:=some 79) (v:=undef) (a':=?_) #[true,true,true,true,true,true,true,true,true,true,true,true,true,true,true,true,true,true,true,true,true,true,false,false,false,false,false,false] rfl rfl (any_of HT_.out (by kernel_rfl)) (fun _ _ _ h=>h) (Or.inr ⟨by rfl,rfl⟩) ?_ ?_
                                     rotate_left
                                     · simp only [Act.put,List.setIfInBounds_toArray,List.set_cons_zero,List.set_cons_succ,i64_w,i32_w]
                                       rfl
                                     refine pure_ (i:=22) (N:=some 80) (v:=undef) (a':=?_) #[true,true,true,true,true,true,true,true,true,true,true,true,true,true,true,true,true,true,true,true,true,true,true,false,false,false,false,false] rfl rfl (any_of HT_.out (by kernel_rfl)) (fun _ _ _ h=>h) (Or.inr ⟨by rfl,rfl⟩) ?_ ?_
                                     rotate_left
                                     · simp only [Act.put,List.setIfInBounds_toArray,List.set_cons_zero,List.set_cons_succ,i64_w,i32_w]
                                       rfl
                                     refine pure_ (i:=23) (N:=some 81) (v:=undef) (a':=?_) #[true,true,true,true,true,true,true,true,true,true,true,true,true,true,true,true,true,true,true,true,true,true,true,true,false,false,false,false] rfl rfl (any_of HT_.out (by kernel_rfl)) (fun _ _ _ h=>h) (Or.inr ⟨by rfl,rfl⟩) ?_ ?_
                                     rotate_left
                                     · simp only [Act.put,List.setIfInBounds_toArray,List.set_cons_zero,List.set_cons_succ,i64_w,i32_w]
                                       rfl
                                     refine pure_ (i:=24) (N:=some 82) (v:=undef) (a':=?_) #[true,true,true,true,true,true,true,true,true,true,true,true,true,true,true,true,true,true,true,true,true,true,true,true,true,false,false,false] rfl rfl (any_of HT_.out (by kernel_rfl)) (fun _ _ _ h=>h) (Or.inr ⟨by rfl,rfl⟩) ?_ ?_
                                     rotate_left
                                     · simp only [Act.put,List.setIfInBounds_toArray,List.set_cons_zero,List.set_cons_succ,i64_w,i32_w]
                                       rfl
                                     refine pure_ (i:=25) (N:=some 83) (v:=?_) (a':=?_) #[true,true,true,true,true,true,true,true,true,true,true,true,true,true,true,true,true,true,true,true,true,true,true,true,true,true,false,false] rfl rfl (any_of HT_.out (by kernel_rfl)) (fun _ _ _ h=>h) (Or.inl ⟨by rfl,?_⟩) ?_ ?_
                                     rotate_left
                                     · intro w'
                                       go_simp
                                       with_reducible rfl
                                     rotate_left
                                     · simp only [Act.put,List.setIfInBounds_toArray,List.set_cons_zero,List.set_cons_succ,i64_w,i32_w]
                                       rfl
                                     refine pure_ (i:=26) (N:=some 84) (v:=?_) (a':=?_) #[true,true,true,true,true,true,true,true,true,true,true,true,true,true,true,true,true,true,true,true,true,true,true,true,true,true,true,false] rfl rfl (any_of HT_.out (by kernel_rfl)) (fun _ _ _ h=>h) (Or.inl ⟨by rfl,?_⟩) ?_ ?_
                                     rotate_left
                                     · intro w'
                                       go_simp
                                       with_reducible rfl
                                     rotate_left
                                     · simp only [Act.put,List.setIfInBounds_toArray,List.set_cons_zero,List.set_cons_succ,i64_w,i32_w]
                                       rfl
                                     refine last_ (i:=27) (N:=none) #[true,true,true,true,true,true,true,true,true,true,true,true,true,true,true,true,true,true,true,true,true,true,true,true,true,true,true,true] rfl rfl (one_of HT_.out (by kernel_rfl)) (by decide) (fun K hK=>?_)
                                     refine skip_ (w1:=?_) (by rfl) rfl ?_ ?_
                                     rotate_left
                                     · go_simp
                                       rfl
                                     refine hK.out _ _ ?_
                                     clear hK K
                                     refine done_ (done_of HT_.out (by kernel_rfl)) ?_
                                     try go_wp2
                                     go_roundg k2
                                     case measure=>have:=HK1.out;have:=HK2.out;omega
                                     case rel=>exact ⟨(wrap64 (x8_2+1)),(y221),(by first|rfl|(simp;done)|(simp [*];done)),H',⟨by have:=HK1.out;have:=HK2.out;omega⟩,⟨by (with_reducible repeat (first|apply Kd.R_alloc|apply Kd.R_drewN|apply Kd.R_drew));exact Kd.R_mono (Kd.R_far (p:=⟨go68,(x8_2:Int).toNat,none⟩) (Kd.R_mono HO_5.out (fun k_ hk=>(⟨hk,fun e_=>hk (by rw [e_];rfl)⟩:_∧k_≠go68))) (fun _ hk=>hk.2) (.bool false)) (fun _ hk=>hk.1)⟩,⟨by (with_reducible repeat (first|apply Kd.R_alloc|apply Kd.R_drewN|apply Kd.R_drew));exact HQ71.out⟩,⟨by repeat (first|(with_reducible first|exact HB.out|apply below_alloc|apply pw_below_drewN|apply below_drew1|refine below_set ?_ GB68.out)|exact HB.out)⟩⟩
                                   · rw [if_neg c67] at H
                                     exact absurd H (by simp)
                                 · rw [if_neg c66] at H
                                   exact absurd H (by simp)
                             · rw [if_neg c49] at H
                               exact absurd H (by simp)
                           · rw [if_neg c48] at H
                             exact absurd H (by simp)
                         · rw [if_neg c46] at H
                           have c46b0:decide (0 < x8_2)=false:=decide_eq_false c46
                           clear c46
                           have H':=Aside0.mk H
                           clear H
                           have p209:0≤(x6_1:Int):=of_decide_eq_true (by first|(with_reducible assumption)|assumption)
                           have q209:x6_1 < (l0.length:Int):=of_decide_eq_true (by first|(with_reducible assumption)|assumption)
                           obtain ⟨ad209,e209,hx209_0⟩:=Kd.at_string HR0.out x6_1 p209 q209
                           cases e209
                           replace hx209_0:=(HB.out.cell (World.block_lt_of_cell? w _ hx209_0)).trans hx209_0
                           replace p209:=eq_true p209
                           replace q209:=eq_true q209
                           go_wp2
                           go_roundg k2
                           case measure=>have:=HK1.out;have:=HK2.out;omega
                           case rel=>exact ⟨(wrap64 (x8_2+1)),(x24_2),(by first|rfl|(simp;done)|(simp [*];done)),H',⟨by have:=HK1.out;have:=HK2.out;omega⟩,⟨by (with_reducible repeat (first|apply Kd.R_alloc|apply Kd.R_drewN|apply Kd.R_drew));exact HO_5.out⟩,⟨by (with_reducible repeat (first|apply Kd.R_alloc|apply Kd.R_drewN|apply Kd.R_drew));exact HO_24.out⟩,⟨by repeat (first|(with_reducible first|exact HB.out|apply below_alloc|apply pw_below_drewN|apply below_drew1)|exact HB.out)⟩⟩
                     · rw [if_neg c20] at H
                       exact absurd H (by simp)
                   · rw [if_neg c19] at H
                     exact absurd H (by simp)
                 · rw [if_neg c18] at H
                   have c18b0:decide (x8_2≤(l1.length:Int))=false:=decide_eq_false c18
                   clear c18
                   have H':=Aside0.mk H
                   clear H
                   go_wp2
                   go_roundg k2
                   case measure=>have:=HK1.out;have:=HK2.out;omega
                   case rel=>exact ⟨(x24_2),(wrap64 (x6_1+1)),(by first|rfl|(simp;done)|(simp [*];done)),H',⟨by have:=HK1.out;have:=HK2.out;omega⟩,⟨by (with_reducible repeat (first|apply Kd.R_alloc|apply Kd.R_drewN|apply Kd.R_drew));exact Kd.R_mono HO_24.out (fun _ hk=>trivial)⟩,⟨by repeat (first|(with_reducible first|exact HB.out|apply below_alloc|apply pw_below_drewN|apply below_drew1)|exact HB.out)⟩⟩
             · rw [if_neg c15] at H
               exact absurd H (by simp)
           · rw [if_neg c14] at H
             exact absurd H (by simp)
         · rw [if_neg c12] at H
           have c12b0:decide (x6_1 < (l0.length:Int))=false:=decide_eq_false c12
           clear c12
           by_cases c72:0≤(l1.length:Int)
           · rw [if_pos c72] at H
             have c72b0:decide (0≤(l1.length:Int))=true:=decide_eq_true c72
             have c72b1:decide (0≤l1.length)=true:=decide_eq_true (by omega)
             clear c72
             by_cases c73:(l1.length:Int) < (x5_1.length:Int)
             · rw [if_pos c73] at H
               have c73b0:decide ((l1.length:Int) < (x5_1.length:Int))=true:=decide_eq_true c73
               have c73b1:decide (l1.length < x5_1.length)=true:=decide_eq_true (Int.ofNat_lt.mp c73)
               clear c73
               obtain rfl:=Option.some.inj H
               obtain ⟨Ao74,co74,eo74⟩:=Kd.R_slice HO_5.out
               subst eo74
               have p205:0≤((l1.length:Int):Int):=of_decide_eq_true (by first|(with_reducible assumption)|assumption)
               have q205:(l1.length:Int) < (x5_1.length:Int):=of_decide_eq_true (by first|(with_reducible assumption)|assumption)
               obtain ⟨ad205,e205,hx205_0⟩:=Kd.at_bool (Kd.R_reads' HO_5.out).2.2 (l1.length:Int) p205 q205
               cases e205
               (try simp only [Go.IntWalk.toNatUp] at hx205_0)
               replace p205:=eq_true p205
               replace q205:=eq_true q205
               go_wp2
               go_ret
               exact ⟨by first|rfl|(simp [errW_none,errW_some] <;> rfl)|(simp only [← hji3];first|rfl|(simp [errW_none,errW_some] <;> rfl))|(simp [*,errW_none,errW_some] <;> rfl),by repeat (first|(with_reducible first|exact HB.out|apply below_alloc|apply pw_below_drewN|apply below_drew1)|exact HB.out)⟩
             · rw [if_neg c73] at H
               exact absurd H (by simp)
           · rw [if_neg c72] at H
             exact absurd H (by simp)
     · rw [if_neg c6] at H
       exact absurd H (by simp)
   · rw [if_neg c5] at H
     exact absurd H (by simp)
 · rw [if_neg c4] at H
   exact absurd H (by simp)
end Go.Proofs.YtodhmbnfliajiaaGreatDoor.Q
