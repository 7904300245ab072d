/- Qx9: a text of this claim's proof,as printed or written,without what the claim does not use. -/
import Derived.Test.YtodhmbnfliajiaaGreatDoorQx0
namespace Go.Proofs.YtodhmbnfliajiaaGreatDoor.Q
open Go.RowKit Go.Proofs.YtodhmbnfliajiaaGreatDoorW.PrintWords Go.Proofs.YtodhmbnfliajiaaGreatDoorW.PrintLast Go.Proofs.YtodhmbnfliajiaaGreatDoorW.PrintMore
attribute [local go_sem] max2_int min2_int max_two min_two max_three min_three max_four min_four
set_option linter.unusedVariables false
set_option linter.unusedSimpArgs false
def agoraref01_Letter.f (a0:Int):Option (Bool):=if a0≥0 then (if a0≤1114111 then (if a0 < 55296 then (some true) else (some (decide (a0 > 57343)))) else (some false)) else (some false)
set_option maxHeartbeats 8000000 in
set_option maxRecDepth 100000 in
theorem agoraref01_Letter.calls (a0:Int) (r:Bool) (w:World) (h:agoraref01_Letter.f a0=some r) :
 Calls Tryz.prog 101 #[.int .i64 a0] w fun e w'=>e=.returned (.bool r)∧Drawn0 w w':=by
 have H:(if a0≥0 then (if a0≤1114111 then (if a0 < 55296 then (some true) else (some (decide (a0 > 57343)))) else (some false)) else (some false))=some r:=h;clear h;by_cases c2:a0≥0
 · rw [if_pos c2] at H;have c2b0:decide (0≤a0)=true:=decide_eq_true c2;clear c2;by_cases c3:a0≤1114111
   · rw [if_pos c3] at H;have c3b0:decide (a0≤1114111)=true:=decide_eq_true c3;clear c3;by_cases c4:a0 < 55296
     · rw [if_pos c4] at H;have c4b0:decide (a0 < 55296)=true:=decide_eq_true c4;clear c4;obtain rfl:=Option.some.inj H;go_enter Tryz.func101,Tryz.ntmps101;go_wp2;go_ret;exact ⟨sz_,dz_⟩
     · rw [if_neg c4] at H;have c4b0:decide (a0 < 55296)=false:=decide_eq_false c4;clear c4;obtain rfl:=Option.some.inj H;go_enter Tryz.func101,Tryz.ntmps101;go_wp2;go_ret;exact ⟨sz_,dz_⟩
   · rw [if_neg c3] at H;have c3b0:decide (a0≤1114111)=false:=decide_eq_false c3;clear c3;obtain rfl:=Option.some.inj H;go_enter Tryz.func101,Tryz.ntmps101;go_wp2;go_ret;exact ⟨sz_,dz_⟩
 · rw [if_neg c2] at H;have c2b0:decide (0≤a0)=false:=decide_eq_false c2;clear c2;obtain rfl:=Option.some.inj H;go_enter Tryz.func101,Tryz.ntmps101;go_wp2;go_ret;exact ⟨sz_,dz_⟩
mutual
def agoraref01_Rune.j2:Nat→ByteArray→Int→Int→Int→Int→Option (Int×Int)
 | 0,_,_,_,_,_=>none
 | k+1,x0,x1,x6,x7,x8=>agoraref01_Rune.l0 k x0 x1 x6 x7 x8 1
def agoraref01_Rune.l0:Nat→ByteArray→Int→Int→Int→Int→Int→Option (Int×Int)
 | 0,_,_,_,_,_,_=>none
 | k+1,x0,x1,x6,x7,x8,x9=>if x9≤x7 then (if (wrap64 (x1+x9))≥(x0.size:Int) then (some (0,0)) else (if 0≤(wrap64 (x1+x9)) then (if (wrap64 (x1+x9)) < (x0.size:Int) then (if (Go.bits .and .u8 (bt x0 (wrap64 (x1+x9))) 192)=128 then (agoraref01_Rune.l0 k x0 x1 (Go.bits .or .i64 (wrap64 (x6 * 64)) (wrap64 (Go.bits .and .u8 (bt x0 (wrap64 (x1+x9))) 63))) x7 x8 (wrap64 (x9+1))) else (some (0,0))) else (none)) else (none))) else (if x6 < x8 then (some (0,0)) else ((agoraref01_Letter.f x6).bind fun t134=>(if t134=true then (some (x6,wrap64 (x7+1))) else (some (0,0)))))
def agoraref01_Rune.j0:Nat→ByteArray→Int→Int→Bool→Option (Int×Int)
 | 0,_,_,_,_=>none
 | k+1,x0,x1,x6,x17=>if x17=true then (agoraref01_Rune.j2 k x0 x1 (Go.bits .and .i64 x6 31) 1 128) else (if x6≥224 then (agoraref01_Rune.j1 k x0 x1 x6 (decide (x6 < 240))) else (agoraref01_Rune.j1 k x0 x1 x6 false))
def agoraref01_Rune.j1:Nat→ByteArray→Int→Int→Bool→Option (Int×Int)
 | 0,_,_,_,_=>none
 | k+1,x0,x1,x6,x26=>if x26=true then (agoraref01_Rune.j2 k x0 x1 (Go.bits .and .i64 x6 15) 2 2048) else (if x6≥240 then (if x6 < 248 then (agoraref01_Rune.j2 k x0 x1 (Go.bits .and .i64 x6 7) 3 65536) else (some (0,0))) else (some (0,0)))
end
def agoraref01_Rune.f (k:Nat) (a0:ByteArray) (a1:Int):Option (Int×Int):=if 0≤a1 then (if a1 < (a0.size:Int) then (if (wrap64 (bt a0 a1)) < 128 then (some (wrap64 (bt a0 a1),1)) else (if (wrap64 (bt a0 a1))≥192 then (agoraref01_Rune.j0 k a0 a1 (wrap64 (bt a0 a1)) (decide ((wrap64 (bt a0 a1)) < 224))) else (agoraref01_Rune.j0 k a0 a1 (wrap64 (bt a0 a1)) false))) else (none)) else (none)
theorem agoraref01_Rune.mono_l : ∀ k,(∀ y0 y1 y2 y3 y4,LeO (agoraref01_Rune.j2 k y0 y1 y2 y3 y4) (agoraref01_Rune.j2 (k+1) y0 y1 y2 y3 y4))∧(∀ y0 y1 y2 y3 y4 y5,LeO (agoraref01_Rune.l0 k y0 y1 y2 y3 y4 y5) (agoraref01_Rune.l0 (k+1) y0 y1 y2 y3 y4 y5))∧(∀ y0 y1 y2 y3,LeO (agoraref01_Rune.j0 k y0 y1 y2 y3) (agoraref01_Rune.j0 (k+1) y0 y1 y2 y3))∧(∀ y0 y1 y2 y3,LeO (agoraref01_Rune.j1 k y0 y1 y2 y3) (agoraref01_Rune.j1 (k+1) y0 y1 y2 y3))
 | 0=>⟨fun _ _ _ _ _ r h=>by simp [agoraref01_Rune.j2] at h,fun _ _ _ _ _ _ r h=>by simp [agoraref01_Rune.l0] at h,fun _ _ _ _ r h=>by simp [agoraref01_Rune.j0] at h,fun _ _ _ _ r h=>by simp [agoraref01_Rune.j1] at h⟩
 | k+1=>by
  obtain ⟨ih0,ih1,ih2,ih3⟩:=agoraref01_Rune.mono_l k;refine ⟨?_,?_,?_,?_⟩
  · intro y0 y1 y2 y3 y4;unfold agoraref01_Rune.j2;repeat' first
    | (with_reducible exact ih0 _ _ _ _ _)
    | (with_reducible exact ih1 _ _ _ _ _ _)
    | (with_reducible exact ih2 _ _ _ _)
    | (with_reducible exact ih3 _ _ _ _)
    | (with_reducible exact LeO.refl _)
    | (with_reducible exact LeO.none _)
    | (with_reducible refine LeO.ite ?_ ?_)
    | (with_reducible refine LeO.bind ?_ (fun _=>?_))
    | exact ih0 _ _ _ _ _
    | exact ih1 _ _ _ _ _ _
    | exact ih2 _ _ _ _
    | exact ih3 _ _ _ _
    | exact LeO.none _
    | refine LeO.ite ?_ ?_
    | refine LeO.bind ?_ (fun _=>?_)
  · intro y0 y1 y2 y3 y4 y5;unfold agoraref01_Rune.l0;repeat' first
    | (with_reducible exact ih0 _ _ _ _ _)
    | (with_reducible exact ih1 _ _ _ _ _ _)
    | (with_reducible exact ih2 _ _ _ _)
    | (with_reducible exact ih3 _ _ _ _)
    | (with_reducible exact LeO.refl _)
    | (with_reducible exact LeO.none _)
    | (with_reducible refine LeO.ite ?_ ?_)
    | (with_reducible refine LeO.bind ?_ (fun _=>?_))
    | exact ih0 _ _ _ _ _
    | exact ih1 _ _ _ _ _ _
    | exact ih2 _ _ _ _
    | exact ih3 _ _ _ _
    | exact LeO.none _
    | refine LeO.ite ?_ ?_
    | refine LeO.bind ?_ (fun _=>?_)
  · intro y0 y1 y2 y3;unfold agoraref01_Rune.j0;repeat' first
    | (with_reducible exact ih0 _ _ _ _ _)
    | (with_reducible exact ih1 _ _ _ _ _ _)
    | (with_reducible exact ih2 _ _ _ _)
    | (with_reducible exact ih3 _ _ _ _)
    | (with_reducible exact LeO.refl _)
    | (with_reducible exact LeO.none _)
    | (with_reducible refine LeO.ite ?_ ?_)
    | (with_reducible refine LeO.bind ?_ (fun _=>?_))
    | exact ih0 _ _ _ _ _
    | exact ih1 _ _ _ _ _ _
    | exact ih2 _ _ _ _
    | exact ih3 _ _ _ _
    | exact LeO.none _
    | refine LeO.ite ?_ ?_
    | refine LeO.bind ?_ (fun _=>?_)
  · intro y0 y1 y2 y3;unfold agoraref01_Rune.j1;repeat' first
    | (with_reducible exact ih0 _ _ _ _ _)
    | (with_reducible exact ih1 _ _ _ _ _ _)
    | (with_reducible exact ih2 _ _ _ _)
    | (with_reducible exact ih3 _ _ _ _)
    | (with_reducible exact LeO.refl _)
    | (with_reducible exact LeO.none _)
    | (with_reducible refine LeO.ite ?_ ?_)
    | (with_reducible refine LeO.bind ?_ (fun _=>?_))
    | exact ih0 _ _ _ _ _
    | exact ih1 _ _ _ _ _ _
    | exact ih2 _ _ _ _
    | exact ih3 _ _ _ _
    | exact LeO.none _
    | refine LeO.ite ?_ ?_
    | refine LeO.bind ?_ (fun _=>?_)
theorem agoraref01_Rune.mono : ∀ a0 a1 k,LeO (agoraref01_Rune.f k a0 a1) (agoraref01_Rune.f (k+1) a0 a1):=by
 intro a0 a1 k;obtain ⟨ih0,ih1,ih2,ih3⟩:=agoraref01_Rune.mono_l k;unfold agoraref01_Rune.f
 repeat' first
  | (with_reducible exact ih0 _ _ _ _ _)
  | (with_reducible exact ih1 _ _ _ _ _ _)
  | (with_reducible exact ih2 _ _ _ _)
  | (with_reducible exact ih3 _ _ _ _)
  | (with_reducible exact LeO.refl _)
  | (with_reducible exact LeO.none _)
  | (with_reducible refine LeO.ite ?_ ?_)
  | (with_reducible refine LeO.bind ?_ (fun _=>?_))
  | exact ih0 _ _ _ _ _
  | exact ih1 _ _ _ _ _ _
  | exact ih2 _ _ _ _
  | exact ih3 _ _ _ _
  | exact LeO.none _
  | refine LeO.ite ?_ ?_
  | refine LeO.bind ?_ (fun _=>?_)
set_option maxHeartbeats 8000000 in
set_option maxRecDepth 100000 in
theorem agoraref01_Rune.calls (k:Nat) (a0:ByteArray) (a1:Int) (r1:Int) (r2:Int) (w:World) (h:agoraref01_Rune.f k a0 a1=some (r1,r2)) :
 Calls Tryz.prog 84 #[.string a0,.int .i64 a1] w fun e w'=>e=.returned (.tuple #[.int .i64 r1,.int .i64 r2])∧Drawn0 w w':=by
 have H:(if 0≤a1 then (if a1 < (a0.size:Int) then (if (wrap64 (bt a0 a1)) < 128 then (some (wrap64 (bt a0 a1),1)) else (if (wrap64 (bt a0 a1))≥192 then (agoraref01_Rune.j0 k a0 a1 (wrap64 (bt a0 a1)) (decide ((wrap64 (bt a0 a1)) < 224))) else (agoraref01_Rune.j0 k a0 a1 (wrap64 (bt a0 a1)) false))) else (none)) else (none))=some (r1,r2):=h;clear h;by_cases c3:0≤a1
 · rw [if_pos c3] at H;have c3b0:decide (0≤a1)=true:=decide_eq_true c3;clear c3;by_cases c4:a1 < (a0.size:Int)
   · rw [if_pos c4] at H;have c4b0:decide (a1 < (a0.size:Int))=true:=decide_eq_true c4;clear c4;by_cases c6:(wrap64 (bt a0 a1)) < 128
     · rw [if_pos c6] at H;have c6b0:decide ((wrap64 (bt a0 a1)) < 128)=true:=decide_eq_true c6;clear c6;simp only [Option.some.injEq,Prod.mk.injEq] at H;obtain ⟨rfl,rfl⟩:=H;have p5:0≤(a1:Int):=of_decide_eq_true as_;have q5:a1 < (a0.size:Int):=of_decide_eq_true as_;have hx5:=bt_at a0 a1;replace p5:=eq_true p5;replace q5:=eq_true q5;go_enter Tryz.func84,Tryz.ntmps84;go_wp2;go_ret2;exact ⟨sz_,dz_⟩
     · rw [if_neg c6] at H;have c6b0:decide ((wrap64 (bt a0 a1)) < 128)=false:=decide_eq_false c6;clear c6;have HC7:=Aside0.mk H;clear H;have p5:0≤(a1:Int):=of_decide_eq_true as_;have q5:a1 < (a0.size:Int):=of_decide_eq_true as_;have hx5:=bt_at a0 a1;replace p5:=eq_true p5;replace q5:=eq_true q5;go_enter Tryz.func84,Tryz.ntmps84;go_upto_block 0 with (fail)
       go_cut [6,7,8] (fun v6 v7 v8 wc=>∃ (kq:Nat) (x6_6:Int) (x7_6:Int) (x8_6:Int),v6=.int .i64 x6_6∧v7=.int .i64 x7_6∧v8=.int .i64 x8_6∧Aside0 (agoraref01_Rune.j2 kq a0 a1 x6_6 x7_6 x8_6=some (r1,r2))∧Aside0 (kq≤k)∧Drawn0 w wc)
       case first=>
        have H:=HC7.out;clear HC7;have HC8:=Aside0.mk H;clear H;go_upto_region 6 with (fail)
        go_cut [17] (fun v17 wc=>∃ (kq:Nat) (x17_7:Bool),v17=.bool x17_7∧Aside0 (agoraref01_Rune.j0 kq a0 a1 (wrap64 (bt a0 a1)) x17_7=some (r1,r2))∧Aside0 (kq≤k)∧Drawn0 w wc)
        case first=>
         have H:=HC8.out;clear HC8;by_cases c9:(wrap64 (bt a0 a1))≥192
         · rw [if_pos c9] at H;have c9b0:decide (192≤(wrap64 (bt a0 a1)))=true:=decide_eq_true c9;clear c9;(first|rw [c9b0]|(simp only [i64_w,i32_w];rw [c9b0])|skip);have H':=Aside0.mk H;clear H;go_wp2;go_meet;case rel=>exact ⟨_,(decide ((wrap64 (bt a0 a1)) < 224)),sz_,H',⟨by first|omega|exact Nat.le_refl _⟩,dz_⟩
         · rw [if_neg c9] at H;have c9b0:decide (192≤(wrap64 (bt a0 a1)))=false:=decide_eq_false c9;clear c9;(first|rw [c9b0]|(simp only [i64_w,i32_w];rw [c9b0])|skip);have H':=Aside0.mk H;clear H;go_wp2;go_meet;case rel=>exact ⟨_,(false),sz_,H',⟨by first|omega|exact Nat.le_refl _⟩,dz_⟩
        case rest=>
         clear HC8;(try clear p2);(try clear c3);(try clear c3b0);(try clear c4);(try clear c4b0);(try clear p5);(try clear q5);(try clear hx5);(try clear c6);(try clear c6b0);(try clear p6);(try clear c8);(try clear c9);(try clear c9b0);(try clear p5);(try clear q5);obtain ⟨kq,x17_7,rfl,HA,HJ7,⟨mc7,rfl⟩⟩:=hcut
         cases kq with
         | zero=>exact absurd HA.out (by simp [agoraref01_Rune.j0])
         | succ kj7=>
          have H:=HA.out;clear HA;simp only [agoraref01_Rune.j0] at H;by_cases c10:x17_7=true
          · subst c10;rw [if_pos rfl] at H;have H':=Aside0.mk H;clear H;go_wp2;go_meet;case rel=>exact ⟨_,(Go.bits .and .i64 (wrap64 (bt a0 a1)) 31),(1),(128),sz_,sz_,sz_,H',⟨by have:=HJ7.out;first|omega|exact Nat.le_refl _⟩,dz_⟩
          · replace c10:=Bool.eq_false_iff.mpr c10;subst c10;rw [if_neg nf_] at H;have HC11:=Aside0.mk H;clear H;go_upto_region 10 with (fail)
            go_cut [26] (fun v26 wc=>∃ (kq:Nat) (x26_10:Bool),v26=.bool x26_10∧Aside0 (agoraref01_Rune.j1 kq a0 a1 (wrap64 (bt a0 a1)) x26_10=some (r1,r2))∧Aside0 (kq≤kj7)∧Drawn0 w wc)
            case first=>
             have H:=HC11.out;clear HC11;by_cases c12:(wrap64 (bt a0 a1))≥224
             · rw [if_pos c12] at H;have c12b0:decide (224≤(wrap64 (bt a0 a1)))=true:=decide_eq_true c12;clear c12;(first|rw [c12b0]|(simp only [i64_w,i32_w];rw [c12b0])|skip);have H':=Aside0.mk H;clear H;go_wp2;go_meet;case rel=>exact ⟨_,(decide ((wrap64 (bt a0 a1)) < 240)),sz_,H',⟨by have:=HJ7.out;first|omega|exact Nat.le_refl _⟩,dz_⟩
             · rw [if_neg c12] at H;have c12b0:decide (224≤(wrap64 (bt a0 a1)))=false:=decide_eq_false c12;clear c12;(first|rw [c12b0]|(simp only [i64_w,i32_w];rw [c12b0])|skip);have H':=Aside0.mk H;clear H;go_wp2;go_meet;case rel=>exact ⟨_,(false),sz_,H',⟨by have:=HJ7.out;first|omega|exact Nat.le_refl _⟩,dz_⟩
            case rest=>
             clear HC11;(try clear c1);(try clear p2);(try clear c3);(try clear c3b0);(try clear c4);(try clear c4b0);(try clear p5);(try clear q5);(try clear hx5);(try clear c6);(try clear c6b0);(try clear p6);(try clear c7);(try clear c8);(try clear c9);(try clear c9b0);(try clear c10);(try clear c12);(try clear c12b0);(try clear p2);(try clear p5);(try clear p6);(try clear q5);obtain ⟨kq,x26_10,rfl,HA,HJ10,⟨mc10,rfl⟩⟩:=hcut
             cases kq with
             | zero=>exact absurd HA.out (by simp [agoraref01_Rune.j1])
             | succ kj10=>
              have H:=HA.out;clear HA;simp only [agoraref01_Rune.j1] at H;by_cases c13:x26_10=true
              · subst c13;rw [if_pos rfl] at H;have H':=Aside0.mk H;clear H;go_wp2;go_meet;case rel=>exact ⟨_,(Go.bits .and .i64 (wrap64 (bt a0 a1)) 15),(2),(2048),sz_,sz_,sz_,H',⟨by have:=HJ7.out;have:=HJ10.out;first|omega|exact Nat.le_refl _⟩,dz_⟩
              · replace c13:=Bool.eq_false_iff.mpr c13;subst c13;rw [if_neg nf_] at H;by_cases c14:(wrap64 (bt a0 a1))≥240
                · rw [if_pos c14] at H;have c14b0:decide (240≤(wrap64 (bt a0 a1)))=true:=decide_eq_true c14;clear c14;by_cases c15:(wrap64 (bt a0 a1)) < 248
                  · rw [if_pos c15] at H;have c15b0:decide ((wrap64 (bt a0 a1)) < 248)=true:=decide_eq_true c15;clear c15;have H':=Aside0.mk H;clear H;go_wp2;go_meet;case rel=>exact ⟨_,(Go.bits .and .i64 (wrap64 (bt a0 a1)) 7),(3),(65536),sz_,sz_,sz_,H',⟨by have:=HJ7.out;have:=HJ10.out;first|omega|exact Nat.le_refl _⟩,dz_⟩
                  · rw [if_neg c15] at H;have c15b0:decide ((wrap64 (bt a0 a1)) < 248)=false:=decide_eq_false c15;clear c15;simp only [Option.some.injEq,Prod.mk.injEq] at H;obtain ⟨rfl,rfl⟩:=H;go_wp2;go_ret2;exact ⟨sz_,dz_⟩
                · rw [if_neg c14] at H;have c14b0:decide (240≤(wrap64 (bt a0 a1)))=false:=decide_eq_false c14;clear c14;simp only [Option.some.injEq,Prod.mk.injEq] at H;obtain ⟨rfl,rfl⟩:=H;go_wp2;go_ret2;exact ⟨sz_,dz_⟩
       case rest=>
        clear HC7;(try clear c1);(try clear p2);(try clear c3);(try clear c3b0);(try clear c4);(try clear c4b0);(try clear p5);(try clear q5);(try clear hx5);(try clear c6);(try clear c6b0);(try clear p6);(try clear c7);(try clear c8);(try clear c9);(try clear c9b0);(try clear c10);(try clear c12);(try clear c12b0);(try clear c13);(try clear c14);(try clear c14b0);(try clear c15);(try clear c15b0);(try clear p2);(try clear p5);(try clear p6);(try clear q5);obtain ⟨kq,x6_6,x7_6,x8_6,rfl,rfl,rfl,HA,HJ6,⟨mc6,rfl⟩⟩:=hcut
        cases kq with
        | zero=>exact absurd HA.out (by simp [agoraref01_Rune.j2])
        | succ kj6=>
         have H:=HA.out;clear HA;simp only [agoraref01_Rune.j2] at H;have H':=Aside0.mk H;clear H;go_wp2;go_loopg [6,9] kj6 (fun kq v6 v9 w'=>∃ (x6_2:Int) (x9_2:Int),v6=.int .i64 x6_2∧v9=.int .i64 x9_2∧Aside0 (agoraref01_Rune.l0 kq a0 a1 x6_2 x7_6 x8_6 x9_2=some (r1,r2))∧Aside0 (kq≤kj6)∧Drawn0 w w');case atStart=>exact ⟨(x6_6),(1),sz_,sz_,H',⟨Nat.le_refl _⟩,dz_⟩
         case round=>
          clear H';(try clear c1);(try clear p2);(try clear c3);(try clear c3b0);(try clear c4);(try clear c4b0);(try clear p5);(try clear q5);(try clear hx5);(try clear c6);(try clear c6b0);(try clear p6);(try clear c7);(try clear c8);(try clear c9);(try clear c9b0);(try clear c10);(try clear c12);(try clear c12b0);(try clear c13);(try clear c14);(try clear c14b0);(try clear c15);(try clear c15b0);(try clear p2);(try clear p5);(try clear p6);(try clear q5);obtain ⟨x6_2,x9_2,rfl,rfl,HA,HK2,⟨m2,rfl⟩⟩:=hrel
          cases gk with
          | zero=>exact absurd HA.out (by simp [agoraref01_Rune.l0])
          | succ k2=>
           have H:=HA.out;clear HA;simp only [agoraref01_Rune.l0] at H;by_cases c16:x9_2≤x7_6
           · rw [if_pos c16] at H;have c16b0:decide (x9_2≤x7_6)=true:=decide_eq_true c16;clear c16;by_cases c17:(wrap64 (a1+x9_2))≥(a0.size:Int)
             · rw [if_pos c17] at H;have c17b0:decide ((a0.size:Int)≤(wrap64 (a1+x9_2)))=true:=decide_eq_true c17;clear c17;simp only [Option.some.injEq,Prod.mk.injEq] at H;obtain ⟨rfl,rfl⟩:=H;go_wp2;go_ret2;exact ⟨sz_,dz_⟩
             · rw [if_neg c17] at H;have c17b0:decide ((a0.size:Int)≤(wrap64 (a1+x9_2)))=false:=decide_eq_false c17;clear c17;obtain ⟨ji18,hji18⟩ : ∃ j_:Int,(wrap64 (a1+x9_2))=j_:=⟨_,rfl⟩;replace H:(if 0≤(ji18) then (if (ji18) < (a0.size:Int) then (if (Go.bits .and .u8 (bt a0 (ji18)) 192)=128 then (agoraref01_Rune.l0 k2 a0 a1 (Go.bits .or .i64 (wrap64 (x6_2 * 64)) (wrap64 (Go.bits .and .u8 (bt a0 (ji18)) 63))) x7_6 x8_6 (wrap64 (x9_2+1))) else (some (0,0))) else (none)) else (none))=some (r1,r2):=by first|(rw [hji18] at H;exact H)|(simp only [hji18] at H ⊢;exact H)
               (try rw [hji18] at c17b0);have hji18w:(IntKind.i64.wrap (a1+x9_2))=ji18:=(i64_w _).trans hji18;by_cases c19:0≤(ji18)
               · rw [if_pos c19] at H;have c19b0:decide (0≤(ji18))=true:=decide_eq_true c19;clear c19;by_cases c20:(ji18) < (a0.size:Int)
                 · rw [if_pos c20] at H;have c20b0:decide ((ji18) < (a0.size:Int))=true:=decide_eq_true c20;clear c20;by_cases c22:(Go.bits .and .u8 (bt a0 (ji18)) 192)=128
                   · rw [if_pos c22] at H;have c22b0:((Go.bits .and .u8 (bt a0 (ji18)) 192)==128)=true:=beq_iff_eq.mpr c22;have c22b1:((Go.bits .and .u8 (bt a0 (ji18)) 192) != 128)=false:=bne_eq_false_iff_eq.mpr c22;clear c22;have H':=Aside0.mk H;clear H;have p21:0≤((ji18):Int):=of_decide_eq_true as_;have q21:(ji18) < (a0.size:Int):=of_decide_eq_true as_;have hx21:=bt_at a0 (ji18);replace p21:=eq_true p21;replace q21:=eq_true q21;have p23:0≤((ji18):Int):=of_decide_eq_true as_;have q23:(ji18) < (a0.size:Int):=of_decide_eq_true as_;have hx23:=bt_at a0 (ji18);replace p23:=eq_true p23;replace q23:=eq_true q23;go_wp2;go_roundg k2;case measure=>have:=HJ6.out;have:=HK2.out;omega
                     case rel=>exact ⟨(Go.bits .or .i64 (wrap64 (x6_2 * 64)) (wrap64 (Go.bits .and .u8 (bt a0 (ji18)) 63))),(wrap64 (x9_2+1)),(by first|rfl|(simp;done)|(simp only [← hji18] <;> (first|rfl|simp))|(simp [*];done)),sz_,H',⟨by have:=HJ6.out;have:=HK2.out;omega⟩,dz_⟩
                   · rw [if_neg c22] at H;have c22b0:((Go.bits .and .u8 (bt a0 (ji18)) 192)==128)=false:=beq_eq_false_iff_ne.mpr c22;have c22b1:((Go.bits .and .u8 (bt a0 (ji18)) 192) != 128)=true:=bne_iff_ne.mpr c22;simp only [Option.some.injEq,Prod.mk.injEq] at H;obtain ⟨rfl,rfl⟩:=H;have p21:0≤((ji18):Int):=of_decide_eq_true as_;have q21:(ji18) < (a0.size:Int):=of_decide_eq_true as_;have hx21:=bt_at a0 (ji18);replace p21:=eq_true p21;replace q21:=eq_true q21;go_wp2;go_ret2;exact ⟨by first|rfl|(simp;done)|(simp only [← hji18] <;> (first|rfl|simp))|(simp [*];done),dz_⟩
                 · rw [if_neg c20] at H;exact absurd H (by simp)
               · rw [if_neg c19] at H;exact absurd H (by simp)
           · rw [if_neg c16] at H;have c16b0:decide (x9_2≤x7_6)=false:=decide_eq_false c16;clear c16;by_cases c24:x6_2 < x8_6
             · rw [if_pos c24] at H;have c24b0:decide (x6_2 < x8_6)=true:=decide_eq_true c24;clear c24;simp only [Option.some.injEq,Prod.mk.injEq] at H;obtain ⟨rfl,rfl⟩:=H;go_wp2;go_ret2;exact ⟨sz_,dz_⟩
             · rw [if_neg c24] at H;have c24b0:decide (x6_2 < x8_6)=false:=decide_eq_false c24;clear c24;obtain ⟨t134,A25,H⟩:=bs_ H;(try dsimp only at H);by_cases c26:t134=true
               · subst c26;rw [if_pos rfl] at H;simp only [Option.some.injEq,Prod.mk.injEq] at H;obtain ⟨rfl,rfl⟩:=H;go_wp2_with (first|(go_at_call 101;(with_reducible refine (agoraref01_Letter.calls x6_2 true _ A25.out).mono ?_);rintro e w' ⟨rfl,⟨nd,rfl⟩⟩));go_ret2;exact ⟨sz_,dz_⟩
               · replace c26:=Bool.eq_false_iff.mpr c26;subst c26;rw [if_neg nf_] at H;simp only [Option.some.injEq,Prod.mk.injEq] at H;obtain ⟨rfl,rfl⟩:=H;go_wp2_with (first|(go_at_call 101;(with_reducible refine (agoraref01_Letter.calls x6_2 false _ A25.out).mono ?_);rintro e w' ⟨rfl,⟨nd,rfl⟩⟩));go_ret2;exact ⟨sz_,dz_⟩
   · rw [if_neg c4] at H;exact absurd H (by simp)
 · rw [if_neg c3] at H;exact absurd H (by simp)
def agoraref23_Letters.l0:Nat→ByteArray→List ByteArray→Int→Option (List ByteArray)
 | 0,_,_,_=>none
 | k+1,x0,x3,x4=>if x4 < (x0.size:Int) then ((agoraref01_Rune.f k x0 x4).bind fun bt135=>(if 0≤x4 then (if x4≤(wrap64 (x4+(mx 1 bt135.2))) then (if (wrap64 (x4+(mx 1 bt135.2)))≤(x0.size:Int) then (if x3.length < 8796093022208 then (agoraref23_Letters.l0 k x0 (x3++[x0.extract (x4:Int).toNat ((wrap64 (x4+(mx 1 bt135.2))):Int).toNat]) (wrap64 (x4+(mx 1 bt135.2)))) else (none)) else (none)) else (none)) else (none))) else (some x3)
def agoraref23_Letters.f (k:Nat) (a0:ByteArray):Option (List ByteArray):=agoraref23_Letters.l0 k a0 ([]:List ByteArray) 0
theorem agoraref23_Letters.mono_l : ∀ k,(∀ y0 y1 y2,LeO (agoraref23_Letters.l0 k y0 y1 y2) (agoraref23_Letters.l0 (k+1) y0 y1 y2))
 | 0=>fun _ _ _ r h=>by simp [agoraref23_Letters.l0] at h
 | k+1=>by
  have ih0:=agoraref23_Letters.mono_l k
  · intro y0 y1 y2;unfold agoraref23_Letters.l0;repeat' first
    | (with_reducible exact ih0 _ _ _)
    | (with_reducible exact agoraref01_Rune.mono _ _ _)
    | (with_reducible exact LeO.refl _)
    | (with_reducible exact LeO.none _)
    | (with_reducible refine LeO.ite ?_ ?_)
    | (with_reducible refine LeO.bind ?_ (fun _=>?_))
    | exact ih0 _ _ _
    | exact agoraref01_Rune.mono _ _ _
    | exact LeO.none _
    | refine LeO.ite ?_ ?_
    | refine LeO.bind ?_ (fun _=>?_)
theorem agoraref23_Letters.mono : ∀ a0 k,LeO (agoraref23_Letters.f k a0) (agoraref23_Letters.f (k+1) a0):=by
 intro a0 k;have ih0:=agoraref23_Letters.mono_l k;unfold agoraref23_Letters.f
 repeat' first
  | (with_reducible exact ih0 _ _ _)
  | (with_reducible exact agoraref01_Rune.mono _ _ _)
  | (with_reducible exact LeO.refl _)
  | (with_reducible exact LeO.none _)
  | (with_reducible refine LeO.ite ?_ ?_)
  | (with_reducible refine LeO.bind ?_ (fun _=>?_))
  | exact ih0 _ _ _
  | exact agoraref01_Rune.mono _ _ _
  | exact LeO.none _
  | refine LeO.ite ?_ ?_
  | refine LeO.bind ?_ (fun _=>?_)
set_option maxHeartbeats 8000000 in
set_option maxRecDepth 100000 in
theorem agoraref23_Letters.calls (k:Nat) (a0:ByteArray) (r:List ByteArray) (w:World) (h:agoraref23_Letters.f k a0=some r) :
 Calls Tryz.prog 61 #[.string a0] w fun e w'=>∃ v0_:Value,e=.returned (v0_)∧Kd.R Kd.string 9 w' w.heap.size (fun _=>True) v0_ r∧Below w.heap.size w w':=by
 have HB:=Aside0.mk (Below.refl w.heap.size w);have H:(agoraref23_Letters.l0 k a0 ([]:List ByteArray) 0)=some r:=h;clear h;have H':=Aside0.mk H;clear H;go_enter Tryz.func61,Tryz.ntmps61;go_wp2;go_loopg [3,4] k (fun kq v3 v4 w'=>∃ (x3_1:List ByteArray) (x4_1:Int),v4=.int .i64 x4_1∧Aside0 (agoraref23_Letters.l0 kq a0 x3_1 x4_1=some r)∧Aside0 (kq≤k)∧Aside0 (Kd.R Kd.string 9 w' w.heap.size (fun _=>True) v3 x3_1)∧Aside0 (Below w.heap.size w w'));case atStart=>exact ⟨(([]:List ByteArray)),(0),sz_,H',⟨Nat.le_refl _⟩,⟨by first|exact Kd.R_nil _ _ _ _ _|exact Kd.N_nil _ _ _ _ _|exact Kd.V_nil _ _ _ _ _|exact Kd.Q_nil _ _ _ _ _|exact Kd.S_nil _ _ _ _ _⟩,⟨bz_⟩⟩
 case round=>
  clear H';obtain ⟨x3_1,x4_1,rfl,HA,HK1,HO_3,HB⟩:=hrel
  cases gk with
  | zero=>exact absurd HA.out (by simp [agoraref23_Letters.l0])
  | succ k1=>
   have H:=HA.out;clear HA;simp only [agoraref23_Letters.l0] at H;by_cases c2:x4_1 < (a0.size:Int)
   · rw [if_pos c2] at H;have c2b0:decide (x4_1 < (a0.size:Int))=true:=decide_eq_true c2;clear c2;obtain ⟨⟨t135,t136⟩,A3,H⟩:=bs_ H;(try dsimp only at H);obtain ⟨ji4,hji4⟩ : ∃ j_:Int,(mx 1 t136)=j_:=⟨_,rfl⟩;replace H:(if 0≤x4_1 then (if x4_1≤(wrap64 (x4_1+(ji4))) then (if (wrap64 (x4_1+(ji4)))≤(a0.size:Int) then (if x3_1.length < 8796093022208 then (agoraref23_Letters.l0 k1 a0 (x3_1++[a0.extract (x4_1:Int).toNat ((wrap64 (x4_1+(ji4))):Int).toNat]) (wrap64 (x4_1+(ji4)))) else (none)) else (none)) else (none)) else (none))=some r:=by first|(rw [hji4] at H;exact H)|(simp only [hji4] at H ⊢;exact H)
     (try rw [hji4] at A3);(try (have hji4l:1≤ji4:=by (rw [← hji4];unfold mx;(repeat' split) <;> omega)));(try (have hji4m:0≤ji4:=by omega));(try (have hji4t : ∀ n_:Int,ji4.tdiv n_=ji4 / n_:=fun n_=>Int.tdiv_eq_ediv_of_nonneg hji4l));(try (have hji4u : ∀ n_:Int,ji4.tmod n_=ji4 % n_:=fun n_=>Int.tmod_eq_emod_of_nonneg hji4l));have hji4_:(if 1 < t136 then t136 else 1)=ji4:=hji4;by_cases c5:0≤x4_1
     · rw [if_pos c5] at H;have c5b0:=eq_true c5;have c5b1:decide (0≤x4_1)=true:=decide_eq_true c5;clear c5;by_cases c6:x4_1≤(wrap64 (x4_1+(ji4)))
       · rw [if_pos c6] at H;have c6b0:=eq_true c6;have c6b1:decide (x4_1≤(wrap64 (x4_1+(ji4))))=true:=decide_eq_true c6;by_cases c7:(wrap64 (x4_1+(ji4)))≤(a0.size:Int)
         · rw [if_pos c7] at H;have c7b0:=eq_true c7;have c7b1:decide ((wrap64 (x4_1+(ji4)))≤(a0.size:Int))=true:=decide_eq_true c7;by_cases c8:x3_1.length < 8796093022208
           · rw [if_pos c8] at H;have LMc8:=Aside0.mk c8;clear c8;obtain ⟨y137,hy137⟩ : ∃ y_:List ByteArray,y_=(x3_1++[a0.extract (x4_1:Int).toNat ((wrap64 (x4_1+(ji4))):Int).toNat]):=⟨_,rfl⟩;(try rw [← hy137] at H);(try rw [Option.bind_some] at H);have Ny137:=Aside0.mk hy137;clear hy137;have H':=Aside0.mk H;clear H;go_wp2_with (first|((with_reducible refine gate_callee (f:=84) rfl ?_);refine goesL_ (some 14) rfl rfl Tryz.func84 kr_ rfl #[.string a0,.int .i64 x4_1] rfl ag_ ?_;(with_reducible refine (agoraref01_Rune.calls k1 a0 x4_1 t135 t136 _ A3.out).mono ?_);rintro e w' ⟨rfl,⟨nd,rfl⟩⟩;refine ⟨_,rfl,?_⟩)|((with_reducible refine gate_builtin (b:=.append) (xs:=#[.tmp 19,.tmp 26]) rfl ?_);at_builtin;refine Kd.R_append Kd.string (w0:=w) w.heap.size rfl (.tmp 19) (.tmp 26) 24 9 (.string ⟨#[]⟩) 16 rfl Tryz.underlying24 info9 rfl (by decide) (by omega) u3 x3_1 (a0.extract (x4_1:Int).toNat ((wrap64 (x4_1+(ji4))):Int).toNat) [.string (a0.extract (x4_1:Int).toNat ((wrap64 (x4_1+(ji4))):Int).toNat)] (fun _=>True) (fun _=>False) rfl rfl ?aP (fun _ hk=>hk.elim) ?aF ?aO ?aB ?aS ?aL ?_;(case aP=>exact rfl);(case aB=>exact bz_);(case aF=>exact (fun _ _=>trivial));(case aO=>exact (rz_ HO_3));(case aS=>exact (below_size bz_));(case aL=>have:=LMc8.out;omega);intro v138 w9 ho hb hg hat;rw [← Ny137.out] at ho;have n0_:=Aside0.mk (hb);have n1_:=Aside0.mk (ho);clear HB;clear HO_3;have HB:=n0_;have HO139:=n1_;clear n0_ n1_;clear ho hb hg hat));go_roundg k1;case measure=>have:=HK1.out;omega
             case rel=>exact ⟨(y137),(wrap64 (x4_1+(ji4))),(by first|rfl|(simp;done)|(simp only [← hji4] <;> (first|rfl|simp))|(simp [*];done)),H',⟨by have:=HK1.out;omega⟩,⟨by (with_reducible repeat (first|apply Kd.R_alloc|apply Kd.R_drewN|apply Kd.R_drew));exact HO139.out⟩,⟨bz_⟩⟩
           · rw [if_neg c8] at H;exact absurd H (by simp)
         · rw [if_neg c7] at H;exact absurd H (by simp)
       · rw [if_neg c6] at H;exact absurd H (by simp)
     · rw [if_neg c5] at H;exact absurd H (by simp)
   · rw [if_neg c2] at H;have c2b0:decide (x4_1 < (a0.size:Int))=false:=decide_eq_false c2;clear c2;obtain rfl:=Option.some.inj H;go_wp2;go_ret;exact ⟨_,by first|rfl|(simp [errW_none,errW_some] <;> rfl)|(simp [*,errW_none,errW_some] <;> rfl),by (with_reducible repeat (first|apply Kd.R_alloc|apply Kd.R_drewN|apply Kd.R_drew));exact HO_3.out,bz_⟩
def agoraref23_Low.l0:Nat→ByteArray→ByteArray→Int→Option (ByteArray)
 | 0,_,_,_=>none
 | k+1,x0,x3,x4=>if x4 < (x0.size:Int) then (if 0≤x4 then (if (bt x0 x4)≥65 then (if (bt x0 x4)≤90 then ((some (([((((bt x0 x4) - 65) % 256)+97) % 256]:List Int):List Int)).bind fun y140=>(if x3.size+(strOfNums y140).size≤9223372036854775807 then (agoraref23_Low.l0 k x0 (x3++(strOfNums y140)) (wrap64 (x4+1))) else (none))) else ((some (([bt x0 x4]:List Int):List Int)).bind fun y143=>(if x3.size+(strOfNums y143).size≤9223372036854775807 then (agoraref23_Low.l0 k x0 (x3++(strOfNums y143)) (wrap64 (x4+1))) else (none)))) else ((some (([bt x0 x4]:List Int):List Int)).bind fun y146=>(if x3.size+(strOfNums y146).size≤9223372036854775807 then (agoraref23_Low.l0 k x0 (x3++(strOfNums y146)) (wrap64 (x4+1))) else (none)))) else (none)) else (some x3)
def agoraref23_Low.f (k:Nat) (a0:ByteArray):Option (ByteArray):=agoraref23_Low.l0 k a0 (⟨#[]⟩:ByteArray) 0
set_option maxHeartbeats 8000000 in
set_option maxRecDepth 100000 in
theorem agoraref23_Low.calls (k:Nat) (a0:ByteArray) (r:ByteArray) (w:World) (h:agoraref23_Low.f k a0=some r) :
 Calls Tryz.prog 62 #[.string a0] w fun e w'=>e=.returned (.string r)∧Below w.heap.size w w':=by
 have HB:=Aside0.mk (Below.refl w.heap.size w);have H:(agoraref23_Low.l0 k a0 (⟨#[]⟩:ByteArray) 0)=some r:=h;clear h;have H':=Aside0.mk H;clear H;go_enter Tryz.func62,Tryz.ntmps62;go_wp2;go_loopg [3,4] k (fun kq v3 v4 w'=>∃ (x3_1:ByteArray) (x4_1:Int),v3=.string x3_1∧v4=.int .i64 x4_1∧Aside0 (agoraref23_Low.l0 kq a0 x3_1 x4_1=some r)∧Aside0 (kq≤k)∧Aside0 (Below w.heap.size w w'));case atStart=>exact ⟨((⟨#[]⟩:ByteArray)),(0),sz_,sz_,H',⟨Nat.le_refl _⟩,⟨bz_⟩⟩
 case round=>
  clear H';obtain ⟨x3_1,x4_1,rfl,rfl,HA,HK1,HB⟩:=hrel
  cases gk with
  | zero=>exact absurd HA.out (by simp [agoraref23_Low.l0])
  | succ k1=>
   have H:=HA.out;clear HA;simp only [agoraref23_Low.l0] at H;by_cases c2:x4_1 < (a0.size:Int)
   · rw [if_pos c2] at H;have c2b0:decide (x4_1 < (a0.size:Int))=true:=decide_eq_true c2;clear c2;by_cases c3:0≤x4_1
     · rw [if_pos c3] at H;have c3b0:decide (0≤x4_1)=true:=decide_eq_true c3;clear c3;by_cases c5:(bt a0 x4_1)≥65
       · rw [if_pos c5] at H;have c5b0:decide (65≤(bt a0 x4_1))=true:=decide_eq_true c5;clear c5;by_cases c6:(bt a0 x4_1)≤90
         · rw [if_pos c6] at H;have c6b0:decide ((bt a0 x4_1)≤90)=true:=decide_eq_true c6;clear c6;obtain ⟨y140,hy140⟩ : ∃ y_:List Int,y_=(([((((bt a0 x4_1) - 65) % 256)+97) % 256]:List Int)):=⟨_,rfl⟩;(try rw [← hy140] at H);(try rw [Option.bind_some] at H);have Ny140:=Aside0.mk hy140;clear hy140;by_cases c7:x3_1.size+(strOfNums y140).size≤9223372036854775807
           · rw [if_pos c7] at H;have c7b0:=eq_true c7;have c7b1:decide (x3_1.size+(strOfNums y140).size≤9223372036854775807)=true:=decide_eq_true c7;try have c7b2:(9223372036854775807 < x3_1.size+(strOfNums y140).size)=False:=eq_false (Nat.not_lt.2 c7)
             have H':=Aside0.mk H;clear H;have p4:0≤(x4_1:Int):=of_decide_eq_true as_;have q4:x4_1 < (a0.size:Int):=of_decide_eq_true as_;have hx4:=bt_at a0 x4_1;replace p4:=eq_true p4;replace q4:=eq_true q4;go_wp2_with (first|((with_reducible refine gate_dst (N:=26) rfl ?_);refine Kd.R_lit (Kd.int .u8) _ 5 ?hg (N:=26) ?hd (xs:=([((((bt a0 x4_1) - 65) % 256)+97) % 256]:List Int)) (inner:=[.int .u8 (((((bt a0 x4_1) - 65) % 256)+97) % 256)]) (ok:=fun _=>True) (okp:=fun _=>True) ?hr ?hp (fun _ hk=>hk) trivial (Below.refl _ _) (Nat.le_refl _) (by simp) ?_;(case hd=>rfl);(case hg=>rfl);(case hr=>exact hr_);(case hp=>exact (Reps.one (show Kd.M (Kd.int .u8) _ _ _ (((((bt a0 x4_1) - 65) % 256)+97) % 256) [.int .u8 (((((bt a0 x4_1) - 65) % 256)+97) % 256)] from rfl) (Reps.none _ _)));intro v141 w8 ho9 hb hg_ hnew_;clear hg_ hnew_;(first|rw [← Ny140.out] at ho9|(simp only [Int.reduceToNat] at ho9;rw [← Ny140.out] at ho9));have n0_:=Aside0.mk (Kd.R_lower ho9 (below_size bz_));have n1_:=Aside0.mk (below_step bz_ hb);clear HB;have HO142:=n0_;have HB:=n1_;clear n0_ n1_;clear hb ho9;have hcv10:=own_string (P:=Tryz.prog) Tryz.underlying106 Tryz.underlying5 Tryz.underlying9 (Kd.own_of_R HO142.out)));go_roundg k1;case measure=>have:=HK1.out;omega
             case rel=>exact ⟨(x3_1++(strOfNums y140)),(wrap64 (x4_1+1)),sz_,sz_,H',⟨by have:=HK1.out;omega⟩,⟨bz_⟩⟩
           · rw [if_neg c7] at H;exact absurd H (by simp)
         · rw [if_neg c6] at H;have c6b0:decide ((bt a0 x4_1)≤90)=false:=decide_eq_false c6;clear c6;obtain ⟨y143,hy143⟩ : ∃ y_:List Int,y_=(([bt a0 x4_1]:List Int)):=⟨_,rfl⟩;(try rw [← hy143] at H);(try rw [Option.bind_some] at H);have Ny143:=Aside0.mk hy143;clear hy143;by_cases c11:x3_1.size+(strOfNums y143).size≤9223372036854775807
           · rw [if_pos c11] at H;have c11b0:=eq_true c11;have c11b1:decide (x3_1.size+(strOfNums y143).size≤9223372036854775807)=true:=decide_eq_true c11;try have c11b2:(9223372036854775807 < x3_1.size+(strOfNums y143).size)=False:=eq_false (Nat.not_lt.2 c11)
             have H':=Aside0.mk H;clear H;have p4:0≤(x4_1:Int):=of_decide_eq_true as_;have q4:x4_1 < (a0.size:Int):=of_decide_eq_true as_;have hx4:=bt_at a0 x4_1;replace p4:=eq_true p4;replace q4:=eq_true q4;go_wp2_with (first|((with_reducible refine gate_dst (N:=26) rfl ?_);refine Kd.R_lit (Kd.int .u8) _ 5 ?hg (N:=26) ?hd (xs:=([bt a0 x4_1]:List Int)) (inner:=[.int .u8 (bt a0 x4_1)]) (ok:=fun _=>True) (okp:=fun _=>True) ?hr ?hp (fun _ hk=>hk) trivial (Below.refl _ _) (Nat.le_refl _) (by simp) ?_;(case hd=>rfl);(case hg=>rfl);(case hr=>exact hr_);(case hp=>exact (Reps.one (show Kd.M (Kd.int .u8) _ _ _ (bt a0 x4_1) [.int .u8 (bt a0 x4_1)] from rfl) (Reps.none _ _)));intro v144 w12 ho13 hb hg_ hnew_;clear hg_ hnew_;(first|rw [← Ny143.out] at ho13|(simp only [Int.reduceToNat] at ho13;rw [← Ny143.out] at ho13));have n0_:=Aside0.mk (Kd.R_lower ho13 (below_size bz_));have n1_:=Aside0.mk (below_step bz_ hb);clear HB;have HO145:=n0_;have HB:=n1_;clear n0_ n1_;clear hb ho13;have hcv14:=own_string (P:=Tryz.prog) Tryz.underlying106 Tryz.underlying5 Tryz.underlying9 (Kd.own_of_R HO145.out)));go_roundg k1;case measure=>have:=HK1.out;omega
             case rel=>exact ⟨(x3_1++(strOfNums y143)),(wrap64 (x4_1+1)),sz_,sz_,H',⟨by have:=HK1.out;omega⟩,⟨bz_⟩⟩
           · rw [if_neg c11] at H;exact absurd H (by simp)
       · rw [if_neg c5] at H;have c5b0:decide (65≤(bt a0 x4_1))=false:=decide_eq_false c5;clear c5;obtain ⟨y146,hy146⟩ : ∃ y_:List Int,y_=(([bt a0 x4_1]:List Int)):=⟨_,rfl⟩;(try rw [← hy146] at H);(try rw [Option.bind_some] at H);have Ny146:=Aside0.mk hy146;clear hy146;by_cases c15:x3_1.size+(strOfNums y146).size≤9223372036854775807
         · rw [if_pos c15] at H;have c15b0:=eq_true c15;have c15b1:decide (x3_1.size+(strOfNums y146).size≤9223372036854775807)=true:=decide_eq_true c15;try have c15b2:(9223372036854775807 < x3_1.size+(strOfNums y146).size)=False:=eq_false (Nat.not_lt.2 c15)
           have H':=Aside0.mk H;clear H;have p4:0≤(x4_1:Int):=of_decide_eq_true as_;have q4:x4_1 < (a0.size:Int):=of_decide_eq_true as_;have hx4:=bt_at a0 x4_1;replace p4:=eq_true p4;replace q4:=eq_true q4;go_wp2_with (first|((with_reducible refine gate_dst (N:=26) rfl ?_);refine Kd.R_lit (Kd.int .u8) _ 5 ?hg (N:=26) ?hd (xs:=([bt a0 x4_1]:List Int)) (inner:=[.int .u8 (bt a0 x4_1)]) (ok:=fun _=>True) (okp:=fun _=>True) ?hr ?hp (fun _ hk=>hk) trivial (Below.refl _ _) (Nat.le_refl _) (by simp) ?_;(case hd=>rfl);(case hg=>rfl);(case hr=>exact hr_);(case hp=>exact (Reps.one (show Kd.M (Kd.int .u8) _ _ _ (bt a0 x4_1) [.int .u8 (bt a0 x4_1)] from rfl) (Reps.none _ _)));intro v147 w16 ho17 hb hg_ hnew_;clear hg_ hnew_;(first|rw [← Ny146.out] at ho17|(simp only [Int.reduceToNat] at ho17;rw [← Ny146.out] at ho17));have n0_:=Aside0.mk (Kd.R_lower ho17 (below_size bz_));have n1_:=Aside0.mk (below_step bz_ hb);clear HB;have HO148:=n0_;have HB:=n1_;clear n0_ n1_;clear hb ho17;have hcv18:=own_string (P:=Tryz.prog) Tryz.underlying106 Tryz.underlying5 Tryz.underlying9 (Kd.own_of_R HO148.out)));go_roundg k1;case measure=>have:=HK1.out;omega
           case rel=>exact ⟨(x3_1++(strOfNums y146)),(wrap64 (x4_1+1)),sz_,sz_,H',⟨by have:=HK1.out;omega⟩,⟨bz_⟩⟩
         · rw [if_neg c15] at H;exact absurd H (by simp)
     · rw [if_neg c3] at H;exact absurd H (by simp)
   · rw [if_neg c2] at H;have c2b0:decide (x4_1 < (a0.size:Int))=false:=decide_eq_false c2;clear c2;obtain rfl:=Option.some.inj H;go_wp2;go_ret;exact ⟨by first|rfl|(simp [errW_none,errW_some] <;> rfl)|(simp [*,errW_none,errW_some] <;> rfl),bz_⟩
end Go.Proofs.YtodhmbnfliajiaaGreatDoor.Q
