/- Qx6: a text of this claim's proof,as printed or written,without what the claim does not use. -/
import Derived.Test.YtodhmbnfliajiaaGreatDoorJ9
namespace Go.Proofs.YtodhmbnfliajiaaGreatDoor.Q
open Go.RowKit Go.Proofs.YtodhmbnfliajiaaGreatDoorW.PrintWords Go.Proofs.YtodhmbnfliajiaaGreatDoorW.PrintLast Go.Proofs.YtodhmbnfliajiaaGreatDoorW.PrintMore
attribute [local go_sem] max2_int min2_int max_two min_two max_three min_three max_four min_four
set_option linter.unusedVariables false
set_option linter.unusedSimpArgs false
attribute [local go_sem high] eqA80
mutual
def glob_match.l0:Nat→List (S80)→List (S80)→Int→Int→Int→Int→Option (Bool)
 | 0,_,_,_,_,_,_=>none
 | k+1,x0,x1,x5,x6,x7,x8=>if x6 < (x1.length:Int) then (if x5 < (x0.length:Int) then (if 0≤x5 then ((glob_letter_is.f ((rd_T80 x0 x5).f0) ((rd_T80 x0 x5).f1) 42).bind fun t112=>(glob_match.j1 k x0 x1 x5 x6 x7 x8 t112)) else (none)) else (glob_match.j1 k x0 x1 x5 x6 x7 x8 false)) else (glob_match.l1 k x0 x5)
def glob_match.j1:Nat→List (S80)→List (S80)→Int→Int→Int→Int→Bool→Option (Bool)
 | 0,_,_,_,_,_,_,_=>none
 | k+1,x0,x1,x5,x6,x7,x8,x13=>if x13=true then (glob_match.l0 k x0 x1 (wrap64 (x5+1)) x6 x5 x6) else (if x5 < (x0.length:Int) then (if 0≤x5 then ((glob_letter_is.f ((rd_T80 x0 x5).f0) ((rd_T80 x0 x5).f1) 63).bind fun t114=>(if t114=true then (glob_match.j2 k x0 x1 x5 x6 x7 x8 true) else (if 0≤x6 then (if x6 < (x1.length:Int) then (glob_match.j2 k x0 x1 x5 x6 x7 x8 (((rd_T80 x0 x5).f0)==((rd_T80 x1 x6).f0) && (((rd_T80 x0 x5).f1)==((rd_T80 x1 x6).f1)))) else (none)) else (none)))) else (none)) else (glob_match.j2 k x0 x1 x5 x6 x7 x8 false))
def glob_match.j2:Nat→List (S80)→List (S80)→Int→Int→Int→Int→Bool→Option (Bool)
 | 0,_,_,_,_,_,_,_=>none
 | k+1,x0,x1,x5,x6,x7,x8,x29=>if x29=true then (glob_match.l0 k x0 x1 (wrap64 (x5+1)) (wrap64 (x6+1)) x7 x8) else (if x7 < 0 then (some false) else (glob_match.l0 k x0 x1 (wrap64 (x7+1)) (wrap64 (x8+1)) x7 (wrap64 (x8+1))))
def glob_match.l1:Nat→List (S80)→Int→Option (Bool)
 | 0,_,_=>none
 | k+1,x0,x5=>if x5 < (x0.length:Int) then (if 0≤x5 then ((glob_letter_is.f ((rd_T80 x0 x5).f0) ((rd_T80 x0 x5).f1) 42).bind fun t118=>(if t118=true then (glob_match.l1 k x0 (wrap64 (x5+1))) else (some (x5==(x0.length:Int))))) else (none)) else (some (x5==(x0.length:Int)))
end
def glob_match.f (k:Nat) (l0:List (S80)) (l1:List (S80)):Option (Bool):=glob_match.l0 k l0 l1 0 0 (-1) 0
def glob_match.T7:Bool×List (List Nat×List Nat):=(true,[([],[]),([],[]),([1],[1]),([0,2],[0,2]),([3],[3]),([4],[4]),([4],[4]),([5,6,4],[4,5,6]),([7,4],[4,7]),([8,4,4],[4,8]),([9,9,4],[4,9]),([10],[10]),([10],[10]),([11,12,10],[10,11,12]),([13,10],[10,13]),([10],[10]),([10],[10]),([15,16,10],[10,15,16]),([17,10],[10,17]),([14,18,10],[10,14,18]),([10,19,4],[4,10,19]),([4,20],[4,20]),([21,10],[21])])
def glob_match.B7:List Nat:=[0,0,2,7,15,31,31,127,255,511,1023,2047,2047,8191,16383,2047,2047,100351,231423,524287,1048575,2097151,4194303]
theorem glob_match.tab7:rtab .any (opsOf Tryz.f55 7)=glob_match.T7:=kr_
theorem glob_match.bits7:waitsOk glob_match.T7.2 glob_match.B7=true:=kr_
set_option maxHeartbeats 8000000 in
set_option maxRecDepth 100000 in
theorem glob_match.calls (k:Nat) (A0:Option Addr) (c0:Nat) (l0:List (S80)) (A1:Option Addr) (c1:Nat) (l1:List (S80)) (r:Bool) (w:World) (hr0:Kd.C k80 w A0 l0.length l0) (hc0:l0.length≤c0) (hr1:Kd.C k80 w A1 l1.length l1) (hc1:l1.length≤c1) (h:glob_match.f k l0 l1=some r) :
 Calls Tryz.prog 55 #[.slice A0 l0.length c0,.slice A1 l1.length c1] w fun e w'=>e=.returned (.bool r)∧Below w.heap.size w w':=by
 have hu80:=Tryz.underlying80;have HR0:=Aside0.mk hr0;have HC0:=Aside0.mk hc0;clear hr0 hc0;have HR1:=Aside0.mk hr1;have HC1:=Aside0.mk hc1;clear hr1 hc1;have HB:=Aside0.mk (Below.refl w.heap.size w);have H:(glob_match.l0 k l0 l1 0 0 (-1) 0)=some r:=h;clear h;have H':=Aside0.mk H;clear H;go_enter Tryz.func55,Tryz.ntmps55;go_wp2;(try go_step3);(try go_wp2);(try go_step3);go_wp2
 go_loopg [5,6,7,8] k (fun kq v5 v6 v7 v8 w'=>∃ (x5_1:Int) (x6_1:Int) (x7_1:Int) (x8_1:Int),v5=.int .i64 x5_1∧v6=.int .i64 x6_1∧v7=.int .i64 x7_1∧v8=.int .i64 x8_1∧Aside0 (glob_match.l0 kq l0 l1 x5_1 x6_1 x7_1 x8_1=some r)∧Aside0 (kq≤k)∧Aside0 (Below w.heap.size w w'));case atStart=>exact ⟨(0),(0),((-1)),(0),sz_,sz_,sz_,sz_,H',⟨Nat.le_refl _⟩,⟨bz_⟩⟩
 case round=>
  clear H';try clear c1
  try clear p2
  obtain ⟨x5_1,x6_1,x7_1,x8_1,rfl,rfl,rfl,rfl,HA,HK1,HB⟩:=hrel
  cases gk with
  | zero=>exact absurd HA.out (by simp [glob_match.l0])
  | succ k1=>
   have H:=HA.out;clear HA;simp only [glob_match.l0] at H;by_cases c3:x6_1 < (l1.length:Int)
   · rw [if_pos c3] at H;have c3b0:decide (x6_1 < (l1.length:Int))=true:=decide_eq_true c3;clear c3;have HC4:=Aside0.mk H;clear H;go_upto_region 4 with (fail)
     go_cut [13] (fun v13 wc=>∃ (kq:Nat) (x13_3:Bool),v13=.bool x13_3∧Aside0 (glob_match.j1 kq l0 l1 x5_1 x6_1 x7_1 x8_1 x13_3=some r)∧Aside0 (kq≤k1)∧Aside0 (Below w.heap.size w wc))
     case first=>
      have H:=HC4.out;clear HC4;by_cases c5:x5_1 < (l0.length:Int)
      · rw [if_pos c5] at H;have c5b0:decide (x5_1 < (l0.length:Int))=true:=decide_eq_true c5;clear c5;(first|rw [c5b0]|(simp only [i64_w,i32_w];rw [c5b0])|skip);by_cases c6:0≤x5_1
        · rw [if_pos c6] at H;have c6b0:decide (0≤x5_1)=true:=decide_eq_true c6;clear c6;obtain ⟨t112,A7,H⟩:=bs_ H;(try dsimp only at H);have H':=Aside0.mk H;clear H;have p111:0≤(x5_1:Int):=of_decide_eq_true as_;have q111:x5_1 < (l0.length:Int):=of_decide_eq_true as_;obtain ⟨ad111,e111,hx111_0,hx111_1⟩:=at_T80 HR0.out x5_1 p111 q111;cases e111;replace hx111_0:=(HB.out.cell (World.block_lt_of_cell? w _ hx111_0)).trans hx111_0;replace hx111_1:=(HB.out.cell (World.block_lt_of_cell? w _ hx111_1)).trans hx111_1;replace p111:=eq_true p111;replace q111:=eq_true q111;go_wp2_with (first|(go_at_call 80;(with_reducible refine (glob_letter_is.calls ((rd_T80 l0 x5_1).f0) ((rd_T80 l0 x5_1).f1) 42 t112 _ A7.out).mono ?_);rintro e w8 ⟨rfl,hb⟩;have n0_:=Aside0.mk (below_step bz_ hb);clear HB;have HB:=n0_;clear n0_;(try clear hb);(try clear hb2);(try clear hk);(try clear hi)));go_meet;case rel=>exact ⟨_,(t112),sz_,H',⟨by have:=HK1.out;first|omega|exact Nat.le_refl _⟩,⟨bz_⟩⟩
        · rw [if_neg c6] at H;exact absurd H (by simp)
      · rw [if_neg c5] at H;have c5b0:decide (x5_1 < (l0.length:Int))=false:=decide_eq_false c5;clear c5;(first|rw [c5b0]|(simp only [i64_w,i32_w];rw [c5b0])|skip);have H':=Aside0.mk H;clear H;go_wp2;go_meet;case rel=>exact ⟨_,(false),sz_,H',⟨by have:=HK1.out;first|omega|exact Nat.le_refl _⟩,⟨bz_⟩⟩
     case rest=>
      clear HC4;(try clear c1);(try clear p1);(try clear q1);(try clear hx1);(try clear p2);(try clear c3);(try clear c3b0);(try clear c5);(try clear c5b0);(try clear c6);(try clear c6b0);(try clear hx111_0);(try clear hx111_1);(try clear p111);(try clear p2);(try clear q111);obtain ⟨kq,x13_3,rfl,HA,HJ3,HB⟩:=hcut
      cases kq with
      | zero=>exact absurd HA.out (by simp [glob_match.j1])
      | succ kj3=>
       have H:=HA.out;clear HA;simp only [glob_match.j1] at H;by_cases c9:x13_3=true
       · subst c9;rw [if_pos rfl] at H;have H':=Aside0.mk H;clear H;go_wp2;go_roundg kj3;case measure=>have:=HK1.out;have:=HJ3.out;omega
         case rel=>exact ⟨(wrap64 (x5_1+1)),(x6_1),(x5_1),(x6_1),sz_,sz_,sz_,sz_,H',⟨by have:=HK1.out;have:=HJ3.out;omega⟩,⟨bz_⟩⟩
       · replace c9:=Bool.eq_false_iff.mpr c9;subst c9;rw [if_neg nf_] at H;have HC10:=Aside0.mk H;clear H;go_upto_region 7 with (fail)
         go_cut [29] (fun v29 wc=>∃ (kq:Nat) (x29_9:Bool),v29=.bool x29_9∧Aside0 (glob_match.j2 kq l0 l1 x5_1 x6_1 x7_1 x8_1 x29_9=some r)∧Aside0 (kq≤kj3)∧Aside0 (Below w.heap.size w wc))
         case first=>
          have H:=HC10.out;clear HC10;by_cases c11:x5_1 < (l0.length:Int)
          · rw [if_pos c11] at H;have c11b0:decide (x5_1 < (l0.length:Int))=true:=decide_eq_true c11;clear c11;(first|rw [c11b0]|(simp only [i64_w,i32_w];rw [c11b0])|skip);by_cases c12:0≤x5_1
            · rw [if_pos c12] at H;have c12b0:decide (0≤x5_1)=true:=decide_eq_true c12;clear c12;obtain ⟨t114,A13,H⟩:=bs_ H;(try dsimp only at H);by_cases c14:t114=true
              · subst c14;rw [if_pos rfl] at H;have H':=Aside0.mk H;clear H;try go_wp2
                have n0_:=Aside0.mk (below_drew1 HB.out);clear HB;have HB:=n0_;clear n0_;have p113:0≤(x5_1:Int):=of_decide_eq_true as_;have q113:x5_1 < (l0.length:Int):=of_decide_eq_true as_;obtain ⟨ad113,e113,hx113_0,hx113_1⟩:=at_T80 HR0.out x5_1 p113 q113;have hw113_1:=hx113_1;have hw113_0:=hx113_0;cases e113;replace hx113_0:=(HB.out.cell (World.block_lt_of_cell? w _ hx113_0)).trans hx113_0;replace hx113_1:=(HB.out.cell (World.block_lt_of_cell? w _ hx113_1)).trans hx113_1;replace p113:=eq_true p113;replace q113:=eq_true q113;refine start_ (n:=23) (S:=fun w'=>w'.cell? (ad113.add ((x5_1).toNat * 2))=some (.int .i32 ((rd_T80 l0 x5_1).f0))∧w'.cell? ⟨(ad113.add ((x5_1).toNat * 2)).block,(ad113.add ((x5_1).toNat * 2)).off+1,none⟩=some (.bool ((rd_T80 l0 x5_1).f1))) (ds:=[]) #[false,false,false,false,false,false,false,false,false,false,false,false,false,false,false,false,false,false,false,false,false,false,false] kr_ rfl rfl ⟨((HB.out.cell (World.block_lt_of_cell? w _ hw113_0)).trans hw113_0),((HB.out.cell (World.block_lt_of_cell? w _ hw113_1)).trans hw113_1)⟩ (fun hHeld=>?_);refine with_tabW glob_match.tab7 glob_match.bits7 (fun HT_ HW_=>?_)
                generalize wc.drew=w15 at HB hx113_0 hx113_1 hHeld ⊢;refine pure_ (i:=0) (N:=some 30) (v:=?_) (a':=?_) #[true,false,false,false,false,false,false,false,false,false,false,false,false,false,false,false,false,false,false,false,false,false,false] rfl rfl (any_of HT_.out kr_) (fun _ _ _ h=>h) (Or.inl ⟨by rfl,?_⟩) ?_ ?_;rotate_left
                · intro w';go_simp;with_reducible rfl
                rotate_left
                · exact pz_
                refine pure_ (i:=1) (N:=some 31) (v:=?_) (a':=?_) #[true,true,false,false,false,false,false,false,false,false,false,false,false,false,false,false,false,false,false,false,false,false,false] rfl rfl (any_of HT_.out kr_) (fun _ _ _ h=>h) (Or.inl ⟨by rfl,?_⟩) ?_ ?_;rotate_left
                · intro w';go_simp;with_reducible rfl
                rotate_left
                · exact pz_
                refine pure_ (i:=2) (N:=some 32) (v:=?_) (a':=?_) #[true,true,true,false,false,false,false,false,false,false,false,false,false,false,false,false,false,false,false,false,false,false,false] rfl rfl (any_of HT_.out kr_) (fun _ _ _ h=>h) (Or.inl ⟨by rfl,?_⟩) ?_ ?_;rotate_left
                · intro w';go_simp;with_reducible rfl
                rotate_left
                · exact pz_
                refine pure_ (i:=3) (N:=some 33) (v:=?_) (a':=?_) #[true,true,true,true,false,false,false,false,false,false,false,false,false,false,false,false,false,false,false,false,false,false,false] rfl rfl (any_of HT_.out kr_) (fun _ _ _ h=>h) (Or.inl ⟨by rfl,?_⟩) ?_ ?_;rotate_left
                · intro w';go_simp;with_reducible rfl
                rotate_left
                · exact pz_
                refine pure_ (i:=4) (N:=some 34) (v:=?_) (a':=?_) #[true,true,true,true,true,false,false,false,false,false,false,false,false,false,false,false,false,false,false,false,false,false,false] rfl rfl (any_of HT_.out kr_) (fun _ _ _ h=>h) (Or.inl ⟨by rfl,?_⟩) ?_ ?_;rotate_left
                · intro w';go_simp;with_reducible rfl
                rotate_left
                · exact pz_
                refine pure_ (i:=5) (N:=some 35) (v:=?_) (a':=?_) #[true,true,true,true,true,true,false,false,false,false,false,false,false,false,false,false,false,false,false,false,false,false,false] rfl rfl (any_of HT_.out kr_) (fun _ _ _ h=>h) (Or.inl ⟨by rfl,?_⟩) ?_ ?_;rotate_left
                · intro w';go_simp;with_reducible rfl
                rotate_left
                · exact pz_
                refine pure_ (i:=6) (N:=some 36) (v:=?_) (a':=?_) #[true,true,true,true,true,true,true,false,false,false,false,false,false,false,false,false,false,false,false,false,false,false,false] rfl rfl (any_of HT_.out kr_) (fun _ _ _ h=>h) (Or.inl ⟨by rfl,?_⟩) ?_ ?_;rotate_left
                · intro w';go_simp;with_reducible rfl
                rotate_left
                · exact pz_
                refine pure_ (i:=7) (N:=some 37) (v:=?_) (a':=?_) #[true,true,true,true,true,true,true,true,false,false,false,false,false,false,false,false,false,false,false,false,false,false,false] rfl rfl (any_of HT_.out kr_) (fun _ _ _ h=>h) (Or.inl ⟨by rfl,?_⟩) ?_ ?_;rotate_left
                · intro w';go_simp;with_reducible rfl
                rotate_left
                · exact pz_
                refine take_ (i:=8) (N:=some 38) (v:=?_) (a':=?_) #[true,true,true,true,true,true,true,true,true,false,false,false,false,false,false,false,false,false,false,false,false,false,false] rfl rfl (take_ofW HT_.out HW_.out kr_) (fun _ _ _ h=>h) (Or.inl ⟨by rfl,?_⟩) hHeld ?_ ?_;rotate_left
                · rintro w' ⟨s0,s1⟩;go_simp;with_reducible rfl
                rotate_left
                · exact pz_
                refine one_ (i:=9) (N:=some 39) #[true,true,true,true,true,true,true,true,true,true,false,false,false,false,false,false,false,false,false,false,false,false,false] rfl rfl (one_of HT_.out kr_) (by decide) (fun K hK=>?_);refine goes_ Tryz.func80 kr_ rfl #[.agg #[.int .i32 ((rd_T80 l0 x5_1).f0),.bool ((rd_T80 l0 x5_1).f1)],.int .i32 63] (by rfl) rfl rfl ag_ ?_;with_reducible refine (glob_letter_is.calls ((rd_T80 l0 x5_1).f0) ((rd_T80 l0 x5_1).f1) 63 true _ A13.out).mono ?_
                rintro e w16 ⟨rfl,hb⟩;refine ⟨_,rfl,?_⟩;have n0_:=Aside0.mk (below_step bz_ hb);clear HB;have HB:=n0_;clear n0_;(try clear hb);(try clear hb2);(try clear hk);(try clear hi);refine hK.out _ _ ⟨((HB.out.cell (World.block_lt_of_cell? w _ hw113_0)).trans hw113_0),((HB.out.cell (World.block_lt_of_cell? w _ hw113_1)).trans hw113_1)⟩ (fun hHeld=>?_);clear hK K;refine norm_ (a':=?_) ?_ ?_;rotate_left
                · show Act.put _ (some 39) _=_
                  exact pz_
                refine pure_ (i:=10) (N:=some 40) (v:=?_) (a':=?_) #[true,true,true,true,true,true,true,true,true,true,true,false,false,false,false,false,false,false,false,false,false,false,false] rfl rfl (any_of HT_.out kr_) (fun _ _ _ h=>h) (Or.inl ⟨by rfl,?_⟩) ?_ ?_;rotate_left
                · intro w';go_simp;with_reducible rfl
                rotate_left
                · exact pz_
                refine pure_ (i:=11) (N:=some 41) (v:=undef) (a':=?_) #[true,true,true,true,true,true,true,true,true,true,true,true,false,false,false,false,false,false,false,false,false,false,false] rfl rfl (any_of HT_.out kr_) (fun _ _ _ h=>h) (Or.inr ⟨by rfl,rfl⟩) ?_ ?_;rotate_left
                · exact pz_
                refine pure_ (i:=12) (N:=some 42) (v:=undef) (a':=?_) #[true,true,true,true,true,true,true,true,true,true,true,true,true,false,false,false,false,false,false,false,false,false,false] rfl rfl (any_of HT_.out kr_) (fun _ _ _ h=>h) (Or.inr ⟨by rfl,rfl⟩) ?_ ?_;rotate_left
                · exact pz_
                refine pure_ (i:=13) (N:=some 43) (v:=undef) (a':=?_) #[true,true,true,true,true,true,true,true,true,true,true,true,true,true,false,false,false,false,false,false,false,false,false] rfl rfl (any_of HT_.out kr_) (fun _ _ _ h=>h) (Or.inr ⟨by rfl,rfl⟩) ?_ ?_;rotate_left
                · exact pz_
                refine pure_ (i:=14) (N:=some 44) (v:=undef) (a':=?_) #[true,true,true,true,true,true,true,true,true,true,true,true,true,true,true,false,false,false,false,false,false,false,false] rfl rfl (any_of HT_.out kr_) (fun _ _ _ h=>h) (Or.inr ⟨by rfl,rfl⟩) ?_ ?_;rotate_left
                · exact pz_
                refine pure_ (i:=15) (N:=some 45) (v:=undef) (a':=?_) #[true,true,true,true,true,true,true,true,true,true,true,true,true,true,true,true,false,false,false,false,false,false,false] rfl rfl (any_of HT_.out kr_) (fun _ _ _ h=>h) (Or.inr ⟨by rfl,rfl⟩) ?_ ?_;rotate_left
                · exact pz_
                refine pure_ (i:=16) (N:=some 46) (v:=undef) (a':=?_) #[true,true,true,true,true,true,true,true,true,true,true,true,true,true,true,true,true,false,false,false,false,false,false] rfl rfl (any_of HT_.out kr_) (fun _ _ _ h=>h) (Or.inr ⟨by rfl,rfl⟩) ?_ ?_;rotate_left
                · exact pz_
                refine pure_ (i:=17) (N:=some 47) (v:=undef) (a':=?_) #[true,true,true,true,true,true,true,true,true,true,true,true,true,true,true,true,true,true,false,false,false,false,false] rfl rfl (any_of HT_.out kr_) (fun _ _ _ h=>h) (Or.inr ⟨by rfl,rfl⟩) ?_ ?_;rotate_left
                · exact pz_
                refine pure_ (i:=18) (N:=some 48) (v:=undef) (a':=?_) #[true,true,true,true,true,true,true,true,true,true,true,true,true,true,true,true,true,true,true,false,false,false,false] rfl rfl (any_of HT_.out kr_) (fun _ _ _ h=>h) (Or.inr ⟨by rfl,rfl⟩) ?_ ?_;rotate_left
                · exact pz_
                refine pure_ (i:=19) (N:=some 49) (v:=undef) (a':=?_) #[true,true,true,true,true,true,true,true,true,true,true,true,true,true,true,true,true,true,true,true,false,false,false] rfl rfl (any_of HT_.out kr_) (fun _ _ _ h=>h) (Or.inr ⟨by rfl,rfl⟩) ?_ ?_;rotate_left
                · exact pz_
                refine pure_ (i:=20) (N:=some 50) (v:=?_) (a':=?_) #[true,true,true,true,true,true,true,true,true,true,true,true,true,true,true,true,true,true,true,true,true,false,false] rfl rfl (any_of HT_.out kr_) (fun _ _ _ h=>h) (Or.inl ⟨by rfl,?_⟩) ?_ ?_;rotate_left
                · intro w';go_simp;with_reducible rfl
                rotate_left
                · exact pz_
                refine pure_ (i:=21) (N:=some 51) (v:=?_) (a':=?_) #[true,true,true,true,true,true,true,true,true,true,true,true,true,true,true,true,true,true,true,true,true,true,false] rfl rfl (any_of HT_.out kr_) (fun _ _ _ h=>h) (Or.inl ⟨by rfl,?_⟩) ?_ ?_;rotate_left
                · intro w';go_simp;with_reducible rfl
                rotate_left
                · exact pz_
                refine pure_ (i:=22) (N:=some 29) (v:=?_) (a':=?_) #[true,true,true,true,true,true,true,true,true,true,true,true,true,true,true,true,true,true,true,true,true,true,true] rfl rfl (any_of HT_.out kr_) (fun _ _ _ h=>h) (Or.inl ⟨by rfl,?_⟩) ?_ ?_;rotate_left
                · intro w';go_simp;with_reducible rfl
                rotate_left
                · exact pz_
                refine done_ (done_of HT_.out kr_) ?_;try go_wp2
                go_meet;case rel=>exact ⟨_,(true),sz_,H',⟨by have:=HK1.out;have:=HJ3.out;first|omega|exact Nat.le_refl _⟩,⟨bz_⟩⟩
              · replace c14:=Bool.eq_false_iff.mpr c14;subst c14;rw [if_neg nf_] at H;by_cases c17:0≤x6_1
                · rw [if_pos c17] at H;have c17b0:decide (0≤x6_1)=true:=decide_eq_true c17;clear c17;by_cases c18:x6_1 < (l1.length:Int)
                  · rw [if_pos c18] at H;have c18b0:decide (x6_1 < (l1.length:Int))=true:=decide_eq_true c18;clear c18;have H':=Aside0.mk H;clear H;try go_wp2
                    have n0_:=Aside0.mk (below_drew1 HB.out);clear HB;have HB:=n0_;clear n0_;have p113:0≤(x5_1:Int):=of_decide_eq_true as_;have q113:x5_1 < (l0.length:Int):=of_decide_eq_true as_;obtain ⟨ad113,e113,hx113_0,hx113_1⟩:=at_T80 HR0.out x5_1 p113 q113;have hw113_1:=hx113_1;have hw113_0:=hx113_0;cases e113;replace hx113_0:=(HB.out.cell (World.block_lt_of_cell? w _ hx113_0)).trans hx113_0;replace hx113_1:=(HB.out.cell (World.block_lt_of_cell? w _ hx113_1)).trans hx113_1;replace p113:=eq_true p113;replace q113:=eq_true q113;have p115:0≤(x5_1:Int):=of_decide_eq_true as_;have q115:x5_1 < (l0.length:Int):=of_decide_eq_true as_;obtain ⟨ad115,e115,hx115_0,hx115_1⟩:=at_T80 HR0.out x5_1 p115 q115;have hw115_1:=hx115_1;have hw115_0:=hx115_0;obtain rfl:ad113=ad115:=(by injection e115);replace hx115_0:=(HB.out.cell (World.block_lt_of_cell? w _ hx115_0)).trans hx115_0;replace hx115_1:=(HB.out.cell (World.block_lt_of_cell? w _ hx115_1)).trans hx115_1;replace p115:=eq_true p115;replace q115:=eq_true q115;have p116:0≤(x6_1:Int):=of_decide_eq_true as_;have q116:x6_1 < (l1.length:Int):=of_decide_eq_true as_;obtain ⟨ad116,e116,hx116_0,hx116_1⟩:=at_T80 HR1.out x6_1 p116 q116;have hw116_1:=hx116_1;have hw116_0:=hx116_0;cases e116;replace hx116_0:=(HB.out.cell (World.block_lt_of_cell? w _ hx116_0)).trans hx116_0;replace hx116_1:=(HB.out.cell (World.block_lt_of_cell? w _ hx116_1)).trans hx116_1;replace p116:=eq_true p116;replace q116:=eq_true q116;refine start_ (n:=23) (S:=fun w'=>w'.cell? (ad113.add ((x5_1).toNat * 2))=some (.int .i32 ((rd_T80 l0 x5_1).f0))∧w'.cell? ⟨(ad113.add ((x5_1).toNat * 2)).block,(ad113.add ((x5_1).toNat * 2)).off+1,none⟩=some (.bool ((rd_T80 l0 x5_1).f1))∧w'.cell? (ad113.add ((x5_1).toNat * 2))=some (.int .i32 ((rd_T80 l0 x5_1).f0))∧w'.cell? ⟨(ad113.add ((x5_1).toNat * 2)).block,(ad113.add ((x5_1).toNat * 2)).off+1,none⟩=some (.bool ((rd_T80 l0 x5_1).f1))∧w'.cell? (ad116.add ((x6_1).toNat * 2))=some (.int .i32 ((rd_T80 l1 x6_1).f0))∧w'.cell? ⟨(ad116.add ((x6_1).toNat * 2)).block,(ad116.add ((x6_1).toNat * 2)).off+1,none⟩=some (.bool ((rd_T80 l1 x6_1).f1))) (ds:=[]) #[false,false,false,false,false,false,false,false,false,false,false,false,false,false,false,false,false,false,false,false,false,false,false] kr_ rfl rfl ⟨((HB.out.cell (World.block_lt_of_cell? w _ hw113_0)).trans hw113_0),((HB.out.cell (World.block_lt_of_cell? w _ hw113_1)).trans hw113_1),((HB.out.cell (World.block_lt_of_cell? w _ hw115_0)).trans hw115_0),((HB.out.cell (World.block_lt_of_cell? w _ hw115_1)).trans hw115_1),((HB.out.cell (World.block_lt_of_cell? w _ hw116_0)).trans hw116_0),((HB.out.cell (World.block_lt_of_cell? w _ hw116_1)).trans hw116_1)⟩ (fun hHeld=>?_);refine with_tabW glob_match.tab7 glob_match.bits7 (fun HT_ HW_=>?_)
                    generalize wc.drew=w19 at HB hx113_0 hx113_1 hx115_0 hx115_1 hx116_0 hx116_1 hHeld ⊢;refine pure_ (i:=0) (N:=some 30) (v:=?_) (a':=?_) #[true,false,false,false,false,false,false,false,false,false,false,false,false,false,false,false,false,false,false,false,false,false,false] rfl rfl (any_of HT_.out kr_) (fun _ _ _ h=>h) (Or.inl ⟨by rfl,?_⟩) ?_ ?_;rotate_left
                    · intro w';go_simp;with_reducible rfl
                    rotate_left
                    · exact pz_
                    refine pure_ (i:=1) (N:=some 31) (v:=?_) (a':=?_) #[true,true,false,false,false,false,false,false,false,false,false,false,false,false,false,false,false,false,false,false,false,false,false] rfl rfl (any_of HT_.out kr_) (fun _ _ _ h=>h) (Or.inl ⟨by rfl,?_⟩) ?_ ?_;rotate_left
                    · intro w';go_simp;with_reducible rfl
                    rotate_left
                    · exact pz_
                    refine pure_ (i:=2) (N:=some 32) (v:=?_) (a':=?_) #[true,true,true,false,false,false,false,false,false,false,false,false,false,false,false,false,false,false,false,false,false,false,false] rfl rfl (any_of HT_.out kr_) (fun _ _ _ h=>h) (Or.inl ⟨by rfl,?_⟩) ?_ ?_;rotate_left
                    · intro w';go_simp;with_reducible rfl
                    rotate_left
                    · exact pz_
                    refine pure_ (i:=3) (N:=some 33) (v:=?_) (a':=?_) #[true,true,true,true,false,false,false,false,false,false,false,false,false,false,false,false,false,false,false,false,false,false,false] rfl rfl (any_of HT_.out kr_) (fun _ _ _ h=>h) (Or.inl ⟨by rfl,?_⟩) ?_ ?_;rotate_left
                    · intro w';go_simp;with_reducible rfl
                    rotate_left
                    · exact pz_
                    refine pure_ (i:=4) (N:=some 34) (v:=?_) (a':=?_) #[true,true,true,true,true,false,false,false,false,false,false,false,false,false,false,false,false,false,false,false,false,false,false] rfl rfl (any_of HT_.out kr_) (fun _ _ _ h=>h) (Or.inl ⟨by rfl,?_⟩) ?_ ?_;rotate_left
                    · intro w';go_simp;with_reducible rfl
                    rotate_left
                    · exact pz_
                    refine pure_ (i:=5) (N:=some 35) (v:=?_) (a':=?_) #[true,true,true,true,true,true,false,false,false,false,false,false,false,false,false,false,false,false,false,false,false,false,false] rfl rfl (any_of HT_.out kr_) (fun _ _ _ h=>h) (Or.inl ⟨by rfl,?_⟩) ?_ ?_;rotate_left
                    · intro w';go_simp;with_reducible rfl
                    rotate_left
                    · exact pz_
                    refine pure_ (i:=6) (N:=some 36) (v:=?_) (a':=?_) #[true,true,true,true,true,true,true,false,false,false,false,false,false,false,false,false,false,false,false,false,false,false,false] rfl rfl (any_of HT_.out kr_) (fun _ _ _ h=>h) (Or.inl ⟨by rfl,?_⟩) ?_ ?_;rotate_left
                    · intro w';go_simp;with_reducible rfl
                    rotate_left
                    · exact pz_
                    refine pure_ (i:=7) (N:=some 37) (v:=?_) (a':=?_) #[true,true,true,true,true,true,true,true,false,false,false,false,false,false,false,false,false,false,false,false,false,false,false] rfl rfl (any_of HT_.out kr_) (fun _ _ _ h=>h) (Or.inl ⟨by rfl,?_⟩) ?_ ?_;rotate_left
                    · intro w';go_simp;with_reducible rfl
                    rotate_left
                    · exact pz_
                    refine take_ (i:=8) (N:=some 38) (v:=?_) (a':=?_) #[true,true,true,true,true,true,true,true,true,false,false,false,false,false,false,false,false,false,false,false,false,false,false] rfl rfl (take_ofW HT_.out HW_.out kr_) (fun _ _ _ h=>h) (Or.inl ⟨by rfl,?_⟩) hHeld ?_ ?_;rotate_left
                    · rintro w' ⟨s0,s1,s2,s3,s4,s5⟩;go_simp;with_reducible rfl
                    rotate_left
                    · exact pz_
                    refine one_ (i:=9) (N:=some 39) #[true,true,true,true,true,true,true,true,true,true,false,false,false,false,false,false,false,false,false,false,false,false,false] rfl rfl (one_of HT_.out kr_) (by decide) (fun K hK=>?_);refine goes_ Tryz.func80 kr_ rfl #[.agg #[.int .i32 ((rd_T80 l0 x5_1).f0),.bool ((rd_T80 l0 x5_1).f1)],.int .i32 63] (by rfl) rfl rfl ag_ ?_;with_reducible refine (glob_letter_is.calls ((rd_T80 l0 x5_1).f0) ((rd_T80 l0 x5_1).f1) 63 false _ A13.out).mono ?_
                    rintro e w20 ⟨rfl,hb⟩;refine ⟨_,rfl,?_⟩;have n0_:=Aside0.mk (below_step bz_ hb);clear HB;have HB:=n0_;clear n0_;(try clear hb);(try clear hb2);(try clear hk);(try clear hi);refine hK.out _ _ ⟨((HB.out.cell (World.block_lt_of_cell? w _ hw113_0)).trans hw113_0),((HB.out.cell (World.block_lt_of_cell? w _ hw113_1)).trans hw113_1),((HB.out.cell (World.block_lt_of_cell? w _ hw115_0)).trans hw115_0),((HB.out.cell (World.block_lt_of_cell? w _ hw115_1)).trans hw115_1),((HB.out.cell (World.block_lt_of_cell? w _ hw116_0)).trans hw116_0),((HB.out.cell (World.block_lt_of_cell? w _ hw116_1)).trans hw116_1)⟩ (fun hHeld=>?_);clear hK K;refine norm_ (a':=?_) ?_ ?_;rotate_left
                    · show Act.put _ (some 39) _=_
                      exact pz_
                    refine pure_ (i:=10) (N:=some 40) (v:=?_) (a':=?_) #[true,true,true,true,true,true,true,true,true,true,true,false,false,false,false,false,false,false,false,false,false,false,false] rfl rfl (any_of HT_.out kr_) (fun _ _ _ h=>h) (Or.inl ⟨by rfl,?_⟩) ?_ ?_;rotate_left
                    · intro w';go_simp;with_reducible rfl
                    rotate_left
                    · exact pz_
                    refine pure_ (i:=11) (N:=some 41) (v:=?_) (a':=?_) #[true,true,true,true,true,true,true,true,true,true,true,true,false,false,false,false,false,false,false,false,false,false,false] rfl rfl (any_of HT_.out kr_) (fun _ _ _ h=>h) (Or.inl ⟨by rfl,?_⟩) ?_ ?_;rotate_left
                    · intro w';go_simp;with_reducible rfl
                    rotate_left
                    · exact pz_
                    refine pure_ (i:=12) (N:=some 42) (v:=?_) (a':=?_) #[true,true,true,true,true,true,true,true,true,true,true,true,true,false,false,false,false,false,false,false,false,false,false] rfl rfl (any_of HT_.out kr_) (fun _ _ _ h=>h) (Or.inl ⟨by rfl,?_⟩) ?_ ?_;rotate_left
                    · intro w';go_simp;with_reducible rfl
                    rotate_left
                    · exact pz_
                    refine pure_ (i:=13) (N:=some 43) (v:=?_) (a':=?_) #[true,true,true,true,true,true,true,true,true,true,true,true,true,true,false,false,false,false,false,false,false,false,false] rfl rfl (any_of HT_.out kr_) (fun _ _ _ h=>h) (Or.inl ⟨by rfl,?_⟩) ?_ ?_;rotate_left
                    · intro w';go_simp;with_reducible rfl
                    rotate_left
                    · exact pz_
                    refine pure_ (i:=15) (N:=some 45) (v:=?_) (a':=?_) #[true,true,true,true,true,true,true,true,true,true,true,true,true,true,false,true,false,false,false,false,false,false,false] rfl rfl (any_of HT_.out kr_) (fun _ _ _ h=>h) (Or.inl ⟨by rfl,?_⟩) ?_ ?_;rotate_left
                    · intro w';go_simp;with_reducible rfl
                    rotate_left
                    · exact pz_
                    refine pure_ (i:=16) (N:=some 46) (v:=?_) (a':=?_) #[true,true,true,true,true,true,true,true,true,true,true,true,true,true,false,true,true,false,false,false,false,false,false] rfl rfl (any_of HT_.out kr_) (fun _ _ _ h=>h) (Or.inl ⟨by rfl,?_⟩) ?_ ?_;rotate_left
                    · intro w';go_simp;with_reducible rfl
                    rotate_left
                    · exact pz_
                    refine pure_ (i:=17) (N:=some 47) (v:=?_) (a':=?_) #[true,true,true,true,true,true,true,true,true,true,true,true,true,true,false,true,true,true,false,false,false,false,false] rfl rfl (any_of HT_.out kr_) (fun _ _ _ h=>h) (Or.inl ⟨by rfl,?_⟩) ?_ ?_;rotate_left
                    · intro w';go_simp;with_reducible rfl
                    rotate_left
                    · exact pz_
                    refine take_ (i:=14) (N:=some 44) (v:=?_) (a':=?_) #[true,true,true,true,true,true,true,true,true,true,true,true,true,true,true,true,true,true,false,false,false,false,false] rfl rfl (take_ofW HT_.out HW_.out kr_) (fun _ _ _ h=>h) (Or.inl ⟨by rfl,?_⟩) hHeld ?_ ?_;rotate_left
                    · rintro w' ⟨s0,s1,s2,s3,s4,s5⟩;go_simp;with_reducible rfl
                    rotate_left
                    · exact pz_
                    refine take_ (i:=18) (N:=some 48) (v:=?_) (a':=?_) #[true,true,true,true,true,true,true,true,true,true,true,true,true,true,true,true,true,true,true,false,false,false,false] rfl rfl (take_ofW HT_.out HW_.out kr_) (fun _ _ _ h=>h) (Or.inl ⟨by rfl,?_⟩) hHeld ?_ ?_;rotate_left
                    · rintro w' ⟨s0,s1,s2,s3,s4,s5⟩;go_simp;with_reducible rfl
                    rotate_left
                    · exact pz_
                    refine pure_ (i:=19) (N:=some 49) (v:=?_) (a':=?_) #[true,true,true,true,true,true,true,true,true,true,true,true,true,true,true,true,true,true,true,true,false,false,false] rfl rfl (any_of HT_.out kr_) (fun _ _ _ h=>h) (Or.inl ⟨by rfl,?_⟩) ?_ ?_;rotate_left
                    · intro w';go_simp;with_reducible rfl
                    rotate_left
                    · exact pz_
                    refine pure_ (i:=20) (N:=some 50) (v:=?_) (a':=?_) #[true,true,true,true,true,true,true,true,true,true,true,true,true,true,true,true,true,true,true,true,true,false,false] rfl rfl (any_of HT_.out kr_) (fun _ _ _ h=>h) (Or.inl ⟨by rfl,?_⟩) ?_ ?_;rotate_left
                    · intro w';go_simp;with_reducible rfl
                    rotate_left
                    · exact pz_
                    refine pure_ (i:=21) (N:=some 51) (v:=?_) (a':=?_) #[true,true,true,true,true,true,true,true,true,true,true,true,true,true,true,true,true,true,true,true,true,true,false] rfl rfl (any_of HT_.out kr_) (fun _ _ _ h=>h) (Or.inl ⟨by rfl,?_⟩) ?_ ?_;rotate_left
                    · intro w';go_simp;with_reducible rfl
                    rotate_left
                    · exact pz_
                    refine pure_ (i:=22) (N:=some 29) (v:=?_) (a':=?_) #[true,true,true,true,true,true,true,true,true,true,true,true,true,true,true,true,true,true,true,true,true,true,true] rfl rfl (any_of HT_.out kr_) (fun _ _ _ h=>h) (Or.inl ⟨by rfl,?_⟩) ?_ ?_;rotate_left
                    · intro w';go_simp;with_reducible rfl
                    rotate_left
                    · exact pz_
                    refine done_ (done_of HT_.out kr_) ?_;try go_wp2
                    go_meet;case rel=>exact ⟨_,((((rd_T80 l0 x5_1).f0)==((rd_T80 l1 x6_1).f0) && (((rd_T80 l0 x5_1).f1)==((rd_T80 l1 x6_1).f1)))),sz_,H',⟨by have:=HK1.out;have:=HJ3.out;first|omega|exact Nat.le_refl _⟩,⟨bz_⟩⟩
                  · rw [if_neg c18] at H;exact absurd H (by simp)
                · rw [if_neg c17] at H;exact absurd H (by simp)
            · rw [if_neg c12] at H;exact absurd H (by simp)
          · rw [if_neg c11] at H;have c11b0:decide (x5_1 < (l0.length:Int))=false:=decide_eq_false c11;clear c11;(first|rw [c11b0]|(simp only [i64_w,i32_w];rw [c11b0])|skip);have H':=Aside0.mk H;clear H;try go_wp2
            have n0_:=Aside0.mk (below_drew1 HB.out);clear HB;have HB:=n0_;clear n0_;refine start_ (n:=23) (S:=fun w'=>True) (ds:=[]) #[false,false,false,false,false,false,false,false,false,false,false,false,false,false,false,false,false,false,false,false,false,false,false] kr_ rfl rfl trivial (fun hHeld=>?_);refine with_tabW glob_match.tab7 glob_match.bits7 (fun HT_ HW_=>?_)
            generalize wc.drew=w21 at HB hHeld ⊢;refine pure_ (i:=0) (N:=some 30) (v:=?_) (a':=?_) #[true,false,false,false,false,false,false,false,false,false,false,false,false,false,false,false,false,false,false,false,false,false,false] rfl rfl (any_of HT_.out kr_) (fun _ _ _ h=>h) (Or.inl ⟨by rfl,?_⟩) ?_ ?_;rotate_left
            · intro w';go_simp;with_reducible rfl
            rotate_left
            · exact pz_
            refine pure_ (i:=1) (N:=some 31) (v:=?_) (a':=?_) #[true,true,false,false,false,false,false,false,false,false,false,false,false,false,false,false,false,false,false,false,false,false,false] rfl rfl (any_of HT_.out kr_) (fun _ _ _ h=>h) (Or.inl ⟨by rfl,?_⟩) ?_ ?_;rotate_left
            · intro w';go_simp;with_reducible rfl
            rotate_left
            · exact pz_
            refine pure_ (i:=2) (N:=some 32) (v:=?_) (a':=?_) #[true,true,true,false,false,false,false,false,false,false,false,false,false,false,false,false,false,false,false,false,false,false,false] rfl rfl (any_of HT_.out kr_) (fun _ _ _ h=>h) (Or.inl ⟨by rfl,?_⟩) ?_ ?_;rotate_left
            · intro w';go_simp;with_reducible rfl
            rotate_left
            · exact pz_
            refine pure_ (i:=3) (N:=some 33) (v:=?_) (a':=?_) #[true,true,true,true,false,false,false,false,false,false,false,false,false,false,false,false,false,false,false,false,false,false,false] rfl rfl (any_of HT_.out kr_) (fun _ _ _ h=>h) (Or.inl ⟨by rfl,?_⟩) ?_ ?_;rotate_left
            · intro w';go_simp;with_reducible rfl
            rotate_left
            · exact pz_
            refine pure_ (i:=4) (N:=some 34) (v:=?_) (a':=?_) #[true,true,true,true,true,false,false,false,false,false,false,false,false,false,false,false,false,false,false,false,false,false,false] rfl rfl (any_of HT_.out kr_) (fun _ _ _ h=>h) (Or.inl ⟨by rfl,?_⟩) ?_ ?_;rotate_left
            · intro w';go_simp;with_reducible rfl
            rotate_left
            · exact pz_
            refine pure_ (i:=5) (N:=some 35) (v:=undef) (a':=?_) #[true,true,true,true,true,true,false,false,false,false,false,false,false,false,false,false,false,false,false,false,false,false,false] rfl rfl (any_of HT_.out kr_) (fun _ _ _ h=>h) (Or.inr ⟨by rfl,rfl⟩) ?_ ?_;rotate_left
            · exact pz_
            refine pure_ (i:=6) (N:=some 36) (v:=undef) (a':=?_) #[true,true,true,true,true,true,true,false,false,false,false,false,false,false,false,false,false,false,false,false,false,false,false] rfl rfl (any_of HT_.out kr_) (fun _ _ _ h=>h) (Or.inr ⟨by rfl,rfl⟩) ?_ ?_;rotate_left
            · exact pz_
            refine pure_ (i:=7) (N:=some 37) (v:=undef) (a':=?_) #[true,true,true,true,true,true,true,true,false,false,false,false,false,false,false,false,false,false,false,false,false,false,false] rfl rfl (any_of HT_.out kr_) (fun _ _ _ h=>h) (Or.inr ⟨by rfl,rfl⟩) ?_ ?_;rotate_left
            · exact pz_
            refine pure_ (i:=8) (N:=some 38) (v:=undef) (a':=?_) #[true,true,true,true,true,true,true,true,true,false,false,false,false,false,false,false,false,false,false,false,false,false,false] rfl rfl (any_of HT_.out kr_) (fun _ _ _ h=>h) (Or.inr ⟨by rfl,rfl⟩) ?_ ?_;rotate_left
            · exact pz_
            refine pure_ (i:=9) (N:=some 39) (v:=undef) (a':=?_) #[true,true,true,true,true,true,true,true,true,true,false,false,false,false,false,false,false,false,false,false,false,false,false] rfl rfl (any_of HT_.out kr_) (fun _ _ _ h=>h) (Or.inr ⟨by rfl,rfl⟩) ?_ ?_;rotate_left
            · exact pz_
            refine pure_ (i:=10) (N:=some 40) (v:=undef) (a':=?_) #[true,true,true,true,true,true,true,true,true,true,true,false,false,false,false,false,false,false,false,false,false,false,false] rfl rfl (any_of HT_.out kr_) (fun _ _ _ h=>h) (Or.inr ⟨by rfl,rfl⟩) ?_ ?_;rotate_left
            · exact pz_
            refine pure_ (i:=11) (N:=some 41) (v:=undef) (a':=?_) #[true,true,true,true,true,true,true,true,true,true,true,true,false,false,false,false,false,false,false,false,false,false,false] rfl rfl (any_of HT_.out kr_) (fun _ _ _ h=>h) (Or.inr ⟨by rfl,rfl⟩) ?_ ?_;rotate_left
            · exact pz_
            refine pure_ (i:=12) (N:=some 42) (v:=undef) (a':=?_) #[true,true,true,true,true,true,true,true,true,true,true,true,true,false,false,false,false,false,false,false,false,false,false] rfl rfl (any_of HT_.out kr_) (fun _ _ _ h=>h) (Or.inr ⟨by rfl,rfl⟩) ?_ ?_;rotate_left
            · exact pz_
            refine pure_ (i:=13) (N:=some 43) (v:=undef) (a':=?_) #[true,true,true,true,true,true,true,true,true,true,true,true,true,true,false,false,false,false,false,false,false,false,false] rfl rfl (any_of HT_.out kr_) (fun _ _ _ h=>h) (Or.inr ⟨by rfl,rfl⟩) ?_ ?_;rotate_left
            · exact pz_
            refine pure_ (i:=14) (N:=some 44) (v:=undef) (a':=?_) #[true,true,true,true,true,true,true,true,true,true,true,true,true,true,true,false,false,false,false,false,false,false,false] rfl rfl (any_of HT_.out kr_) (fun _ _ _ h=>h) (Or.inr ⟨by rfl,rfl⟩) ?_ ?_;rotate_left
            · exact pz_
            refine pure_ (i:=15) (N:=some 45) (v:=undef) (a':=?_) #[true,true,true,true,true,true,true,true,true,true,true,true,true,true,true,true,false,false,false,false,false,false,false] rfl rfl (any_of HT_.out kr_) (fun _ _ _ h=>h) (Or.inr ⟨by rfl,rfl⟩) ?_ ?_;rotate_left
            · exact pz_
            refine pure_ (i:=16) (N:=some 46) (v:=undef) (a':=?_) #[true,true,true,true,true,true,true,true,true,true,true,true,true,true,true,true,true,false,false,false,false,false,false] rfl rfl (any_of HT_.out kr_) (fun _ _ _ h=>h) (Or.inr ⟨by rfl,rfl⟩) ?_ ?_;rotate_left
            · exact pz_
            refine pure_ (i:=17) (N:=some 47) (v:=undef) (a':=?_) #[true,true,true,true,true,true,true,true,true,true,true,true,true,true,true,true,true,true,false,false,false,false,false] rfl rfl (any_of HT_.out kr_) (fun _ _ _ h=>h) (Or.inr ⟨by rfl,rfl⟩) ?_ ?_;rotate_left
            · exact pz_
            refine pure_ (i:=18) (N:=some 48) (v:=undef) (a':=?_) #[true,true,true,true,true,true,true,true,true,true,true,true,true,true,true,true,true,true,true,false,false,false,false] rfl rfl (any_of HT_.out kr_) (fun _ _ _ h=>h) (Or.inr ⟨by rfl,rfl⟩) ?_ ?_;rotate_left
            · exact pz_
            refine pure_ (i:=19) (N:=some 49) (v:=undef) (a':=?_) #[true,true,true,true,true,true,true,true,true,true,true,true,true,true,true,true,true,true,true,true,false,false,false] rfl rfl (any_of HT_.out kr_) (fun _ _ _ h=>h) (Or.inr ⟨by rfl,rfl⟩) ?_ ?_;rotate_left
            · exact pz_
            refine pure_ (i:=20) (N:=some 50) (v:=undef) (a':=?_) #[true,true,true,true,true,true,true,true,true,true,true,true,true,true,true,true,true,true,true,true,true,false,false] rfl rfl (any_of HT_.out kr_) (fun _ _ _ h=>h) (Or.inr ⟨by rfl,rfl⟩) ?_ ?_;rotate_left
            · exact pz_
            refine pure_ (i:=21) (N:=some 51) (v:=?_) (a':=?_) #[true,true,true,true,true,true,true,true,true,true,true,true,true,true,true,true,true,true,true,true,true,true,false] rfl rfl (any_of HT_.out kr_) (fun _ _ _ h=>h) (Or.inl ⟨by rfl,?_⟩) ?_ ?_;rotate_left
            · intro w';go_simp;with_reducible rfl
            rotate_left
            · exact pz_
            refine pure_ (i:=22) (N:=some 29) (v:=?_) (a':=?_) #[true,true,true,true,true,true,true,true,true,true,true,true,true,true,true,true,true,true,true,true,true,true,true] rfl rfl (any_of HT_.out kr_) (fun _ _ _ h=>h) (Or.inl ⟨by rfl,?_⟩) ?_ ?_;rotate_left
            · intro w';go_simp;with_reducible rfl
            rotate_left
            · exact pz_
            refine done_ (done_of HT_.out kr_) ?_;try go_wp2
            go_meet;case rel=>exact ⟨_,(false),sz_,H',⟨by have:=HK1.out;have:=HJ3.out;first|omega|exact Nat.le_refl _⟩,⟨bz_⟩⟩
         case rest=>
          clear HC10;(try clear c1);(try clear p1);(try clear q1);(try clear hx1);(try clear p2);(try clear c8);(try clear c11);(try clear c11b0);(try clear p11);(try clear q11);(try clear hx11);(try clear c12);(try clear c12b0);(try clear c14);(try clear c17);(try clear c17b0);(try clear c18);(try clear c18b0);(try clear hx113_0);(try clear hx113_1);(try clear hx115_0);(try clear hx115_1);(try clear hx116_0);(try clear hx116_1);(try clear p113);(try clear p115);(try clear p116);(try clear q113);(try clear q115);(try clear q116);obtain ⟨kq,x29_9,rfl,HA,HJ9,HB⟩:=hcut
          cases kq with
          | zero=>exact absurd HA.out (by simp [glob_match.j2])
          | succ kj9=>
           have H:=HA.out;clear HA;simp only [glob_match.j2] at H;by_cases c22:x29_9=true
           · subst c22;rw [if_pos rfl] at H;have H':=Aside0.mk H;clear H;go_wp2;go_roundg kj9;case measure=>have:=HK1.out;have:=HJ3.out;have:=HJ9.out;omega
             case rel=>exact ⟨(wrap64 (x5_1+1)),(wrap64 (x6_1+1)),(x7_1),(x8_1),sz_,sz_,sz_,sz_,H',⟨by have:=HK1.out;have:=HJ3.out;have:=HJ9.out;omega⟩,⟨bz_⟩⟩
           · replace c22:=Bool.eq_false_iff.mpr c22;subst c22;rw [if_neg nf_] at H;by_cases c23:x7_1 < 0
             · rw [if_pos c23] at H;have c23b0:decide (x7_1 < 0)=true:=decide_eq_true c23;clear c23;obtain rfl:=Option.some.inj H;go_wp2;(try rw [Exit.noGoto_ret]);go_ret;exact ⟨by first|rfl|(simp [errW_none,errW_some] <;> rfl)|(simp [*,errW_none,errW_some] <;> rfl),bz_⟩
             · rw [if_neg c23] at H;have c23b0:decide (x7_1 < 0)=false:=decide_eq_false c23;clear c23;have H':=Aside0.mk H;clear H;go_wp2;go_roundg kj9;case measure=>have:=HK1.out;have:=HJ3.out;have:=HJ9.out;omega
               case rel=>exact ⟨(wrap64 (x7_1+1)),(wrap64 (x8_1+1)),(x7_1),(wrap64 (x8_1+1)),sz_,sz_,sz_,sz_,H',⟨by have:=HK1.out;have:=HJ3.out;have:=HJ9.out;omega⟩,⟨bz_⟩⟩
   · rw [if_neg c3] at H;have c3b0:decide (x6_1 < (l1.length:Int))=false:=decide_eq_false c3;clear c3;have H':=Aside0.mk H;clear H;go_wp2;go_loopg [5] k1 (fun kq v5 w'=>∃ (x5_2:Int),v5=.int .i64 x5_2∧Aside0 (glob_match.l1 kq l0 x5_2=some r)∧Aside0 (kq≤k1)∧Aside0 (Below w.heap.size w w'));case atStart=>exact ⟨(x5_1),sz_,H',⟨Nat.le_refl _⟩,⟨bz_⟩⟩
     case round=>
      clear H';(try clear c1);(try clear p1);(try clear q1);(try clear hx1);(try clear c2);(try clear p2);(try clear c3);(try clear c3b0);(try clear p6);(try clear c8);(try clear c11);(try clear c11b0);(try clear p11);(try clear q11);(try clear hx11);(try clear c12);(try clear c12b0);(try clear c14);(try clear c17);(try clear c17b0);(try clear c18);(try clear c18b0);(try clear c22);(try clear c23);(try clear c23b0);(try clear hx113_0);(try clear hx113_1);(try clear hx115_0);(try clear hx115_1);(try clear hx116_0);(try clear hx116_1);(try clear p1);(try clear p11);(try clear p113);(try clear p115);(try clear p116);(try clear p2);(try clear q1);(try clear q11);(try clear q113);(try clear q115);(try clear q116);obtain ⟨x5_2,rfl,HA,HK2,HB⟩:=hrel
      cases gk with
      | zero=>exact absurd HA.out (by simp [glob_match.l1])
      | succ k2=>
       have H:=HA.out;clear HA;simp only [glob_match.l1] at H;by_cases c24:x5_2 < (l0.length:Int)
       · rw [if_pos c24] at H;have c24b0:decide (x5_2 < (l0.length:Int))=true:=decide_eq_true c24;clear c24;by_cases c25:0≤x5_2
         · rw [if_pos c25] at H;have c25b0:decide (0≤x5_2)=true:=decide_eq_true c25;clear c25;obtain ⟨t118,A26,H⟩:=bs_ H;(try dsimp only at H);by_cases c27:t118=true
           · subst c27;rw [if_pos rfl] at H;have H':=Aside0.mk H;clear H;have p117:0≤(x5_2:Int):=of_decide_eq_true as_;have q117:x5_2 < (l0.length:Int):=of_decide_eq_true as_;obtain ⟨ad117,e117,hx117_0,hx117_1⟩:=at_T80 HR0.out x5_2 p117 q117;cases e117;replace hx117_0:=(HB.out.cell (World.block_lt_of_cell? w _ hx117_0)).trans hx117_0;replace hx117_1:=(HB.out.cell (World.block_lt_of_cell? w _ hx117_1)).trans hx117_1;replace p117:=eq_true p117;replace q117:=eq_true q117;go_wp2_with (first|(go_at_call 80;(with_reducible refine (glob_letter_is.calls ((rd_T80 l0 x5_2).f0) ((rd_T80 l0 x5_2).f1) 42 true _ A26.out).mono ?_);rintro e w28 ⟨rfl,hb⟩;have n0_:=Aside0.mk (below_step bz_ hb);clear HB;have HB:=n0_;clear n0_;(try clear hb);(try clear hb2);(try clear hk);(try clear hi)));go_roundg k2;case measure=>have:=HK1.out;have:=HK2.out;omega
             case rel=>exact ⟨(wrap64 (x5_2+1)),sz_,H',⟨by have:=HK1.out;have:=HK2.out;omega⟩,⟨bz_⟩⟩
           · replace c27:=Bool.eq_false_iff.mpr c27;subst c27;rw [if_neg nf_] at H;obtain rfl:=Option.some.inj H;have p117:0≤(x5_2:Int):=of_decide_eq_true as_;have q117:x5_2 < (l0.length:Int):=of_decide_eq_true as_;obtain ⟨ad117,e117,hx117_0,hx117_1⟩:=at_T80 HR0.out x5_2 p117 q117;cases e117;replace hx117_0:=(HB.out.cell (World.block_lt_of_cell? w _ hx117_0)).trans hx117_0;replace hx117_1:=(HB.out.cell (World.block_lt_of_cell? w _ hx117_1)).trans hx117_1;replace p117:=eq_true p117;replace q117:=eq_true q117;go_wp2_with (first|(go_at_call 80;(with_reducible refine (glob_letter_is.calls ((rd_T80 l0 x5_2).f0) ((rd_T80 l0 x5_2).f1) 42 false _ A26.out).mono ?_);rintro e w29 ⟨rfl,hb⟩;have n0_:=Aside0.mk (below_step bz_ hb);clear HB;have HB:=n0_;clear n0_;(try clear hb);(try clear hb2);(try clear hk);(try clear hi)));(try rw [Exit.noGoto_ret]);go_ret;exact ⟨by first|rfl|(simp [errW_none,errW_some] <;> rfl)|(simp [*,errW_none,errW_some] <;> rfl),bz_⟩
         · rw [if_neg c25] at H;exact absurd H (by simp)
       · rw [if_neg c24] at H;have c24b0:decide (x5_2 < (l0.length:Int))=false:=decide_eq_false c24;clear c24;obtain rfl:=Option.some.inj H;go_wp2;(try rw [Exit.noGoto_ret]);go_ret;exact ⟨by first|rfl|(simp [errW_none,errW_some] <;> rfl)|(simp [*,errW_none,errW_some] <;> rfl),bz_⟩
end Go.Proofs.YtodhmbnfliajiaaGreatDoor.Q
