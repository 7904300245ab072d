/- Qx12: a text of this claim's proof,as printed or written,without what the claim does not use. -/
import Derived.Test.YtodhmbnfliajiaaGreatDoorQx0
import Derived.Test.YtodhmbnfliajiaaGreatDoorQx9
import Derived.Test.YtodhmbnfliajiaaGreatDoorQx10
import Derived.Test.YtodhmbnfliajiaaGreatDoorQx11
namespace Go.Proofs.YtodhmbnfliajiaaGreatDoor.Q
open Go.RowKit Go.Proofs.YtodhmbnfliajiaaGreatDoorW.PrintWords Go.Proofs.YtodhmbnfliajiaaGreatDoorW.PrintLast Go.Proofs.YtodhmbnfliajiaaGreatDoorW.PrintMore
attribute [local go_sem] max2_int min2_int max_two min_two max_three min_three max_four min_four
set_option linter.unusedVariables false
set_option linter.unusedSimpArgs false
mutual
def agoraref23_Word.l0:Nat→Int→List ByteArray→List ByteArray→Option (Bool)
 | 0,_,_,_=>none
 | k+1,x7,x13,x16=>if x7≤(x13.length:Int) then (if x7 > 0 then (if 0≤(wrap64 (x7 - 1)) then (if (wrap64 (x7 - 1)) < (x13.length:Int) then ((agoraref23_word.f (rdOf ByteArray.empty x13 (wrap64 (x7 - 1)))).bind fun t231=>(agoraref23_Word.j1 k x13 x16 x7 x13 x16 t231)) else (none)) else (none)) else (agoraref23_Word.j1 k x13 x16 x7 x13 x16 false)) else (some false)
def agoraref23_Word.j1:Nat→List ByteArray→List ByteArray→Int→List ByteArray→List ByteArray→Bool→Option (Bool)
 | 0,_,_,_,_,_,_=>none
 | k+1,x5,x6,x7,x13,x16,x32=>if x32=true then (agoraref23_Word.l0 k (wrap64 (x7+1)) x13 x16) else (agoraref23_Word.l1 k x5 x6 x7 x7 x13 x16)
def agoraref23_Word.l1:Nat→List ByteArray→List ByteArray→Int→Int→List ByteArray→List ByteArray→Option (Bool)
 | 0,_,_,_,_,_,_=>none
 | k+1,x5,x6,x7,x8,x13,x16=>if x8≤(x5.length:Int) then (if x8=(x5.length:Int) then (if 0≤x7 then (if x7≤x8 then ((agoraref23_match.f k x6 ((x5.take (x8:Int).toNat).drop (x7:Int).toNat)).bind fun t236=>(if t236=true then (some true) else (agoraref23_Word.l1 k x5 x6 x7 (wrap64 (x8+1)) x13 x16))) else (none)) else (none)) else (if 0≤x8 then (if x8 < (x5.length:Int) then ((agoraref23_word.f (rdOf ByteArray.empty x5 x8)).bind fun t238=>(if t238=true then (agoraref23_Word.l1 k x5 x6 x7 (wrap64 (x8+1)) x13 x16) else (if 0≤x7 then (if x7≤x8 then ((agoraref23_match.f k x6 ((x5.take (x8:Int).toNat).drop (x7:Int).toNat)).bind fun t243=>(if t243=true then (some true) else (agoraref23_Word.l1 k x5 x6 x7 (wrap64 (x8+1)) x13 x16))) else (none)) else (none)))) else (none)) else (none))) else (agoraref23_Word.l0 k (wrap64 (x7+1)) x13 x16)
end
def agoraref23_Word.f (k:Nat) (a0:ByteArray) (a1:ByteArray):Option (Bool):=if a0.toList=([]:List UInt8) then (some false) else ((agoraref23_Low.f k a1).bind fun t222=>((agoraref23_Letters.f k t222).bind fun t223=>((agoraref23_Low.f k a0).bind fun t226=>((agoraref23_Letters.f k t226).bind fun t227=>(agoraref23_Word.l0 k 0 t223 t227)))))
set_option maxHeartbeats 8000000 in
set_option maxRecDepth 100000 in
theorem agoraref23_Word.calls (k:Nat) (a0:ByteArray) (a1:ByteArray) (r:Bool) (w:World) (h:agoraref23_Word.f k a0 a1=some r) :
 Calls Tryz.prog 29 #[.string a0,.string a1] w fun e w'=>e=.returned (.bool r)∧Below w.heap.size w w':=by
 have HB:=Aside0.mk (Below.refl w.heap.size w)
 have H:(if a0.toList=([]:List UInt8) then (some false) else ((agoraref23_Low.f k a1).bind fun t222=>((agoraref23_Letters.f k t222).bind fun t223=>((agoraref23_Low.f k a0).bind fun t226=>((agoraref23_Letters.f k t226).bind fun t227=>(agoraref23_Word.l0 k 0 t223 t227))))))=some r:=h
 clear h
 by_cases c3:a0.toList=([]:List UInt8)
 · rw [if_pos c3] at H
   have c3b0:(a0.toList==([]:List UInt8))=true:=beq_iff_eq.mpr c3
   have c3b1:(a0.toList != ([]:List UInt8))=false:=bne_eq_false_iff_eq.mpr c3
   clear c3
   obtain rfl:=Option.some.inj H
   go_enter Tryz.func29,Tryz.ntmps29
   go_wp2
   go_ret
   exact ⟨by first|rfl|(simp [errW_none,errW_some] <;> rfl)|(simp [*,errW_none,errW_some] <;> rfl),by repeat (first|(with_reducible first|exact HB.out|apply below_alloc|apply pw_below_drewN|apply below_drew1)|exact HB.out)⟩
 · rw [if_neg c3] at H
   have c3b0:(a0.toList==([]:List UInt8))=false:=beq_eq_false_iff_ne.mpr c3
   have c3b1:(a0.toList != ([]:List UInt8))=true:=bne_iff_ne.mpr c3
   replace H:=Option.bind_eq_some_iff.mp H
   obtain ⟨t222,A40,H⟩:=H
   replace H:((agoraref23_Letters.f k t222).bind fun t223=>((agoraref23_Low.f k a0).bind fun t226=>((agoraref23_Letters.f k t226).bind fun t227=>(agoraref23_Word.l0 k 0 t223 t227))))=some r:=H
   have A4:=Aside0.mk A40
   clear A40
   replace H:=Option.bind_eq_some_iff.mp H
   obtain ⟨t223,A50,H⟩:=H
   replace H:((agoraref23_Low.f k a0).bind fun t226=>((agoraref23_Letters.f k t226).bind fun t227=>(agoraref23_Word.l0 k 0 t223 t227)))=some r:=H
   have A5:=Aside0.mk A50
   clear A50
   replace H:=Option.bind_eq_some_iff.mp H
   obtain ⟨t226,A60,H⟩:=H
   replace H:((agoraref23_Letters.f k t226).bind fun t227=>(agoraref23_Word.l0 k 0 t223 t227))=some r:=H
   have A6:=Aside0.mk A60
   clear A60
   replace H:=Option.bind_eq_some_iff.mp H
   obtain ⟨t227,A70,H⟩:=H
   replace H:(agoraref23_Word.l0 k 0 t223 t227)=some r:=H
   have A7:=Aside0.mk A70
   clear A70
   have H':=Aside0.mk H
   clear H
   go_enter Tryz.func29,Tryz.ntmps29
   go_wp2_with (first|((with_reducible refine gate_callee (f:=62) rfl ?_);refine goesL_ (some 12) rfl rfl Tryz.func62 (by kernel_rfl) rfl #[.string a1] rfl (by (try simp only [List.map_toArray,List.map_cons,List.map_nil]);first|done|rfl|(simp only [List.length_drop,List.length_take];rfl)) ?_;(with_reducible refine (agoraref23_Low.calls k a1 t222 _ A4.out).mono ?_);rintro e w8 ⟨rfl,hb⟩;refine ⟨_,rfl,?_⟩;have n0_:=Aside0.mk (below_step (by repeat (first|(with_reducible first|exact HB.out|apply below_alloc|apply pw_below_drewN|apply below_drew1)|exact HB.out)) hb);clear HB;have HB:=n0_;clear n0_;(try clear hb);(try clear hb2);(try clear hk);(try clear hi))|((with_reducible refine gate_callee (f:=61) rfl ?_);refine goesL_ (some 13) rfl rfl Tryz.func61 (by kernel_rfl) rfl #[.string t222] rfl (by (try simp only [List.map_toArray,List.map_cons,List.map_nil]);first|done|rfl|(simp only [List.length_drop,List.length_take];rfl)) ?_;(with_reducible refine (agoraref23_Letters.calls k t222 t223 _ A5.out).mono ?_);rintro e w9 ⟨v224,rfl,ho0,hb⟩;refine ⟨_,rfl,?_⟩;have n0_:=Aside0.mk (Kd.R_lower ho0 (below_size (by repeat (first|(with_reducible first|exact HB.out|apply below_alloc|apply pw_below_drewN|apply below_drew1)|exact HB.out))));have n1_:=Aside0.mk (below_step (by repeat (first|(with_reducible first|exact HB.out|apply below_alloc|apply pw_below_drewN|apply below_drew1)|exact HB.out)) hb);clear HB;have HO225:=n0_;have HB:=n1_;clear n0_ n1_;(try clear hb);(try clear hb2);(try clear hk);(try clear hi);(try clear ho0))|((with_reducible refine gate_callee (f:=62) rfl ?_);refine goesL_ (some 15) rfl rfl Tryz.func62 (by kernel_rfl) rfl #[.string a0] rfl (by (try simp only [List.map_toArray,List.map_cons,List.map_nil]);first|done|rfl|(simp only [List.length_drop,List.length_take];rfl)) ?_;(with_reducible refine (agoraref23_Low.calls k a0 t226 _ A6.out).mono ?_);rintro e w10 ⟨rfl,hb⟩;refine ⟨_,rfl,?_⟩;have n0_:=Aside0.mk (Kd.R_below (by (with_reducible repeat (first|apply Kd.R_alloc|apply Kd.R_drewN|apply Kd.R_drew));exact HO225.out) hb);have n1_:=Aside0.mk (below_step (by repeat (first|(with_reducible first|exact HB.out|apply below_alloc|apply pw_below_drewN|apply below_drew1)|exact HB.out)) hb);clear HO225;clear HB;have HO225:=n0_;have HB:=n1_;clear n0_ n1_;(try clear hb);(try clear hb2);(try clear hk);(try clear hi))|((with_reducible refine gate_callee (f:=61) rfl ?_);refine goesL_ (some 16) rfl rfl Tryz.func61 (by kernel_rfl) rfl #[.string t226] rfl (by (try simp only [List.map_toArray,List.map_cons,List.map_nil]);first|done|rfl|(simp only [List.length_drop,List.length_take];rfl)) ?_;(with_reducible refine (agoraref23_Letters.calls k t226 t227 _ A7.out).mono ?_);rintro e w11 ⟨v228,rfl,ho0,hb⟩;refine ⟨_,rfl,?_⟩;have n0_:=Aside0.mk (Kd.R_elder' (by (with_reducible repeat (first|apply Kd.R_alloc|apply Kd.R_drewN|apply Kd.R_drew));exact HO225.out) (Kd.R_base ho0) hb);have n1_:=Aside0.mk (Kd.R_lower (Kd.R_new' ho0 (Kd.R_lt (by (with_reducible repeat (first|apply Kd.R_alloc|apply Kd.R_drewN|apply Kd.R_drew));exact HO225.out))) (below_size (by repeat (first|(with_reducible first|exact HB.out|apply below_alloc|apply pw_below_drewN|apply below_drew1)|exact HB.out))));have n2_:=Aside0.mk (below_step (by repeat (first|(with_reducible first|exact HB.out|apply below_alloc|apply pw_below_drewN|apply below_drew1)|exact HB.out)) hb);clear HO225;clear HB;have HO225:=n0_;have HO229:=n1_;have HB:=n2_;clear n0_ n1_ n2_;(try clear hb);(try clear hb2);(try clear hk);(try clear hi);(try clear ho0)))
   go_loopg [7] k (fun kq v7 w'=>∃ (x7_1:Int),v7=.int .i64 x7_1∧Aside0 (agoraref23_Word.l0 kq x7_1 t223 t227=some r)∧Aside0 (kq≤k)∧Aside0 (Kd.R Kd.string 9 w' w.heap.size (fun k_=>some k_≠(v228:Value).ownBlock) v224 t223)∧Aside0 (Kd.R Kd.string 9 w' w.heap.size (fun k_=>some k_≠(v224:Value).ownBlock) v228 t227)∧Aside0 (Below w.heap.size w w'))
   case atStart=>exact ⟨(0),(by first|rfl|(simp;done)|(simp [*];done)),H',⟨Nat.le_refl _⟩,⟨by (with_reducible repeat (first|apply Kd.R_alloc|apply Kd.R_drewN|apply Kd.R_drew));exact Kd.R_mono HO225.out (fun _ hk=>hk.2)⟩,⟨by (with_reducible repeat (first|apply Kd.R_alloc|apply Kd.R_drewN|apply Kd.R_drew));exact Kd.R_mono HO229.out (fun _ hk=>hk.2)⟩,⟨by repeat (first|(with_reducible first|exact HB.out|apply below_alloc|apply pw_below_drewN|apply below_drew1)|exact HB.out)⟩⟩
   case round=>
    clear H'
    try clear c2
    try clear p2
    try clear c3
    try clear c3b0
    try clear c3b1
    try clear c6
    obtain ⟨x7_1,rfl,HA,HK1,HO_13,HO_16,HB⟩:=hrel
    cases gk with
    | zero=>exact absurd HA.out (by simp [agoraref23_Word.l0])
    | succ k1=>
     have H:=HA.out
     clear HA
     simp only [agoraref23_Word.l0] at H
     by_cases c12:x7_1≤(t223.length:Int)
     · rw [if_pos c12] at H
       have c12b0:decide (x7_1≤(t223.length:Int))=true:=decide_eq_true c12
       clear c12
       have HC13:=Aside0.mk H
       clear H
       obtain ⟨Ao14,co14,eo14⟩:=Kd.R_slice HO_13.out
       subst eo14
       go_upto_region 8 with (fail)
       go_cut [32] (fun v32 wc=>∃ (kq:Nat) (x32_12:Bool),v32=.bool x32_12∧Aside0 (agoraref23_Word.j1 kq t223 t227 x7_1 t223 t227 x32_12=some r)∧Aside0 (kq≤k1)∧Aside0 (Kd.R Kd.string 9 wc w.heap.size (fun k_=>some k_≠(v228:Value).ownBlock∧some k_≠(v228:Value).ownBlock) (.slice Ao14 t223.length co14) t223)∧Aside0 (Kd.R Kd.string 9 wc w.heap.size (fun k_=>some k_≠((.slice Ao14 t223.length co14):Value).ownBlock∧some k_≠((.slice Ao14 t223.length co14):Value).ownBlock) v228 t227)∧Aside0 (Kd.R Kd.string 9 wc w.heap.size (fun k_=>some k_≠(v228:Value).ownBlock∧some k_≠(v228:Value).ownBlock) (.slice Ao14 t223.length co14) t223)∧Aside0 (Kd.R Kd.string 9 wc w.heap.size (fun k_=>some k_≠((.slice Ao14 t223.length co14):Value).ownBlock∧some k_≠((.slice Ao14 t223.length co14):Value).ownBlock) v228 t227)∧Aside0 (Below w.heap.size w wc))
       case first=>
        have H:=HC13.out
        clear HC13
        by_cases c15:x7_1 > 0
        · rw [if_pos c15] at H
          have c15b0:decide (0 < x7_1)=true:=decide_eq_true c15
          clear c15
          (first|rw [c15b0]|(simp only [i64_w,i32_w];rw [c15b0])|skip)
          obtain ⟨ji16,hji16⟩ : ∃ j_:Int,(wrap64 (x7_1 - 1))=j_:=⟨_,rfl⟩
          replace H:(if 0≤(ji16) then (if (ji16) < (t223.length:Int) then ((agoraref23_word.f (rdOf ByteArray.empty t223 (ji16))).bind fun t231=>(agoraref23_Word.j1 k1 t223 t227 x7_1 t223 t227 t231)) else (none)) else (none))=some r:=by first|(rw [hji16] at H;exact H)|(simp only [hji16] at H ⊢;exact H)
          have hji16w:(IntKind.i64.wrap (x7_1 - 1))=ji16:=(i64_w _).trans hji16
          by_cases c17:0≤(ji16)
          · rw [if_pos c17] at H
            have c17b0:decide (0≤(ji16))=true:=decide_eq_true c17
            clear c17
            by_cases c18:(ji16) < (t223.length:Int)
            · rw [if_pos c18] at H
              have c18b0:decide ((ji16) < (t223.length:Int))=true:=decide_eq_true c18
              clear c18
              replace H:=Option.bind_eq_some_iff.mp H
              obtain ⟨t231,A190,H⟩:=H
              replace H:(agoraref23_Word.j1 k1 t223 t227 x7_1 t223 t227 t231)=some r:=H
              have A19:=Aside0.mk A190
              clear A190
              have H':=Aside0.mk H
              clear H
              have p230:0≤((ji16):Int):=of_decide_eq_true (by first|(with_reducible assumption)|assumption)
              have q230:(ji16) < (t223.length:Int):=of_decide_eq_true (by first|(with_reducible assumption)|assumption)
              obtain ⟨ad230,e230,hx230_0⟩:=Kd.at_string (Kd.R_reads' HO_13.out).2.2 (ji16) p230 q230
              cases e230
              replace p230:=eq_true p230
              replace q230:=eq_true q230
              go_wp2_with (first|(go_at_call 63;(with_reducible refine (agoraref23_word.calls (rdOf ByteArray.empty t223 (ji16)) t231 _ A19.out).mono ?_);rintro e w' ⟨rfl,⟨nd,rfl⟩⟩))
              go_meet
              case rel=>exact ⟨_,(t231),(by first|rfl|(simp;done)|(simp [*];done)),H',⟨by have:=HK1.out;first|omega|exact Nat.le_refl _⟩,⟨by (with_reducible repeat (first|apply Kd.R_alloc|apply Kd.R_drewN|apply Kd.R_drew));exact Kd.R_mono HO_13.out (fun _ hk=>⟨hk,hk⟩)⟩,⟨by (with_reducible repeat (first|apply Kd.R_alloc|apply Kd.R_drewN|apply Kd.R_drew));exact Kd.R_mono HO_16.out (fun _ hk=>⟨hk,hk⟩)⟩,⟨by (with_reducible repeat (first|apply Kd.R_alloc|apply Kd.R_drewN|apply Kd.R_drew));exact Kd.R_mono HO_13.out (fun _ hk=>⟨hk,hk⟩)⟩,⟨by (with_reducible repeat (first|apply Kd.R_alloc|apply Kd.R_drewN|apply Kd.R_drew));exact Kd.R_mono HO_16.out (fun _ hk=>⟨hk,hk⟩)⟩,⟨by repeat (first|(with_reducible first|exact HB.out|apply below_alloc|apply pw_below_drewN|apply below_drew1)|exact HB.out)⟩⟩
            · rw [if_neg c18] at H
              exact absurd H (by simp)
          · rw [if_neg c17] at H
            exact absurd H (by simp)
        · rw [if_neg c15] at H
          have c15b0:decide (0 < x7_1)=false:=decide_eq_false c15
          clear c15
          (first|rw [c15b0]|(simp only [i64_w,i32_w];rw [c15b0])|skip)
          have H':=Aside0.mk H
          clear H
          go_wp2
          go_meet
          case rel=>exact ⟨_,(false),(by first|rfl|(simp;done)|(simp [*];done)),H',⟨by have:=HK1.out;first|omega|exact Nat.le_refl _⟩,⟨by (with_reducible repeat (first|apply Kd.R_alloc|apply Kd.R_drewN|apply Kd.R_drew));exact Kd.R_mono HO_13.out (fun _ hk=>⟨hk,hk⟩)⟩,⟨by (with_reducible repeat (first|apply Kd.R_alloc|apply Kd.R_drewN|apply Kd.R_drew));exact Kd.R_mono HO_16.out (fun _ hk=>⟨hk,hk⟩)⟩,⟨by (with_reducible repeat (first|apply Kd.R_alloc|apply Kd.R_drewN|apply Kd.R_drew));exact Kd.R_mono HO_13.out (fun _ hk=>⟨hk,hk⟩)⟩,⟨by (with_reducible repeat (first|apply Kd.R_alloc|apply Kd.R_drewN|apply Kd.R_drew));exact Kd.R_mono HO_16.out (fun _ hk=>⟨hk,hk⟩)⟩,⟨by repeat (first|(with_reducible first|exact HB.out|apply below_alloc|apply pw_below_drewN|apply below_drew1)|exact HB.out)⟩⟩
       case rest=>
        clear HC13
        try clear c1
        try clear c2
        try clear p2
        try clear q2
        try clear hx2
        try clear c3
        try clear c3b0
        try clear c3b1
        try clear c6
        try clear p6
        try clear c12
        try clear c12b0
        try clear c15
        try clear c15b0
        try clear c17
        try clear c17b0
        try clear c18
        try clear c18b0
        try clear hx230_0
        try clear p2
        try clear p230
        try clear q230
        obtain ⟨kq,x32_12,rfl,HA,HJ12,HO_5,HO_6,HO_13,HO_16,HB⟩:=hcut
        cases kq with
        | zero=>exact absurd HA.out (by simp [agoraref23_Word.j1])
        | succ kj12=>
         have H:=HA.out
         clear HA
         simp only [agoraref23_Word.j1] at H
         by_cases c20:x32_12=true
         · subst c20
           have H1:(agoraref23_Word.l0 kj12 (wrap64 (x7_1+1)) t223 t227)=some r:=by rw [if_pos rfl] at H;exact H
           clear H
           have H:=H1
           clear H1
           have H':=Aside0.mk H
           clear H
           go_wp2
           go_roundg kj12
           case measure=>have:=HK1.out;have:=HJ12.out;omega
           case rel=>exact ⟨(wrap64 (x7_1+1)),(by first|rfl|(simp;done)|(simp [*];done)),H',⟨by have:=HK1.out;have:=HJ12.out;omega⟩,⟨by (with_reducible repeat (first|apply Kd.R_alloc|apply Kd.R_drewN|apply Kd.R_drew));exact Kd.R_mono HO_13.out (fun _ hk=>hk.2)⟩,⟨by (with_reducible repeat (first|apply Kd.R_alloc|apply Kd.R_drewN|apply Kd.R_drew));exact Kd.R_mono HO_16.out (fun _ hk=>hk.2)⟩,⟨by repeat (first|(with_reducible first|exact HB.out|apply below_alloc|apply pw_below_drewN|apply below_drew1)|exact HB.out)⟩⟩
         · replace c20:=Bool.eq_false_iff.mpr c20
           subst c20
           have H1:(agoraref23_Word.l1 kj12 t223 t227 x7_1 x7_1 t223 t227)=some r:=by rw [if_neg (show ¬ (false=true) by decide)] at H;exact H
           clear H
           have H:=H1
           clear H1
           have H':=Aside0.mk H
           clear H
           go_wp2
           go_loopg [8] kj12 (fun kq v8 w'=>∃ (x8_3:Int),v8=.int .i64 x8_3∧Aside0 (agoraref23_Word.l1 kq t223 t227 x7_1 x8_3 t223 t227=some r)∧Aside0 (kq≤kj12)∧Aside0 (Kd.R Kd.string 9 w' w.heap.size (fun k_=>some k_≠(v228:Value).ownBlock∧some k_≠(v228:Value).ownBlock) (.slice Ao14 t223.length co14) t223)∧Aside0 (Kd.R Kd.string 9 w' w.heap.size (fun k_=>some k_≠((.slice Ao14 t223.length co14):Value).ownBlock∧some k_≠((.slice Ao14 t223.length co14):Value).ownBlock) v228 t227)∧Aside0 (Kd.R Kd.string 9 w' w.heap.size (fun k_=>some k_≠(v228:Value).ownBlock∧some k_≠(v228:Value).ownBlock) (.slice Ao14 t223.length co14) t223)∧Aside0 (Kd.R Kd.string 9 w' w.heap.size (fun k_=>some k_≠((.slice Ao14 t223.length co14):Value).ownBlock∧some k_≠((.slice Ao14 t223.length co14):Value).ownBlock) v228 t227)∧Aside0 (Below w.heap.size w w'))
           case atStart=>exact ⟨(x7_1),(by first|rfl|(simp;done)|(simp [*];done)),H',⟨Nat.le_refl _⟩,⟨by (with_reducible repeat (first|apply Kd.R_alloc|apply Kd.R_drewN|apply Kd.R_drew));exact HO_5.out⟩,⟨by (with_reducible repeat (first|apply Kd.R_alloc|apply Kd.R_drewN|apply Kd.R_drew));exact HO_6.out⟩,⟨by (with_reducible repeat (first|apply Kd.R_alloc|apply Kd.R_drewN|apply Kd.R_drew));exact HO_13.out⟩,⟨by (with_reducible repeat (first|apply Kd.R_alloc|apply Kd.R_drewN|apply Kd.R_drew));exact HO_16.out⟩,⟨by repeat (first|(with_reducible first|exact HB.out|apply below_alloc|apply pw_below_drewN|apply below_drew1)|exact HB.out)⟩⟩
           case round=>
            clear H'
            try clear c1
            try clear c2
            try clear p2
            try clear q2
            try clear hx2
            try clear c3
            try clear c3b0
            try clear c3b1
            try clear c6
            try clear p6
            try clear c12
            try clear c12b0
            try clear c15
            try clear c15b0
            try clear c17
            try clear c17b0
            try clear c18
            try clear c18b0
            try clear c20
            try clear hx230_0
            try clear p2
            try clear p230
            try clear p6
            try clear q2
            try clear q230
            obtain ⟨x8_3,rfl,HA,HK3,HO_5,HO_6,HO_13,HO_16,HB⟩:=hrel
            cases gk with
            | zero=>exact absurd HA.out (by simp [agoraref23_Word.l1])
            | succ k3=>
             have H:=HA.out
             clear HA
             simp only [agoraref23_Word.l1] at H
             by_cases c21:x8_3≤(t223.length:Int)
             · rw [if_pos c21] at H
               have c21b0:decide (x8_3≤(t223.length:Int))=true:=decide_eq_true c21
               clear c21
               by_cases c22:x8_3=(t223.length:Int)
               · rw [if_pos c22] at H
                 have c22b0:(x8_3==(t223.length:Int))=true:=beq_iff_eq.mpr c22
                 have c22b1:(x8_3 != (t223.length:Int))=false:=bne_eq_false_iff_eq.mpr c22
                 clear c22
                 by_cases c23:0≤x7_1
                 · rw [if_pos c23] at H
                   have c23b0:=eq_true c23
                   have c23b1:decide (0≤x7_1)=true:=decide_eq_true c23
                   clear c23
                   by_cases c24:x7_1≤x8_3
                   · rw [if_pos c24] at H
                     have c24b0:=eq_true c24
                     have c24b1:decide (x7_1≤x8_3)=true:=decide_eq_true c24
                     clear c24
                     have c25b0:=eq_true (of_decide_eq_true (by first|(with_reducible assumption)|assumption):x8_3≤(t223.length:Int))
                     obtain ⟨y232,hy232⟩ : ∃ y_:List ByteArray,y_=((t223.take (x8_3:Int).toNat).drop (x7_1:Int).toNat):=⟨_,rfl⟩
                     replace H:((agoraref23_match.f k3 t227 y232).bind fun t236=>(if t236=true then (some true) else (agoraref23_Word.l1 k3 t223 t227 x7_1 (wrap64 (x8_3+1)) t223 t227)))=some r:=by first|(rw [hy232];with_reducible exact H)|(have H2_:=(Option.bind_some _ _).symm.trans H;rw [hy232];with_reducible exact H2_)|(have H2_:=(Option.bind_some _ _).symm.trans H;with_reducible exact H2_)|with_reducible exact H|(rw [hy232];exact H)|exact H
                     have Ny232:=Aside0.mk hy232
                     clear hy232
                     replace H:=Option.bind_eq_some_iff.mp H
                     obtain ⟨t236,A260,H⟩:=H
                     replace H:(if t236=true then (some true) else (agoraref23_Word.l1 k3 t223 t227 x7_1 (wrap64 (x8_3+1)) t223 t227))=some r:=H
                     have A26:=Aside0.mk A260
                     clear A260
                     by_cases c27:t236=true
                     · subst c27
                       have H1:(some true)=some r:=by rw [if_pos rfl] at H;exact H
                       clear H
                       have H:=H1
                       clear H1
                       obtain rfl:=Option.some.inj H
                       have q28:(x8_3:Int)≤((t223.length:Int):Int):=of_decide_eq_true (by first|(with_reducible assumption)|assumption)
                       obtain ⟨i028,hi028,_,hsz28,_⟩:=info_parts info9
                       have hroom28:t223.length≤co14:=(Kd.R_reads' HO_5.out).2.1
                       have hC28:Kd.C Kd.string _ Ao14 t223.length t223:=(Kd.R_reads' HO_5.out).2.2
                       have ql28:(x7_1:Int)≤(x8_3:Int):=of_decide_eq_true (by first|(with_reducible assumption)|assumption)
                       have q028:(0:Int)≤(x7_1:Int):=of_decide_eq_true (by first|(with_reducible assumption)|assumption)
                       have hcut28:=cut_mid (P:=Tryz.prog) 24 9 .i64 .i64 Tryz.underlying24 hi028 1 hsz28 Ao14 t223.length co14 x7_1 x8_3 q028 ql28 q28 hroom28
                       have hr28:=Kd.C_mid (lo:=(x7_1:Int).toNat) (hi:=(x8_3:Int).toNat) (c:=co14) hC28 (by omega) (by omega) hroom28
                       obtain ⟨A28,hA28⟩ : ∃ A1,A1=(if co14=(x7_1:Int).toNat then Ao14 else (Ao14:Option Addr).map (·.add ((x7_1:Int).toNat * 1))):=⟨_,rfl⟩
                       obtain ⟨c28,hc28⟩ : ∃ c1,c1=co14 - (x7_1:Int).toNat:=⟨_,rfl⟩
                       have hy28:y232.length=(x8_3:Int).toNat - (x7_1:Int).toNat:=(by rw [Ny232.out,List.length_drop,List.length_take] <;> omega)
                       rw [show ((t223).take (x8_3:Int).toNat).drop (x7_1:Int).toNat=y232 from Ny232.out.symm] at hr28
                       replace hr28:Kd.C Kd.string _ A28 y232.length y232:=(by rw [hA28];exact hr28)
                       rw [← hy28,← hA28,← hc28] at hcut28
                       have HR235:=Aside0.mk hr28
                       have HC235:=Aside0.mk (show y232.length≤c28 from by rw [hy28,hc28];exact Nat.sub_le_sub_right (Nat.le_trans (by omega) hroom28) _)
                       clear hr28 hC28 hroom28 hi028 hsz28 hc28
                       have KY28:=Aside0.mk hy28
                       have KA28:=Aside0.mk hA28
                       clear hy28 hA28
                       have KL28:=Aside0.mk (show (x8_3:Int).toNat≤t223.length from by omega)
                       have KM28:=Aside0.mk (show (x7_1:Int).toNat≤(x8_3:Int).toNat from by omega)
                       replace q28:=eq_true q28
                       obtain ⟨Ao29,co29,eo29⟩:=Kd.R_slice HO_6.out
                       subst eo29
                       go_wp2_with (first|(go_at_call 64;(with_reducible refine (agoraref23_match.calls k3 _ _ t227 _ _ y232 true _ ?side1 ?side2 ?side3 ?side4 A26.out).mono ?_);(case side1=>repeat (first|exact (Kd.R_reads' HO_6.out).2.2|(with_reducible refine Kd.C_alloc ?_ _)|(with_reducible refine Kd.C_drewN ?_ _)|(with_reducible refine Kd.C_drew ?_)));(case side2=>exact (Kd.R_reads' HO_6.out).2.1);(case side3=>repeat (first|exact (by repeat (first|(with_reducible exact HR235.out)|(with_reducible refine Kd.C_alloc ?_ _)|(with_reducible refine Kd.C_drewN ?_ _)|(with_reducible refine Kd.C_drew ?_)|exact HR235.out))|(with_reducible refine Kd.C_alloc ?_ _)|(with_reducible refine Kd.C_drewN ?_ _)|(with_reducible refine Kd.C_drew ?_)));(case side4=>exact HC235.out);rintro e w30 ⟨rfl,hb⟩;have n0_:=Aside0.mk (Kd.R_below (by (with_reducible repeat (first|apply Kd.R_alloc|apply Kd.R_drewN|apply Kd.R_drew));exact HO_5.out) hb);have n1_:=Aside0.mk (Kd.R_below (by (with_reducible repeat (first|apply Kd.R_alloc|apply Kd.R_drewN|apply Kd.R_drew));exact HO_6.out) hb);have n2_:=Aside0.mk (Kd.R_below (by (with_reducible repeat (first|apply Kd.R_alloc|apply Kd.R_drewN|apply Kd.R_drew));exact HO_13.out) hb);have n3_:=Aside0.mk (Kd.R_below (by (with_reducible repeat (first|apply Kd.R_alloc|apply Kd.R_drewN|apply Kd.R_drew));exact HO_16.out) hb);have n4_:=Aside0.mk (Kd.C_below (by repeat (first|(with_reducible exact HR235.out)|(with_reducible refine Kd.C_alloc ?_ _)|(with_reducible refine Kd.C_drewN ?_ _)|(with_reducible refine Kd.C_drew ?_)|exact HR235.out)) hb);have n5_:=Aside0.mk (below_step (by repeat (first|(with_reducible first|exact HB.out|apply below_alloc|apply pw_below_drewN|apply below_drew1)|exact HB.out)) hb);clear HO_5;clear HO_6;clear HO_13;clear HO_16;clear HR235;clear HB;have HO_5:=n0_;have HO_6:=n1_;have HO_13:=n2_;have HO_16:=n3_;have HR235:=n4_;have HB:=n5_;clear n0_ n1_ n2_ n3_ n4_ n5_;(try clear hb);(try clear hb2);(try clear hk);(try clear hi)))
                       go_ret
                       exact ⟨by first|rfl|(simp [errW_none,errW_some] <;> rfl)|(simp [*,errW_none,errW_some] <;> rfl),by repeat (first|(with_reducible first|exact HB.out|apply below_alloc|apply pw_below_drewN|apply below_drew1)|exact HB.out)⟩
                     · replace c27:=Bool.eq_false_iff.mpr c27
                       subst c27
                       have H1:(agoraref23_Word.l1 k3 t223 t227 x7_1 (wrap64 (x8_3+1)) t223 t227)=some r:=by rw [if_neg (show ¬ (false=true) by decide)] at H;exact H
                       clear H
                       have H:=H1
                       clear H1
                       have H':=Aside0.mk H
                       clear H
                       have q31:(x8_3:Int)≤((t223.length:Int):Int):=of_decide_eq_true (by first|(with_reducible assumption)|assumption)
                       obtain ⟨i031,hi031,_,hsz31,_⟩:=info_parts info9
                       have hroom31:t223.length≤co14:=(Kd.R_reads' HO_5.out).2.1
                       have hC31:Kd.C Kd.string _ Ao14 t223.length t223:=(Kd.R_reads' HO_5.out).2.2
                       have ql31:(x7_1:Int)≤(x8_3:Int):=of_decide_eq_true (by first|(with_reducible assumption)|assumption)
                       have q031:(0:Int)≤(x7_1:Int):=of_decide_eq_true (by first|(with_reducible assumption)|assumption)
                       have hcut31:=cut_mid (P:=Tryz.prog) 24 9 .i64 .i64 Tryz.underlying24 hi031 1 hsz31 Ao14 t223.length co14 x7_1 x8_3 q031 ql31 q31 hroom31
                       have hr31:=Kd.C_mid (lo:=(x7_1:Int).toNat) (hi:=(x8_3:Int).toNat) (c:=co14) hC31 (by omega) (by omega) hroom31
                       obtain ⟨A31,hA31⟩ : ∃ A1,A1=(if co14=(x7_1:Int).toNat then Ao14 else (Ao14:Option Addr).map (·.add ((x7_1:Int).toNat * 1))):=⟨_,rfl⟩
                       obtain ⟨c31,hc31⟩ : ∃ c1,c1=co14 - (x7_1:Int).toNat:=⟨_,rfl⟩
                       have hy31:y232.length=(x8_3:Int).toNat - (x7_1:Int).toNat:=(by rw [Ny232.out,List.length_drop,List.length_take] <;> omega)
                       rw [show ((t223).take (x8_3:Int).toNat).drop (x7_1:Int).toNat=y232 from Ny232.out.symm] at hr31
                       replace hr31:Kd.C Kd.string _ A31 y232.length y232:=(by rw [hA31];exact hr31)
                       rw [← hy31,← hA31,← hc31] at hcut31
                       have HR235:=Aside0.mk hr31
                       have HC235:=Aside0.mk (show y232.length≤c31 from by rw [hy31,hc31];exact Nat.sub_le_sub_right (Nat.le_trans (by omega) hroom31) _)
                       clear hr31 hC31 hroom31 hi031 hsz31 hc31
                       have KY31:=Aside0.mk hy31
                       have KA31:=Aside0.mk hA31
                       clear hy31 hA31
                       have KL31:=Aside0.mk (show (x8_3:Int).toNat≤t223.length from by omega)
                       have KM31:=Aside0.mk (show (x7_1:Int).toNat≤(x8_3:Int).toNat from by omega)
                       replace q31:=eq_true q31
                       obtain ⟨Ao32,co32,eo32⟩:=Kd.R_slice HO_6.out
                       subst eo32
                       go_wp2_with (first|(go_at_call 64;(with_reducible refine (agoraref23_match.calls k3 _ _ t227 _ _ y232 false _ ?side1 ?side2 ?side3 ?side4 A26.out).mono ?_);(case side1=>repeat (first|exact (Kd.R_reads' HO_6.out).2.2|(with_reducible refine Kd.C_alloc ?_ _)|(with_reducible refine Kd.C_drewN ?_ _)|(with_reducible refine Kd.C_drew ?_)));(case side2=>exact (Kd.R_reads' HO_6.out).2.1);(case side3=>repeat (first|exact (by repeat (first|(with_reducible exact HR235.out)|(with_reducible refine Kd.C_alloc ?_ _)|(with_reducible refine Kd.C_drewN ?_ _)|(with_reducible refine Kd.C_drew ?_)|exact HR235.out))|(with_reducible refine Kd.C_alloc ?_ _)|(with_reducible refine Kd.C_drewN ?_ _)|(with_reducible refine Kd.C_drew ?_)));(case side4=>exact HC235.out);rintro e w33 ⟨rfl,hb⟩;have n0_:=Aside0.mk (Kd.R_below (by (with_reducible repeat (first|apply Kd.R_alloc|apply Kd.R_drewN|apply Kd.R_drew));exact HO_5.out) hb);have n1_:=Aside0.mk (Kd.R_below (by (with_reducible repeat (first|apply Kd.R_alloc|apply Kd.R_drewN|apply Kd.R_drew));exact HO_6.out) hb);have n2_:=Aside0.mk (Kd.R_below (by (with_reducible repeat (first|apply Kd.R_alloc|apply Kd.R_drewN|apply Kd.R_drew));exact HO_13.out) hb);have n3_:=Aside0.mk (Kd.R_below (by (with_reducible repeat (first|apply Kd.R_alloc|apply Kd.R_drewN|apply Kd.R_drew));exact HO_16.out) hb);have n4_:=Aside0.mk (Kd.C_below (by repeat (first|(with_reducible exact HR235.out)|(with_reducible refine Kd.C_alloc ?_ _)|(with_reducible refine Kd.C_drewN ?_ _)|(with_reducible refine Kd.C_drew ?_)|exact HR235.out)) hb);have n5_:=Aside0.mk (below_step (by repeat (first|(with_reducible first|exact HB.out|apply below_alloc|apply pw_below_drewN|apply below_drew1)|exact HB.out)) hb);clear HO_5;clear HO_6;clear HO_13;clear HO_16;clear HR235;clear HB;have HO_5:=n0_;have HO_6:=n1_;have HO_13:=n2_;have HO_16:=n3_;have HR235:=n4_;have HB:=n5_;clear n0_ n1_ n2_ n3_ n4_ n5_;(try clear hb);(try clear hb2);(try clear hk);(try clear hi)))
                       go_roundg k3
                       case measure=>have:=HK1.out;have:=HJ12.out;have:=HK3.out;omega
                       case rel=>exact ⟨(wrap64 (x8_3+1)),(by first|rfl|(simp;done)|(simp [*];done)),H',⟨by have:=HK1.out;have:=HJ12.out;have:=HK3.out;omega⟩,⟨by (with_reducible repeat (first|apply Kd.R_alloc|apply Kd.R_drewN|apply Kd.R_drew));exact HO_5.out⟩,⟨by (with_reducible repeat (first|apply Kd.R_alloc|apply Kd.R_drewN|apply Kd.R_drew));exact HO_6.out⟩,⟨by (with_reducible repeat (first|apply Kd.R_alloc|apply Kd.R_drewN|apply Kd.R_drew));exact HO_13.out⟩,⟨by (with_reducible repeat (first|apply Kd.R_alloc|apply Kd.R_drewN|apply Kd.R_drew));exact HO_16.out⟩,⟨by repeat (first|(with_reducible first|exact HB.out|apply below_alloc|apply pw_below_drewN|apply below_drew1)|exact HB.out)⟩⟩
                   · rw [if_neg c24] at H
                     exact absurd H (by simp)
                 · rw [if_neg c23] at H
                   exact absurd H (by simp)
               · rw [if_neg c22] at H
                 have c22b0:(x8_3==(t223.length:Int))=false:=beq_eq_false_iff_ne.mpr c22
                 have c22b1:(x8_3 != (t223.length:Int))=true:=bne_iff_ne.mpr c22
                 by_cases c34:0≤x8_3
                 · rw [if_pos c34] at H
                   have c34b0:decide (0≤x8_3)=true:=decide_eq_true c34
                   clear c34
                   by_cases c35:x8_3 < (t223.length:Int)
                   · rw [if_pos c35] at H
                     have c35b0:decide (x8_3 < (t223.length:Int))=true:=decide_eq_true c35
                     clear c35
                     replace H:=Option.bind_eq_some_iff.mp H
                     obtain ⟨t238,A360,H⟩:=H
                     replace H:(if t238=true then (agoraref23_Word.l1 k3 t223 t227 x7_1 (wrap64 (x8_3+1)) t223 t227) else (if 0≤x7_1 then (if x7_1≤x8_3 then ((agoraref23_match.f k3 t227 ((t223.take (x8_3:Int).toNat).drop (x7_1:Int).toNat)).bind fun t243=>(if t243=true then (some true) else (agoraref23_Word.l1 k3 t223 t227 x7_1 (wrap64 (x8_3+1)) t223 t227))) else (none)) else (none)))=some r:=H
                     have A36:=Aside0.mk A360
                     clear A360
                     by_cases c37:t238=true
                     · subst c37
                       have H1:(agoraref23_Word.l1 k3 t223 t227 x7_1 (wrap64 (x8_3+1)) t223 t227)=some r:=by rw [if_pos rfl] at H;exact H
                       clear H
                       have H:=H1
                       clear H1
                       have H':=Aside0.mk H
                       clear H
                       have p237:0≤(x8_3:Int):=of_decide_eq_true (by first|(with_reducible assumption)|assumption)
                       have q237:x8_3 < (t223.length:Int):=of_decide_eq_true (by first|(with_reducible assumption)|assumption)
                       obtain ⟨ad237,e237,hx237_0⟩:=Kd.at_string (Kd.R_reads' HO_5.out).2.2 x8_3 p237 q237
                       cases e237
                       replace p237:=eq_true p237
                       replace q237:=eq_true q237
                       go_wp2_with (first|(go_at_call 63;(with_reducible refine (agoraref23_word.calls (rdOf ByteArray.empty t223 x8_3) true _ A36.out).mono ?_);rintro e w' ⟨rfl,⟨nd,rfl⟩⟩))
                       go_roundg k3
                       case measure=>have:=HK1.out;have:=HJ12.out;have:=HK3.out;omega
                       case rel=>exact ⟨(wrap64 (x8_3+1)),(by first|rfl|(simp;done)|(simp [*];done)),H',⟨by have:=HK1.out;have:=HJ12.out;have:=HK3.out;omega⟩,⟨by (with_reducible repeat (first|apply Kd.R_alloc|apply Kd.R_drewN|apply Kd.R_drew));exact HO_5.out⟩,⟨by (with_reducible repeat (first|apply Kd.R_alloc|apply Kd.R_drewN|apply Kd.R_drew));exact HO_6.out⟩,⟨by (with_reducible repeat (first|apply Kd.R_alloc|apply Kd.R_drewN|apply Kd.R_drew));exact HO_13.out⟩,⟨by (with_reducible repeat (first|apply Kd.R_alloc|apply Kd.R_drewN|apply Kd.R_drew));exact HO_16.out⟩,⟨by repeat (first|(with_reducible first|exact HB.out|apply below_alloc|apply pw_below_drewN|apply below_drew1)|exact HB.out)⟩⟩
                     · replace c37:=Bool.eq_false_iff.mpr c37
                       subst c37
                       have H1:(if 0≤x7_1 then (if x7_1≤x8_3 then ((agoraref23_match.f k3 t227 ((t223.take (x8_3:Int).toNat).drop (x7_1:Int).toNat)).bind fun t243=>(if t243=true then (some true) else (agoraref23_Word.l1 k3 t223 t227 x7_1 (wrap64 (x8_3+1)) t223 t227))) else (none)) else (none))=some r:=by rw [if_neg (show ¬ (false=true) by decide)] at H;exact H
                       clear H
                       have H:=H1
                       clear H1
                       by_cases c38:0≤x7_1
                       · rw [if_pos c38] at H
                         have c38b0:=eq_true c38
                         have c38b1:decide (0≤x7_1)=true:=decide_eq_true c38
                         clear c38
                         by_cases c39:x7_1≤x8_3
                         · rw [if_pos c39] at H
                           have c39b0:=eq_true c39
                           have c39b1:decide (x7_1≤x8_3)=true:=decide_eq_true c39
                           clear c39
                           have c40b0:=eq_true (of_decide_eq_true (by first|(with_reducible assumption)|assumption):x8_3≤(t223.length:Int))
                           obtain ⟨y239,hy239⟩ : ∃ y_:List ByteArray,y_=((t223.take (x8_3:Int).toNat).drop (x7_1:Int).toNat):=⟨_,rfl⟩
                           replace H:((agoraref23_match.f k3 t227 y239).bind fun t243=>(if t243=true then (some true) else (agoraref23_Word.l1 k3 t223 t227 x7_1 (wrap64 (x8_3+1)) t223 t227)))=some r:=by first|(rw [hy239];with_reducible exact H)|(have H2_:=(Option.bind_some _ _).symm.trans H;rw [hy239];with_reducible exact H2_)|(have H2_:=(Option.bind_some _ _).symm.trans H;with_reducible exact H2_)|with_reducible exact H|(rw [hy239];exact H)|exact H
                           have Ny239:=Aside0.mk hy239
                           clear hy239
                           replace H:=Option.bind_eq_some_iff.mp H
                           obtain ⟨t243,A410,H⟩:=H
                           replace H:(if t243=true then (some true) else (agoraref23_Word.l1 k3 t223 t227 x7_1 (wrap64 (x8_3+1)) t223 t227))=some r:=H
                           have A41:=Aside0.mk A410
                           clear A410
                           by_cases c42:t243=true
                           · subst c42
                             have H1:(some true)=some r:=by rw [if_pos rfl] at H;exact H
                             clear H
                             have H:=H1
                             clear H1
                             obtain rfl:=Option.some.inj H
                             have p237:0≤(x8_3:Int):=of_decide_eq_true (by first|(with_reducible assumption)|assumption)
                             have q237:x8_3 < (t223.length:Int):=of_decide_eq_true (by first|(with_reducible assumption)|assumption)
                             obtain ⟨ad237,e237,hx237_0⟩:=Kd.at_string (Kd.R_reads' HO_5.out).2.2 x8_3 p237 q237
                             cases e237
                             replace p237:=eq_true p237
                             replace q237:=eq_true q237
                             go_wp2_with (first|(go_at_call 63;(with_reducible refine (agoraref23_word.calls (rdOf ByteArray.empty t223 x8_3) false _ A36.out).mono ?_);rintro e w' ⟨rfl,⟨nd,rfl⟩⟩;have q43:(x8_3:Int)≤((t223.length:Int):Int):=of_decide_eq_true (by first|(with_reducible assumption)|assumption);obtain ⟨i043,hi043,_,hsz43,_⟩:=info_parts info9;have hroom43:t223.length≤co14:=(Kd.R_reads' HO_5.out).2.1;have hC43:Kd.C Kd.string _ (some ad237) t223.length t223:=(Kd.R_reads' HO_5.out).2.2;have ql43:(x7_1:Int)≤(x8_3:Int):=of_decide_eq_true (by first|(with_reducible assumption)|assumption);have q043:(0:Int)≤(x7_1:Int):=of_decide_eq_true (by first|(with_reducible assumption)|assumption);have hcut43:=cut_mid (P:=Tryz.prog) 24 9 .i64 .i64 Tryz.underlying24 hi043 1 hsz43 (some ad237) t223.length co14 x7_1 x8_3 q043 ql43 q43 hroom43;have hr43:=Kd.C_mid (lo:=(x7_1:Int).toNat) (hi:=(x8_3:Int).toNat) (c:=co14) hC43 (by omega) (by omega) hroom43;obtain ⟨A43,hA43⟩ : ∃ A1,A1=(if co14=(x7_1:Int).toNat then (some ad237) else ((some ad237):Option Addr).map (·.add ((x7_1:Int).toNat * 1))):=⟨_,rfl⟩;obtain ⟨c43,hc43⟩ : ∃ c1,c1=co14 - (x7_1:Int).toNat:=⟨_,rfl⟩;have hy43:y239.length=(x8_3:Int).toNat - (x7_1:Int).toNat:=(by rw [Ny239.out,List.length_drop,List.length_take] <;> omega);rw [show ((t223).take (x8_3:Int).toNat).drop (x7_1:Int).toNat=y239 from Ny239.out.symm] at hr43;replace hr43:Kd.C Kd.string _ A43 y239.length y239:=(by rw [hA43];exact hr43);rw [← hy43,← hA43,← hc43] at hcut43;have HR242:=Aside0.mk hr43;have HC242:=Aside0.mk (show y239.length≤c43 from by rw [hy43,hc43];exact Nat.sub_le_sub_right (Nat.le_trans (by omega) hroom43) _);clear hr43 hC43 hroom43 hi043 hsz43 hc43;have KY43:=Aside0.mk hy43;have KA43:=Aside0.mk hA43;clear hy43 hA43;have KL43:=Aside0.mk (show (x8_3:Int).toNat≤t223.length from by omega);have KM43:=Aside0.mk (show (x7_1:Int).toNat≤(x8_3:Int).toNat from by omega);replace q43:=eq_true q43;obtain ⟨Ao44,co44,eo44⟩:=Kd.R_slice HO_6.out;subst eo44)|(go_at_call 64;(with_reducible refine (agoraref23_match.calls k3 _ _ t227 _ _ y239 true _ ?side1 ?side2 ?side3 ?side4 A41.out).mono ?_);(case side1=>repeat (first|exact (Kd.R_reads' HO_6.out).2.2|(with_reducible refine Kd.C_alloc ?_ _)|(with_reducible refine Kd.C_drewN ?_ _)|(with_reducible refine Kd.C_drew ?_)));(case side2=>exact (Kd.R_reads' HO_6.out).2.1);(case side3=>repeat (first|exact (by repeat (first|(with_reducible exact HR242.out)|(with_reducible refine Kd.C_alloc ?_ _)|(with_reducible refine Kd.C_drewN ?_ _)|(with_reducible refine Kd.C_drew ?_)|exact HR242.out))|(with_reducible refine Kd.C_alloc ?_ _)|(with_reducible refine Kd.C_drewN ?_ _)|(with_reducible refine Kd.C_drew ?_)));(case side4=>exact HC242.out);rintro e w45 ⟨rfl,hb⟩;have n0_:=Aside0.mk (Kd.R_below (by (with_reducible repeat (first|apply Kd.R_alloc|apply Kd.R_drewN|apply Kd.R_drew));exact HO_5.out) hb);have n1_:=Aside0.mk (Kd.R_below (by (with_reducible repeat (first|apply Kd.R_alloc|apply Kd.R_drewN|apply Kd.R_drew));exact HO_6.out) hb);have n2_:=Aside0.mk (Kd.R_below (by (with_reducible repeat (first|apply Kd.R_alloc|apply Kd.R_drewN|apply Kd.R_drew));exact HO_13.out) hb);have n3_:=Aside0.mk (Kd.R_below (by (with_reducible repeat (first|apply Kd.R_alloc|apply Kd.R_drewN|apply Kd.R_drew));exact HO_16.out) hb);have n4_:=Aside0.mk (Kd.C_below (by repeat (first|(with_reducible exact HR242.out)|(with_reducible refine Kd.C_alloc ?_ _)|(with_reducible refine Kd.C_drewN ?_ _)|(with_reducible refine Kd.C_drew ?_)|exact HR242.out)) hb);have n5_:=Aside0.mk (below_step (by repeat (first|(with_reducible first|exact HB.out|apply below_alloc|apply pw_below_drewN|apply below_drew1)|exact HB.out)) hb);clear HO_5;clear HO_6;clear HO_13;clear HO_16;clear HR242;clear HB;have HO_5:=n0_;have HO_6:=n1_;have HO_13:=n2_;have HO_16:=n3_;have HR242:=n4_;have HB:=n5_;clear n0_ n1_ n2_ n3_ n4_ n5_;(try clear hb);(try clear hb2);(try clear hk);(try clear hi)))
                             go_ret
                             exact ⟨by first|rfl|(simp [errW_none,errW_some] <;> rfl)|(simp [*,errW_none,errW_some] <;> rfl),by repeat (first|(with_reducible first|exact HB.out|apply below_alloc|apply pw_below_drewN|apply below_drew1)|exact HB.out)⟩
                           · replace c42:=Bool.eq_false_iff.mpr c42
                             subst c42
                             have H1:(agoraref23_Word.l1 k3 t223 t227 x7_1 (wrap64 (x8_3+1)) t223 t227)=some r:=by rw [if_neg (show ¬ (false=true) by decide)] at H;exact H
                             clear H
                             have H:=H1
                             clear H1
                             have H':=Aside0.mk H
                             clear H
                             have p237:0≤(x8_3:Int):=of_decide_eq_true (by first|(with_reducible assumption)|assumption)
                             have q237:x8_3 < (t223.length:Int):=of_decide_eq_true (by first|(with_reducible assumption)|assumption)
                             obtain ⟨ad237,e237,hx237_0⟩:=Kd.at_string (Kd.R_reads' HO_5.out).2.2 x8_3 p237 q237
                             cases e237
                             replace p237:=eq_true p237
                             replace q237:=eq_true q237
                             go_wp2_with (first|(go_at_call 63;(with_reducible refine (agoraref23_word.calls (rdOf ByteArray.empty t223 x8_3) false _ A36.out).mono ?_);rintro e w' ⟨rfl,⟨nd,rfl⟩⟩;have q46:(x8_3:Int)≤((t223.length:Int):Int):=of_decide_eq_true (by first|(with_reducible assumption)|assumption);obtain ⟨i046,hi046,_,hsz46,_⟩:=info_parts info9;have hroom46:t223.length≤co14:=(Kd.R_reads' HO_5.out).2.1;have hC46:Kd.C Kd.string _ (some ad237) t223.length t223:=(Kd.R_reads' HO_5.out).2.2;have ql46:(x7_1:Int)≤(x8_3:Int):=of_decide_eq_true (by first|(with_reducible assumption)|assumption);have q046:(0:Int)≤(x7_1:Int):=of_decide_eq_true (by first|(with_reducible assumption)|assumption);have hcut46:=cut_mid (P:=Tryz.prog) 24 9 .i64 .i64 Tryz.underlying24 hi046 1 hsz46 (some ad237) t223.length co14 x7_1 x8_3 q046 ql46 q46 hroom46;have hr46:=Kd.C_mid (lo:=(x7_1:Int).toNat) (hi:=(x8_3:Int).toNat) (c:=co14) hC46 (by omega) (by omega) hroom46;obtain ⟨A46,hA46⟩ : ∃ A1,A1=(if co14=(x7_1:Int).toNat then (some ad237) else ((some ad237):Option Addr).map (·.add ((x7_1:Int).toNat * 1))):=⟨_,rfl⟩;obtain ⟨c46,hc46⟩ : ∃ c1,c1=co14 - (x7_1:Int).toNat:=⟨_,rfl⟩;have hy46:y239.length=(x8_3:Int).toNat - (x7_1:Int).toNat:=(by rw [Ny239.out,List.length_drop,List.length_take] <;> omega);rw [show ((t223).take (x8_3:Int).toNat).drop (x7_1:Int).toNat=y239 from Ny239.out.symm] at hr46;replace hr46:Kd.C Kd.string _ A46 y239.length y239:=(by rw [hA46];exact hr46);rw [← hy46,← hA46,← hc46] at hcut46;have HR242:=Aside0.mk hr46;have HC242:=Aside0.mk (show y239.length≤c46 from by rw [hy46,hc46];exact Nat.sub_le_sub_right (Nat.le_trans (by omega) hroom46) _);clear hr46 hC46 hroom46 hi046 hsz46 hc46;have KY46:=Aside0.mk hy46;have KA46:=Aside0.mk hA46;clear hy46 hA46;have KL46:=Aside0.mk (show (x8_3:Int).toNat≤t223.length from by omega);have KM46:=Aside0.mk (show (x7_1:Int).toNat≤(x8_3:Int).toNat from by omega);replace q46:=eq_true q46;obtain ⟨Ao47,co47,eo47⟩:=Kd.R_slice HO_6.out;subst eo47)|(go_at_call 64;(with_reducible refine (agoraref23_match.calls k3 _ _ t227 _ _ y239 false _ ?side1 ?side2 ?side3 ?side4 A41.out).mono ?_);(case side1=>repeat (first|exact (Kd.R_reads' HO_6.out).2.2|(with_reducible refine Kd.C_alloc ?_ _)|(with_reducible refine Kd.C_drewN ?_ _)|(with_reducible refine Kd.C_drew ?_)));(case side2=>exact (Kd.R_reads' HO_6.out).2.1);(case side3=>repeat (first|exact (by repeat (first|(with_reducible exact HR242.out)|(with_reducible refine Kd.C_alloc ?_ _)|(with_reducible refine Kd.C_drewN ?_ _)|(with_reducible refine Kd.C_drew ?_)|exact HR242.out))|(with_reducible refine Kd.C_alloc ?_ _)|(with_reducible refine Kd.C_drewN ?_ _)|(with_reducible refine Kd.C_drew ?_)));(case side4=>exact HC242.out);rintro e w48 ⟨rfl,hb⟩;have n0_:=Aside0.mk (Kd.R_below (by (with_reducible repeat (first|apply Kd.R_alloc|apply Kd.R_drewN|apply Kd.R_drew));exact HO_5.out) hb);have n1_:=Aside0.mk (Kd.R_below (by (with_reducible repeat (first|apply Kd.R_alloc|apply Kd.R_drewN|apply Kd.R_drew));exact HO_6.out) hb);have n2_:=Aside0.mk (Kd.R_below (by (with_reducible repeat (first|apply Kd.R_alloc|apply Kd.R_drewN|apply Kd.R_drew));exact HO_13.out) hb);have n3_:=Aside0.mk (Kd.R_below (by (with_reducible repeat (first|apply Kd.R_alloc|apply Kd.R_drewN|apply Kd.R_drew));exact HO_16.out) hb);have n4_:=Aside0.mk (Kd.C_below (by repeat (first|(with_reducible exact HR242.out)|(with_reducible refine Kd.C_alloc ?_ _)|(with_reducible refine Kd.C_drewN ?_ _)|(with_reducible refine Kd.C_drew ?_)|exact HR242.out)) hb);have n5_:=Aside0.mk (below_step (by repeat (first|(with_reducible first|exact HB.out|apply below_alloc|apply pw_below_drewN|apply below_drew1)|exact HB.out)) hb);clear HO_5;clear HO_6;clear HO_13;clear HO_16;clear HR242;clear HB;have HO_5:=n0_;have HO_6:=n1_;have HO_13:=n2_;have HO_16:=n3_;have HR242:=n4_;have HB:=n5_;clear n0_ n1_ n2_ n3_ n4_ n5_;(try clear hb);(try clear hb2);(try clear hk);(try clear hi)))
                             go_roundg k3
                             case measure=>have:=HK1.out;have:=HJ12.out;have:=HK3.out;omega
                             case rel=>exact ⟨(wrap64 (x8_3+1)),(by first|rfl|(simp;done)|(simp [*];done)),H',⟨by have:=HK1.out;have:=HJ12.out;have:=HK3.out;omega⟩,⟨by (with_reducible repeat (first|apply Kd.R_alloc|apply Kd.R_drewN|apply Kd.R_drew));exact HO_5.out⟩,⟨by (with_reducible repeat (first|apply Kd.R_alloc|apply Kd.R_drewN|apply Kd.R_drew));exact HO_6.out⟩,⟨by (with_reducible repeat (first|apply Kd.R_alloc|apply Kd.R_drewN|apply Kd.R_drew));exact HO_13.out⟩,⟨by (with_reducible repeat (first|apply Kd.R_alloc|apply Kd.R_drewN|apply Kd.R_drew));exact HO_16.out⟩,⟨by repeat (first|(with_reducible first|exact HB.out|apply below_alloc|apply pw_below_drewN|apply below_drew1)|exact HB.out)⟩⟩
                         · rw [if_neg c39] at H
                           exact absurd H (by simp)
                       · rw [if_neg c38] at H
                         exact absurd H (by simp)
                   · rw [if_neg c35] at H
                     exact absurd H (by simp)
                 · rw [if_neg c34] at H
                   exact absurd H (by simp)
             · rw [if_neg c21] at H
               have c21b0:decide (x8_3≤(t223.length:Int))=false:=decide_eq_false c21
               clear c21
               have H':=Aside0.mk H
               clear H
               go_wp2
               go_roundg k3
               case measure=>have:=HK1.out;have:=HJ12.out;have:=HK3.out;omega
               case rel=>exact ⟨(wrap64 (x7_1+1)),(by first|rfl|(simp;done)|(simp [*];done)),H',⟨by have:=HK1.out;have:=HJ12.out;have:=HK3.out;omega⟩,⟨by (with_reducible repeat (first|apply Kd.R_alloc|apply Kd.R_drewN|apply Kd.R_drew));exact Kd.R_mono HO_13.out (fun _ hk=>hk.2)⟩,⟨by (with_reducible repeat (first|apply Kd.R_alloc|apply Kd.R_drewN|apply Kd.R_drew));exact Kd.R_mono HO_16.out (fun _ hk=>hk.2)⟩,⟨by repeat (first|(with_reducible first|exact HB.out|apply below_alloc|apply pw_below_drewN|apply below_drew1)|exact HB.out)⟩⟩
     · rw [if_neg c12] at H
       have c12b0:decide (x7_1≤(t223.length:Int))=false:=decide_eq_false c12
       clear c12
       obtain rfl:=Option.some.inj H
       obtain ⟨Ao49,co49,eo49⟩:=Kd.R_slice HO_13.out
       subst eo49
       go_wp2
       go_ret
       exact ⟨by first|rfl|(simp [errW_none,errW_some] <;> rfl)|(simp [*,errW_none,errW_some] <;> rfl),by repeat (first|(with_reducible first|exact HB.out|apply below_alloc|apply pw_below_drewN|apply below_drew1)|exact HB.out)⟩
def agoraref23_Match.f (k:Nat) (a0:ByteArray) (a1:ByteArray):Option (Bool):=(agoraref23_Letters.f k a0).bind fun t244=>((agoraref23_Letters.f k a1).bind fun t247=>((agoraref23_match.f k t244 t247).bind fun t250=>(some t250)))
theorem agoraref23_Match.mono : ∀ a0 a1 k,LeO (agoraref23_Match.f k a0 a1) (agoraref23_Match.f (k+1) a0 a1):=by
 intro a0 a1 k
 unfold agoraref23_Match.f
 repeat' first
  | (with_reducible exact agoraref23_Letters.mono _ _)
  | (with_reducible exact agoraref23_match.mono _ _ _)
  | (with_reducible exact LeO.refl _)
  | (with_reducible exact LeO.none _)
  | (with_reducible refine LeO.ite ?_ ?_)
  | (with_reducible refine LeO.bind ?_ (fun _=>?_))
  | exact agoraref23_Letters.mono _ _
  | exact agoraref23_match.mono _ _ _
  | exact LeO.none _
  | refine LeO.ite ?_ ?_
  | refine LeO.bind ?_ (fun _=>?_)
set_option maxHeartbeats 8000000 in
set_option maxRecDepth 100000 in
theorem agoraref23_Match.calls (k:Nat) (a0:ByteArray) (a1:ByteArray) (r:Bool) (w:World) (h:agoraref23_Match.f k a0 a1=some r) :
 Calls Tryz.prog 65 #[.string a0,.string a1] w fun e w'=>e=.returned (.bool r)∧Below w.heap.size w w':=by
 have HB:=Aside0.mk (Below.refl w.heap.size w)
 have H:((agoraref23_Letters.f k a0).bind fun t244=>((agoraref23_Letters.f k a1).bind fun t247=>((agoraref23_match.f k t244 t247).bind fun t250=>(some t250))))=some r:=h
 clear h
 replace H:=Option.bind_eq_some_iff.mp H
 obtain ⟨t244,A30,H⟩:=H
 replace H:((agoraref23_Letters.f k a1).bind fun t247=>((agoraref23_match.f k t244 t247).bind fun t250=>(some t250)))=some r:=H
 have A3:=Aside0.mk A30
 clear A30
 replace H:=Option.bind_eq_some_iff.mp H
 obtain ⟨t247,A40,H⟩:=H
 replace H:((agoraref23_match.f k t244 t247).bind fun t250=>(some t250))=some r:=H
 have A4:=Aside0.mk A40
 clear A40
 replace H:=Option.bind_eq_some_iff.mp H
 obtain ⟨t250,A50,H⟩:=H
 replace H:(some t250)=some r:=H
 have A5:=Aside0.mk A50
 clear A50
 obtain rfl:=Option.some.inj H
 go_enter Tryz.func65,Tryz.ntmps65
 go_wp2_with (first|((with_reducible refine gate_callee (f:=61) rfl ?_);refine goesL_ (some 6) rfl rfl Tryz.func61 (by kernel_rfl) rfl #[.string a0] rfl (by (try simp only [List.map_toArray,List.map_cons,List.map_nil]);first|done|rfl|(simp only [List.length_drop,List.length_take];rfl)) ?_;(with_reducible refine (agoraref23_Letters.calls k a0 t244 _ A3.out).mono ?_);rintro e w6 ⟨v245,rfl,ho0,hb⟩;refine ⟨_,rfl,?_⟩;have n0_:=Aside0.mk (Kd.R_lower ho0 (below_size (by repeat (first|(with_reducible first|exact HB.out|apply below_alloc|apply pw_below_drewN|apply below_drew1)|exact HB.out))));have n1_:=Aside0.mk (below_step (by repeat (first|(with_reducible first|exact HB.out|apply below_alloc|apply pw_below_drewN|apply below_drew1)|exact HB.out)) hb);clear HB;have HO246:=n0_;have HB:=n1_;clear n0_ n1_;(try clear hb);(try clear hb2);(try clear hk);(try clear hi);(try clear ho0))|((with_reducible refine gate_callee (f:=61) rfl ?_);refine goesL_ (some 8) rfl rfl Tryz.func61 (by kernel_rfl) rfl #[.string a1] rfl (by (try simp only [List.map_toArray,List.map_cons,List.map_nil]);first|done|rfl|(simp only [List.length_drop,List.length_take];rfl)) ?_;(with_reducible refine (agoraref23_Letters.calls k a1 t247 _ A4.out).mono ?_);rintro e w7 ⟨v248,rfl,ho0,hb⟩;refine ⟨_,rfl,?_⟩;have n0_:=Aside0.mk (Kd.R_elder' (by (with_reducible repeat (first|apply Kd.R_alloc|apply Kd.R_drewN|apply Kd.R_drew));exact HO246.out) (Kd.R_base ho0) hb);have n1_:=Aside0.mk (Kd.R_lower (Kd.R_new' ho0 (Kd.R_lt (by (with_reducible repeat (first|apply Kd.R_alloc|apply Kd.R_drewN|apply Kd.R_drew));exact HO246.out))) (below_size (by repeat (first|(with_reducible first|exact HB.out|apply below_alloc|apply pw_below_drewN|apply below_drew1)|exact HB.out))));have n2_:=Aside0.mk (below_step (by repeat (first|(with_reducible first|exact HB.out|apply below_alloc|apply pw_below_drewN|apply below_drew1)|exact HB.out)) hb);clear HO246;clear HB;have HO246:=n0_;have HO249:=n1_;have HB:=n2_;clear n0_ n1_ n2_;(try clear hb);(try clear hb2);(try clear hk);(try clear hi);(try clear ho0);obtain ⟨Ao8,co8,eo8⟩:=Kd.R_slice HO246.out;subst eo8;obtain ⟨Ao9,co9,eo9⟩:=Kd.R_slice HO249.out;subst eo9)|((with_reducible refine gate_callee (f:=64) rfl ?_);refine goesL_ (some 9) rfl rfl Tryz.func64 (by kernel_rfl) rfl #[.slice Ao8 t244.length co8,.slice Ao9 t247.length co9] rfl (by (try simp only [List.map_toArray,List.map_cons,List.map_nil]);first|done|rfl|(simp only [List.length_drop,List.length_take];rfl)) ?_;(with_reducible refine (agoraref23_match.calls k _ _ t244 _ _ t247 t250 _ ?side1 ?side2 ?side3 ?side4 A5.out).mono ?_);(case side1=>repeat (first|exact (Kd.R_reads' HO246.out).2.2|(with_reducible refine Kd.C_alloc ?_ _)|(with_reducible refine Kd.C_drewN ?_ _)|(with_reducible refine Kd.C_drew ?_)));(case side2=>exact (Kd.R_reads' HO246.out).2.1);(case side3=>repeat (first|exact (Kd.R_reads' HO249.out).2.2|(with_reducible refine Kd.C_alloc ?_ _)|(with_reducible refine Kd.C_drewN ?_ _)|(with_reducible refine Kd.C_drew ?_)));(case side4=>exact (Kd.R_reads' HO249.out).2.1);rintro e w10 ⟨rfl,hb⟩;refine ⟨_,rfl,?_⟩;have n0_:=Aside0.mk (Kd.R_below (by (with_reducible repeat (first|apply Kd.R_alloc|apply Kd.R_drewN|apply Kd.R_drew));exact HO246.out) hb);have n1_:=Aside0.mk (Kd.R_below (by (with_reducible repeat (first|apply Kd.R_alloc|apply Kd.R_drewN|apply Kd.R_drew));exact HO249.out) hb);have n2_:=Aside0.mk (below_step (by repeat (first|(with_reducible first|exact HB.out|apply below_alloc|apply pw_below_drewN|apply below_drew1)|exact HB.out)) hb);clear HO246;clear HO249;clear HB;have HO246:=n0_;have HO249:=n1_;have HB:=n2_;clear n0_ n1_ n2_;(try clear hb);(try clear hb2);(try clear hk);(try clear hi)))
 go_ret
 exact ⟨by first|rfl|(simp [errW_none,errW_some] <;> rfl)|(simp [*,errW_none,errW_some] <;> rfl),by repeat (first|(with_reducible first|exact HB.out|apply below_alloc|apply pw_below_drewN|apply below_drew1)|exact HB.out)⟩
def agoraref23_Fold.f (k:Nat) (a0:ByteArray) (a1:ByteArray):Option (Bool):=(agoraref23_Low.f k a0).bind fun t251=>((agoraref23_Low.f k a1).bind fun t252=>((agoraref23_Match.f k t251 t252).bind fun t253=>(some t253)))
set_option maxHeartbeats 8000000 in
set_option maxRecDepth 100000 in
theorem agoraref23_Fold.calls (k:Nat) (a0:ByteArray) (a1:ByteArray) (r:Bool) (w:World) (h:agoraref23_Fold.f k a0 a1=some r) :
 Calls Tryz.prog 30 #[.string a0,.string a1] w fun e w'=>e=.returned (.bool r)∧Below w.heap.size w w':=by
 have HB:=Aside0.mk (Below.refl w.heap.size w)
 have H:((agoraref23_Low.f k a0).bind fun t251=>((agoraref23_Low.f k a1).bind fun t252=>((agoraref23_Match.f k t251 t252).bind fun t253=>(some t253))))=some r:=h
 clear h
 replace H:=Option.bind_eq_some_iff.mp H
 obtain ⟨t251,A30,H⟩:=H
 replace H:((agoraref23_Low.f k a1).bind fun t252=>((agoraref23_Match.f k t251 t252).bind fun t253=>(some t253)))=some r:=H
 have A3:=Aside0.mk A30
 clear A30
 replace H:=Option.bind_eq_some_iff.mp H
 obtain ⟨t252,A40,H⟩:=H
 replace H:((agoraref23_Match.f k t251 t252).bind fun t253=>(some t253))=some r:=H
 have A4:=Aside0.mk A40
 clear A40
 replace H:=Option.bind_eq_some_iff.mp H
 obtain ⟨t253,A50,H⟩:=H
 replace H:(some t253)=some r:=H
 have A5:=Aside0.mk A50
 clear A50
 obtain rfl:=Option.some.inj H
 go_enter Tryz.func30,Tryz.ntmps30
 go_wp2_with (first|((with_reducible refine gate_callee (f:=62) rfl ?_);refine goesL_ (some 6) rfl rfl Tryz.func62 (by kernel_rfl) rfl #[.string a0] rfl (by (try simp only [List.map_toArray,List.map_cons,List.map_nil]);first|done|rfl|(simp only [List.length_drop,List.length_take];rfl)) ?_;(with_reducible refine (agoraref23_Low.calls k a0 t251 _ A3.out).mono ?_);rintro e w6 ⟨rfl,hb⟩;refine ⟨_,rfl,?_⟩;have n0_:=Aside0.mk (below_step (by repeat (first|(with_reducible first|exact HB.out|apply below_alloc|apply pw_below_drewN|apply below_drew1)|exact HB.out)) hb);clear HB;have HB:=n0_;clear n0_;(try clear hb);(try clear hb2);(try clear hk);(try clear hi))|((with_reducible refine gate_callee (f:=62) rfl ?_);refine goesL_ (some 8) rfl rfl Tryz.func62 (by kernel_rfl) rfl #[.string a1] rfl (by (try simp only [List.map_toArray,List.map_cons,List.map_nil]);first|done|rfl|(simp only [List.length_drop,List.length_take];rfl)) ?_;(with_reducible refine (agoraref23_Low.calls k a1 t252 _ A4.out).mono ?_);rintro e w7 ⟨rfl,hb⟩;refine ⟨_,rfl,?_⟩;have n0_:=Aside0.mk (below_step (by repeat (first|(with_reducible first|exact HB.out|apply below_alloc|apply pw_below_drewN|apply below_drew1)|exact HB.out)) hb);clear HB;have HB:=n0_;clear n0_;(try clear hb);(try clear hb2);(try clear hk);(try clear hi))|((with_reducible refine gate_callee (f:=65) rfl ?_);refine goesL_ (some 9) rfl rfl Tryz.func65 (by kernel_rfl) rfl #[.string t251,.string t252] rfl (by (try simp only [List.map_toArray,List.map_cons,List.map_nil]);first|done|rfl|(simp only [List.length_drop,List.length_take];rfl)) ?_;(with_reducible refine (agoraref23_Match.calls k t251 t252 t253 _ A5.out).mono ?_);rintro e w8 ⟨rfl,hb⟩;refine ⟨_,rfl,?_⟩;have n0_:=Aside0.mk (below_step (by repeat (first|(with_reducible first|exact HB.out|apply below_alloc|apply pw_below_drewN|apply below_drew1)|exact HB.out)) hb);clear HB;have HB:=n0_;clear n0_;(try clear hb);(try clear hb2);(try clear hk);(try clear hi)))
 go_ret
 exact ⟨by first|rfl|(simp [errW_none,errW_some] <;> rfl)|(simp [*,errW_none,errW_some] <;> rfl),by repeat (first|(with_reducible first|exact HB.out|apply below_alloc|apply pw_below_drewN|apply below_drew1)|exact HB.out)⟩
def agoraref23_Plain.l0:Nat→ByteArray→Int→Option (Bool)
 | 0,_,_=>none
 | k+1,x0,x3=>if x3 < (x0.size:Int) then (if 0≤x3 then (if (bt x0 x3)=42 then (some false) else (if (bt x0 x3)=63 then (some false) else (agoraref23_Plain.l0 k x0 (wrap64 (x3+1))))) else (none)) else (some true)
def agoraref23_Plain.f (k:Nat) (a0:ByteArray):Option (Bool):=agoraref23_Plain.l0 k a0 0
set_option maxHeartbeats 8000000 in
set_option maxRecDepth 100000 in
theorem agoraref23_Plain.calls (k:Nat) (a0:ByteArray) (r:Bool) (w:World) (h:agoraref23_Plain.f k a0=some r) :
 Calls Tryz.prog 31 #[.string a0] w fun e w'=>e=.returned (.bool r)∧Drawn0 w w':=by
 have H:(agoraref23_Plain.l0 k a0 0)=some r:=h
 clear h
 have H':=Aside0.mk H
 clear H
 go_enter Tryz.func31,Tryz.ntmps31
 go_wp2
 go_loopg [3] k (fun kq v3 w'=>∃ (x3_1:Int),v3=.int .i64 x3_1∧Aside0 (agoraref23_Plain.l0 kq a0 x3_1=some r)∧Aside0 (kq≤k)∧Drawn0 w w')
 case atStart=>exact ⟨(0),(by first|rfl|(simp;done)|(simp [*];done)),H',⟨Nat.le_refl _⟩,by repeat (first|exact Drawn0.refl _|apply Drawn0.step)⟩
 case round=>
  clear H'
  obtain ⟨x3_1,rfl,HA,HK1,⟨m1,rfl⟩⟩:=hrel
  cases gk with
  | zero=>exact absurd HA.out (by simp [agoraref23_Plain.l0])
  | succ k1=>
   have H:=HA.out
   clear HA
   simp only [agoraref23_Plain.l0] at H
   by_cases c2:x3_1 < (a0.size:Int)
   · rw [if_pos c2] at H
     have c2b0:decide (x3_1 < (a0.size:Int))=true:=decide_eq_true c2
     clear c2
     by_cases c3:0≤x3_1
     · rw [if_pos c3] at H
       have c3b0:decide (0≤x3_1)=true:=decide_eq_true c3
       clear c3
       by_cases c5:(bt a0 x3_1)=42
       · rw [if_pos c5] at H
         have c5b0:((bt a0 x3_1)==42)=true:=beq_iff_eq.mpr c5
         have c5b1:((bt a0 x3_1) != 42)=false:=bne_eq_false_iff_eq.mpr c5
         clear c5
         obtain rfl:=Option.some.inj H
         have p4:0≤(x3_1:Int):=of_decide_eq_true (by first|(with_reducible assumption)|assumption)
         have q4:x3_1 < (a0.size:Int):=of_decide_eq_true (by first|(with_reducible assumption)|assumption)
         have hx4:=bt_at a0 x3_1
         replace p4:=eq_true p4
         replace q4:=eq_true q4
         go_wp2
         go_ret
         exact ⟨by first|rfl|(simp;done)|(simp [*];done),by repeat (first|exact Drawn0.refl _|apply Drawn0.step)⟩
       · rw [if_neg c5] at H
         have c5b0:((bt a0 x3_1)==42)=false:=beq_eq_false_iff_ne.mpr c5
         have c5b1:((bt a0 x3_1) != 42)=true:=bne_iff_ne.mpr c5
         by_cases c7:(bt a0 x3_1)=63
         · rw [if_pos c7] at H
           have c7b0:((bt a0 x3_1)==63)=true:=beq_iff_eq.mpr c7
           have c7b1:((bt a0 x3_1) != 63)=false:=bne_eq_false_iff_eq.mpr c7
           clear c7
           obtain rfl:=Option.some.inj H
           have p4:0≤(x3_1:Int):=of_decide_eq_true (by first|(with_reducible assumption)|assumption)
           have q4:x3_1 < (a0.size:Int):=of_decide_eq_true (by first|(with_reducible assumption)|assumption)
           have hx4:=bt_at a0 x3_1
           replace p4:=eq_true p4
           replace q4:=eq_true q4
           have p6:0≤(x3_1:Int):=of_decide_eq_true (by first|(with_reducible assumption)|assumption)
           have q6:x3_1 < (a0.size:Int):=of_decide_eq_true (by first|(with_reducible assumption)|assumption)
           have hx6:=bt_at a0 x3_1
           replace p6:=eq_true p6
           replace q6:=eq_true q6
           go_wp2
           go_ret
           exact ⟨by first|rfl|(simp;done)|(simp [*];done),by repeat (first|exact Drawn0.refl _|apply Drawn0.step)⟩
         · rw [if_neg c7] at H
           have c7b0:((bt a0 x3_1)==63)=false:=beq_eq_false_iff_ne.mpr c7
           have c7b1:((bt a0 x3_1) != 63)=true:=bne_iff_ne.mpr c7
           have H':=Aside0.mk H
           clear H
           have p4:0≤(x3_1:Int):=of_decide_eq_true (by first|(with_reducible assumption)|assumption)
           have q4:x3_1 < (a0.size:Int):=of_decide_eq_true (by first|(with_reducible assumption)|assumption)
           have hx4:=bt_at a0 x3_1
           replace p4:=eq_true p4
           replace q4:=eq_true q4
           have p6:0≤(x3_1:Int):=of_decide_eq_true (by first|(with_reducible assumption)|assumption)
           have q6:x3_1 < (a0.size:Int):=of_decide_eq_true (by first|(with_reducible assumption)|assumption)
           have hx6:=bt_at a0 x3_1
           replace p6:=eq_true p6
           replace q6:=eq_true q6
           go_wp2
           go_roundg k1
           case measure=>have:=HK1.out;omega
           case rel=>exact ⟨(wrap64 (x3_1+1)),(by first|rfl|(simp;done)|(simp [*];done)),H',⟨by have:=HK1.out;omega⟩,by repeat (first|exact Drawn0.refl _|apply Drawn0.step)⟩
     · rw [if_neg c3] at H
       exact absurd H (by simp)
   · rw [if_neg c2] at H
     have c2b0:decide (x3_1 < (a0.size:Int))=false:=decide_eq_false c2
     clear c2
     obtain rfl:=Option.some.inj H
     go_wp2
     go_ret
     exact ⟨by first|rfl|(simp;done)|(simp [*];done),by repeat (first|exact Drawn0.refl _|apply Drawn0.step)⟩
end Go.Proofs.YtodhmbnfliajiaaGreatDoor.Q
