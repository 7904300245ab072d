/- HandField: a text of this claim's proof,as printed or written,without what the claim does not use. -/
import Derived.Laws.EntriesVeiled
import Derived.Test.YtodhmbnfliajiaaGreatDoorJ11
namespace Go.Proofs.YtodhmbnfliajiaaGreatDoor.Q
open Go.RowKit Go.Shelf Go.Proofs.YtodhmbnfliajiaaGreatDoorW.PrintWords Go.Proofs.YtodhmbnfliajiaaGreatDoorW.PrintLast
structure EvV where
 room:ByteArray
 type:ByteArray
 sender:ByteArray
 isS:Bool
 key:ByteArray
 kind:Int
 n:Int
 text:ByteArray
 A8:Option Addr
 c8:Nat
 keys:List ByteArray
 A9:Option Addr
 c9:Nat
 list:List JS
 A10:Option Addr
 c10:Nat
 prev:List ByteArray
 A11:Option Addr
 c11:Nat
 auth:List ByteArray
 depth:Int
 ts:Int
 hash:ByteArray
 A15:Option Addr
 c15:Nat
 sigs:List S69
structure EvV.Ok (x:EvV) (w:World):Prop where
 k8:Kd.C Kd.string w x.A8 x.keys.length x.keys
 l8:x.keys.length≤x.c8
 k9:Kd.C k27 w x.A9 x.list.length x.list
 l9:x.list.length≤x.c9
theorem EvV.Ok.below {x:EvV} {w W:World} (h:x.Ok w) (hb:Below w.heap.size w W):x.Ok W:=⟨Kd.C_below h.k8 hb,h.l8,Kd.C_below h.k9 hb,h.l9⟩
def fieldB (x:EvV) (k:ByteArray):Int×Int×ByteArray :=
 if k.toList=[116,121,112,101] then (3,0,x.type)
 else if k.toList=[115,101,110,100,101,114] then (3,0,x.sender)
 else if k.toList=[114,111,111,109,95,105,100] then (3,0,x.room)
 else if k.toList=[115,116,97,116,101,95,107,101,121] then (if x.isS then (3,0,x.key) else (0,0,⟨#[]⟩))
 else if (k.extract 0 8).toList=[99,111,110,116,101,110,116,46]∧8 < k.size then (match aclValue x.kind x.keys x.list (k.extract 8 k.size) with|none=>(0,0,⟨#[]⟩)|some v=>(v.f0,v.f1,v.f2))
 else (0,0,⟨#[]⟩)
set_option maxRecDepth 100000 in
set_option maxHeartbeats 2000000 in
theorem field1_calls (s:ByteArray) (w:World):Calls Tryz.prog 48 #[.string s] w fun e w'=>e=.returned (.agg #[.int .i64 3,.int .i64 0,.string s,.slice none 0 0,.slice none 0 0])∧Below w.heap.size w w':=by
 have HB:=Lib.hid ((Below.refl w.heap.size w).alloc (Nat.le_refl _) (.cells #[.int .i64 3,.int .i64 0,.string s,.slice none 0 0,.slice none 0 0] 27));go_enter Tryz.func48,Tryz.ntmps48;go_wp2;refine bodyPost_ret (results_cell_row rfl _ _ w.heap.size 27 #[.int .i64 3,.int .i64 0,.string s,.slice none 0 0,.slice none 0 0] (0,0) _ rfl (blk_new _ _) rfl rfl kr_) rfl ?_;exact ⟨rfl,HB.out⟩
theorem cut_content (k:ByteArray):(Lib.hasPrefix k.data.toList [99,111,110,116,101,110,116,46]=true∧8≤k.size∧(⟨(Lib.trimPrefix k.data.toList [99,111,110,116,101,110,116,46]).toArray⟩:ByteArray)=k.extract 8 k.size∧(k.extract 0 8).toList=[99,111,110,116,101,110,116,46])∨(Lib.hasPrefix k.data.toList [99,111,110,116,101,110,116,46]=false∧(k.extract 0 8).toList≠[99,111,110,116,101,110,116,46]):=by
 have e8:(k.extract 0 8).toList=k.data.toList.take 8:=by
  rw [ByteArray.toList_eq,ByteArray.data_extract,Array.toList_extract,List.extract_eq_take_drop];simp
 have hp:Lib.hasPrefix k.data.toList [99,111,110,116,101,110,116,46]=true↔k.data.toList.take 8=[99,111,110,116,101,110,116,46]:=by
  unfold Lib.hasPrefix;rw [List.isPrefixOf_iff_prefix,List.prefix_iff_eq_take];exact eq_comm
 cases h:Lib.hasPrefix k.data.toList [99,111,110,116,101,110,116,46] with
 | true=>
  left
  have h8:=hp.1 h;have hl:(k.data.toList.take 8).length=8:=by rw [h8];rfl
  rw [List.length_take] at hl;have hsz:k.data.toList.length=k.size:=by simp
  refine ⟨rfl,by omega,?_,by rw [e8];exact h8⟩;apply ByteArray.ext;apply Array.toList_inj.1;unfold Lib.trimPrefix;rw [if_pos h,ByteArray.data_extract,Array.toList_extract,List.extract_eq_take_drop];rw [List.take_of_length_le (by simp)];rfl
 | false=>
  right
  refine ⟨rfl,fun e=>?_⟩;rw [e8] at e;rw [hp.2 e] at h;cases h
theorem ba_ext_size (k:ByteArray) (n:Nat):(k.extract n k.size).size=k.size - n:=by
 have:(k.extract n k.size).size=(k.extract n k.size).data.toList.length:=by simp
 rw [this,ByteArray.data_extract,Array.toList_extract,List.extract_eq_take_drop,List.length_take,List.length_drop];simp
set_option maxRecDepth 100000 in
set_option maxHeartbeats 8000000 in
theorem field_calls (x:EvV) (k:ByteArray) (w:World) (hk:x.keys.length≤1000000000) (hx:x.Ok w):Calls Tryz.prog 24 #[.agg #[.string x.room,.string x.type,.string x.sender,.bool x.isS,.string x.key,.int .i64 x.kind,.int .i64 x.n,.string x.text,.slice x.A8 x.keys.length x.c8,.slice x.A9 x.list.length x.c9,.slice x.A10 x.prev.length x.c10,.slice x.A11 x.auth.length x.c11,.int .i64 x.depth,.int .i64 x.ts,.string x.hash,.slice x.A15 x.sigs.length x.c15],.string k] w fun e w'=>∃ A a c B b d,e=.returned (.agg #[.int .i64 (fieldB x k).1,.int .i64 (fieldB x k).2.1,.string (fieldB x k).2.2,.slice A a c,.slice B b d])∧Below w.heap.size w w':=by
 have hv:=fieldB.eq_1 x k;have eg : ∀ args w,(callFunc 48 args).run Tryz.prog w=.ok (.enter 48 args) w:=enters_of Tryz.func48 kr_ rfl;have H1:=Lib.hid field1_calls;have hK:=blk_new (w.alloc (.cells #[.string x.room,.string x.type,.string x.sender,.bool x.isS,.string x.key,.int .i64 x.kind,.int .i64 x.n,.string x.text,.slice x.A8 x.keys.length x.c8,.slice x.A9 x.list.length x.c9,.slice x.A10 x.prev.length x.c10,.slice x.A11 x.auth.length x.c11,.int .i64 x.depth,.int .i64 x.ts,.string x.hash,.slice x.A15 x.sigs.length x.c15] 30)) (.cells #[.int .i64 0,.int .i64 0,.string ⟨#[]⟩,.slice none 0 0,.slice none 0 0] 27);rw [show (w.alloc (.cells #[.string x.room,.string x.type,.string x.sender,.bool x.isS,.string x.key,.int .i64 x.kind,.int .i64 x.n,.string x.text,.slice x.A8 x.keys.length x.c8,.slice x.A9 x.list.length x.c9,.slice x.A10 x.prev.length x.c10,.slice x.A11 x.auth.length x.c11,.int .i64 x.depth,.int .i64 x.ts,.string x.hash,.slice x.A15 x.sigs.length x.c15] 30)).heap.size=w.heap.size+1 by simp] at hK;have HK:=Lib.hid hK;have HB:=Lib.hid (((Below.refl w.heap.size w).alloc (Nat.le_refl _) (.cells #[.string x.room,.string x.type,.string x.sender,.bool x.isS,.string x.key,.int .i64 x.kind,.int .i64 x.n,.string x.text,.slice x.A8 x.keys.length x.c8,.slice x.A9 x.list.length x.c9,.slice x.A10 x.prev.length x.c10,.slice x.A11 x.auth.length x.c11,.int .i64 x.depth,.int .i64 x.ts,.string x.hash,.slice x.A15 x.sigs.length x.c15] 30)).alloc (by simp) (.cells #[.int .i64 0,.int .i64 0,.string ⟨#[]⟩,.slice none 0 0,.slice none 0 0] 27));have HX:=Lib.hid hx;clear hK hx;by_cases c0:k.toList=([116,121,112,101]:List UInt8)
 · rw [if_pos c0] at hv;have b0:(k.toList==([116,121,112,101]:List UInt8))=true:=by rw [c0];decide
   have b1:(k.toList==([115,101,110,100,101,114]:List UInt8))=false:=by rw [c0];decide
   have b2:(k.toList==([114,111,111,109,95,105,100]:List UInt8))=false:=by rw [c0];decide
   have b3:(k.toList==([115,116,97,116,101,95,107,101,121]:List UInt8))=false:=by rw [c0];decide
   clear c0;have HV:=Lib.hid (show fieldB x k=(3,0,x.type) from hv);clear hv;go_enter Tryz.func24,Tryz.ntmps24;go_wp2_with (go_at_fn 48;refine (H1.out _ _).mono ?_;rintro e w2 ⟨rfl,hb⟩;have hk2:=blk_below HK.out hb;have hc0:=(blk_cell hk2 0).trans rfl;have hc1:=(blk_cell hk2 1).trans rfl;have hc2:=(blk_cell hk2 2).trans rfl;have hc3:=(blk_cell hk2 3).trans rfl;have hc4:=(blk_cell hk2 4).trans rfl;have hf0:=blk_frozen hk2 0;have hf1:=blk_frozen hk2 1;have hf2:=blk_frozen hk2 2;have hf3:=blk_frozen hk2 3;have hf4:=blk_frozen hk2 4;have HK2:=Lib.hid hk2;have HB2:=Lib.hid (HB.out.trans (hb.mono HB.out.size));clear hk2 hb);refine bodyPost_ret (results_cell_row rfl _ _ (w.heap.size+1) 27 #[.int .i64 3,.int .i64 0,.string x.type,.slice none 0 0,.slice none 0 0] (0,0) _ rfl (put5_heap HK2.out _ _ _ _ _) rfl rfl kr_) rfl ?_;exact ⟨none,0,0,none,0,0,by rw [HV.out],put5_below HB2.out (by omega) _ _ _ _ _⟩
 by_cases c1:k.toList=([115,101,110,100,101,114]:List UInt8)
 · rw [if_neg c0,if_pos c1] at hv;have b0:(k.toList==([116,121,112,101]:List UInt8))=false:=by rw [c1];decide
   have b1:(k.toList==([115,101,110,100,101,114]:List UInt8))=true:=by rw [c1];decide
   have b2:(k.toList==([114,111,111,109,95,105,100]:List UInt8))=false:=by rw [c1];decide
   have b3:(k.toList==([115,116,97,116,101,95,107,101,121]:List UInt8))=false:=by rw [c1];decide
   clear c0 c1;have HV:=Lib.hid (show fieldB x k=(3,0,x.sender) from hv);clear hv;go_enter Tryz.func24,Tryz.ntmps24;go_wp2_with (go_at_fn 48;refine (H1.out _ _).mono ?_;rintro e w2 ⟨rfl,hb⟩;have hk2:=blk_below HK.out hb;have hc0:=(blk_cell hk2 0).trans rfl;have hc1:=(blk_cell hk2 1).trans rfl;have hc2:=(blk_cell hk2 2).trans rfl;have hc3:=(blk_cell hk2 3).trans rfl;have hc4:=(blk_cell hk2 4).trans rfl;have hf0:=blk_frozen hk2 0;have hf1:=blk_frozen hk2 1;have hf2:=blk_frozen hk2 2;have hf3:=blk_frozen hk2 3;have hf4:=blk_frozen hk2 4;have HK2:=Lib.hid hk2;have HB2:=Lib.hid (HB.out.trans (hb.mono HB.out.size));clear hk2 hb);refine bodyPost_ret (results_cell_row rfl _ _ (w.heap.size+1) 27 #[.int .i64 3,.int .i64 0,.string x.sender,.slice none 0 0,.slice none 0 0] (0,0) _ rfl (put5_heap HK2.out _ _ _ _ _) rfl rfl kr_) rfl ?_;exact ⟨none,0,0,none,0,0,by rw [HV.out],put5_below HB2.out (by omega) _ _ _ _ _⟩
 by_cases c2:k.toList=([114,111,111,109,95,105,100]:List UInt8)
 · rw [if_neg c0,if_neg c1,if_pos c2] at hv;have b0:(k.toList==([116,121,112,101]:List UInt8))=false:=by rw [c2];decide
   have b1:(k.toList==([115,101,110,100,101,114]:List UInt8))=false:=by rw [c2];decide
   have b2:(k.toList==([114,111,111,109,95,105,100]:List UInt8))=true:=by rw [c2];decide
   have b3:(k.toList==([115,116,97,116,101,95,107,101,121]:List UInt8))=false:=by rw [c2];decide
   clear c0 c1 c2;have HV:=Lib.hid (show fieldB x k=(3,0,x.room) from hv);clear hv;go_enter Tryz.func24,Tryz.ntmps24;go_wp2_with (go_at_fn 48;refine (H1.out _ _).mono ?_;rintro e w2 ⟨rfl,hb⟩;have hk2:=blk_below HK.out hb;have hc0:=(blk_cell hk2 0).trans rfl;have hc1:=(blk_cell hk2 1).trans rfl;have hc2:=(blk_cell hk2 2).trans rfl;have hc3:=(blk_cell hk2 3).trans rfl;have hc4:=(blk_cell hk2 4).trans rfl;have hf0:=blk_frozen hk2 0;have hf1:=blk_frozen hk2 1;have hf2:=blk_frozen hk2 2;have hf3:=blk_frozen hk2 3;have hf4:=blk_frozen hk2 4;have HK2:=Lib.hid hk2;have HB2:=Lib.hid (HB.out.trans (hb.mono HB.out.size));clear hk2 hb);refine bodyPost_ret (results_cell_row rfl _ _ (w.heap.size+1) 27 #[.int .i64 3,.int .i64 0,.string x.room,.slice none 0 0,.slice none 0 0] (0,0) _ rfl (put5_heap HK2.out _ _ _ _ _) rfl rfl kr_) rfl ?_;exact ⟨none,0,0,none,0,0,by rw [HV.out],put5_below HB2.out (by omega) _ _ _ _ _⟩
 by_cases c3:k.toList=([115,116,97,116,101,95,107,101,121]:List UInt8)
 · rw [if_neg c0,if_neg c1,if_neg c2,if_pos c3] at hv;have b0:(k.toList==([116,121,112,101]:List UInt8))=false:=by rw [c3];decide
   have b1:(k.toList==([115,101,110,100,101,114]:List UInt8))=false:=by rw [c3];decide
   have b2:(k.toList==([114,111,111,109,95,105,100]:List UInt8))=false:=by rw [c3];decide
   have b3:(k.toList==([115,116,97,116,101,95,107,101,121]:List UInt8))=true:=by rw [c3];decide
   clear c0 c1 c2 c3
   cases hs:x.isS with
   | true=>
    rw [hs,if_pos rfl] at hv;rw [hs] at HK HB;have HV:=Lib.hid (show fieldB x k=(3,0,x.key) from hv);clear hv;go_enter Tryz.func24,Tryz.ntmps24;go_wp2_with (go_at_fn 48;refine (H1.out _ _).mono ?_;rintro e w2 ⟨rfl,hb⟩;have hk2:=blk_below HK.out hb;have hc0:=(blk_cell hk2 0).trans rfl;have hc1:=(blk_cell hk2 1).trans rfl;have hc2:=(blk_cell hk2 2).trans rfl;have hc3:=(blk_cell hk2 3).trans rfl;have hc4:=(blk_cell hk2 4).trans rfl;have hf0:=blk_frozen hk2 0;have hf1:=blk_frozen hk2 1;have hf2:=blk_frozen hk2 2;have hf3:=blk_frozen hk2 3;have hf4:=blk_frozen hk2 4;have HK2:=Lib.hid hk2;have HB2:=Lib.hid (HB.out.trans (hb.mono HB.out.size));clear hk2 hb);refine bodyPost_ret (results_cell_row rfl _ _ (w.heap.size+1) 27 #[.int .i64 3,.int .i64 0,.string x.key,.slice none 0 0,.slice none 0 0] (0,0) _ rfl (put5_heap HK2.out _ _ _ _ _) rfl rfl kr_) rfl ?_;exact ⟨none,0,0,none,0,0,by rw [HV.out],put5_below HB2.out (by omega) _ _ _ _ _⟩
   | false=>
    rw [hs,if_neg (by decide)] at hv;rw [hs] at HK HB;have HV:=Lib.hid hv;clear hv;go_enter Tryz.func24,Tryz.ntmps24;go_wp2;refine bodyPost_ret (results_cell_row rfl _ _ (w.heap.size+1) 27 #[.int .i64 0,.int .i64 0,.string ⟨#[]⟩,.slice none 0 0,.slice none 0 0] (0,0) _ rfl HK.out rfl rfl kr_) rfl ?_;exact ⟨none,0,0,none,0,0,by rw [HV.out],HB.out⟩
 rw [if_neg c0,if_neg c1,if_neg c2,if_neg c3] at hv;have b0:(k.toList==([116,121,112,101]:List UInt8))=false:=by simpa using c0
 have b1:(k.toList==([115,101,110,100,101,114]:List UInt8))=false:=by simpa using c1
 have b2:(k.toList==([114,111,111,109,95,105,100]:List UInt8))=false:=by simpa using c2
 have b3:(k.toList==([115,116,97,116,101,95,107,101,121]:List UInt8))=false:=by simpa using c3
 clear c0 c1 c2 c3;have hC:=Tryz.strings_CutPrefix k ⟨#[99,111,110,116,101,110,116,46]⟩;have hI:=fun (name:ByteArray) (W:World) (hb:Below w.heap.size w W)=>acl_index x.keys (by omega) x.A8 x.c8 name W (Kd.C_below HX.out.k8 hb) HX.out.l8
 have HI:=Lib.hid hI;clear hI;rcases cut_content k with ⟨p1,p2,p3,p4⟩ | ⟨p1,p4⟩
 · rw [p1,p3] at hC;have HC:=Lib.hid hC;have hge:=aclIdx_ge x.keys (k.extract 8 k.size) 0 (by omega);have hval:aclValue x.kind x.keys x.list (k.extract 8 k.size)=if x.kind≠5 then none else if aclIdx x.keys (k.extract 8 k.size) 0 < 0 then none else if (x.list.length:Int)≤aclIdx x.keys (k.extract 8 k.size) 0 then none else some (rd_T27 x.list (aclIdx x.keys (k.extract 8 k.size) 0)):=rfl
   have hz:(k.extract 8 k.size).toList.isEmpty=decide (k.size≤8):=by
    have e1:=(ba_ext_size k 8);rw [ByteArray.toList_eq,Bool.eq_iff_iff,List.isEmpty_iff,decide_eq_true_eq,← List.length_eq_zero_iff];simp;omega
   have hemp:((k.extract 8 k.size).toList==([]:List UInt8))=decide (k.size≤8):=by
    rw [← hz];cases (k.extract 8 k.size).toList <;> rfl
   clear hC p1 p3;generalize k.extract 8 k.size=nm at *;have hI2:=fun W hb=>HI.out nm W hb
   clear HI;generalize aclIdx x.keys nm 0=i at *;have HI2:=Lib.hid hI2;clear hI2
   have hCont:(fieldB x k=(0,0,⟨#[]⟩)∧(k.size≤8∨x.kind≠5∨i < 0∨(x.list.length:Int)≤i))∨(8 < k.size∧x.kind=5∧0≤i∧i < (x.list.length:Int)∧fieldB x k=((rd_T27 x.list i).f0,(rd_T27 x.list i).f1,(rd_T27 x.list i).f2)):=by
    by_cases q1:8 < k.size
    · rw [if_pos ⟨p4,q1⟩,hval] at hv;by_cases q2:x.kind≠5
      · rw [if_pos q2] at hv;exact .inl ⟨hv,.inr (.inl q2)⟩
      · rw [if_neg q2] at hv;by_cases q3:i < 0
        · rw [if_pos q3] at hv;exact .inl ⟨hv,.inr (.inr (.inl q3))⟩
        · rw [if_neg q3] at hv;by_cases q4:(x.list.length:Int)≤i
          · rw [if_pos q4] at hv;exact .inl ⟨hv,.inr (.inr (.inr q4))⟩
          · rw [if_neg q4] at hv;exact .inr ⟨q1,by omega,by omega,by omega,hv⟩
    · rw [if_neg (fun h=>q1 h.2)] at hv;exact .inl ⟨hv,.inl (by omega)⟩
   clear hv hval p4;rcases hCont with ⟨hV,hq⟩ | ⟨q1,q2,q3,q4,hV⟩
   · have HV:=Lib.hid hV;clear hV;rcases Decidable.em (k.size≤8) with q1|q1
     · have e0:(nm.toList==([]:List UInt8))=true:=by rw [hemp];exact decide_eq_true q1
       have e1:nm.toList.isEmpty=true:=by rw [hz];exact decide_eq_true q1
       clear hq hz hemp q1;go_enter Tryz.func24,Tryz.ntmps24;go_wp2_with (first|(go_at_call 49;((with_reducible refine (HC.out _).mono ?_);rintro e w2 ⟨rfl,rfl⟩))|(go_at_call 50;((with_reducible refine (HI2.out _ HB.out).mono ?_);rintro e w3 ⟨rfl,⟨nd,rfl⟩⟩)));refine bodyPost_ret (results_cell_row rfl _ _ (w.heap.size+1) 27 #[.int .i64 0,.int .i64 0,.string ⟨#[]⟩,.slice none 0 0,.slice none 0 0] (0,0) _ rfl (put5_heap (blk_drewN HK.out nd) _ _ _ _ _) rfl rfl kr_) rfl ?_;exact ⟨none,0,0,none,0,0,by rw [HV.out],put5_below (pw_below_drewN HB.out nd) (by omega) _ _ _ _ _⟩
     · have e0:(nm.toList==([]:List UInt8))=false:=by rw [hemp];exact decide_eq_false q1
       have e1:nm.toList.isEmpty=false:=by rw [hz];exact decide_eq_false q1
       by_cases q2:x.kind=5
       · have b5:(x.kind != 5)=false:=by simp [q2]
         by_cases q3:i < 0
         · have d3:decide (i < 0)=true:=decide_eq_true q3;clear hq hz hemp q1 q2 q3;go_enter Tryz.func24,Tryz.ntmps24;go_wp2_with (first|(go_at_call 49;((with_reducible refine (HC.out _).mono ?_);rintro e w2 ⟨rfl,rfl⟩))|(go_at_call 50;((with_reducible refine (HI2.out _ HB.out).mono ?_);rintro e w3 ⟨rfl,⟨nd,rfl⟩⟩)));refine bodyPost_ret (results_cell_row rfl _ _ (w.heap.size+1) 27 #[.int .i64 0,.int .i64 0,.string ⟨#[]⟩,.slice none 0 0,.slice none 0 0] (0,0) _ rfl (put5_heap (blk_drewN HK.out nd) _ _ _ _ _) rfl rfl kr_) rfl ?_;exact ⟨none,0,0,none,0,0,by rw [HV.out],put5_below (pw_below_drewN HB.out nd) (by omega) _ _ _ _ _⟩
         · have d3:decide (i < 0)=false:=decide_eq_false q3;have d4:decide ((x.list.length:Int)≤i)=true:=decide_eq_true (by omega);clear hq hz hemp q1 q2 q3;go_enter Tryz.func24,Tryz.ntmps24;go_wp2_with (first|(go_at_call 49;((with_reducible refine (HC.out _).mono ?_);rintro e w2 ⟨rfl,rfl⟩))|(go_at_call 50;((with_reducible refine (HI2.out _ HB.out).mono ?_);rintro e w3 ⟨rfl,⟨nd,rfl⟩⟩)));refine bodyPost_ret (results_cell_row rfl _ _ (w.heap.size+1) 27 #[.int .i64 0,.int .i64 0,.string ⟨#[]⟩,.slice none 0 0,.slice none 0 0] (0,0) _ rfl (put5_heap (blk_drewN HK.out nd) _ _ _ _ _) rfl rfl kr_) rfl ?_;exact ⟨none,0,0,none,0,0,by rw [HV.out],put5_below (pw_below_drewN HB.out nd) (by omega) _ _ _ _ _⟩
       · have b5:(x.kind != 5)=true:=by simp [q2]
         clear hq hz hemp q1 q2;go_enter Tryz.func24,Tryz.ntmps24;go_wp2_with (first|(go_at_call 49;((with_reducible refine (HC.out _).mono ?_);rintro e w2 ⟨rfl,rfl⟩))|(go_at_call 50;((with_reducible refine (HI2.out _ HB.out).mono ?_);rintro e w3 ⟨rfl,⟨nd,rfl⟩⟩)));refine bodyPost_ret (results_cell_row rfl _ _ (w.heap.size+1) 27 #[.int .i64 0,.int .i64 0,.string ⟨#[]⟩,.slice none 0 0,.slice none 0 0] (0,0) _ rfl (put5_heap (blk_drewN HK.out nd) _ _ _ _ _) rfl rfl kr_) rfl ?_;exact ⟨none,0,0,none,0,0,by rw [HV.out],put5_below (pw_below_drewN HB.out nd) (by omega) _ _ _ _ _⟩
   · have HV:=Lib.hid hV;have e0:(nm.toList==([]:List UInt8))=false:=by rw [hemp];exact decide_eq_false (by omega)
     have e1:nm.toList.isEmpty=false:=by rw [hz];exact decide_eq_false (by omega)
     have b5:(x.kind != 5)=false:=by simp [q2]
     have d3:decide (i < 0)=false:=decide_eq_false (by omega);have d4:decide ((x.list.length:Int)≤i)=false:=decide_eq_false (by omega);have hT:=at_T27 (Kd.C_below HX.out.k9 HB.out) i q3 q4;clear hz hemp q1 q2 hV;obtain ⟨ad,A3,c3,A4,c4,hA9,g0,g1,g2,g3,g4,-,-,-,-⟩:=hT;generalize rd_T27 x.list i=v at *;rw [hA9] at HK HB g0 g1 g2 g3 g4;go_enter Tryz.func24,Tryz.ntmps24;go_wp2_with (first|(go_at_call 49;((with_reducible refine (HC.out _).mono ?_);rintro e w2 ⟨rfl,rfl⟩))|(go_at_call 50;((with_reducible refine (HI2.out _ HB.out).mono ?_);rintro e w3 ⟨rfl,⟨nd,rfl⟩⟩)));refine bodyPost_ret (results_cell_row rfl _ _ (w.heap.size+1) 27 #[.int .i64 v.f0,.int .i64 v.f1,.string v.f2,.slice A3 v.f3.length c3,.slice A4 v.f4.length c4] (0,0) _ rfl (put5_heap (blk_drewN HK.out nd) _ _ _ _ _) rfl rfl kr_) rfl ?_;exact ⟨A3,_,c3,A4,_,c4,by rw [HV.out],put5_below (pw_below_drewN HB.out nd) (by omega) _ _ _ _ _⟩
 · rw [p1] at hC;have HC:=Lib.hid hC;rw [if_neg (fun h=>p4 h.1)] at hv;have HV:=Lib.hid hv;clear hC hv p1 p4;generalize (⟨(Lib.trimPrefix k.data.toList [99,111,110,116,101,110,116,46]).toArray⟩:ByteArray)=nm at HC;go_enter Tryz.func24,Tryz.ntmps24;go_wp2_with (first|(go_at_call 49;((with_reducible refine (HC.out _).mono ?_);rintro e w2 ⟨rfl,rfl⟩))|(go_at_call 50;((with_reducible refine (HI.out nm _ HB.out).mono ?_);rintro e w3 ⟨rfl,⟨nd,rfl⟩⟩)));refine bodyPost_ret (results_cell_row rfl _ _ (w.heap.size+1) 27 #[.int .i64 0,.int .i64 0,.string ⟨#[]⟩,.slice none 0 0,.slice none 0 0] (0,0) _ rfl (put5_heap (blk_drewN HK.out nd) _ _ _ _ _) rfl rfl kr_) rfl ?_;exact ⟨none,0,0,none,0,0,by rw [HV.out],put5_below (pw_below_drewN HB.out nd) (by omega) _ _ _ _ _⟩
end Go.Proofs.YtodhmbnfliajiaaGreatDoor.Q
