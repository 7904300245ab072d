/- HandStands: a text of this claim's proof,as printed or written,without what the claim does not use. -/
import Derived.Test.YtodhmbnfliajiaaGreatDoorJ8
namespace Go.Proofs.YtodhmbnfliajiaaGreatDoor.Q
open Go.RowKit Go.Shelf Go.Proofs.YtodhmbnfliajiaaGreatDoorW.PrintWords Go.Proofs.YtodhmbnfliajiaaGreatDoorW.PrintLast
set_option maxRecDepth 100000 in
set_option maxHeartbeats 2000000 in
theorem noOp_calls (r:Nat) (h:r≤1114111) (w:World):Calls Tryz.prog 57 #[.int .i32 (r:Int)] w fun e w'=>e=.returned (.bool (noOp r))∧Below w.heap.size w w':=by
 have hv:noOp r=((((r:Int) != 60) && ((r:Int) != 62)) && ((r:Int) != 61)):=by
  unfold noOp;rw [Bool.eq_iff_iff];simp;omega
 cases h1:((r:Int) != 60) <;> cases h2:((r:Int) != 62) <;> cases h3:((r:Int) != 61)
 all_goals
  rw [h1,h2,h3] at hv;have HV:=Lib.hid hv;have b1:((r:Int)==60) = !((r:Int) != 60):=by simp [bne]
  rw [h1] at b1;clear hv;go_enter Tryz.func57,Tryz.ntmps57;go_wp2;go_ret;exact ⟨by rw [HV.out];rfl,Below.refl _ _⟩
set_option maxRecDepth 100000 in
set_option maxHeartbeats 2000000 in
theorem noDig_calls (r:Nat) (h:r≤1114111) (w:World):Calls Tryz.prog 58 #[.int .i32 (r:Int)] w fun e w'=>e=.returned (.bool (noDigit r))∧Below w.heap.size w w':=by
 by_cases h1:r < 48
 · have d1:decide ((r:Int) < 48)=true:=decide_eq_true (by omega);have hN:noDigit r=true:=by simp [noDigit,h1]
   have HN:=Lib.hid hN;clear hN
   go_enter Tryz.func58,Tryz.ntmps58;go_wp2;go_ret;exact ⟨by rw [HN.out];rfl,Below.refl _ _⟩
 · have d1:decide ((r:Int) < 48)=false:=decide_eq_false (by omega);have hN:noDigit r=decide ((57:Int) < r):=by simp [noDigit,h1];omega
   have HN:=Lib.hid hN;clear hN
   go_enter Tryz.func58,Tryz.ntmps58;go_wp2;go_ret;exact ⟨by rw [HN.out];rfl,Below.refl _ _⟩
theorem noOp_enters : ∀ args w,(callFunc 57 args).run Tryz.prog w=.ok (.enter 57 args) w:=enters_of Tryz.func57 kr_ rfl
theorem noDig_enters : ∀ args w,(callFunc 58 args).run Tryz.prog w=.ok (.enter 58 args) w:=enters_of Tryz.func58 kr_ rfl
theorem ext_hi (p:ByteArray) (k:Nat):(p.extract k p.size).data.toList=p.data.toList.drop k∧(p.extract k p.size).size=p.size - k:=by
 have e:(p.extract k p.size).data.toList=p.data.toList.drop k:=by
  rw [ByteArray.data_extract,Array.toList_extract,List.extract_eq_take_drop];rw [List.take_of_length_le (by simp)]
 refine ⟨e,?_⟩;have:(p.extract k p.size).size=(p.extract k p.size).data.toList.length:=by simp
 rw [this,e,List.length_drop];simp
theorem ext_lo (p:ByteArray) (k:Nat):(p.extract 0 k).toList=p.data.toList.take k:=by
 rw [ByteArray.toList_eq,ByteArray.data_extract,Array.toList_extract,List.extract_eq_take_drop];simp
theorem tw_len (l:List UInt8) (q:UInt8→Bool):l.take (l.takeWhile q).length=l.takeWhile q∧l.drop (l.takeWhile q).length=l.dropWhile q:=by
 have h:=List.takeWhile_append_dropWhile (p:=q) (l:=l);constructor
 · have h2:(l.takeWhile q++l.dropWhile q).take (l.takeWhile q).length=l.takeWhile q:=List.take_left;rwa [h] at h2
 · have h2:(l.takeWhile q++l.dropWhile q).drop (l.takeWhile q).length=l.dropWhile q:=List.drop_left;rwa [h] at h2
theorem stands_parts (p:ByteArray) (n:Int) :
 (Lib.idxFunc noOp true p = -1∧standsB p n=false)∨
 ∃ k:Nat,k < p.size∧Lib.idxFunc noOp true p=(k:Int)∧
  ((9 < p.size - k∧standsB p n=false)∨(p.size - k≤9∧0≤Lib.idxFunc noDigit true (p.extract k p.size)∧standsB p n=false)∨
   (p.size - k≤9∧Lib.idxFunc noDigit true (p.extract k p.size) < 0∧∃ m:Nat,m < 1000000000∧Lib.parseIntB 64 (p.extract k p.size).data.toList=.ok (m:Int)∧standsB p n=cmpOp ((p.extract 0 k).toList) n (m:Int))):=by
 have hsz:p.data.toList.length=p.size:=by simp
 have hI:Lib.idxFunc noOp true p=_:=idx_ops p p.size 0 (by omega);rw [List.drop_zero] at hI;have hcat:=(List.takeWhile_append_dropWhile (p:=isOp) (l:=p.data.toList));unfold standsB standsL;by_cases hd:p.data.toList.dropWhile isOp=[]
 · rw [if_pos hd] at hI;exact .inl ⟨hI,by rw [hd];rfl⟩
 · right
   rw [if_neg hd,Nat.zero_add] at hI
   have hlen:(p.data.toList.takeWhile isOp).length+(p.data.toList.dropWhile isOp).length=p.size:=by
    rw [← List.length_append,hcat,hsz]
   have hpos:0 < (p.data.toList.dropWhile isOp).length:=List.length_pos_iff.2 hd;refine ⟨(p.data.toList.takeWhile isOp).length,by omega,hI,?_⟩;have hdrop:p.data.toList.drop (p.data.toList.takeWhile isOp).length=p.data.toList.dropWhile isOp:=(tw_len _ _).2;have htake:p.data.toList.take (p.data.toList.takeWhile isOp).length=p.data.toList.takeWhile isOp:=(tw_len _ _).1;obtain ⟨e1,e2⟩:=ext_hi p (p.data.toList.takeWhile isOp).length;have e3:=ext_lo p (p.data.toList.takeWhile isOp).length;rw [hdrop] at e1;rw [htake] at e3;have hD:=idx_digits (p.extract (p.data.toList.takeWhile isOp).length p.size) (p.extract (p.data.toList.takeWhile isOp).length p.size).size 0 (by omega);rw [List.drop_zero,e1] at hD;rw [e1,e3];by_cases h9:9 < p.size - (p.data.toList.takeWhile isOp).length
   · left
     refine ⟨h9,?_⟩;unfold dig9;rw [if_neg (by rintro ⟨_,h,_⟩;omega)]
   · right
     cases ha:(p.data.toList.dropWhile isOp).all isD with
     | false=>
      left
      refine ⟨by omega,(hD.2 ha),?_⟩;unfold dig9;rw [if_neg (by rintro ⟨_,_,h⟩;rw [ha] at h;cases h)]
     | true=>
      right
      have hlt:=dval_lt _ 0 ha;have hp10:10 ^ (p.data.toList.dropWhile isOp).length≤10 ^ 9:=Nat.pow_le_pow_right (by decide) (by omega);refine ⟨by omega,?_,dval 0 (p.data.toList.dropWhile isOp),by omega,pi_ok _ hd ha (by omega),?_⟩
      · have : ¬ 0≤Lib.idxFunc noDigit true (p.extract (p.data.toList.takeWhile isOp).length p.size):=fun h=>by
         have:=hD.1 h;rw [ha] at this;cases this
        omega
      · unfold dig9;rw [if_pos ⟨hd,by omega,ha⟩]
set_option maxRecDepth 100000 in
set_option maxHeartbeats 4000000 in
theorem stands_calls (p:ByteArray) (n:Int) (hp:p.size≤1000000000) (w:World):Calls Tryz.prog 27 #[.string p,.int .i64 n] w fun e w'=>e=.returned (.bool (standsB p n))∧Below w.heap.size w w':=by
 have hI:=Tryz.strings_IndexFunc_grows 57 #[] noOp_enters noOp p w (fun W x hx _=>noOp_calls x hx W);rcases stands_parts p n with ⟨h1,h2⟩ | ⟨k,hk,h1,h2⟩
 · rw [h1] at hI;have HI:=Lib.hid hI;have HV:=Lib.hid h2
   clear hI h1 h2;go_enter Tryz.func27,Tryz.ntmps27;go_wp2_with (go_at_call 56;refine HI.out.mono ?_;rintro e w2 ⟨rfl,hb⟩);go_ret;exact ⟨by rw [HV.out];rfl,hb⟩
 · rw [h1] at hI;have HI:=Lib.hid hI;have hx2:=(ext_hi p k).2;have hJ:=fun W=>Tryz.strings_IndexFunc_grows 58 #[] noDig_enters noDigit (p.extract k p.size) W (fun W x hx _=>noDig_calls x hx W)
   have HJ:=Lib.hid hJ;have hkn : ¬ (k:Int) < 0:=by omega
   have dk:decide ((k:Int) < 0)=false:=decide_eq_false hkn;have i0:(0:Int)≤(k:Int):=by omega
   have i1:(k:Int)≤(p.size:Int):=by omega
   clear hI hJ h1 hkn;rcases h2 with ⟨h3,h2⟩ | ⟨h3,h4,h2⟩ | ⟨h3,h4,m,hm,h5,h2⟩
   · have d3:decide ((9:Int) < (p.size:Int) - (k:Int))=true:=decide_eq_true (by omega);have HV:=Lib.hid h2;clear h2 h3 HJ;go_enter Tryz.func27,Tryz.ntmps27;go_wp2_with (go_at_call 56;refine HI.out.mono ?_;rintro e w2 ⟨rfl,hb⟩);go_ret;exact ⟨by rw [HV.out];rfl,hb⟩
   · have d3:decide ((9:Int) < (p.size:Int) - (k:Int))=false:=decide_eq_false (by omega);have HV:=Lib.hid h2;have d4:decide ((0:Int)≤Lib.idxFunc noDigit true (p.extract k p.size))=true:=decide_eq_true h4;clear h2 h3 h4;generalize Lib.idxFunc noDigit true (p.extract k p.size)=j at *;go_enter Tryz.func27,Tryz.ntmps27;go_wp2_with (go_at_call 56;first|(((with_reducible refine HI.out.mono ?_);rintro e w2 ⟨rfl,hb⟩))|(((with_reducible refine (HJ.out _).mono ?_);rintro e w3 ⟨rfl,hb3⟩)));go_ret;exact ⟨by rw [HV.out];rfl,hb.trans (hb3.mono hb.size)⟩
   · have d3:decide ((9:Int) < (p.size:Int) - (k:Int))=false:=decide_eq_false (by omega);have d4:decide ((0:Int)≤Lib.idxFunc noDigit true (p.extract k p.size))=false:=decide_eq_false (by omega);have HV:=Lib.hid h2;have HP:=Lib.hid (Tryz.strconv_ParseInt_10_at64_ok (p.extract k p.size) (by omega) (m:Int) h5);clear h2 h3 h4 h5;generalize Lib.idxFunc noDigit true (p.extract k p.size)=j at *;go_enter Tryz.func27,Tryz.ntmps27;go_wp2_with (go_at_call 56;first|(((with_reducible refine HI.out.mono ?_);rintro e w2 ⟨rfl,hb⟩))|(((with_reducible refine (HJ.out _).mono ?_);rintro e w3 ⟨rfl,hb3⟩)));refine (HP.out _).mono ?_;rintro e w4 ⟨rfl,hw⟩
     have hb4:Below w3.heap.size w3 w4:=by
      rcases hw with rfl | ⟨t,rfl⟩
      · exact Below.refl _ _
      · exact Lib.bytesWorld_below w3 _ t
     have HB:=Lib.hid ((hb.trans (hb3.mono hb.size)).trans (hb4.mono (Nat.le_trans hb.size hb3.size)));clear hw hb hb3 hb4 HI HJ HP;by_cases c0:(p.extract 0 k).toList=([]:List UInt8)
     · have HV2:=Lib.hid (show standsB p n=decide (n=(m:Int)) by rw [HV.out,c0];rfl);have b0:((p.extract 0 k).toList==([]:List UInt8))=true:=by rw [c0];decide
       have b0n:((p.extract 0 k).toList != ([]:List UInt8))=false:=by rw [c0];decide
       have b1:((p.extract 0 k).toList==([61,61]:List UInt8))=false:=by rw [c0];decide
       have b1n:((p.extract 0 k).toList != ([61,61]:List UInt8))=true:=by rw [c0];decide
       have b2:((p.extract 0 k).toList==([60]:List UInt8))=false:=by rw [c0];decide
       have b2n:((p.extract 0 k).toList != ([60]:List UInt8))=true:=by rw [c0];decide
       have b3:((p.extract 0 k).toList==([62]:List UInt8))=false:=by rw [c0];decide
       have b3n:((p.extract 0 k).toList != ([62]:List UInt8))=true:=by rw [c0];decide
       have b4:((p.extract 0 k).toList==([60,61]:List UInt8))=false:=by rw [c0];decide
       have b4n:((p.extract 0 k).toList != ([60,61]:List UInt8))=true:=by rw [c0];decide
       have b5:((p.extract 0 k).toList==([62,61]:List UInt8))=false:=by rw [c0];decide
       have b5n:((p.extract 0 k).toList != ([62,61]:List UInt8))=true:=by rw [c0];decide
       have be:(p.extract 0 k).toList.isEmpty=true:=by rw [c0];rfl
       clear c0 HV;have he:decide (n=(m:Int))=(n==(m:Int)):=by rw [Bool.eq_iff_iff];simp
       have HEE:=Lib.hid he;clear he
       go_wp2;go_ret;exact ⟨by rw [HV2.out,HEE.out];rfl,HB.out⟩
     by_cases c1:(p.extract 0 k).toList=([61,61]:List UInt8)
     · have HV2:=Lib.hid (show standsB p n=decide (n=(m:Int)) by rw [HV.out,c1];rfl);have b0:((p.extract 0 k).toList==([]:List UInt8))=false:=by rw [c1];decide
       have b0n:((p.extract 0 k).toList != ([]:List UInt8))=true:=by rw [c1];decide
       have b1:((p.extract 0 k).toList==([61,61]:List UInt8))=true:=by rw [c1];decide
       have b1n:((p.extract 0 k).toList != ([61,61]:List UInt8))=false:=by rw [c1];decide
       have b2:((p.extract 0 k).toList==([60]:List UInt8))=false:=by rw [c1];decide
       have b2n:((p.extract 0 k).toList != ([60]:List UInt8))=true:=by rw [c1];decide
       have b3:((p.extract 0 k).toList==([62]:List UInt8))=false:=by rw [c1];decide
       have b3n:((p.extract 0 k).toList != ([62]:List UInt8))=true:=by rw [c1];decide
       have b4:((p.extract 0 k).toList==([60,61]:List UInt8))=false:=by rw [c1];decide
       have b4n:((p.extract 0 k).toList != ([60,61]:List UInt8))=true:=by rw [c1];decide
       have b5:((p.extract 0 k).toList==([62,61]:List UInt8))=false:=by rw [c1];decide
       have b5n:((p.extract 0 k).toList != ([62,61]:List UInt8))=true:=by rw [c1];decide
       have be:(p.extract 0 k).toList.isEmpty=false:=by rw [c1];rfl
       clear c1 HV;have he:decide (n=(m:Int))=(n==(m:Int)):=by rw [Bool.eq_iff_iff];simp
       have HEE:=Lib.hid he;clear he
       go_wp2;go_ret;exact ⟨by rw [HV2.out,HEE.out];rfl,HB.out⟩
     by_cases c2:(p.extract 0 k).toList=([60]:List UInt8)
     · have HV2:=Lib.hid (show standsB p n=decide (n < (m:Int)) by rw [HV.out,c2];rfl);have b0:((p.extract 0 k).toList==([]:List UInt8))=false:=by rw [c2];decide
       have b0n:((p.extract 0 k).toList != ([]:List UInt8))=true:=by rw [c2];decide
       have b1:((p.extract 0 k).toList==([61,61]:List UInt8))=false:=by rw [c2];decide
       have b1n:((p.extract 0 k).toList != ([61,61]:List UInt8))=true:=by rw [c2];decide
       have b2:((p.extract 0 k).toList==([60]:List UInt8))=true:=by rw [c2];decide
       have b2n:((p.extract 0 k).toList != ([60]:List UInt8))=false:=by rw [c2];decide
       have b3:((p.extract 0 k).toList==([62]:List UInt8))=false:=by rw [c2];decide
       have b3n:((p.extract 0 k).toList != ([62]:List UInt8))=true:=by rw [c2];decide
       have b4:((p.extract 0 k).toList==([60,61]:List UInt8))=false:=by rw [c2];decide
       have b4n:((p.extract 0 k).toList != ([60,61]:List UInt8))=true:=by rw [c2];decide
       have b5:((p.extract 0 k).toList==([62,61]:List UInt8))=false:=by rw [c2];decide
       have b5n:((p.extract 0 k).toList != ([62,61]:List UInt8))=true:=by rw [c2];decide
       have be:(p.extract 0 k).toList.isEmpty=false:=by rw [c2];rfl
       clear c2 HV;go_wp2;go_ret;exact ⟨by rw [HV2.out];rfl,HB.out⟩
     by_cases c3:(p.extract 0 k).toList=([62]:List UInt8)
     · have HV2:=Lib.hid (show standsB p n=decide ((m:Int) < n) by rw [HV.out,c3];rfl);have b0:((p.extract 0 k).toList==([]:List UInt8))=false:=by rw [c3];decide
       have b0n:((p.extract 0 k).toList != ([]:List UInt8))=true:=by rw [c3];decide
       have b1:((p.extract 0 k).toList==([61,61]:List UInt8))=false:=by rw [c3];decide
       have b1n:((p.extract 0 k).toList != ([61,61]:List UInt8))=true:=by rw [c3];decide
       have b2:((p.extract 0 k).toList==([60]:List UInt8))=false:=by rw [c3];decide
       have b2n:((p.extract 0 k).toList != ([60]:List UInt8))=true:=by rw [c3];decide
       have b3:((p.extract 0 k).toList==([62]:List UInt8))=true:=by rw [c3];decide
       have b3n:((p.extract 0 k).toList != ([62]:List UInt8))=false:=by rw [c3];decide
       have b4:((p.extract 0 k).toList==([60,61]:List UInt8))=false:=by rw [c3];decide
       have b4n:((p.extract 0 k).toList != ([60,61]:List UInt8))=true:=by rw [c3];decide
       have b5:((p.extract 0 k).toList==([62,61]:List UInt8))=false:=by rw [c3];decide
       have b5n:((p.extract 0 k).toList != ([62,61]:List UInt8))=true:=by rw [c3];decide
       have be:(p.extract 0 k).toList.isEmpty=false:=by rw [c3];rfl
       clear c3 HV;go_wp2;go_ret;exact ⟨by rw [HV2.out];rfl,HB.out⟩
     by_cases c4:(p.extract 0 k).toList=([60,61]:List UInt8)
     · have HV2:=Lib.hid (show standsB p n=decide (n≤(m:Int)) by rw [HV.out,c4];rfl);have b0:((p.extract 0 k).toList==([]:List UInt8))=false:=by rw [c4];decide
       have b0n:((p.extract 0 k).toList != ([]:List UInt8))=true:=by rw [c4];decide
       have b1:((p.extract 0 k).toList==([61,61]:List UInt8))=false:=by rw [c4];decide
       have b1n:((p.extract 0 k).toList != ([61,61]:List UInt8))=true:=by rw [c4];decide
       have b2:((p.extract 0 k).toList==([60]:List UInt8))=false:=by rw [c4];decide
       have b2n:((p.extract 0 k).toList != ([60]:List UInt8))=true:=by rw [c4];decide
       have b3:((p.extract 0 k).toList==([62]:List UInt8))=false:=by rw [c4];decide
       have b3n:((p.extract 0 k).toList != ([62]:List UInt8))=true:=by rw [c4];decide
       have b4:((p.extract 0 k).toList==([60,61]:List UInt8))=true:=by rw [c4];decide
       have b4n:((p.extract 0 k).toList != ([60,61]:List UInt8))=false:=by rw [c4];decide
       have b5:((p.extract 0 k).toList==([62,61]:List UInt8))=false:=by rw [c4];decide
       have b5n:((p.extract 0 k).toList != ([62,61]:List UInt8))=true:=by rw [c4];decide
       have be:(p.extract 0 k).toList.isEmpty=false:=by rw [c4];rfl
       clear c4 HV;go_wp2;go_ret;exact ⟨by rw [HV2.out];rfl,HB.out⟩
     by_cases c5:(p.extract 0 k).toList=([62,61]:List UInt8)
     · have HV2:=Lib.hid (show standsB p n=decide ((m:Int)≤n) by rw [HV.out,c5];rfl);have b0:((p.extract 0 k).toList==([]:List UInt8))=false:=by rw [c5];decide
       have b0n:((p.extract 0 k).toList != ([]:List UInt8))=true:=by rw [c5];decide
       have b1:((p.extract 0 k).toList==([61,61]:List UInt8))=false:=by rw [c5];decide
       have b1n:((p.extract 0 k).toList != ([61,61]:List UInt8))=true:=by rw [c5];decide
       have b2:((p.extract 0 k).toList==([60]:List UInt8))=false:=by rw [c5];decide
       have b2n:((p.extract 0 k).toList != ([60]:List UInt8))=true:=by rw [c5];decide
       have b3:((p.extract 0 k).toList==([62]:List UInt8))=false:=by rw [c5];decide
       have b3n:((p.extract 0 k).toList != ([62]:List UInt8))=true:=by rw [c5];decide
       have b4:((p.extract 0 k).toList==([60,61]:List UInt8))=false:=by rw [c5];decide
       have b4n:((p.extract 0 k).toList != ([60,61]:List UInt8))=true:=by rw [c5];decide
       have b5:((p.extract 0 k).toList==([62,61]:List UInt8))=true:=by rw [c5];decide
       have b5n:((p.extract 0 k).toList != ([62,61]:List UInt8))=false:=by rw [c5];decide
       have be:(p.extract 0 k).toList.isEmpty=false:=by rw [c5];rfl
       clear c5 HV;go_wp2;go_ret;exact ⟨by rw [HV2.out];rfl,HB.out⟩
     have HV2:=Lib.hid (show standsB p n=false by rw [HV.out];unfold cmpOp;rw [if_neg (by rintro (h|h);exact c0 h;exact c1 h),if_neg c2,if_neg c3,if_neg c4,if_neg c5]);have b0:((p.extract 0 k).toList==([]:List UInt8))=false:=by simpa using c0
     have b1:((p.extract 0 k).toList==([61,61]:List UInt8))=false:=by simpa using c1
     have b2:((p.extract 0 k).toList==([60]:List UInt8))=false:=by simpa using c2
     have b3:((p.extract 0 k).toList==([62]:List UInt8))=false:=by simpa using c3
     have b4:((p.extract 0 k).toList==([60,61]:List UInt8))=false:=by simpa using c4
     have b5:((p.extract 0 k).toList==([62,61]:List UInt8))=false:=by simpa using c5
     have be:(p.extract 0 k).toList.isEmpty=false:=by cases hh:(p.extract 0 k).toList with
      | nil=>exact absurd hh c0
      | cons a l=>rfl
     clear c0 c1 c2 c3 c4 c5 HV;go_wp2;go_ret;exact ⟨by rw [HV2.out];rfl,HB.out⟩
end Go.Proofs.YtodhmbnfliajiaaGreatDoor.Q
