/- HandRefFind: a text of this claim's proof,as printed or written,without what the claim does not use. -/
import Derived.Test.YtodhmbnfliajiaaGreatDoorJ16
namespace Go.Proofs.YtodhmbnfliajiaaGreatDoor.Q
open Go.RowKit Go.Proofs.YtodhmbnfliajiaaGreatDoorW.PrintWords Go.Proofs.YtodhmbnfliajiaaGreatDoorW.PrintLast Go.Proofs.YtodhmbnfliajiaaGreatDoorW.PrintMore
set_option linter.unusedVariables false
set_option linter.unusedSimpArgs false
def anyTo (x:EvV) (name:ByteArray) (mem lev:Int) (r:RL) (k:Nat):Bool:=(r.f3.take k).any fun c=>!holdsB c.f0 c.f1 c.f2 c.f3 x name mem lev
theorem anyTo_succ (x:EvV) (name:ByteArray) (mem lev:Int) (r:RL) (k:Nat) (h:k < r.f3.length):anyTo x name mem lev r (k+1)=(anyTo x name mem lev r k || !holdsB r.f3[k].f0 r.f3[k].f1 r.f3[k].f2 r.f3[k].f3 x name mem lev):=by
 unfold anyTo;rw [List.take_add_one,List.getElem?_eq_getElem h,List.any_append];simp only [Option.toList,List.any_cons,List.any_nil,Bool.or_false]
theorem ruleOk_no (x:EvV) (name:ByteArray) (mem lev:Int) (r:RL) (k:Nat) (h:anyTo x name mem lev r k=true):ruleOk x name mem lev r=false:=by
 unfold anyTo at h;unfold ruleOk
 have:(r.f3.any fun c=>!holdsB c.f0 c.f1 c.f2 c.f3 x name mem lev)=true:=by
  rw [List.any_eq_true] at h ⊢;obtain ⟨q,hq,e⟩:=h;exact ⟨q,List.mem_of_mem_take hq,e⟩
 rw [this,Bool.not_true,Bool.and_false]
theorem ruleOk_yes (x:EvV) (name:ByteArray) (mem lev:Int) (r:RL) (h:anyTo x name mem lev r r.f3.length=false):ruleOk x name mem lev r = !r.f2:=by
 unfold anyTo at h;unfold ruleOk;rw [List.take_length] at h;rw [h,Bool.not_false,Bool.and_true]
def RB (g:Nat) (r:RL) (A3:Option Addr) (c3:Nat) (W:World):Prop:=W.heap[g]?=some (.cells #[.int .i64 r.f0,.string r.f1,.bool r.f2,.slice A3 r.f3.length c3,.bool r.f4,.bool r.f5] 47 (0,0))
def rh4D:List Nat:=[13,14,15,16,17,18,19,20]
def rh4S (x:EvV) (user name:ByteArray) (mem lev:Int) (r:RL) (g2:Nat) (ad3:Addr) (c3 k:Nat) (q:S23) (hq:Bool):List Spec:=[.val (.pointer (some ⟨g2,3,none⟩)),.val (.slice (some ad3) r.f3.length c3),.val (.int .i64 k),.val (.pointer (some (ad3.add (k * 4)))),.val (.agg #[.string q.f0,.string q.f1,.string q.f2,.int .i64 q.f3]),.val (.agg (scV x user name mem lev)),.val (.bool hq),.val (.bool (!hq))]
set_option maxRecDepth 100000 in
set_option maxHeartbeats 8000000 in
theorem refrule_calls (x:EvV) (user name:ByteArray) (mem lev:Int) (hs:evSmall x=true) (hn:name.size≤60) (r:RL) (hr:RuleFits r) (A3:Option Addr) (c3:Nat) (w:World) (hx:x.OkR w) (hC:Kd.C k23 w A3 r.f3.length r.f3) (hc:r.f3.length≤c3) :
 Calls Tryz.prog 39 #[.agg #[.int .i64 r.f0,.string r.f1,.bool r.f2,.slice A3 r.f3.length c3,.bool r.f4,.bool r.f5],.agg (scV x user name mem lev)] w fun e w'=>e=.returned (.bool (ruleOk x name mem lev r))∧Below w.heap.size w w':=by
 have HHo:=Lib.hid (fun q (hq:q.f2.size≤60) W (h:Below w.heap.size w W)=>rholds_c x user name mem lev hs hn q hq W (hx.below h));have HC:=Lib.hid (fun W (h:Below w.heap.size w W)=>Kd.C_below hC h);have h6:=hr.1;clear hx hC;have hu:=Tryz.underlying32;go_enter Tryz.func39,Tryz.ntmps39;go_wp2_with (first|((with_reducible refine gate_dst (N:=2) rfl ?_);refine box_event ?hg (N:=2) ?hd (cs:=#[.int .i64 r.f0,.string r.f1,.bool r.f2,.slice A3 r.f3.length c3,.bool r.f4,.bool r.f5]) (t:=47) ?hr ?_;(case hd=>rfl);(case hg=>rfl);(case hr=>exact hr_);intro g2 hg2 w2 hk2 hb2;(have hn2:w.heap.size≤g2:=Nat.le_of_eq hg2.symm);have HR2:=Lib.hid hk2;have HB2:=Lib.hid hb2;clear hk2 hb2 hg2 hn2)|((with_reducible refine gate_dst (N:=3) rfl ?_);refine box_event ?hg (N:=3) ?hd (cs:=scV x user name mem lev) (t:=32) ?hr ?_;(case hd=>rfl);(case hg=>rfl);(case hr=>exact hr_);intro g3 hg3 w3 hk3 hb3;have HR3:=Lib.hid (blk_below HR2.out hb3);have HK3:=Lib.hid hk3;have HB3:=Lib.hid (below_step HB2.out hb3);clear hk3 hb3 hg3));go_loopw [5] (fun vi wr=>∃ k:Nat,k≤r.f3.length∧vi=.int .i64 k∧anyTo x name mem lev r k=false∧Hid (Below w.heap.size w wr)∧Hid (SB g3 x user name mem lev wr)∧Hid (RB g2 r A3 c3 wr)) (fun vi _=>r.f3.length - (intOf vi).toNat);case atStart=>exact ⟨0,Nat.zero_le _,rfl,rfl,HB3,HK3,HR3⟩
 case round=>
  clear HB3 HK3 HR3;obtain ⟨k,hk,rfl,hv,HB,HK,HR⟩:=hrel;have q3:wr.cell? ⟨g2,3,none⟩=some (.slice A3 r.f3.length c3):=(blk_cell HR.out 3).trans rfl;by_cases h2:k < r.f3.length
  · have b2:decide ((k:Int) < (r.f3.length:Int))=true:=decide_eq_true (by omega);have hsu:=anyTo_succ x name mem lev r k h2;go_wp2;obtain ⟨ad3,hA3,d0,d1,d2,d3⟩:=at_T23 (HC.out wr HB.out) (k:Int) (by omega) (by omega);obtain ⟨q,hq0⟩ : ∃ q,q=r.f3[k]:=⟨_,rfl⟩;have hqs:q.f2.size≤60:=by rw [hq0];exact hr.2 _ (List.getElem_mem h2)
    rw [show rd_T23 r.f3 (k:Int)=q by rw [hq0];simp [rd_T23,h2],Int.toNat_natCast] at *;rw [← hq0] at hsu;subst hA3;have G0:=Lib.hid d0;have G1:=Lib.hid d1;have G2:=Lib.hid d2;have G3:=Lib.hid d3
    have I2:=Lib.hid (show (k:Int) < (r.f3.length:Int) by omega);have HQ:=Lib.hid (HHo.out q hqs);have HS:=Lib.hid hsu;clear q3 d0 d1 d2 d3 hsu b2 hq0 hqs;generalize hqe:holdsB q.f0 q.f1 q.f2 q.f3 x name mem lev=hq at HQ HS;refine wp_region_flat _ rh4D (rh4S x user name mem lev r g2 ad3 c3 k q hq) kr_ kr_ kr_ kr_ rfl ?_ ?_
    · refine ⟨?p0,?p1,?p2,?p3,?p4,?p5,?p6,?p7,trivial⟩
      case p0=>
       intro _ a w2 hb hk hd hkp K hK;have h2:a.tmps[2]?.getD undef=.pointer (some ⟨g2,0,none⟩):=ev_of ((hk 2 (show ∀ i,i < 8→gslot rh4D i≠2 by decide)).trans rfl);unfold Oper.wp;go_simp;exact hK _ _ rfl (Below.refl _ _)
      case p1=>
       intro _ a w2 hb hk hd hkp K hK;have h13:a.tmps[13]?.getD undef=.pointer (some ⟨g2,3,none⟩):=ev_of (hd 0 (by decide) kr_);have c1:w2.cell? ⟨g2,3,none⟩=some (.slice (some ad3) r.f3.length c3):=(blk_cell (blk_below (w:=wr.drew) HR.out hb) 3).trans rfl;unfold Oper.wp;go_simp;exact hK _ _ rfl (Below.refl _ _)
      case p2=>
       intro _ a w2 hb hk hd hkp K hK;have h5:a.tmps[5]?.getD undef=.int .i64 k:=ev_of ((hk 5 (show ∀ i,i < 8→gslot rh4D i≠5 by decide)).trans rfl);unfold Oper.wp;go_simp;exact hK _ _ rfl (Below.refl _ _)
      case p3=>
       intro _ a w2 hb hk hd hkp K hK;have h14:a.tmps[14]?.getD undef=.slice (some ad3) r.f3.length c3:=ev_of (hd 1 (by decide) kr_);have h15:a.tmps[15]?.getD undef=.int .i64 k:=ev_of (hd 2 (by decide) kr_);have i0:(0:Int)≤(k:Int):=Int.natCast_nonneg _;have i1:=I2.out;unfold Oper.wp;go_simp;exact hK _ _ rfl (Below.refl _ _)
      case p4=>
       intro _ a w2 hb hk hd hkp K hK;have h16:a.tmps[16]?.getD undef=.pointer (some (ad3.add (k * 4))):=ev_of (hd 3 (by decide) kr_);have c0:=pw_cell_below (w:=wr.drew) hb G0.out;have c1:=pw_cell_below (w:=wr.drew) hb G1.out;have c2:=pw_cell_below (w:=wr.drew) hb G2.out;have c3':=pw_cell_below (w:=wr.drew) hb G3.out;unfold Oper.wp;go_simp;exact hK _ _ rfl (Below.refl _ _)
      case p5=>
       intro _ a w2 hb hk hd hkp K hK;have e3:a.eval (.tmp 3)=.pointer (some ⟨g3,0,none⟩):=(hk 3 (show ∀ i,i < 8→gslot rh4D i≠3 by decide)).trans rfl;exact wp_load_row 32 (.tmp 3) rfl g3 e3 32 (scV x user name mem lev) (0,0) _ (blk_below (w:=wr.drew) HK.out hb) hu rfl kr_ (hK _ _ rfl (Below.refl _ _))
      case p6=>
       intro _ a w2 hb hk hd hkp K hK;have h17:a.tmps[17]?.getD undef=.agg #[.string q.f0,.string q.f1,.string q.f2,.int .i64 q.f3]:=ev_of (hd 4 (by decide) kr_);have h18:a.tmps[18]?.getD undef=.agg (scV x user name mem lev):=ev_of (hd 5 (by decide) kr_);unfold Oper.wp;go_simp;refine (HQ.out _ (below_step (below_drew1 HB.out) hb)).mono ?_;rintro e w3 ⟨rfl,hb3⟩;exact hK _ _ rfl hb3
      case p7=>
       intro _ a w2 hb hk hd hkp K hK;have h19:a.tmps[19]?.getD undef=.bool hq:=ev_of (hd 6 (by decide) kr_);unfold Oper.wp;go_simp;exact hK _ _ rfl (Below.refl _ _)
    · intro w5 hb5;dsimp only [puts,rh4D,rh4S,Spec.value];simp only [Act.put,List.setIfInBounds_toArray,List.set_cons_succ,List.set_cons_zero];have HB6:=Lib.hid (below_step HB.out hb5);have HK6:=Lib.hid (blk_below HK.out hb5);have HR6:=Lib.hid (blk_below HR.out hb5)
      cases hq with
      | false=>
       have hno:=ruleOk_no x name mem lev r (k+1) (by rw [HS.out,Bool.not_false,Bool.or_true]);go_wp2;go_ret;exact ⟨by rw [hno];rfl,HB6.out⟩
      | true=>
       go_wp2;go_roundw;case rel=>exact ⟨k+1,by omega,by simp,by rw [HS.out,hv];rfl,HB6,HK6,HR6⟩
       case measure=>simp [intOf];omega
  · obtain rfl:k=r.f3.length:=by omega
    have b2:decide ((r.f3.length:Int) < (r.f3.length:Int))=false:=decide_eq_false (by omega);have q2:wr.cell? ⟨g2,2,none⟩=some (.bool r.f2):=(blk_cell HR.out 2).trans rfl;have hy:=ruleOk_yes x name mem lev r hv;go_wp2;go_ret;exact ⟨by rw [hy];rfl,HB.out⟩
def rfnoD:List Nat:=[14,15,16,17,18,19,20,21,22,23,24,25,26,27,28,29,30,31,32,33,34,35,36]
def rfnoS (x:EvV) (user name:ByteArray) (mem lev:Int) (c:Nat) (l:List RL) (ad:Addr) (i j:Nat) (b:Int) (r:RL) (A3:Option Addr) (c3:Nat) (cj:Int) (lt:Bool):List Spec:=[.val (.slice (some ad) l.length c),.val (.int .i64 i),.val (.pointer (some (ad.add (i * 6)))),.val (.agg #[.int .i64 r.f0,.string r.f1,.bool r.f2,.slice A3 r.f3.length c3,.bool r.f4,.bool r.f5]),.val (.agg (scV x user name mem lev)),.val (.bool false),.val (.bool false),.off,.off,.off,.off,.off,.off,.off,.off,.off,.off,.off,.off,.off,.off,.off,.val (.bool false)]
def rffirstD:List Nat:=[14,15,16,17,18,19,20,21,22,23,24,25,26,27,28,29,30,31,32,33,34,35,36]
def rffirstS (x:EvV) (user name:ByteArray) (mem lev:Int) (c:Nat) (l:List RL) (ad:Addr) (i j:Nat) (b:Int) (r:RL) (A3:Option Addr) (c3:Nat) (cj:Int) (lt:Bool):List Spec:=[.val (.slice (some ad) l.length c),.val (.int .i64 i),.val (.pointer (some (ad.add (i * 6)))),.val (.agg #[.int .i64 r.f0,.string r.f1,.bool r.f2,.slice A3 r.f3.length c3,.bool r.f4,.bool r.f5]),.val (.agg (scV x user name mem lev)),.val (.bool true),.val (.bool true),.val (.int .i64 (-1)),.val (.bool true),.val (.bool true),.off,.off,.off,.off,.off,.off,.off,.off,.off,.off,.off,.val (.bool true),.val (.bool true)]
def rfmoreD:List Nat:=[14,15,16,17,18,19,20,21,22,23,24,25,26,27,28,29,30,31,32,33,34,35,36]
def rfmoreS (x:EvV) (user name:ByteArray) (mem lev:Int) (c:Nat) (l:List RL) (ad:Addr) (i j:Nat) (b:Int) (r:RL) (A3:Option Addr) (c3:Nat) (cj:Int) (lt:Bool):List Spec:=[.val (.slice (some ad) l.length c),.val (.int .i64 i),.val (.pointer (some (ad.add (i * 6)))),.val (.agg #[.int .i64 r.f0,.string r.f1,.bool r.f2,.slice A3 r.f3.length c3,.bool r.f4,.bool r.f5]),.val (.agg (scV x user name mem lev)),.val (.bool true),.val (.bool true),.val (.int .i64 j),.val (.bool false),.val (.bool false),.val (.slice (some ad) l.length c),.val (.int .i64 i),.val (.pointer (some (ad.add (i * 6)))),.val (.pointer (some (ad.add (i * 6)))),.val (.int .i64 r.f0),.val (.slice (some ad) l.length c),.val (.int .i64 j),.val (.pointer (some (ad.add (j * 6)))),.val (.pointer (some (ad.add (j * 6)))),.val (.int .i64 cj),.val (.bool lt),.val (.bool lt),.val (.bool lt)]
def encB:Option Nat→Int
 | none=>-1
 | some j=>(j:Int)
theorem encB_none:encB none = -1:=rfl
theorem encB_some (j:Nat):encB (some j)=(j:Int):=rfl
set_option maxRecDepth 100000 in
set_option maxHeartbeats 8000000 in
theorem rfind_c (x:EvV) (user name:ByteArray) (mem lev:Int) {l:List RL} (f:FewIs l x name) (A:Option Addr) (c:Nat) (w:World) (h:Giv A c l x w):Calls Tryz.prog 15 #[.slice A l.length c,.agg (scV x user name mem lev)] w fun e w'=>e=.returned (.tuple #[.int .i64 (findB l x user name mem lev).1,.bool (findB l x user name mem lev).2])∧Below w.heap.size w w':=by
 have HG:=Lib.hid h;have HRu:=Lib.hid (fun r (hr:r ∈ l) A3 c3 W (h3:Below w.heap.size w W) hC hc=>refrule_calls x user name mem lev f.small f.name r (f.rules r hr) A3 c3 W (h.hx.below h3) hC hc);have hcl:l.length≤c:=h.hc;have h15:=f.len
 have hcell : ∀ (i:Nat) (h:i < l.length),∃ ad A3 c3,A=some ad∧l[i].f3.length≤c3∧∀ W,Below w.heap.size w W→W.cell? (ad.add (i * 6))=some (.int .i64 l[i].f0)∧W.cell? ⟨(ad.add (i * 6)).block,(ad.add (i * 6)).off+1,none⟩=some (.string l[i].f1)∧W.cell? ⟨(ad.add (i * 6)).block,(ad.add (i * 6)).off+2,none⟩=some (.bool l[i].f2)∧W.cell? ⟨(ad.add (i * 6)).block,(ad.add (i * 6)).off+3,none⟩=some (.slice A3 l[i].f3.length c3)∧W.cell? ⟨(ad.add (i * 6)).block,(ad.add (i * 6)).off+4,none⟩=some (.bool l[i].f4)∧W.cell? ⟨(ad.add (i * 6)).block,(ad.add (i * 6)).off+5,none⟩=some (.bool l[i].f5)∧Kd.C k23 W A3 l[i].f3.length l[i].f3:=by
  intro i h;obtain ⟨ad,A3,c3,e,q0,q1,q2,q3,q4,q5,hl,hC⟩:=at_T47 HG.out.hr (i:Int) (by omega) (by omega);rw [show rd_T47 l (i:Int)=l[i] by simp [rd_T47,h],Int.toNat_natCast] at *;exact ⟨ad,A3,c3,e,hl,fun W hb=>⟨pw_cell_below hb q0,pw_cell_below hb q1,pw_cell_below hb q2,pw_cell_below hb q3,pw_cell_below hb q4,pw_cell_below hb q5,Kd.C_below hC hb⟩⟩
 have HCell:=Lib.hid hcell;clear hcell h;have hfe:=findB.eq_1 l x user name mem lev;have HFE:=Lib.hid hfe;clear hfe;have hu:=Tryz.underlying32;go_enter Tryz.func15,Tryz.ntmps15;go_wp2_with (((with_reducible refine gate_dst (N:=3) rfl ?_);refine box_event ?hg (N:=3) ?hd (cs:=scV x user name mem lev) (t:=32) ?hr ?_;(case hd=>rfl);(case hg=>rfl);(case hr=>exact hr_);intro g3 hg3 w3 hk3 hb3;have HK3:=Lib.hid hk3;have HB3:=Lib.hid hb3;clear hk3 hb3 hg3));go_loopw [6,7] (fun vb vi wr=>∃ (o:Option Nat) (i:Nat),i≤l.length∧vb=.int .i64 (encB o)∧vi=.int .i64 i∧Hid (bestIdx (clsOf l) (okAt l x name mem lev) i=o)∧Hid (Below w.heap.size w wr)∧Hid (SB g3 x user name mem lev wr)) (fun _ vi _=>l.length - (intOf vi).toNat);case atStart=>exact ⟨none,0,Nat.zero_le _,rfl,rfl,Lib.hid rfl,HB3,HK3⟩
 case round=>
  clear HB3 HK3;obtain ⟨o,i,hi,rfl,rfl,HO,HB,HK⟩:=hrel;by_cases h1:i < l.length
  · have b1:decide ((i:Int) < (l.length:Int))=true:=decide_eq_true (by omega);obtain ⟨ad,A3,c3,hA,hl3,hall⟩:=HCell.out i h1
    have hstep:bestIdx (clsOf l) (okAt l x name mem lev) (i+1)=bestStep (clsOf l) (okAt l x name mem lev) o i:=by
     rw [← HO.out];unfold bestIdx;rw [List.range_succ,List.foldl_append];rfl
    have hsp:=best_spec (clsOf l) (okAt l x name mem lev) i;rw [HO.out] at hsp
    have hok:okAt l x name mem lev i=ruleOk x name mem lev l[i]:=by
     unfold okAt;rw [show rd_T47 l (i:Int)=l[i] by simp [rd_T47,h1]]
    have hci:clsOf l i=l[i].f0:=by
     unfold clsOf;rw [show rd_T47 l (i:Int)=l[i] by simp [rd_T47,h1]]
    unfold bestStep at hstep;rw [hok] at hstep;obtain ⟨r,hr0⟩ : ∃ r,r=l[i]:=⟨_,rfl⟩;have hrm:r ∈ l:=by rw [hr0];exact List.getElem_mem h1
    rw [← hr0] at hl3 hall hstep hci;subst hA;obtain ⟨q0,q1,q2,q3,q4,q5,-⟩:=hall wr HB.out;have HALL:=Lib.hid hall;have G0:=Lib.hid q0;have G1:=Lib.hid q1;have G2:=Lib.hid q2;have G3:=Lib.hid q3;have G4:=Lib.hid q4;have G5:=Lib.hid q5
    have I1:=Lib.hid (show (i:Int) < (l.length:Int) by omega);clear hok hr0 q0 q1 q2 q3 q4 q5 hall;have HQ:=Lib.hid (fun W (hb:Below w.heap.size w W)=>HRu.out r hrm A3 c3 W hb (HALL.out W hb).2.2.2.2.2.2 hl3);go_wp2;have HST:=Lib.hid hstep;have HSP:=Lib.hid hsp;have HCI:=Lib.hid hci
    clear hstep hsp hci b1;generalize hrv:ruleOk x name mem lev r=rv at HQ HST;clear hrv
    cases rv with
    | false=>
     have STEP:=Lib.hid (show bestIdx (clsOf l) (okAt l x name mem lev) (i+1)=if false=true then some i else o by rw [HST.out,Bool.false_and]);refine wp_region_flat _ rfnoD (rfnoS x user name mem lev c l ad i 0 0 r A3 c3 0 false) kr_ kr_ kr_ kr_ rfl ?_ ?_
     · refine ⟨?p0,?p1,?p2,?p3,?p4,?p5,?p6,(fun h=>by cases h),(fun h=>by cases h),(fun h=>by cases h),(fun h=>by cases h),(fun h=>by cases h),(fun h=>by cases h),(fun h=>by cases h),(fun h=>by cases h),(fun h=>by cases h),(fun h=>by cases h),(fun h=>by cases h),(fun h=>by cases h),(fun h=>by cases h),(fun h=>by cases h),(fun h=>by cases h),?p22,trivial⟩
       case p0=>
        intro _ a w2 hb hk hd hkp K hK;have h0:a.tmps[0]?.getD undef=.slice (some ad) l.length c:=ev_of ((hk 0 (show ∀ i,i < 23→gslot rfnoD i≠0 by decide)).trans rfl);unfold Oper.wp;go_simp;exact hK _ _ rfl (Below.refl _ _)
       case p1=>
        intro _ a w2 hb hk hd hkp K hK;have h7:a.tmps[7]?.getD undef=.int .i64 i:=ev_of ((hk 7 (show ∀ i,i < 23→gslot rfnoD i≠7 by decide)).trans rfl);unfold Oper.wp;go_simp;exact hK _ _ rfl (Below.refl _ _)
       case p2=>
        intro _ a w2 hb hk hd hkp K hK;have h14:a.tmps[14]?.getD undef=.slice (some ad) l.length c:=ev_of (hd 0 (by decide) kr_);have h15:a.tmps[15]?.getD undef=.int .i64 i:=ev_of (hd 1 (by decide) kr_);have i0:(0:Int)≤(i:Int):=Int.natCast_nonneg _;have i1:=I1.out;unfold Oper.wp;go_simp;exact hK _ _ rfl (Below.refl _ _)
       case p3=>
        intro _ a w2 hb hk hd hkp K hK;have h16:a.tmps[16]?.getD undef=.pointer (some (ad.add (i * 6))):=ev_of (hd 2 (by decide) kr_);have c0:=pw_cell_below (w:=wr.drew) hb G0.out;have c1:=pw_cell_below (w:=wr.drew) hb G1.out;have c2:=pw_cell_below (w:=wr.drew) hb G2.out;have c3:=pw_cell_below (w:=wr.drew) hb G3.out;have c4:=pw_cell_below (w:=wr.drew) hb G4.out;have c5:=pw_cell_below (w:=wr.drew) hb G5.out;unfold Oper.wp;go_simp;exact hK _ _ rfl (Below.refl _ _)
       case p4=>
        intro _ a w2 hb hk hd hkp K hK;have e3:a.eval (.tmp 3)=.pointer (some ⟨g3,0,none⟩):=(hk 3 (show ∀ i,i < 23→gslot rfnoD i≠3 by decide)).trans rfl;exact wp_load_row 32 (.tmp 3) rfl g3 e3 32 (scV x user name mem lev) (0,0) _ (blk_below (w:=wr.drew) HK.out hb) hu rfl kr_ (hK _ _ rfl (Below.refl _ _))
       case p5=>
        intro _ a w2 hb hk hd hkp K hK;have h17:a.tmps[17]?.getD undef=.agg #[.int .i64 r.f0,.string r.f1,.bool r.f2,.slice A3 r.f3.length c3,.bool r.f4,.bool r.f5]:=ev_of (hd 3 (by decide) kr_);have h18:a.tmps[18]?.getD undef=.agg (scV x user name mem lev):=ev_of (hd 4 (by decide) kr_);unfold Oper.wp;go_simp;refine (HQ.out _ (below_step (below_drew1 HB.out) hb)).mono ?_;rintro e w3 ⟨rfl,hb3⟩;exact hK _ _ rfl hb3
       case p6=>
        intro _ a w2 hb hk hd hkp K hK;have h19:a.tmps[19]?.getD undef=.bool false:=ev_of (hd 5 (by decide) kr_);unfold Oper.wp;go_simp;exact hK _ _ rfl (Below.refl _ _)
       case p22=>
        intro _ a w2 hb hk hd hkp K hK;have h20:a.tmps[20]?.getD undef=.bool false:=ev_of (hd 6 (by decide) kr_);have h35:a.tmps[35]?.getD undef=undef:=ev_of (hd 21 (by decide) kr_);unfold Oper.wp;go_simp;exact hK _ _ rfl (Below.refl _ _)
     · intro w5 hb5;dsimp only [puts,rfnoD,rfnoS,Spec.value];simp only [Act.put,List.setIfInBounds_toArray,List.set_cons_succ,List.set_cons_zero];have HB6:=Lib.hid (below_step HB.out hb5);have HK6:=Lib.hid (blk_below HK.out hb5);go_wp2;go_roundw;case rel=>exact ⟨o,i+1,by omega,by rfl,by simp,Lib.hid (STEP.out.trans (if_neg (by decide))),HB6,HK6⟩
       case measure=>simp [intOf];omega
    | true=>
     cases o with
     | none=>
      have B0:=Lib.hid (show decide ((-1:Int) < 0)=true by decide);have STEP:=Lib.hid (show bestIdx (clsOf l) (okAt l x name mem lev) (i+1)=some i by rw [HST.out,Bool.true_and];exact if_pos rfl);rw [encB_none];refine wp_region_flat _ rffirstD (rffirstS x user name mem lev c l ad i 0 0 r A3 c3 0 false) kr_ kr_ kr_ kr_ rfl ?_ ?_
      · refine ⟨?p0,?p1,?p2,?p3,?p4,?p5,?p6,?p7,?p8,?p9,(fun h=>by cases h),(fun h=>by cases h),(fun h=>by cases h),(fun h=>by cases h),(fun h=>by cases h),(fun h=>by cases h),(fun h=>by cases h),(fun h=>by cases h),(fun h=>by cases h),(fun h=>by cases h),(fun h=>by cases h),?p21,?p22,trivial⟩
        case p0=>
         intro _ a w2 hb hk hd hkp K hK;have h0:a.tmps[0]?.getD undef=.slice (some ad) l.length c:=ev_of ((hk 0 (show ∀ i,i < 23→gslot rffirstD i≠0 by decide)).trans rfl);unfold Oper.wp;go_simp;exact hK _ _ rfl (Below.refl _ _)
        case p1=>
         intro _ a w2 hb hk hd hkp K hK;have h7:a.tmps[7]?.getD undef=.int .i64 i:=ev_of ((hk 7 (show ∀ i,i < 23→gslot rffirstD i≠7 by decide)).trans rfl);unfold Oper.wp;go_simp;exact hK _ _ rfl (Below.refl _ _)
        case p2=>
         intro _ a w2 hb hk hd hkp K hK;have h14:a.tmps[14]?.getD undef=.slice (some ad) l.length c:=ev_of (hd 0 (by decide) kr_);have h15:a.tmps[15]?.getD undef=.int .i64 i:=ev_of (hd 1 (by decide) kr_);have i0:(0:Int)≤(i:Int):=Int.natCast_nonneg _;have i1:=I1.out;unfold Oper.wp;go_simp;exact hK _ _ rfl (Below.refl _ _)
        case p3=>
         intro _ a w2 hb hk hd hkp K hK;have h16:a.tmps[16]?.getD undef=.pointer (some (ad.add (i * 6))):=ev_of (hd 2 (by decide) kr_);have c0:=pw_cell_below (w:=wr.drew) hb G0.out;have c1:=pw_cell_below (w:=wr.drew) hb G1.out;have c2:=pw_cell_below (w:=wr.drew) hb G2.out;have c3:=pw_cell_below (w:=wr.drew) hb G3.out;have c4:=pw_cell_below (w:=wr.drew) hb G4.out;have c5:=pw_cell_below (w:=wr.drew) hb G5.out;unfold Oper.wp;go_simp;exact hK _ _ rfl (Below.refl _ _)
        case p4=>
         intro _ a w2 hb hk hd hkp K hK;have e3:a.eval (.tmp 3)=.pointer (some ⟨g3,0,none⟩):=(hk 3 (show ∀ i,i < 23→gslot rffirstD i≠3 by decide)).trans rfl;exact wp_load_row 32 (.tmp 3) rfl g3 e3 32 (scV x user name mem lev) (0,0) _ (blk_below (w:=wr.drew) HK.out hb) hu rfl kr_ (hK _ _ rfl (Below.refl _ _))
        case p5=>
         intro _ a w2 hb hk hd hkp K hK;have h17:a.tmps[17]?.getD undef=.agg #[.int .i64 r.f0,.string r.f1,.bool r.f2,.slice A3 r.f3.length c3,.bool r.f4,.bool r.f5]:=ev_of (hd 3 (by decide) kr_);have h18:a.tmps[18]?.getD undef=.agg (scV x user name mem lev):=ev_of (hd 4 (by decide) kr_);unfold Oper.wp;go_simp;refine (HQ.out _ (below_step (below_drew1 HB.out) hb)).mono ?_;rintro e w3 ⟨rfl,hb3⟩;exact hK _ _ rfl hb3
        case p6=>
         intro _ a w2 hb hk hd hkp K hK;have h19:a.tmps[19]?.getD undef=.bool true:=ev_of (hd 5 (by decide) kr_);unfold Oper.wp;go_simp;exact hK _ _ rfl (Below.refl _ _)
        case p7=>
         intro _ a w2 hb hk hd hkp K hK;have h6:a.tmps[6]?.getD undef=.int .i64 (-1):=ev_of ((hk 6 (show ∀ i,i < 23→gslot rffirstD i≠6 by decide)).trans rfl);unfold Oper.wp;go_simp;exact hK _ _ rfl (Below.refl _ _)
        case p8=>
         intro _ a w2 hb hk hd hkp K hK;have h21:a.tmps[21]?.getD undef=.int .i64 (-1):=ev_of (hd 7 (by decide) kr_);have hlt:=B0.out;unfold Oper.wp;go_simp;exact hK _ _ rfl (Below.refl _ _)
        case p9=>
         intro _ a w2 hb hk hd hkp K hK;have h22:a.tmps[22]?.getD undef=.bool true:=ev_of (hd 8 (by decide) kr_);unfold Oper.wp;go_simp;exact hK _ _ rfl (Below.refl _ _)
        case p21=>
         intro _ a w2 hb hk hd hkp K hK;have h23:a.tmps[23]?.getD undef=.bool true:=ev_of (hd 9 (by decide) kr_);have h34:a.tmps[34]?.getD undef=undef:=ev_of (hd 20 (by decide) kr_);unfold Oper.wp;go_simp;exact hK _ _ rfl (Below.refl _ _)
        case p22=>
         intro _ a w2 hb hk hd hkp K hK;have h20:a.tmps[20]?.getD undef=.bool true:=ev_of (hd 6 (by decide) kr_);have h35:a.tmps[35]?.getD undef=.bool true:=ev_of (hd 21 (by decide) kr_);unfold Oper.wp;go_simp;exact hK _ _ rfl (Below.refl _ _)
      · intro w5 hb5;dsimp only [puts,rffirstD,rffirstS,Spec.value];simp only [Act.put,List.setIfInBounds_toArray,List.set_cons_succ,List.set_cons_zero];have HB6:=Lib.hid (below_step HB.out hb5);have HK6:=Lib.hid (blk_below HK.out hb5);go_wp2;go_roundw;case rel=>exact ⟨some i,i+1,by omega,by rfl,by simp,Lib.hid (STEP.out),HB6,HK6⟩
        case measure=>simp [intOf];omega
     | some j=>
      have hji:j < i:=HSP.out.2.1;obtain ⟨ad',A3',c3',hA',-,hallj⟩:=HCell.out j (by omega);have p0:=(hallj wr HB.out).1;clear hallj;injection hA' with hA'
      subst hA'
      have hcj:clsOf l j=(l[j]'(by omega)).f0:=by
       unfold clsOf;rw [show rd_T47 l (j:Int)=(l[j]'(by omega)) by simp [rd_T47,show j < l.length by omega]]
      obtain ⟨cj,hcj0⟩ : ∃ cj,cj=(l[j]'(by omega)).f0:=⟨_,rfl⟩;rw [← hcj0] at p0 hcj;have J0:=Lib.hid p0;have J1:=Lib.hid (show (j:Int) < (l.length:Int) by omega);have B0:=Lib.hid (show decide ((j:Int) < 0)=false from decide_eq_false (by omega));obtain ⟨lt,hlt⟩ : ∃ lt,lt=decide (r.f0 < cj):=⟨_,rfl⟩;have L0:=Lib.hid hlt.symm;have STEP:=Lib.hid (show bestIdx (clsOf l) (okAt l x name mem lev) (i+1)=if decide (r.f0 < cj)=true then some i else some j by rw [HST.out,Bool.true_and];simp only [HCI.out,hcj]);clear p0 hcj hcj0 hlt hji;rw [encB_some];refine wp_region_flat _ rfmoreD (rfmoreS x user name mem lev c l ad i j 0 r A3 c3 cj lt) kr_ kr_ kr_ kr_ rfl ?_ ?_
      · refine ⟨?p0,?p1,?p2,?p3,?p4,?p5,?p6,?p7,?p8,?p9,?p10,?p11,?p12,?p13,?p14,?p15,?p16,?p17,?p18,?p19,?p20,?p21,?p22,trivial⟩
        case p0=>
         intro _ a w2 hb hk hd hkp K hK;have h0:a.tmps[0]?.getD undef=.slice (some ad) l.length c:=ev_of ((hk 0 (show ∀ i,i < 23→gslot rfmoreD i≠0 by decide)).trans rfl);unfold Oper.wp;go_simp;exact hK _ _ rfl (Below.refl _ _)
        case p1=>
         intro _ a w2 hb hk hd hkp K hK;have h7:a.tmps[7]?.getD undef=.int .i64 i:=ev_of ((hk 7 (show ∀ i,i < 23→gslot rfmoreD i≠7 by decide)).trans rfl);unfold Oper.wp;go_simp;exact hK _ _ rfl (Below.refl _ _)
        case p2=>
         intro _ a w2 hb hk hd hkp K hK;have h14:a.tmps[14]?.getD undef=.slice (some ad) l.length c:=ev_of (hd 0 (by decide) kr_);have h15:a.tmps[15]?.getD undef=.int .i64 i:=ev_of (hd 1 (by decide) kr_);have i0:(0:Int)≤(i:Int):=Int.natCast_nonneg _;have i1:=I1.out;unfold Oper.wp;go_simp;exact hK _ _ rfl (Below.refl _ _)
        case p3=>
         intro _ a w2 hb hk hd hkp K hK;have h16:a.tmps[16]?.getD undef=.pointer (some (ad.add (i * 6))):=ev_of (hd 2 (by decide) kr_);have c0:=pw_cell_below (w:=wr.drew) hb G0.out;have c1:=pw_cell_below (w:=wr.drew) hb G1.out;have c2:=pw_cell_below (w:=wr.drew) hb G2.out;have c3:=pw_cell_below (w:=wr.drew) hb G3.out;have c4:=pw_cell_below (w:=wr.drew) hb G4.out;have c5:=pw_cell_below (w:=wr.drew) hb G5.out;unfold Oper.wp;go_simp;exact hK _ _ rfl (Below.refl _ _)
        case p4=>
         intro _ a w2 hb hk hd hkp K hK;have e3:a.eval (.tmp 3)=.pointer (some ⟨g3,0,none⟩):=(hk 3 (show ∀ i,i < 23→gslot rfmoreD i≠3 by decide)).trans rfl;exact wp_load_row 32 (.tmp 3) rfl g3 e3 32 (scV x user name mem lev) (0,0) _ (blk_below (w:=wr.drew) HK.out hb) hu rfl kr_ (hK _ _ rfl (Below.refl _ _))
        case p5=>
         intro _ a w2 hb hk hd hkp K hK;have h17:a.tmps[17]?.getD undef=.agg #[.int .i64 r.f0,.string r.f1,.bool r.f2,.slice A3 r.f3.length c3,.bool r.f4,.bool r.f5]:=ev_of (hd 3 (by decide) kr_);have h18:a.tmps[18]?.getD undef=.agg (scV x user name mem lev):=ev_of (hd 4 (by decide) kr_);unfold Oper.wp;go_simp;refine (HQ.out _ (below_step (below_drew1 HB.out) hb)).mono ?_;rintro e w3 ⟨rfl,hb3⟩;exact hK _ _ rfl hb3
        case p6=>
         intro _ a w2 hb hk hd hkp K hK;have h19:a.tmps[19]?.getD undef=.bool true:=ev_of (hd 5 (by decide) kr_);unfold Oper.wp;go_simp;exact hK _ _ rfl (Below.refl _ _)
        case p7=>
         intro _ a w2 hb hk hd hkp K hK;have h6:a.tmps[6]?.getD undef=.int .i64 j:=ev_of ((hk 6 (show ∀ i,i < 23→gslot rfmoreD i≠6 by decide)).trans rfl);unfold Oper.wp;go_simp;exact hK _ _ rfl (Below.refl _ _)
        case p8=>
         intro _ a w2 hb hk hd hkp K hK;have h21:a.tmps[21]?.getD undef=.int .i64 j:=ev_of (hd 7 (by decide) kr_);have hlt:=B0.out;unfold Oper.wp;go_simp;exact hK _ _ rfl (Below.refl _ _)
        case p9=>
         intro _ a w2 hb hk hd hkp K hK;have h22:a.tmps[22]?.getD undef=.bool false:=ev_of (hd 8 (by decide) kr_);unfold Oper.wp;go_simp;exact hK _ _ rfl (Below.refl _ _)
        case p10=>
         intro _ a w2 hb hk hd hkp K hK;have h0:a.tmps[0]?.getD undef=.slice (some ad) l.length c:=ev_of ((hk 0 (show ∀ i,i < 23→gslot rfmoreD i≠0 by decide)).trans rfl);unfold Oper.wp;go_simp;exact hK _ _ rfl (Below.refl _ _)
        case p11=>
         intro _ a w2 hb hk hd hkp K hK;have h7:a.tmps[7]?.getD undef=.int .i64 i:=ev_of ((hk 7 (show ∀ i,i < 23→gslot rfmoreD i≠7 by decide)).trans rfl);unfold Oper.wp;go_simp;exact hK _ _ rfl (Below.refl _ _)
        case p12=>
         intro _ a w2 hb hk hd hkp K hK;have h24:a.tmps[24]?.getD undef=.slice (some ad) l.length c:=ev_of (hd 10 (by decide) kr_);have h25:a.tmps[25]?.getD undef=.int .i64 i:=ev_of (hd 11 (by decide) kr_);have i0:(0:Int)≤(i:Int):=Int.natCast_nonneg _;have i1:=I1.out;unfold Oper.wp;go_simp;exact hK _ _ rfl (Below.refl _ _)
        case p13=>
         intro _ a w2 hb hk hd hkp K hK;have h26:a.tmps[26]?.getD undef=.pointer (some (ad.add (i * 6))):=ev_of (hd 12 (by decide) kr_);unfold Oper.wp;go_simp;exact hK _ _ rfl (Below.refl _ _)
        case p14=>
         intro _ a w2 hb hk hd hkp K hK;have h27:a.tmps[27]?.getD undef=.pointer (some (ad.add (i * 6))):=ev_of (hd 13 (by decide) kr_);have c0:=pw_cell_below (w:=wr.drew) hb G0.out;unfold Oper.wp;go_simp;exact hK _ _ rfl (Below.refl _ _)
        case p15=>
         intro _ a w2 hb hk hd hkp K hK;have h0:a.tmps[0]?.getD undef=.slice (some ad) l.length c:=ev_of ((hk 0 (show ∀ i,i < 23→gslot rfmoreD i≠0 by decide)).trans rfl);unfold Oper.wp;go_simp;exact hK _ _ rfl (Below.refl _ _)
        case p16=>
         intro _ a w2 hb hk hd hkp K hK;have h6:a.tmps[6]?.getD undef=.int .i64 j:=ev_of ((hk 6 (show ∀ i,i < 23→gslot rfmoreD i≠6 by decide)).trans rfl);unfold Oper.wp;go_simp;exact hK _ _ rfl (Below.refl _ _)
        case p17=>
         intro _ a w2 hb hk hd hkp K hK;have h29:a.tmps[29]?.getD undef=.slice (some ad) l.length c:=ev_of (hd 15 (by decide) kr_);have h30:a.tmps[30]?.getD undef=.int .i64 j:=ev_of (hd 16 (by decide) kr_);have i0:(0:Int)≤(j:Int):=Int.natCast_nonneg _;have i1:=J1.out;unfold Oper.wp;go_simp;exact hK _ _ rfl (Below.refl _ _)
        case p18=>
         intro _ a w2 hb hk hd hkp K hK;have h31:a.tmps[31]?.getD undef=.pointer (some (ad.add (j * 6))):=ev_of (hd 17 (by decide) kr_);unfold Oper.wp;go_simp;exact hK _ _ rfl (Below.refl _ _)
        case p19=>
         intro _ a w2 hb hk hd hkp K hK;have h32:a.tmps[32]?.getD undef=.pointer (some (ad.add (j * 6))):=ev_of (hd 18 (by decide) kr_);have cj:=pw_cell_below (w:=wr.drew) hb J0.out;unfold Oper.wp;go_simp;exact hK _ _ rfl (Below.refl _ _)
        case p20=>
         intro _ a w2 hb hk hd hkp K hK;have h28:a.tmps[28]?.getD undef=.int .i64 r.f0:=ev_of (hd 14 (by decide) kr_);have h33:a.tmps[33]?.getD undef=.int .i64 cj:=ev_of (hd 19 (by decide) kr_);have hlt:=L0.out;unfold Oper.wp;go_simp;exact hK _ _ rfl (Below.refl _ _)
        case p21=>
         intro _ a w2 hb hk hd hkp K hK;have h23:a.tmps[23]?.getD undef=.bool false:=ev_of (hd 9 (by decide) kr_);have h34:a.tmps[34]?.getD undef=.bool lt:=ev_of (hd 20 (by decide) kr_);unfold Oper.wp;go_simp;exact hK _ _ rfl (Below.refl _ _)
        case p22=>
         intro _ a w2 hb hk hd hkp K hK;have h20:a.tmps[20]?.getD undef=.bool true:=ev_of (hd 6 (by decide) kr_);have h35:a.tmps[35]?.getD undef=.bool lt:=ev_of (hd 21 (by decide) kr_);unfold Oper.wp;go_simp;exact hK _ _ rfl (Below.refl _ _)
      · intro w5 hb5;dsimp only [puts,rfmoreD,rfmoreS,Spec.value];simp only [Act.put,List.setIfInBounds_toArray,List.set_cons_succ,List.set_cons_zero];have HB6:=Lib.hid (below_step HB.out hb5);have HK6:=Lib.hid (blk_below HK.out hb5)
        cases lt with
        | true=>
         go_wp2;go_roundw;case rel=>exact ⟨some i,i+1,by omega,by rfl,by simp,Lib.hid (STEP.out.trans (if_pos L0.out)),HB6,HK6⟩
         case measure=>simp [intOf];omega
        | false=>
         go_wp2;go_roundw;case rel=>exact ⟨some j,i+1,by omega,by rfl,by simp,Lib.hid (STEP.out.trans (if_neg (by rw [L0.out];decide))),HB6,HK6⟩
         case measure=>simp [intOf];omega
  · obtain rfl:i=l.length:=by omega
    have b1:decide ((l.length:Int) < (l.length:Int))=false:=decide_eq_false (by omega);have p2:wr.cell? ⟨g3,2,none⟩=some (.string x.sender):=(blk_cell HK.out 2).trans rfl;have p16:wr.cell? ⟨g3,16,none⟩=some (.string user):=(blk_cell HK.out 16).trans rfl
    cases o with
    | none=>
     have hres:findB l x user name mem lev=(0,false):=by rw [HFE.out,HO.out];by_cases hq:x.sender.toList=user.toList <;> simp [hq]
     have b2:decide ((-1:Int) < 0)=true:=by decide
     rw [encB_none];go_wp2;go_ret2;exact ⟨by rw [hres];rfl,HB.out⟩
    | some j=>
     have b2:decide ((j:Int) < 0)=false:=decide_eq_false (by omega);rw [encB_some];by_cases hq:x.sender.toList=user.toList
     · have b3:(x.sender.toList==user.toList)=true:=by simp [hq]
       have hres:findB l x user name mem lev=(0,false):=by rw [HFE.out,if_pos hq]
       go_wp2;go_ret2;exact ⟨by rw [hres];rfl,HB.out⟩
     · have b3:(x.sender.toList==user.toList)=false:=by simp [hq]
       have hres:findB l x user name mem lev=((j:Int),true):=by rw [HFE.out,if_neg hq,HO.out]
       go_wp2;go_ret2;exact ⟨by rw [hres];rfl,HB.out⟩
set_option maxRecDepth 100000 in
set_option maxHeartbeats 8000000 in
theorem rtell_c (x:EvV) (user name:ByteArray) (mem lev:Int) {l:List RL} (f:FewIs l x name) (A:Option Addr) (c:Nat) (w:World) (h:Giv A c l x w):Calls Tryz.prog 17 #[.slice A l.length c,.agg (scV x user name mem lev)] w fun e w'=>e=.returned (.tuple #[.bool (tellB l x user name mem lev).1,.bool (tellB l x user name mem lev).2.1,.string (tellB l x user name mem lev).2.2])∧Below w.heap.size w w':=by
 have HG:=Lib.hid h;have HFi:=Lib.hid (fun W (h3:Below w.heap.size w W)=>rfind_c x user name mem lev f A c W (h.below h3));have hcl:l.length≤c:=h.hc;have h15:=f.len;have hlt:=fun (h:(findB l x user name mem lev).2=true)=>findB_lt h
 have hte:=tellB.eq_1 l x user name mem lev;clear h;have hu:=Tryz.underlying32;generalize findB l x user name mem lev=r at *;obtain ⟨at_,ok⟩:=r;go_enter Tryz.func17,Tryz.ntmps17;go_wp2_with (first|((with_reducible refine gate_dst (N:=3) rfl ?_);refine box_event ?hg (N:=3) ?hd (cs:=scV x user name mem lev) (t:=32) ?hr ?_;(case hd=>rfl);(case hg=>rfl);(case hr=>exact hr_);intro g3 hg3 w3 hk3 hb3;have HK3:=Lib.hid hk3;have HB3:=Lib.hid hb3;clear hk3 hb3 hg3)|((with_reducible refine gate_dst (N:=11) rfl ?_);refine wpList_load_row rfl 32 (.tmp 3) rfl g3 rfl 32 (scV x user name mem lev) (0,0) _ HK3.out hu rfl kr_ ?_));refine (HFi.out _ HB3.out).mono ?_;rintro e w4 ⟨rfl,hb4⟩;have HB4:=Lib.hid (below_step HB3.out hb4);clear HFi HB3 HK3 hb4
 cases ok with
 | false=>
  have HTE:=Lib.hid (hte.trans (if_neg (by decide)));clear hte hlt;go_wp2;go_ret3;exact ⟨by rw [HTE.out];rfl,HB4.out⟩
 | true=>
  have HTE:=Lib.hid (hte.trans (if_pos rfl));obtain ⟨j0,j1⟩:=hlt rfl;clear hte hlt;obtain ⟨j,hj⟩:=Int.eq_ofNat_of_zero_le j0;have hj':at_=(j:Int):=hj;subst hj';have i1:(j:Int) < (l.length:Int):=j1;obtain ⟨ad,A3,c3,hA,q0,q1,q2,q3,q4,q5,hl3,hC3⟩:=at_T47 (HG.out.below HB4.out).hr (j:Int) (by omega) i1;rw [Int.toNat_natCast] at *;subst hA;clear j1 hj q0 q2 q3 hl3 hC3;have HTE2:=Lib.hid (HTE.out.trans (show _=((rd_T47 l (j:Int)).f4,(rd_T47 l (j:Int)).f5,(rd_T47 l (j:Int)).f1) from rfl));clear HTE;generalize rd_T47 l (j:Int)=r at *;go_wp2;go_quiet (fail);go_wp2;go_ret3;exact ⟨by rw [HTE2.out];rfl,pw_below_drewN HB4.out _⟩
end Go.Proofs.YtodhmbnfliajiaaGreatDoor.Q
