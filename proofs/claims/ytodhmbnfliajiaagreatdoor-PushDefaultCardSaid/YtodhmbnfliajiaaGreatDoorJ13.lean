/- Merged out of: HandWrap, PureUser, Chains, PureLast. -/
import Derived.Test.YtodhmbnfliajiaaGreatDoorHandFind
import Derived.Test.YtodhmbnfliajiaaGreatDoorPureWord
import Derived.Test.YtodhmbnfliajiaaGreatDoorQx19
/- HandWrap: a text of this claim's proof,as printed or written,without what the claim does not use. -/
namespace Go.Proofs.YtodhmbnfliajiaaGreatDoor.Q
open Go.RowKit Go.Shelf Go.Proofs.YtodhmbnfliajiaaGreatDoorW.PrintWords Go.Proofs.YtodhmbnfliajiaaGreatDoorW.PrintLast
set_option linter.unusedVariables false
def evSmall (x:EvV):Bool:=decide (x.room.size≤1000000000∧x.type.size≤1000000000∧x.sender.size≤1000000000∧x.key.size≤1000000000∧x.keys.length≤1000000000) && x.list.all fun v=>decide (v.f2.size≤1000000000)
theorem evSmall_field (x:EvV) (h:evSmall x=true) (k:ByteArray):(fieldB x k).2.2.size≤1000000000:=by
 unfold evSmall at h;rw [Bool.and_eq_true,decide_eq_true_eq,List.all_eq_true] at h;obtain ⟨⟨h1,h2,h3,h4,h5⟩,h6⟩:=h;unfold fieldB;have he:(⟨#[]⟩:ByteArray).size=0:=rfl;split
 · exact h2
 split
 · exact h3
 split
 · exact h1
 split
 · split
   · exact h4
   · simp [he]
 split
 · split
   · simp [he]
   · next v hv=>
     unfold aclValue at hv;split at hv
     · cases hv
     split at hv
     · cases hv
     split at hv
     · cases hv
     · next q1 q2 q3=>
       injection hv with hv
       have hlt:(aclIdx x.keys (k.extract 8 k.size) 0).toNat < x.list.length:=by omega
       have hm:v ∈ x.list:=by
        rw [← hv];unfold rd_T27
        rw [List.getD_eq_getElem?_getD,List.getElem?_eq_getElem hlt];exact List.getElem_mem hlt
       have:=h6 v hm;simpa using this
 · simp [he]
theorem evSmall_keys (x:EvV) (h:evSmall x=true):x.keys.length≤1000000000:=by
 unfold evSmall at h;rw [Bool.and_eq_true,decide_eq_true_eq] at h;exact h.1.2.2.2.2
def rulesSmall (l:List S47):Bool:=decide (l.length≤16) && l.all fun r=>decide (r.f3.length≤9223372036854775806) && r.f3.all fun q=>decide (q.f2.size≤1000000000)
theorem rulesSmall_iff {l:List S47} (h:rulesSmall l=true):l.length≤16∧∀ r ∈ l,r.f3.length≤9223372036854775806∧∀ q ∈ r.f3,q.f2.size≤1000000000:=by
 unfold rulesSmall at h;rw [Bool.and_eq_true,decide_eq_true_eq,List.all_eq_true] at h;refine ⟨h.1,fun r hr=>?_⟩;have:=h.2 r hr;rw [Bool.and_eq_true,decide_eq_true_eq,List.all_eq_true] at this;exact ⟨this.1,fun q hq=>by simpa using this.2 q hq⟩
end Go.Proofs.YtodhmbnfliajiaaGreatDoor.Q

/- PureUser: a text of this claim's proof,as printed or written,without what the claim does not use. -/
namespace Go.Proofs.YtodhmbnfliajiaaGreatDoor.Q
open Go.RowKit Go.Proofs.YtodhmbnfliajiaaGreatDoorW.PrintWords Go.Proofs.YtodhmbnfliajiaaGreatDoorW.PrintLast Go.Proofs.YtodhmbnfliajiaaGreatDoorW.PrintMore
set_option linter.unusedVariables false
set_option linter.unusedSimpArgs false
theorem small4_f (c:Int):agoraref04_small.f c=some (idSmall c):=by
 unfold agoraref04_small.f idSmall;by_cases h1:97≤c <;> by_cases h2:c≤122 <;> by_cases h3:48≤c <;> by_cases h4:c≤57 <;> by_cases h5:c=46 <;> simp [h1,h2,h3,h4,h5] <;> omega
theorem loc4_l0 (s:ByteArray) (hs:s.size≤1000000000) (k:Nat) : ∀ d i:Nat,i+d=s.size→agoraref04_Local.l0 (k+d+1) s (i:Int)=some ((List.range' i d).all fun (j:Nat)=>idLocal1 (bt s (j:Int)))
 | 0,i,hi=>by unfold agoraref04_Local.l0;rw [if_neg (by omega)];rfl
 | d+1,i,hi=>by
  have ih:=loc4_l0 s hs k d (i+1) (by omega);have e:wrap64 ((i:Int)+1)=((i+1:Nat):Int):=by rw [wrap_small _ (by omega) (by omega)];omega
  unfold agoraref04_Local.l0;have ih':agoraref04_Local.l0 (k+(d+1)) s ((i+1:Nat):Int)=some ((List.range' (i+1) d).all fun (j:Nat)=>idLocal1 (bt s (j:Int))):=ih;rw [if_pos (by omega),if_pos (by omega),small4_f,e,List.range'_succ,List.all_cons,ih'];show (if idSmall (bt s (i:Int))=true then _ else _)=_
  generalize (List.range' (i+1) d).all (fun (j:Nat)=>idLocal1 (bt s (j:Int)))=rest;unfold idLocal1;by_cases h1:idSmall (bt s (i:Int))=true
  · rw [if_pos h1];simp [h1]
  · rw [if_neg h1];by_cases h2:bt s (i:Int)=45
    · rw [if_pos h2];simp [h2]
    · rw [if_neg h2];by_cases h3:bt s (i:Int)=95
      · rw [if_pos h3];simp [h3]
      · rw [if_neg h3];simp [h1,h2,h3]
theorem ser4_l0 (s:ByteArray) (hs:s.size≤1000000000) (k:Nat) : ∀ d i:Nat,i+d=s.size→agoraref04_Server.l0 (k+d+1) s (i:Int)=some ((List.range' i d).all fun (j:Nat)=>idServer1 (bt s (j:Int)))
 | 0,i,hi=>by unfold agoraref04_Server.l0;rw [if_neg (by omega)];rfl
 | d+1,i,hi=>by
  have ih:=ser4_l0 s hs k d (i+1) (by omega);have e:wrap64 ((i:Int)+1)=((i+1:Nat):Int):=by rw [wrap_small _ (by omega) (by omega)];omega
  unfold agoraref04_Server.l0;have ih':agoraref04_Server.l0 (k+(d+1)) s ((i+1:Nat):Int)=some ((List.range' (i+1) d).all fun (j:Nat)=>idServer1 (bt s (j:Int))):=ih;rw [if_pos (by omega),if_pos (by omega),small4_f,e,List.range'_succ,List.all_cons,ih'];show (if idSmall (bt s (i:Int))=true then _ else _)=_
  generalize (List.range' (i+1) d).all (fun (j:Nat)=>idServer1 (bt s (j:Int)))=rest;unfold idServer1;by_cases h1:idSmall (bt s (i:Int))=true
  · rw [if_pos h1];simp [h1]
  · rw [if_neg h1];by_cases h2:bt s (i:Int)=45
    · rw [if_pos h2];simp [h2]
    · rw [if_neg h2];simp [h1,h2]
theorem loc4_f (s:ByteArray) (hs:s.size≤1000000000) (K:Nat) (hK:s.size+2≤K):agoraref04_Local.f K s=some (isLocal s):=by
 obtain ⟨k,rfl⟩ : ∃ k,K=(k+s.size+1)+1:=⟨K - s.size - 2,by omega⟩;have h:=loc4_l0 s hs k s.size 0 (by omega);rw [← List.range_eq_range'] at h;unfold agoraref04_Local.f isLocal allB;by_cases h1:(s.size:Int) < 1
 · rw [if_pos h1];show (if (true=true) then some false else agoraref04_Local.l0 (k+s.size+1) s 0)=_;rw [if_pos rfl,decide_eq_false (by omega : ¬ (1≤s.size∧s.size≤32))];rfl
 · rw [if_neg h1];show (if (decide ((s.size:Int) > 32)=true) then some false else agoraref04_Local.l0 (k+s.size+1) s 0)=_
   by_cases h2:s.size≤32
   · rw [if_neg (by rw [decide_eq_true_eq];omega),decide_eq_true (by omega:1≤s.size∧s.size≤32),Bool.true_and];exact h
   · rw [if_pos (by rw [decide_eq_true_eq];omega),decide_eq_false (by omega : ¬ (1≤s.size∧s.size≤32))];rfl
theorem ser4_f (s:ByteArray) (hs:s.size≤1000000000) (K:Nat) (hK:s.size+2≤K):agoraref04_Server.f K s=some (isServerB s):=by
 obtain ⟨k,rfl⟩ : ∃ k,K=(k+s.size+1)+1:=⟨K - s.size - 2,by omega⟩;have h:=ser4_l0 s hs k s.size 0 (by omega);rw [← List.range_eq_range'] at h;unfold agoraref04_Server.f isServerB allB;by_cases h1:(s.size:Int) < 1
 · rw [if_pos h1];show (if (true=true) then some false else agoraref04_Server.l0 (k+s.size+1) s 0)=_;rw [if_pos rfl,decide_eq_false (by omega : ¬ (1≤s.size∧s.size≤32))];rfl
 · rw [if_neg h1];show (if (decide ((s.size:Int) > 32)=true) then some false else agoraref04_Server.l0 (k+s.size+1) s 0)=_
   by_cases h2:s.size≤32
   · rw [if_neg (by rw [decide_eq_true_eq];omega),decide_eq_true (by omega:1≤s.size∧s.size≤32),Bool.true_and];exact h
   · rw [if_pos (by rw [decide_eq_true_eq];omega),decide_eq_false (by omega : ¬ (1≤s.size∧s.size≤32))];rfl
theorem occ_one (l:List UInt8) (c:UInt8) (i:Nat) (hi:i < l.length):Lib.occAt l [c] i=(l[i]==c):=by
 unfold Lib.occAt;rw [List.drop_eq_getElem_cons hi];simp [List.isPrefixOf,Bool.beq_comm];try exact Bool.beq_comm
theorem index_one (l:List UInt8) (c:UInt8) (i:Nat) (hi:i < l.length) (h:l[i]=c) (hn : ∀ j (h:j < l.length),j < i→l[j]≠c):Lib.index l [c]=i:=by
 refine Lib.index_first (by omega) (by rw [occ_one l c i hi];simp [h]) (fun j hj=>?_);rw [occ_one l c j (by omega)];simpa using hn j (by omega) hj
theorem index_non (l:List UInt8) (c:UInt8) (hn : ∀ j (h:j < l.length),l[j]≠c):Lib.index l [c] = -1:=by
 refine Lib.index_none (fun j hj=>?_);by_cases h:j < l.length
 · rw [occ_one l c j h];simpa using hn j h
 · obtain rfl:j=l.length:=by omega
   unfold Lib.occAt;simp [List.isPrefixOf]
theorem cutRest_at (s:ByteArray) (h0:0 < s.size) (h:bt s 0=64):Lib.hasPrefix s.data.toList [64]=true∧cutRest ⟨#[64]⟩ s=s.extract 1 s.size:=by
 have hp:Lib.hasPrefix s.data.toList [64]=true:=by
  have hl:0 < s.data.toList.length:=by simpa using h0
  have hb:=bt_list s 0 hl;have h2:((s.data.toList[0]).toNat:Int)=64:=by rw [← hb];exact h
  unfold Lib.hasPrefix
  cases hL:s.data.toList with
  | nil=>rw [hL] at hl;cases hl
  | cons c r=>
   have h3:c.toNat=64:=by
    have:(s.data.toList[0])=c:=by simp [hL]
    rw [this] at h2;omega
   have h4:c=64:=UInt8.toNat_inj.1 (by rw [h3];rfl);rw [h4];rfl
 refine ⟨hp,?_⟩;unfold cutRest Lib.trimPrefix;rw [if_pos hp,Lib.extract_eq];congr 2
 rw [List.take_of_length_le (by simp)];rfl
theorem not_prefix (s:ByteArray) (h : ¬ (0 < s.size∧bt s 0=64)):Lib.hasPrefix s.data.toList [64]=false:=by
 unfold Lib.hasPrefix
 cases hL:s.data.toList with
 | nil=>rfl
 | cons c r=>
  have hl:0 < s.data.toList.length:=by rw [hL];exact Nat.succ_pos _
  have hb:=bt_list s 0 hl;have h0:0 < s.size:=by simpa using hl
  by_cases h4:c=64
  · exfalso;apply h;refine ⟨h0,hb.trans ?_⟩;have:(s.data.toList[0])=c:=by simp [hL]
    rw [this,h4];rfl
  · simp [List.isPrefixOf];exact fun e=>absurd e.symm h4
theorem extract_tail (s:ByteArray) (a b c:Nat) (h:a+c≤s.size):(s.extract a s.size).extract b c=s.extract (a+b) (a+c):=by
 have hL:s.data.toList.length=s.size:=by simp
 rw [Lib.extract_eq (s.extract a s.size),Lib.extract_eq s a,Lib.extract_eq s (a+b)];have e:(⟨(List.take (s.size - a) (List.drop a s.data.toList)).toArray⟩:ByteArray).data.toList=List.drop a s.data.toList:=List.take_of_length_le (by rw [List.length_drop];omega);rw [e,List.drop_drop,show a+c - (a+b)=c - b by omega]
theorem rest_bt (s:ByteArray) (j:Nat) (h:j+1 < s.size) (hl:j < (s.extract 1 s.size).data.toList.length):(((s.extract 1 s.size).data.toList[j]).toNat:Int)=bt s ((j+1:Nat):Int):=by
 have e:(s.extract 1 s.size).data.toList=List.drop 1 s.data.toList:=by
  rw [Lib.extract_eq];exact List.take_of_length_le (by rw [List.length_drop];simp)
 have h2:j+1 < s.data.toList.length:=by simpa using h
 rw [bt_list s (j+1) h2];congr 2
 have:(s.extract 1 s.size).data.toList[j]?=s.data.toList[j+1]?:=by rw [e,List.getElem?_drop,Nat.add_comm]
 rw [List.getElem?_eq_getElem hl,List.getElem?_eq_getElem h2] at this;exact Option.some.inj this
theorem parts4_l0 (s:ByteArray) (hs:s.size≤1000000000) (h0:0 < s.size) (h64:bt s 0=64) : ∀ (d m k:Nat),m+d=s.size→1≤m→(∀ j:Nat,1≤j→j < m→bt s (j:Int)≠58)→agoraref04_parts.l0 (k+s.size+2 * d+4) 64 s (m:Int)=some (cutB ⟨#[64]⟩ s):=by
 obtain ⟨hp,hr⟩:=cutRest_at s h0 h64;have hlen:(s.extract 1 s.size).data.toList.length=s.size - 1:=by simp
 have hcut:cutB ⟨#[64]⟩ s=if (Lib.cut (s.extract 1 s.size).data.toList [58]).2.2 && (isLocal (cutName (s.extract 1 s.size)) && isServerB (cutServer (s.extract 1 s.size))) then (cutName (s.extract 1 s.size),cutServer (s.extract 1 s.size),true) else (⟨#[]⟩,⟨#[]⟩,false):=by
  unfold cutB;rw [show (⟨#[64]⟩:ByteArray).data.toList=[64] from rfl,hp,hr,Bool.true_and]
 intro d
 induction d with
 | zero=>
  intro m k hm h1 hn
  have hi:Lib.index (s.extract 1 s.size).data.toList [58] = -1:=by
   refine index_non _ _ (fun j hj e=>?_);have h2:=rest_bt s j (by omega) hj;rw [e] at h2;exact hn (j+1) (by omega) (by omega) h2.symm
  have hc:=(Lib.cutB_miss (s.extract 1 s.size) ⟨#[58]⟩ hi).2.2;rw [hcut,show (Lib.cut (s.extract 1 s.size).data.toList [58]).2.2=false from hc,Bool.false_and,if_neg (by decide)];show agoraref04_parts.l0 (k+s.size+3+1) 64 s (m:Int)=_
  unfold agoraref04_parts.l0;rw [if_neg (by omega)];show agoraref04_parts.j1 (k+s.size+2+1) 64 s (m:Int) false=_
  unfold agoraref04_parts.j1;rw [if_neg (by decide)]
 | succ d ih=>
  intro m k hm h1 hn;have e:wrap64 ((m:Int)+1)=((m+1:Nat):Int):=by rw [wrap_small _ (by omega) (by omega)];omega
  show agoraref04_parts.l0 (k+s.size+2 * d+4+1+1) 64 s (m:Int)=_
  unfold agoraref04_parts.l0;rw [if_pos (by omega),if_pos (by omega),h64];unfold agoraref04_parts.j1;rw [if_pos (by decide),if_pos (by omega),if_pos (by omega),e];by_cases c:bt s (m:Int)=58
  · rw [if_pos c,if_pos (by omega),if_pos (by omega)];rw [Int.toNat_natCast,Int.toNat_natCast]
    have hi:Lib.index (s.extract 1 s.size).data.toList [58]=((m - 1:Nat):Int):=by
     refine index_one _ _ (m - 1) (by omega) ?_ (fun j hj hjm e=>?_)
     · have h2:=rest_bt s (m - 1) (by omega) (by omega);rw [show m - 1+1=m by omega,c] at h2;exact UInt8.toNat_inj.1 (by have:(58:UInt8).toNat=58:=rfl;omega)
     · have h2:=rest_bt s j (by omega) hj;rw [e] at h2;exact hn (j+1) (by omega) (by omega) h2.symm
    obtain ⟨c1,c2,c3⟩:=Lib.cutB_hit (s.extract 1 s.size) ⟨#[58]⟩ (m - 1) hi
    have c1':cutName (s.extract 1 s.size)=s.extract 1 m:=by
     refine Eq.trans c1 ?_;rw [extract_tail s 1 0 (m - 1) (by omega),show 1+(m - 1)=m by omega]
    have c2':cutServer (s.extract 1 s.size)=s.extract (m+1) s.size:=by
     refine Eq.trans c2 ?_;rw [show (s.extract 1 s.size).size=s.size - 1 by simp,show (⟨#[58]⟩:ByteArray).size=1 from rfl,extract_tail s 1 _ (s.size - 1) (by omega),show 1+(m - 1+1)=m+1 by omega,show 1+(s.size - 1)=s.size by omega]
    rw [hcut,show (Lib.cut (s.extract 1 s.size).data.toList [58]).2.2=true from c3,Bool.true_and,c1',c2'];rw [loc4_f (s.extract 1 m) (by simp;omega) _ (by simp;omega)];show (if isLocal (s.extract 1 m)=true then _ else _)=_
    by_cases hl:isLocal (s.extract 1 m)=true
    · rw [if_pos hl,if_pos (by omega),if_pos (by omega),ser4_f (s.extract (m+1) s.size) (by simp;omega) _ (by simp;omega),hl,Bool.true_and];show (if isServerB (s.extract (m+1) s.size)=true then _ else _)=_
      by_cases hv:isServerB (s.extract (m+1) s.size)=true
      · rw [if_pos hv,if_pos hv]
      · rw [if_neg hv,if_neg hv]
    · rw [if_neg hl,show isLocal (s.extract 1 m)=false by simpa using hl,Bool.false_and,if_neg (by decide)]
  · rw [if_neg c]
    exact ih (m+1) k (by omega) (by omega) (fun j hj hjm=>by
     by_cases h:j=m
     · subst h;exact c
     · exact hn j hj (by omega))
theorem user4_f (s:ByteArray) (hs:s.size≤1000000000) : ∃ K,agoraref04_User.f K s=some (userB s):=by
 have h : ∃ K,agoraref04_parts.f K 64 s=some (userB s):=by
  by_cases c:0 < s.size∧bt s 0=64
  · exact ⟨_,parts4_l0 s hs c.1 c.2 (s.size - 1) 1 0 (by omega) (by omega) (fun j h1 h2=>by omega)⟩
  · have hu:userB s=(⟨#[]⟩,⟨#[]⟩,false):=by
     unfold userB cutB;rw [show (⟨#[64]⟩:ByteArray).data.toList=[64] from rfl,not_prefix s c,Bool.false_and,if_neg (by decide)]
    refine ⟨2,?_⟩;rw [hu];unfold agoraref04_parts.f agoraref04_parts.l0
    have hj:agoraref04_parts.j1 1 64 s 1 false=some (⟨#[]⟩,⟨#[]⟩,false):=by
     unfold agoraref04_parts.j1;rw [if_neg (by decide)]
    by_cases h1:(1:Int) < (s.size:Int)
    · rw [if_pos h1,if_pos (by omega),show (bt s 0==64)=false by
       rw [beq_eq_false_iff_ne];exact fun e=>c ⟨by omega,e⟩]
      exact hj
    · rw [if_neg h1];exact hj
 obtain ⟨K,h⟩:=h;refine ⟨K,?_⟩;unfold agoraref04_User.f;rw [h];rfl
end Go.Proofs.YtodhmbnfliajiaaGreatDoor.Q

/- Chains: a text of this claim's proof,as printed or written,without what the claim does not use. -/
namespace Go.Proofs.YtodhmbnfliajiaaGreatDoor.Q
open Go.RowKit Go.Proofs.YtodhmbnfliajiaaGreatDoorW.PrintWords Go.Proofs.YtodhmbnfliajiaaGreatDoorW.PrintLast
section
variable {α β:Type} {d:Kd α} {d':Kd β} {e e' base base':Nat} {ok ok':Nat→Prop} {W w1:World} {u v v1:Value} {xs:List α} {ys:List β}
def Flat (d:Kd α):Prop := ∀ {w:World} {base:Nat} {ok1 ok2:Nat→Prop} {x:α} {cs:List Value},d.M w base ok1 x cs→d.M w base ok2 x cs
theorem flat_string:Flat Kd.string:=fun h=>h
theorem flat_raw (n:Nat):Flat (Kd.raw n):=fun h=>h
theorem R_other (hd:Flat d) (h:d.R e W base ok u xs) (hg:W.grownBy w1 v.ownBlock) (ha : ∀ k,u.ownBlock=some k→some k≠v.ownBlock):d.R e w1 base ok u xs:=by
 have h2:d.R e W base (fun k=>ok k∧some k≠v.ownBlock) u xs:=Kd.R_flat hd h (fun k hk hok=>⟨hok,ha k hk⟩);exact Kd.R_mono (Kd.R_grown h2 hg (fun k hk=>hk.2)) (fun k hk=>hk.1)
theorem R_types (hu:d.R e W base ok u xs) (hv:d'.R e' W base' ok' v ys) (hne:e≠e') : ∀ k,u.ownBlock=some k→some k≠v.ownBlock:=by
 intro k hk;obtain ⟨inner,ho⟩:=Kd.R_own hu;obtain ⟨cells,hc⟩:=own_typed ho k hk;exact Kd.R_ne hv hc (Ne.symm hne)
end
def Chain {α:Type} (d:Kd α) (e n0:Nat) (l:List α) (x:α) (p q r s:Bool) (v0 v3 v5 v6:Value) (w:World):Prop :=
 (p=true→q=false→d.R e w n0 (fun _=>True) v0 [])∧
 (q=true→s=false→d.R e w n0 (fun _=>True) v3 l)∧
 (r=true→s=false→d.R e w n0 (fun k=>(p=true→q=false→some k≠v0.ownBlock)∧(q=true→some k≠v3.ownBlock)) v5 [x])∧
 (s=true→d.R e w n0 (fun _=>True) v6 (l++[x]))
section
variable {α:Type} {d:Kd α} {e n0:Nat} {l:List α} {x:α} {p q r s:Bool} {v0 v3 v5 v6:Value} {w w1:World}
theorem Chain.none (d:Kd α) (e n0:Nat) (l:List α) (x:α) (v0 v3 v5 v6:Value) (w:World):Chain d e n0 l x false false false false v0 v3 v5 v6 w :=
 ⟨fun h=>(by cases h),fun h=>(by cases h),fun h=>(by cases h),fun h=>(by cases h)⟩
theorem Chain.below (h:Chain d e n0 l x p q r s v0 v3 v5 v6 w) (hb:Below w.heap.size w w1):Chain d e n0 l x p q r s v0 v3 v5 v6 w1 :=
 ⟨fun h1 h2=>Kd.R_below (h.1 h1 h2) hb,fun h1 h2=>Kd.R_below (h.2.1 h1 h2) hb,fun h1 h2=>Kd.R_below (h.2.2.1 h1 h2) hb,fun h1=>Kd.R_below (h.2.2.2 h1) hb⟩
theorem Chain.other {β:Type} {d':Kd β} {e' base':Nat} {ok':Nat→Prop} {v:Value} {ys:List β} (hd:Flat d) (h:Chain d e n0 l x p q r s v0 v3 v5 v6 w) (hv:d'.R e' w base' ok' v ys) (hne:e≠e') (hg:w.grownBy w1 v.ownBlock):Chain d e n0 l x p q r s v0 v3 v5 v6 w1 :=
 ⟨fun h1 h2=>R_other hd (h.1 h1 h2) hg (R_types (h.1 h1 h2) hv hne),fun h1 h2=>R_other hd (h.2.1 h1 h2) hg (R_types (h.2.1 h1 h2) hv hne),
  fun h1 h2=>R_other hd (h.2.2.1 h1 h2) hg (R_types (h.2.2.1 h1 h2) hv hne),fun h1=>R_other hd (h.2.2.2 h1) hg (R_types (h.2.2.2 h1) hv hne)⟩
theorem Chain.start (hd:Flat d) (h:Chain d e n0 l x false false r s v0 v3 v5 v6 w) (hs:s=false) {u:Value} {ok:Nat→Prop} (hn:n0≤w.heap.size) (hb:Below w.heap.size w w1) (ho:d.R e w1 w.heap.size ok u []):Chain d e n0 l x true false r s u v3 v5 v6 w1:=by
 subst hs;refine ⟨fun _ _=>Kd.R_mono (Kd.R_lower ho hn) (fun _ _=>trivial),fun h1=>(by cases h1),fun h1 h2=>?_,fun h1=>(by cases h1)⟩;have h5:=h.2.2.1 h1 h2;exact Kd.R_flat hd (Kd.R_below h5 hb) (fun k hk _=>⟨fun _ _ he=>by have:=Kd.R_lt h5 k hk;have:=Kd.R_base ho k he.symm;omega,fun h3=>(by cases h3)⟩)
theorem Chain.lit (hd:Flat d) (h:Chain d e n0 l x p q false s v0 v3 v5 v6 w) (hs:s=false) {u:Value} {ok:Nat→Prop} (hn:n0≤w.heap.size) (hb:Below w.heap.size w w1) (ho:d.R e w1 w.heap.size ok u [x]):Chain d e n0 l x p q true s v0 v3 u v6 w1:=by
 subst hs;refine ⟨fun h1 h2=>Kd.R_below (h.1 h1 h2) hb,fun h1 h2=>Kd.R_below (h.2.1 h1 h2) hb,fun _ _=>?_,fun h1=>(by cases h1)⟩;refine Kd.R_flat hd (Kd.R_lower ho hn) (fun k hk _=>⟨fun h1 h2 he=>?_,fun h1 he=>?_⟩)
 · have:=Kd.R_lt (h.1 h1 h2) k he.symm;have:=Kd.R_base ho k hk;omega
 · have:=Kd.R_lt (h.2.1 h1 rfl) k he.symm;have:=Kd.R_base ho k hk;omega
theorem Chain.first (h:Chain d e n0 l x true false r s v0 v3 v5 v6 w) (hs:s=false) {u:Value} {ok:Nat→Prop} (hg:w.grownBy w1 v0.ownBlock) (hat:u.ownBlock=v0.ownBlock∨∃ b,u.ownBlock=some b∧w.heap.size≤b) (ho:d.R e w1 n0 ok u ([]++l)):Chain d e n0 l x true true r s v0 u v5 v6 w1:=by
 subst hs;refine ⟨fun _ h2=>(by cases h2),fun _ _=>Kd.R_mono ho (fun _ _=>trivial),fun h1 h2=>?_,fun h1=>(by cases h1)⟩;have h5:=Kd.R_mono (ok':=fun k=>True∧some k≠v0.ownBlock) (h.2.2.1 h1 h2) (fun k hk=>⟨trivial,hk.1 rfl rfl⟩);exact Kd.R_mono (Kd.R_after (ok:=fun _=>True) h5 hg hat) (fun k hk=>⟨fun _ h3=>(by cases h3),fun _=>hk.2⟩)
theorem Chain.second (_h:Chain d e n0 l x true true true false v0 v3 v5 v6 w) {u:Value} {ok:Nat→Prop} (ho:d.R e w1 n0 ok u (l++[x])):Chain d e n0 l x true true true true v0 v3 v5 u w1 :=
 ⟨fun _ h2=>(by cases h2),fun _ h2=>(by cases h2),fun _ h2=>(by cases h2),fun _=>Kd.R_mono ho (fun _ _=>trivial)⟩
end
end Go.Proofs.YtodhmbnfliajiaaGreatDoor.Q

/- PureLast: a text of this claim's proof,as printed or written,without what the claim does not use. -/
namespace Go.Proofs.YtodhmbnfliajiaaGreatDoor.Q
open Go.RowKit Go.Proofs.YtodhmbnfliajiaaGreatDoorW.PrintWords
set_option linter.unusedVariables false
set_option linter.unnecessarySimpa false
section
variable {P:Program} {Q:Exit→Act→World→Prop}
structure StandsRL (l:List Oper) (S:List Spec) (D:Nat→Option Nat) (last:Nat→Option Nat) (Inv:World→Prop) (a0:Act) (listed:Array Bool) (a:Act) (w:World):Prop where
 inv:Inv w
 size:a.tmps.size=a0.tmps.size
 defers:a.defers=a0.defers
 kept : ∀ x,(∀ i,i < l.length→D i≠some x)→a.eval (.tmp x)=a0.eval (.tmp x)
 done : ∀ i,i < l.length→listed.getD i false=true→(∀ c,last i=some c→listed.getD c false=false)→(specAt S i).V w (valOf a (D i))
 left : ∀ i d,i < l.length→listed.getD i false=false→D i=some d→a.eval (.tmp d)=a0.eval (.tmp d)
 closed : ∀ i o,l[i]?=some o→listed.getD i false=true→∀ e ∈ o.after,Region.binds .any e=true→listed.getD e.on false=true
def PartRL (P:Program) (l:List Oper) (S:List Spec) (D:Nat→Option Nat) (last:Nat→Option Nat) (Inv:World→Prop) (R:Nat→World→World→Prop) (a0:Act) (Q:Exit→Act→World→Prop) (i:Nat) (o:Oper):Prop :=
 ∀ a w,Inv w→(∀ x,(∀ i,i < l.length→D i≠some x)→a.eval (.tmp x)=a0.eval (.tmp x))→(∀ m,m≠i→reachB l i m=true→(∀ c,last m=some c→reachB l c i=true)→(specAt S m).V w (valOf a (D m)))→(∀ j d,j < l.length→D j=some d→reachB l j i=true→a.eval (.tmp d)=a0.eval (.tmp d))→
  ∀ K:Act→World→Prop,(∀ v w',(specAt S i).V w' v→R i w w'→K (a.put o.dst v) w')→Oper.wp P o a w K Q
def PartsRL (P:Program) (l:List Oper) (S:List Spec) (D:Nat→Option Nat) (last:Nat→Option Nat) (Inv:World→Prop) (R:Nat→World→World→Prop) (a0:Act) (Q:Exit→Act→World→Prop):Nat→List Oper→Prop
 | _,[]=>True
 | k,o :: r=>((specAt S k).on=true→PartRL P l S D last Inv R a0 Q k o)∧PartsRL P l S D last Inv R a0 Q (k+1) r
theorem PartsRL.at {l:List Oper} {S:List Spec} {D:Nat→Option Nat} {last:Nat→Option Nat} {Inv:World→Prop} {R:Nat→World→World→Prop} {a0:Act} : ∀ (r:List Oper) (k:Nat),PartsRL P l S D last Inv R a0 Q k r→∀ i o,r[i]?=some o→(specAt S (k+i)).on=true→PartRL P l S D last Inv R a0 Q (k+i) o:=by
 intro r
 induction r with
 | nil=>intro k _ i o h;simp at h
 | cons x r ih=>
  intro k h i o ho
  cases i with
  | zero=>simp at ho;subst ho;exact h.1
  | succ i=>
   have:=ih (k+1) h.2 i o (by simpa using ho);rwa [Nat.add_right_comm] at this
end
end Go.Proofs.YtodhmbnfliajiaaGreatDoor.Q

