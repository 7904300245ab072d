/- Merged out of: PureStands, PureMembers. -/
import Derived.Test.YtodhmbnfliajiaaGreatDoorPureFold
import Derived.Test.YtodhmbnfliajiaaGreatDoorQx13
import Derived.Test.YtodhmbnfliajiaaGreatDoorHandRField
/- PureStands: a text of this claim's proof,as printed or written,without what the claim does not use. -/
namespace Go.Proofs.YtodhmbnfliajiaaGreatDoor.Q
open Go.RowKit Go.Lib Go.Proofs.YtodhmbnfliajiaaGreatDoorW.PrintWords Go.Proofs.YtodhmbnfliajiaaGreatDoorW.PrintLast Go.Proofs.YtodhmbnfliajiaaGreatDoorW.PrintMore
def isOp (b:UInt8):Bool:=decide (b.toNat=60∨b.toNat=62∨b.toNat=61)
def noOp (r:Nat):Bool:=decide (r≠60∧r≠62∧r≠61)
def noDigit (r:Nat):Bool:=decide (r < 48) || decide (57 < r)
theorem get_list (s:ByteArray) (j:Nat) (h:j < s.data.toList.length):s.get! j=s.data.toList[j]:=by
 have h1:j < s.data.size:=by simpa using h
 show s.data[j]! = _
 rw [getElem!_pos s.data j h1];simp
theorem idx_ops (s:ByteArray) : ∀ (f pos:Nat),s.size - pos≤f→idxFuncFrom noOp true s f pos=if (s.data.toList.drop pos).dropWhile isOp=[] then -1 else ((pos+((s.data.toList.drop pos).takeWhile isOp).length:Nat):Int)
 | 0,pos,h=>by
  have:s.data.toList.drop pos=[]:=List.drop_eq_nil_of_le (by simp;have:s.data.size=s.size:=rfl;omega);rw [this];rfl
 | f+1,pos,h=>by
  unfold idxFuncFrom;by_cases hp:pos < s.size
  · have hl:pos < s.data.toList.length:=by simpa using hp
    rw [if_pos hp,List.drop_eq_getElem_cons hl,← get_list s pos hl];by_cases hd:(s.get! pos).toNat=60∨(s.get! pos).toNat=62∨(s.get! pos).toNat=61
    · have hg:isOp (s.get! pos)=true:=decide_eq_true hd;rw [decode_ascii s pos (by omega)];rw [if_neg (by unfold noOp;rw [decide_eq_false (by omega)];decide),idx_ops s f (pos+1) (by omega)];rw [List.dropWhile_cons_of_pos hg,List.takeWhile_cons_of_pos hg];split
      · rfl
      · simp only [List.length_cons];omega
    · have hn:noOp (Utf8.decode s pos).1=true:=by
       unfold noOp;rw [decide_eq_true_eq,Go.Lib.decode_at];generalize (s.get! pos).toNat=b0 at *;unfold Go.Lib.decodeN;repeat' split
       all_goals (simp only;omega)
      have hg:isOp (s.get! pos)=false:=decide_eq_false hd;rw [if_pos hn];rw [List.dropWhile_cons_of_neg (by rw [hg];decide),List.takeWhile_cons_of_neg (by rw [hg];decide),if_neg (by simp)];simp
  · have:s.data.toList.drop pos=[]:=List.drop_eq_nil_of_le (by simp;have:s.data.size=s.size:=rfl;omega);rw [if_neg hp,this];rfl
theorem idx_digits (s:ByteArray) : ∀ (f pos:Nat),s.size - pos≤f→(0≤idxFuncFrom noDigit true s f pos↔(s.data.toList.drop pos).all isD=false)
 | 0,pos,h=>by
  have:s.data.toList.drop pos=[]:=List.drop_eq_nil_of_le (by simp;have:s.data.size=s.size:=rfl;omega);rw [this];unfold idxFuncFrom;simp
 | f+1,pos,h=>by
  unfold idxFuncFrom;by_cases hp:pos < s.size
  · have hl:pos < s.data.toList.length:=by simpa using hp
    rw [if_pos hp,List.drop_eq_getElem_cons hl,← get_list s pos hl,List.all_cons];by_cases hd:48≤(s.get! pos).toNat∧(s.get! pos).toNat≤57
    · have hg:isD (s.get! pos)=true:=decide_eq_true hd;rw [decode_ascii s pos (by omega),hg];rw [if_neg (by unfold noDigit;rw [decide_eq_false (by omega),decide_eq_false (by omega)];decide),idx_digits s f (pos+1) (by omega)];simp
    · have hn:noDigit (Utf8.decode s pos).1=true:=by
       unfold noDigit;rw [Bool.or_eq_true,decide_eq_true_eq,decide_eq_true_eq,Go.Lib.decode_at];generalize (s.get! pos).toNat=b0 at *;unfold Go.Lib.decodeN;repeat' split
       all_goals (simp only;omega)
      have hg:isD (s.get! pos)=false:=decide_eq_false hd;rw [if_pos hn,hg];simp
  · have:s.data.toList.drop pos=[]:=List.drop_eq_nil_of_le (by simp;have:s.data.size=s.size:=rfl;omega);rw [if_neg hp,this];simp
def dig9 (l:List UInt8):Option Nat:=if l≠[]∧l.length≤9∧l.all isD=true then some (dval 0 l) else none
def cmpOp (o:List UInt8) (n m:Int):Bool :=
 if o=[]∨o=[61,61] then decide (n=m) else if o=[60] then decide (n < m) else if o=[62] then decide (m < n) else if o=[60,61] then decide (n≤m) else if o=[62,61] then decide (m≤n) else false
def standsL (l:List UInt8) (n:Int):Bool:=match dig9 (l.dropWhile isOp) with|none=>false|some m=>cmpOp (l.takeWhile isOp) n (m:Int)
def standsB (p:ByteArray) (n:Int):Bool:=standsL p.data.toList n
def memL (l:List UInt8) (n:Int):Bool :=
 if l.take 2=[61,61] then (match dig9 (l.drop 2) with|none=>false|some m=>decide (n=m))
 else if l.take 2=[60,61] then (match dig9 (l.drop 2) with|none=>false|some m=>decide (n≤m))
 else if l.take 2=[62,61] then (match dig9 (l.drop 2) with|none=>false|some m=>decide ((m:Int)≤n))
 else if l.take 1=[60] then (match dig9 (l.drop 1) with|none=>false|some m=>decide (n < m))
 else if l.take 1=[62] then (match dig9 (l.drop 1) with|none=>false|some m=>decide ((m:Int) < n))
 else (match dig9 l with|none=>false|some m=>decide (n=m))
theorem dig9_op {c:UInt8} (r:List UInt8) (h:isOp c=true):dig9 (c :: r)=none:=by
 unfold dig9;rw [if_neg];rintro ⟨_,_,h3⟩;rw [List.all_cons,Bool.and_eq_true] at h3;have:=h3.1;unfold isD at this;unfold isOp at h
 simp only [decide_eq_true_eq] at this h;omega
theorem op_of {c:UInt8}:isOp c=true↔c=60∨c=62∨c=61:=by
 unfold isOp;rw [decide_eq_true_eq];constructor
 · rintro (h|h|h)
   · exact .inl (UInt8.toNat_inj.1 h)
   · exact .inr (.inl (UInt8.toNat_inj.1 h))
   · exact .inr (.inr (UInt8.toNat_inj.1 h))
 · rintro (rfl|rfl|rfl) <;> simp
theorem opFacts (l:List UInt8):(∀ x ∈ l.takeWhile isOp,isOp x=true)∧∀ c t,l.dropWhile isOp=c :: t→isOp c=false:=by
 induction l with
 | nil=>simp
 | cons a l ih=>
  cases h:isOp a with
  | true=>
   rw [List.takeWhile_cons_of_pos h,List.dropWhile_cons_of_pos h];refine ⟨fun x hx=>?_,ih.2⟩;rcases List.mem_cons.1 hx with rfl|hx
   · exact h
   · exact ih.1 x hx
  | false=>
   rw [List.takeWhile_cons_of_neg (by rw [h];decide),List.dropWhile_cons_of_neg (by rw [h];decide)];refine ⟨fun x hx=>by simp at hx,fun c t e=>?_⟩;injection e with e1 e2
   rw [← e1];exact h
theorem memL_stands (l:List UInt8) (n:Int):memL l n=standsL l n:=by
 have hl:=(List.takeWhile_append_dropWhile (p:=isOp) (l:=l));obtain ⟨h1,h2⟩:=opFacts l;unfold standsL;generalize l.takeWhile isOp=o at *;generalize l.dropWhile isOp=d at *;subst hl
 have hn61 : ∀ c t,d=c :: t→c≠61∧c≠60∧c≠62:=fun c t e=>by
  have:=h2 c t e;refine ⟨?_,?_,?_⟩ <;> (rintro rfl;revert this;decide)
 unfold memL
 match o,h1 with
 | [],_=>
  simp only [List.nil_append]
  cases d with
  | nil=>rfl
  | cons c t=>
   have:=hn61 c t rfl;rw [if_neg,if_neg,if_neg,if_neg,if_neg]
   · rfl
   all_goals (simp only [List.take_succ_cons];intro e;injection e with e1 e2;first|exact this.1 e1|exact this.2.1 e1|exact this.2.2 e1)
 | [a],h1=>
  have ha:=op_of.1 (h1 a (List.mem_cons_self ..))
  have ht2 : ∀ x:UInt8,([a]++d).take 2≠[x,61]:=by
   intro x
   cases d with
   | nil=>simp
   | cons c t=>
    simp only [List.cons_append,List.nil_append,List.take_succ_cons,List.take_zero];intro e;injection e with _ e2;injection e2 with e3 _
    exact (hn61 c t rfl).1 e3
  rw [if_neg (ht2 61),if_neg (ht2 60),if_neg (ht2 62)];have hd1:([a]++d).drop 1=d:=rfl;have ht1:([a]++d).take 1=[a]:=rfl;rw [hd1,ht1];rcases ha with rfl|rfl|rfl
  · rw [if_pos rfl];rfl
  · rw [if_neg (by decide),if_pos rfl];rfl
  · rw [if_neg (by decide),if_neg (by decide)];show (match dig9 ((61:UInt8) :: d) with|none=>false|some m=>decide (n=(m:Int)))=_
    rw [dig9_op d (by decide)];cases dig9 d <;> rfl
 | [a,b],h1=>
  have ha:=op_of.1 (h1 a (List.mem_cons_self ..));have hb:=op_of.1 (h1 b (List.mem_cons_of_mem _ (List.mem_cons_self ..)));have e1:([a,b]++d).take 2=[a,b]:=rfl;have e2:([a,b]++d).drop 2=d:=rfl;have e3:([a,b]++d).take 1=[a]:=rfl;have e4:([a,b]++d).drop 1=b :: d:=rfl;have e5:[a,b]++d=a :: b :: d:=rfl;rw [e1,e2,e3,e4,e5,dig9_op (b :: d) (h1 a (List.mem_cons_self ..)),dig9_op d (h1 b (List.mem_cons_of_mem _ (List.mem_cons_self ..)))];rcases ha with rfl|rfl|rfl <;> rcases hb with rfl|rfl|rfl <;> cases dig9 d <;> simp [cmpOp]
 | a :: b :: c :: r,h1=>
  have hc:=h1 c (List.mem_cons_of_mem _ (List.mem_cons_of_mem _ (List.mem_cons_self ..)));have e2:(a :: b :: c :: r++d).drop 2=c :: (r++d):=rfl;have e4:(a :: b :: c :: r++d).drop 1=b :: (c :: (r++d)):=rfl;have e5:a :: b :: c :: r++d=a :: (b :: c :: r++d):=rfl;rw [e2,e4,e5,dig9_op _ (h1 a (List.mem_cons_self ..)),dig9_op _ (h1 b (List.mem_cons_of_mem _ (List.mem_cons_self ..))),dig9_op _ hc];have hz : ∀ m:Int,cmpOp (a :: b :: c :: r) n m=false:=fun m=>by simp [cmpOp]
  cases dig9 d with
  | none=>simp
  | some m=>simp [hz]
end Go.Proofs.YtodhmbnfliajiaaGreatDoor.Q

/- PureMembers: a text of this claim's proof,as printed or written,without what the claim does not use. -/
namespace Go.Proofs.YtodhmbnfliajiaaGreatDoor.Q
open Go.RowKit Go.Proofs.YtodhmbnfliajiaaGreatDoorW.PrintWords Go.Proofs.YtodhmbnfliajiaaGreatDoorW.PrintLast Go.Proofs.YtodhmbnfliajiaaGreatDoorW.PrintMore
set_option linter.unusedSimpArgs false
def dInt (o:Option Nat):Int:=match o with|none=>-1|some m=>(m:Int)
theorem bt_list (s:ByteArray) (i:Nat) (hl:i < s.data.toList.length):bt s (i:Int)=((s.data.toList[i]).toNat:Int):=by
 rw [bt_get s i (by simpa using hl),get_list s i hl]
theorem digits_l0 (s:ByteArray) (hs:s.size≤9) : ∀ (m i K:Nat) (acc:Nat),m=s.size - i→i≤s.size→acc < 10 ^ i→m < K→
 agoraref27_digits.l0 K s (acc:Int) (i:Int)=some (if (s.data.toList.drop i).all isD=true then ((dval acc (s.data.toList.drop i):Nat):Int) else -1)
 | 0,i,K,acc,hm,hi,ha,hK=>by
  obtain ⟨K,rfl⟩ : ∃ j,K=j+1:=⟨K - 1,by omega⟩;rw [agoraref27_digits.l0,if_neg (by omega),List.drop_eq_nil_of_le (by simp;omega)];rfl
 | m+1,i,K,acc,hm,hi,ha,hK=>by
  obtain ⟨K,rfl⟩ : ∃ j,K=j+1:=⟨K - 1,by omega⟩;have hl:i < s.data.toList.length:=by simp;omega
  have hb:=bt_list s i hl;have hp:acc < 100000000:=Nat.lt_of_lt_of_le ha (show 10 ^ i≤10 ^ 8 from Nat.pow_le_pow_right (by decide) (by omega))
  have hp1 : ∀ d,d≤9→acc * 10+d < 10 ^ (i+1):=by
   intro d hd;rw [Nat.pow_succ];generalize 10 ^ i=q at *;omega
  clear ha;rw [agoraref27_digits.l0,if_pos (by omega),if_pos (by omega),hb,List.drop_eq_getElem_cons hl,List.all_cons];generalize s.data.toList[i]=c;have hc:=c.toNat_lt;by_cases h1:c.toNat < 48
  · have:isD c=false:=by unfold isD;rw [decide_eq_false];omega
    rw [if_pos (by omega),this];simp
  · rw [if_neg (by omega)];by_cases h2:57 < c.toNat
    · have:isD c=false:=by unfold isD;rw [decide_eq_false];omega
      rw [if_pos (by omega),this];simp
    · have hD:isD c=true:=by unfold isD;rw [decide_eq_true];omega
      have r1:m=s.size - (i+1):=by omega
      have r2:i+1≤s.size:=by omega
      have r3:m < K:=by omega
      have r4:=hp1 (c.toNat - 48) (by omega);have r5 : ¬ ((c.toNat:Int) > 57):=by omega
      have e1:wrap64 (wrap64 (10 * (acc:Int))+((c.toNat:Int) - 48) % 256)=((acc * 10+(c.toNat - 48):Nat):Int):=by
       rw [wrap_small (10 * (acc:Int)) (by omega) (by omega),Int.emod_eq_of_lt (by omega) (by omega),wrap_small _ (by omega) (by omega)];omega
      have e2:wrap64 ((i:Int)+1)=((i+1:Nat):Int):=by rw [wrap_small _ (by omega) (by omega)];omega
      rw [if_neg r5,e1,e2,digits_l0 s hs m (i+1) K _ r1 r2 r4 r3,hD,Bool.true_and,dval_cons]
theorem digits_f (s:ByteArray) (hs:s.size≤1000000000) (K:Nat) (hK:s.size+2≤K):agoraref27_digits.f K s=some (dInt (dig9 s.data.toList)):=by
 obtain ⟨K,rfl⟩ : ∃ j,K=j+1:=⟨K - 1,by omega⟩;have hsz:s.data.toList.length=s.size:=by simp
 unfold agoraref27_digits.f dig9;by_cases h1:s.size < 1
 · rw [if_pos (by omega),agoraref27_digits.j0,if_pos rfl,if_neg];rfl
   rintro ⟨h,_⟩;exact h (List.eq_nil_of_length_eq_zero (by omega))
 · rw [if_neg (by omega),agoraref27_digits.j0];by_cases h2:9 < s.size
   · rw [if_pos (by simp;omega),if_neg];rfl
     rintro ⟨_,h,_⟩;omega
   · rw [if_neg (by simp;omega)];have:=digits_l0 s (by omega) s.size 0 K 0 (by omega) (by omega) (by decide) (by omega);refine (show agoraref27_digits.l0 K s 0 0=_ from this).trans ?_;rw [List.drop_zero];congr 1
     have hne:s.data.toList≠[]:=by
      intro h;rw [h] at hsz;simp at hsz;omega
     by_cases h3:s.data.toList.all isD=true
     · rw [if_pos h3,if_pos ⟨hne,by omega,h3⟩];rfl
     · rw [if_neg h3,if_neg (fun h=>h3 h.2.2)];rfl
theorem after_f (a b:ByteArray) : ∃ r,agoraref27_after.f a b=some (r,decide (a.data.toList.take b.size=b.data.toList))∧(a.data.toList.take b.size=b.data.toList→r.data.toList=a.data.toList.drop b.size∧r.size≤a.size):=by
 have ha:a.data.toList.length=a.size:=by simp
 have hb:b.data.toList.length=b.size:=by simp
 have e1:(a.extract 0 b.size).toList=a.data.toList.take b.size:=by
  rw [ByteArray.toList_eq,ByteArray.data_extract,Array.toList_extract,List.extract_eq_take_drop];simp
 unfold agoraref27_after.f;by_cases h:a.data.toList.take b.size=b.data.toList
 · have hl:b.size≤a.size:=by
    have:=congrArg List.length h;rw [List.length_take] at this;omega
   have e2:(a.extract b.size a.size).data.toList=a.data.toList.drop b.size:=by
    rw [ByteArray.data_extract,Array.toList_extract,List.extract_eq_take_drop,List.take_of_length_le (by simp)]
   refine ⟨a.extract b.size a.size,?_,fun _=>⟨e2,?_⟩⟩
   · rw [if_pos ⟨hl,by rw [e1,ByteArray.toList_eq];exact h⟩,decide_eq_true h]
   · have:(a.extract b.size a.size).size=(a.extract b.size a.size).data.toList.length:=by simp
     rw [this,e2,List.length_drop];omega
 · refine ⟨⟨#[]⟩,?_,fun h2=>absurd h2 h⟩;rw [if_neg (by rintro ⟨_,h2⟩;rw [e1,ByteArray.toList_eq] at h2;exact h h2),decide_eq_false h]
theorem members_f (p:ByteArray) (n:Int) (hp:p.size≤1000000000) (K:Nat) (hK:p.size+2≤K):agoraref27_members.f K p n=some (standsB p n):=by
 have hm:=memL_stands p.data.toList n;unfold standsB;rw [← hm]
 have hdig : ∀ (r:ByteArray) (f:Int→Bool),r.size≤p.size→((agoraref27_digits.f K r).bind fun t=>if t≥0 then (agoraref27_digits.f K r).bind fun u=>some (f u) else some false)=some (match dig9 r.data.toList with|none=>false|some m=>f (m:Int)):=by
  intro r f hr;rw [digits_f r (by omega) K (by omega),Option.bind_some,Option.bind_some]
  cases dig9 r.data.toList with
  | none=>rfl
  | some m=>rw [if_pos (by show (m:Int)≥0;omega)];rfl
 obtain ⟨r1,h1,g1⟩:=after_f p ⟨#[61,61]⟩;obtain ⟨r2,h2,g2⟩:=after_f p ⟨#[60,61]⟩;obtain ⟨r3,h3,g3⟩:=after_f p ⟨#[62,61]⟩;obtain ⟨r4,h4,g4⟩:=after_f p ⟨#[60]⟩;obtain ⟨r5,h5,g5⟩:=after_f p ⟨#[62]⟩;simp only [show (⟨#[61,61]⟩:ByteArray).size=2 from rfl,show (⟨#[60,61]⟩:ByteArray).size=2 from rfl,show (⟨#[62,61]⟩:ByteArray).size=2 from rfl,show (⟨#[60]⟩:ByteArray).size=1 from rfl,show (⟨#[62]⟩:ByteArray).size=1 from rfl,show (⟨#[61,61]⟩:ByteArray).data.toList=[61,61] from rfl,show (⟨#[60,61]⟩:ByteArray).data.toList=[60,61] from rfl,show (⟨#[62,61]⟩:ByteArray).data.toList=[62,61] from rfl,show (⟨#[60]⟩:ByteArray).data.toList=[60] from rfl,show (⟨#[62]⟩:ByteArray).data.toList=[62] from rfl] at h1 h2 h3 h4 h5 g1 g2 g3 g4 g5;have e1 : ∀ m:Int,(n==m)=decide (n=m):=fun m=>by rw [Bool.eq_iff_iff];simp
 unfold agoraref27_members.f memL;rw [h1,Option.bind_some];by_cases c1:p.data.toList.take 2=[61,61]
 · obtain ⟨q1,q2⟩:=g1 c1;simp only [decide_eq_true c1,if_true,if_pos c1];rw [hdig r1 (fun t=>n==t) q2,q1];all_goals (generalize dig9 _=o;cases o <;> first|rfl|(simp only [e1]))
 · simp only [decide_eq_false c1,Bool.false_eq_true,if_false,if_neg c1];rw [h2,Option.bind_some];by_cases c2:p.data.toList.take 2=[60,61]
   · obtain ⟨q1,q2⟩:=g2 c2;simp only [decide_eq_true c2,if_true,if_pos c2];rw [hdig r2 (fun t=>decide (n≤t)) q2,q1];all_goals (generalize dig9 _=o;cases o <;> first|rfl|(simp only [e1]))
   · simp only [decide_eq_false c2,Bool.false_eq_true,if_false,if_neg c2];rw [h3,Option.bind_some];by_cases c3:p.data.toList.take 2=[62,61]
     · obtain ⟨q1,q2⟩:=g3 c3;simp only [decide_eq_true c3,if_true,if_pos c3];rw [hdig r3 (fun t=>decide (n≥t)) q2,q1];all_goals (generalize dig9 _=o;cases o <;> first|rfl|(simp only [e1]))
     · simp only [decide_eq_false c3,Bool.false_eq_true,if_false,if_neg c3];rw [h4,Option.bind_some];by_cases c4:p.data.toList.take 1=[60]
       · obtain ⟨q1,q2⟩:=g4 c4;simp only [decide_eq_true c4,if_true,if_pos c4];rw [hdig r4 (fun t=>decide (n < t)) q2,q1];all_goals (generalize dig9 _=o;cases o <;> first|rfl|(simp only [e1]))
       · simp only [decide_eq_false c4,Bool.false_eq_true,if_false,if_neg c4];rw [h5,Option.bind_some];by_cases c5:p.data.toList.take 1=[62]
         · obtain ⟨q1,q2⟩:=g5 c5;simp only [decide_eq_true c5,if_true,if_pos c5];rw [hdig r5 (fun t=>decide (n > t)) q2,q1];all_goals (generalize dig9 _=o;cases o <;> first|rfl|(simp only [e1]))
         · simp only [decide_eq_false c5,Bool.false_eq_true,if_false,if_neg c5];rw [hdig p (fun t=>n==t) (Nat.le_refl _)];all_goals (generalize dig9 _=o;cases o <;> first|rfl|(simp only [e1]))
end Go.Proofs.YtodhmbnfliajiaaGreatDoor.Q

