/- PureGlob: a text of this claim's proof,as printed or written,without what the claim does not use. -/
import Derived.Test.YtodhmbnfliajiaaGreatDoorJ5
import Derived.Test.YtodhmbnfliajiaaGreatDoorQx6
namespace Go.Proofs.YtodhmbnfliajiaaGreatDoor.Q
open Go.RowKit Go.Proofs.YtodhmbnfliajiaaGreatDoorW.PrintWords Go.Proofs.YtodhmbnfliajiaaGreatDoorW.PrintLast
abbrev GLt:=S80
def gStar (x:GLt):Bool := !x.f1 && (x.f0==42)
def gOk (p x:GLt):Bool:=(!p.f1 && (p.f0==63)) || (p.f0==x.f0 && (p.f1==x.f1))
abbrev gM:=mtB gStar gOk
theorem is_f (c:Int) (r:Bool) (x:Int):glob_letter_is.f c r x=some (!r && (c==x)):=by
 unfold glob_letter_is.f;cases r <;> simp
theorem rd_gl (l:List GLt) (i:Nat) (h:i < l.length):rd_T80 l (i:Int)=l[i]:=by simp [rd_T80,h]
theorem wrap_nat (i:Nat) (h:i≤1000000000000):wrap64 ((i:Int)+1)=((i+1:Nat):Int):=by unfold wrap64;omega
theorem gM_nil (p:List GLt):gM p []=p.all gStar:=by
 induction p with
 | nil=>rfl
 | cons a p ih=>
  cases ha:gStar a with
  | true=>
   rw [List.all_cons,ha,Bool.true_and,← ih]
   cases h:gM p [] with
   | true=>exact (mtB_star gStar gOk p [] ha).2 ⟨0,Nat.le_refl _,h⟩
   | false=>
    cases h2:gM (a :: p) [] with
    | false=>rfl
    | true=>
     obtain ⟨j,_,h3⟩:=(mtB_star gStar gOk p [] ha).1 h2;rw [List.drop_nil] at h3;exact absurd (h3.symm.trans h) (by decide)
  | false=>rw [List.all_cons,ha,Bool.false_and];exact mtB_none gStar gOk p ha
theorem l1_f (p:List GLt) (hp:p.length≤1000000000000) : ∀ (m i k:Nat),m=p.length - i→i≤p.length→m < k→glob_match.l1 k p (i:Int)=some ((p.drop i).all gStar)
 | 0,i,k,hm,hi,hk=>by
  obtain ⟨k,rfl⟩ : ∃ j,k=j+1:=⟨k - 1,by omega⟩;have:i=p.length:=by omega
  subst this;simp [glob_match.l1]
 | m+1,i,k,hm,hi,hk=>by
  obtain ⟨k,rfl⟩ : ∃ j,k=j+1:=⟨k - 1,by omega⟩;have hlt:i < p.length:=by omega
  have ih:=l1_f p hp m (i+1) k (by omega) (by omega) (by omega);rw [List.drop_eq_getElem_cons hlt,List.all_cons];simp only [glob_match.l1,rd_gl p i hlt,is_f,Option.bind_some,wrap_nat i (by omega)];rw [if_pos (by omega),if_pos (by omega)]
  cases hs:gStar p[i] with
  | true=>
   have:(!p[i].f1 && (p[i].f0==42))=true:=hs;rw [this,if_pos rfl,ih];rfl
  | false=>
   have:(!p[i].f1 && (p[i].f0==42))=false:=hs;rw [this,if_neg (by decide)];have hne:((i:Int)==(p.length:Int))=false:=by simp;omega
   rw [hne];rfl
def gAns (p s:List GLt) (i k:Nat) (st:Option Nat) (fr:Nat):Prop :=
 match st with
 | none=>gM (p.drop i) (s.drop k)=true
 | some a=>gM (p.drop i) (s.drop k)=true∨∃ j,fr < j∧j≤s.length∧gM (p.drop (a+1)) (s.drop j)=true
def gInv (p s:List GLt) (i k:Nat) (st:Option Nat) (fr:Nat):Prop :=
 i≤p.length∧k≤s.length∧
 match st with
 | none=>True
 | some a=>a < i∧fr≤k∧k - fr=i - (a+1)∧∀ j,a < j→j < i→∀ h:j < p.length,gStar p[j]=false
def gSt (st:Option Nat):Int:=match st with|none=>-1|some a=>(a:Int)
theorem seg (p s:List GLt) (a i j:Nat) (h1:a < i) (h2:i≤p.length) (hs : ∀ m,a < m→m < i→∀ h:m < p.length,gStar p[m]=false) (h:gM (p.drop (a+1)) (s.drop j)=true) :
 i - (a+1)≤s.length - j∧gM (p.drop i) (s.drop (j+(i - (a+1))))=true:=by
 have he:p.drop (a+1)=(p.drop (a+1)).take (i - (a+1))++p.drop i:=by
  have:=(List.take_append_drop (i - (a+1)) (p.drop (a+1))).symm;rwa [List.drop_drop,show a+1+(i - (a+1))=i by omega] at this
 rw [he] at h;have hl:((p.drop (a+1)).take (i - (a+1))).length=i - (a+1):=by rw [List.length_take,List.length_drop];omega
 have:=mtB_plain gStar gOk _ (p.drop i) (fun x hx=>by
  obtain ⟨m,hm,rfl⟩:=List.mem_iff_getElem.1 hx;rw [hl] at hm;rw [List.getElem_take,List.getElem_drop]
  exact hs (a+1+m) (by omega) (by omega) (by omega)) _ h
 rw [hl,List.length_drop,List.drop_drop] at this;exact this
theorem gAns_end (p s:List GLt) (i:Nat) (st:Option Nat) (fr:Nat) (h:gInv p s i s.length st fr):((p.drop i).all gStar=true↔gAns p s i s.length st fr):=by
 obtain ⟨h1,h2,h3⟩:=h;have e:gM (p.drop i) (s.drop s.length)=(p.drop i).all gStar:=by rw [List.drop_length];exact gM_nil _
 cases st with
 | none=>simp only [gAns];rw [e]
 | some a=>
  obtain ⟨h4,h5,h6,h7⟩:=h3;simp only [gAns];rw [e];refine ⟨Or.inl,fun hh=>hh.elim id (fun ⟨j,hj1,hj2,hj3⟩=>?_)⟩;have:=(seg p s a i j h4 h1 h7 hj3).1;omega
theorem gAns_star (p s:List GLt) (i k:Nat) (hi:i < p.length) (st:Option Nat) (fr:Nat) (h:gInv p s i k st fr) (hstar:gStar p[i]=true):(gAns p s (i+1) k (some i) k↔gAns p s i k st fr):=by
 obtain ⟨h1,h2,h3⟩:=h;have hd:p.drop i=p[i] :: p.drop (i+1):=List.drop_eq_getElem_cons hi
 have e:gM (p.drop i) (s.drop k)=true↔∃ j,k≤j∧j≤s.length∧gM (p.drop (i+1)) (s.drop j)=true:=by
  rw [hd];refine (mtB_star gStar gOk _ _ hstar).trans ⟨fun ⟨j,hj,hh⟩=>⟨k+j,by omega,by rw [List.length_drop] at hj;omega,by rw [List.drop_drop] at hh;exact hh⟩,fun ⟨j,hj1,hj2,hh⟩=>⟨j - k,by rw [List.length_drop];omega,by rw [List.drop_drop,show k+(j - k)=j by omega];exact hh⟩⟩
 have e2:gAns p s (i+1) k (some i) k↔gM (p.drop i) (s.drop k)=true:=by
  rw [e];simp only [gAns];constructor
  · rintro (hh | ⟨j,hj1,hj2,hh⟩)
    · exact ⟨k,Nat.le_refl _,h2,hh⟩
    · exact ⟨j,by omega,hj2,hh⟩
  · rintro ⟨j,hj1,hj2,hh⟩;rcases Nat.eq_or_lt_of_le hj1 with rfl|hlt
    · exact Or.inl hh
    · exact Or.inr ⟨j,hlt,hj2,hh⟩
 rw [e2]
 cases st with
 | none=>rfl
 | some a=>
  obtain ⟨h4,h5,h6,h7⟩:=h3;simp only [gAns];refine ⟨Or.inl,fun hh=>hh.elim id (fun ⟨j,hj1,hj2,hj3⟩=>?_)⟩;have hg:=seg p s a i j h4 (by omega) h7 hj3;have hg2:=hg.2;rw [hd] at hg2;obtain ⟨m,hm1,hm2⟩:=(mtB_star gStar gOk _ _ hstar).1 hg2;rw [List.drop_drop] at hm2;rw [List.length_drop] at hm1;rw [e];exact ⟨j+(i - (a+1))+m,by omega,by omega,hm2⟩
theorem gAns_on (p s:List GLt) (i k:Nat) (hi:i < p.length) (hk:k < s.length) (st:Option Nat) (fr:Nat) (hn:gStar p[i]=false) (ho:gOk p[i] s[k]=true):(gAns p s (i+1) (k+1) st fr↔gAns p s i k st fr):=by
 have e:gM (p.drop i) (s.drop k)=gM (p.drop (i+1)) (s.drop (k+1)):=by
  rw [List.drop_eq_getElem_cons hi,List.drop_eq_getElem_cons hk];exact (mtB_one gStar gOk _ _ _ hn).trans (by rw [ho,Bool.true_and])
 cases st with
 | none=>simp only [gAns];rw [e]
 | some a=>simp only [gAns];rw [e]
theorem gM_miss (p s:List GLt) (i k:Nat) (hk:k < s.length) (h : ∀ hi:i < p.length,gStar p[i]=false∧gOk p[i] s[k]=false):gM (p.drop i) (s.drop k)=false:=by
 rw [List.drop_eq_getElem_cons hk];by_cases hi:i < p.length
 · rw [List.drop_eq_getElem_cons hi];exact (mtB_one gStar gOk _ _ _ (h hi).1).trans (by rw [(h hi).2,Bool.false_and])
 · rw [List.drop_eq_nil_of_le (by omega)];rfl
theorem gAns_back (p s:List GLt) (i k a fr:Nat) (hk:k < s.length) (hfr:fr≤k) (hm:gM (p.drop i) (s.drop k)=false):(gAns p s (a+1) (fr+1) (some a) (fr+1)↔gAns p s i k (some a) fr):=by
 simp only [gAns];rw [hm];constructor
 · rintro (hh | ⟨j,hj1,hj2,hh⟩)
   · exact Or.inr ⟨fr+1,by omega,by omega,hh⟩
   · exact Or.inr ⟨j,by omega,hj2,hh⟩
 · rintro (hh | ⟨j,hj1,hj2,hh⟩)
   · cases hh
   · rcases Nat.eq_or_lt_of_le (Nat.succ_le_of_lt hj1) with rfl|hlt
     · exact Or.inl hh
     · exact Or.inr ⟨j,hlt,hj2,hh⟩
def gStN (st:Option Nat):Nat:=match st with|none=>0|some a=>a+1
theorem l0_f (p s:List GLt) (hp:p.length≤1000000000000) (hs:s.length≤1000000000000) (i k:Nat) (st:Option Nat) (fr:Nat) (h:gInv p s i k st fr) (hf:fr≤k) :
 ∃ K r,glob_match.l0 K p s (i:Int) (k:Int) (gSt st) (fr:Int)=some r∧(r=true↔gAns p s i k st fr):=by
 by_cases hk:k < s.length
 · by_cases hst : ∃ hi:i < p.length,gStar p[i]=true
   ·
    obtain ⟨hi,hstar⟩:=hst;have hinv:gInv p s (i+1) k (some i) k:=⟨by omega,h.2.1,by omega,Nat.le_refl _,by omega,fun j h1 h2=>by omega⟩
    have hgi:gStN st≤i:=by
     cases st with
     | none=>exact Nat.zero_le _
     | some a=>have:=h.2.2;simp only [gStN];have h4:a < i:=this.1;omega
    obtain ⟨K,r,hr,ha⟩:=l0_f p s hp hs (i+1) k (some i) k hinv (Nat.le_refl _);refine ⟨K+2,r,?_,ha.trans (gAns_star p s i k hi st fr h hstar)⟩;have hb:(!p[i].f1 && (p[i].f0==42))=true:=hstar
    have e:glob_match.l0 (K+2) p s (i:Int) (k:Int) (gSt st) (fr:Int)=glob_match.j1 (K+1) p s (i:Int) (k:Int) (gSt st) (fr:Int) true:=by
     simp only [glob_match.l0,rd_gl p i hi,is_f,Option.bind_some];rw [if_pos (by omega),if_pos (by omega),if_pos (by omega),hb]
    rw [e];simp only [glob_match.j1,wrap_nat i (by omega)];simp only [if_true];exact hr
   · have hns : ∀ hi:i < p.length,gStar p[i]=false:=fun hi=>by
      cases hh:gStar p[i] with
      | false=>rfl
      | true=>exact absurd ⟨hi,hh⟩ hst
     by_cases hok : ∃ hi:i < p.length,gOk p[i] s[k]=true
     ·
      obtain ⟨hi,ho⟩:=hok
      have hinv:gInv p s (i+1) (k+1) st fr:=by
       refine ⟨by omega,by omega,?_⟩
       cases st with
       | none=>trivial
       | some a=>
        obtain ⟨h4,h5,h6,h7⟩:=h.2.2;refine ⟨by omega,by omega,by omega,fun j h1 h2 hj=>?_⟩;by_cases hji:j=i
        · subst hji;exact hns hi
        · exact h7 j h1 (by omega) hj
      obtain ⟨K,r,hr,ha⟩:=l0_f p s hp hs (i+1) (k+1) st fr hinv (by omega);refine ⟨K+3,r,?_,ha.trans (gAns_on p s i k hi hk st fr (hns hi) ho)⟩;have hb:(!p[i].f1 && (p[i].f0==42))=false:=hns hi;have hw1:=wrap_nat i (by omega);have hw2:=wrap_nat k (by omega)
      have e:glob_match.l0 (K+3) p s (i:Int) (k:Int) (gSt st) (fr:Int)=glob_match.j2 (K+1) p s (i:Int) (k:Int) (gSt st) (fr:Int) true:=by
       simp only [glob_match.l0,rd_gl p i hi,is_f,Option.bind_some];rw [if_pos (by omega),if_pos (by omega),if_pos (by omega),hb];simp only [glob_match.j1,rd_gl p i hi,rd_gl s k hk,is_f,Option.bind_some];rw [if_neg (by decide),if_pos (by omega),if_pos (by omega)]
       cases hq:(!p[i].f1 && (p[i].f0==63)) with
       | true=>simp
       | false=>
        have:(p[i].f0==s[k].f0 && (p[i].f1==s[k].f1))=true:=by
         have h0:((!p[i].f1 && (p[i].f0==63)) || (p[i].f0==s[k].f0 && (p[i].f1==s[k].f1)))=true:=ho;rw [hq,Bool.false_or] at h0;exact h0
        rw [if_neg (by decide),if_pos (by omega),if_pos (by omega),this]
      rw [e];simp only [glob_match.j2,hw1,hw2,if_true];exact hr
     ·
      have hno : ∀ hi:i < p.length,gOk p[i] s[k]=false:=fun hi=>by
       cases hh:gOk p[i] s[k] with
       | false=>rfl
       | true=>exact absurd ⟨hi,hh⟩ hok
      have hmiss:=gM_miss p s i k hk (fun hi=>⟨hns hi,hno hi⟩)
      have e : ∀ K,glob_match.l0 (K+3) p s (i:Int) (k:Int) (gSt st) (fr:Int)=glob_match.j2 (K+1) p s (i:Int) (k:Int) (gSt st) (fr:Int) false:=by
       intro K;by_cases hi:i < p.length
       · have hb:(!p[i].f1 && (p[i].f0==42))=false:=hns hi;have h0:((!p[i].f1 && (p[i].f0==63)) || (p[i].f0==s[k].f0 && (p[i].f1==s[k].f1)))=false:=hno hi;rw [Bool.or_eq_false_iff] at h0;simp only [glob_match.l0,rd_gl p i hi,is_f,Option.bind_some];rw [if_pos (by omega),if_pos (by omega),if_pos (by omega),hb];simp only [glob_match.j1,rd_gl p i hi,rd_gl s k hk,is_f,Option.bind_some];rw [if_neg (by decide),if_pos (by omega),if_pos (by omega),h0.1,if_neg (by decide),if_pos (by omega),if_pos (by omega),h0.2]
       · simp only [glob_match.l0];rw [if_pos (by omega),if_neg (by omega)];simp only [glob_match.j1];rw [if_neg (by decide),if_neg (by omega)]
      cases hst':st with
      | none=>
       subst hst';refine ⟨3,false,?_,by simp only [gAns];rw [hmiss]⟩;rw [e 0];simp [glob_match.j2,gSt]
      | some a=>
       subst hst';obtain ⟨h4,h5,h6,h7⟩:=h.2.2;have hinv:gInv p s (a+1) (fr+1) (some a) (fr+1):=⟨by have:=h.1;omega,by omega,by omega,Nat.le_refl _,by omega,fun j h1 h2=>by omega⟩;obtain ⟨K,r,hr,ha⟩:=l0_f p s hp hs (a+1) (fr+1) (some a) (fr+1) hinv (Nat.le_refl _);refine ⟨K+3,r,?_,ha.trans (gAns_back p s i k a fr hk h5 hmiss)⟩;rw [e K];have hw1:=wrap_nat a (by have:=h.1;omega);have hw2:=wrap_nat fr (by omega);simp only [glob_match.j2,gSt,hw1,hw2];rw [if_neg (by decide),if_neg (by omega)];exact hr
 · have hke:k=s.length:=by have:=h.2.1;omega
   subst hke;refine ⟨p.length - i+1+1,(p.drop i).all gStar,?_,gAns_end p s i st fr h⟩;simp only [glob_match.l0];rw [if_neg (by omega)];exact l1_f p hp (p.length - i) i _ rfl h.1 (by omega)
termination_by (p.length - gStN st,s.length - fr,s.length - k)
decreasing_by
 · apply Prod.Lex.left;show p.length - (i+1) < p.length - gStN st;omega
 · apply Prod.Lex.right;apply Prod.Lex.right;omega
 · simp only [*];apply Prod.Lex.right;apply Prod.Lex.left;omega
theorem glob_match_f (p s:List GLt) (hp:p.length≤1000000000000) (hs:s.length≤1000000000000) : ∃ K,glob_match.f K p s=some (gM p s):=by
 obtain ⟨K,r,hr,ha⟩:=l0_f p s hp hs 0 0 none 0 ⟨Nat.zero_le _,Nat.zero_le _,trivial⟩ (Nat.le_refl _);refine ⟨K,?_⟩
 have e:r=gM p s:=by
  have h1:r=true↔gM p s=true:=by simpa [gAns] using ha
  cases r <;> cases h2:gM p s <;> simp [h2] at h1 ⊢
 unfold glob_match.f;rw [← e];exact hr
end Go.Proofs.YtodhmbnfliajiaaGreatDoor.Q
