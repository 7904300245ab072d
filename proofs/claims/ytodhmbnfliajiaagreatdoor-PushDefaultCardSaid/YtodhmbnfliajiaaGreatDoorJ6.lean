/- Merged out of: PureTable, PureLetters. -/
import Derived.Test.YtodhmbnfliajiaaGreatDoorQx11
import Derived.Test.YtodhmbnfliajiaaGreatDoorPureGlob
import Derived.Test.YtodhmbnfliajiaaGreatDoorJ7
/- PureTable: a text of this claim's proof,as printed or written,without what the claim does not use. -/
namespace Go.Proofs.YtodhmbnfliajiaaGreatDoor.Q
open Go.RowKit Go.Proofs.YtodhmbnfliajiaaGreatDoorW.PrintWords Go.Proofs.YtodhmbnfliajiaaGreatDoorW.PrintLast
def rStar (x:ByteArray):Bool:=decide (x.toList=([42]:List UInt8))
def rOk (p x:ByteArray):Bool:=decide (p.toList=([63]:List UInt8)) || (p.toList==x.toList)
abbrev rM:=mtB rStar rOk
def rD (p s:List ByteArray) (k j:Nat):Bool:=rM (p.take k) (s.take j)
def tab (n:Nat) (f:Nat→Bool):List Bool:=(List.range (n+1)).map f
theorem tab_len (n:Nat) (f:Nat→Bool):(tab n f).length=n+1:=by simp [tab]
theorem tab_rd (n:Nat) (f:Nat→Bool) (j:Nat) (h:j≤n):rdOf false (tab n f) (j:Int)=f j:=by
 simp [rdOf,tab,show j < n+1 by omega]
theorem tab_set (n:Nat) (f g:Nat→Bool) (j:Nat) (v:Bool) (hv:v=g j) (h : ∀ m,m≤n→m≠j→f m=g m):(tab n f).set j v=tab n g:=by
 apply List.ext_getElem
 · simp [tab]
 · intro m h1 h2;rw [tab_len] at h2;rw [List.getElem_set];split
   · rename_i e;subst e;simp [tab,hv]
   · rename_i e;simp only [tab,List.getElem_map,List.getElem_range];exact h m (by omega) (fun h'=>e h'.symm)
theorem tab_congr (n:Nat) (f g:Nat→Bool) (h : ∀ m,m≤n→f m=g m):tab n f=tab n g:=by
 unfold tab;exact List.map_congr_left (fun m hm=>h m (by rw [List.mem_range] at hm;omega))
theorem rD_star (p s:List ByteArray) (k j:Nat) (hk:k < p.length) (hj:j≤s.length) (h:rStar p[k]=true):rD p s (k+1) j=(rD p s k j || (decide (0 < j) && rD p s (k+1) (j - 1))):=by
 have key : ∀ m,m≤s.length→(rD p s (k+1) m=true↔∃ i,i≤m∧rD p s k i=true):=by
  intro m hm;unfold rD;rw [List.take_succ_eq_append_getElem hk];refine (mtB_snoc_star rStar rOk _ h _).trans ⟨fun ⟨i,h1,h2⟩=>?_,fun ⟨i,h1,h2⟩=>?_⟩
  · rw [List.length_take] at h1;rw [List.take_take,Nat.min_eq_left (by omega)] at h2;exact ⟨i,by omega,h2⟩
  · exact ⟨i,by rw [List.length_take];omega,by rw [List.take_take,Nat.min_eq_left h1];exact h2⟩
 have:rD p s (k+1) j=true↔(rD p s k j || (decide (0 < j) && rD p s (k+1) (j - 1)))=true:=by
  rw [key j hj,Bool.or_eq_true,Bool.and_eq_true,decide_eq_true_eq];constructor
  · rintro ⟨i,h1,h2⟩;rcases Nat.eq_or_lt_of_le h1 with rfl|hlt
    · exact Or.inl h2
    · exact Or.inr ⟨by omega,(key (j - 1) (by omega)).2 ⟨i,by omega,h2⟩⟩
  · rintro (h1 | ⟨h1,h2⟩)
    · exact ⟨j,Nat.le_refl _,h1⟩
    · obtain ⟨i,h3,h4⟩:=(key (j - 1) (by omega)).1 h2;exact ⟨i,by omega,h4⟩
 cases h1:rD p s (k+1) j <;> cases h2:(rD p s k j || (decide (0 < j) && rD p s (k+1) (j - 1))) <;> simp [h1,h2] at this ⊢
theorem rD_one (p s:List ByteArray) (k j:Nat) (hk:k < p.length) (hj:j < s.length) (h:rStar p[k]=false):rD p s (k+1) (j+1)=(rD p s k j && rOk p[k] s[j]):=by
 unfold rD;rw [List.take_succ_eq_append_getElem hk,List.take_succ_eq_append_getElem hj];exact mtB_snoc_one rStar rOk _ h _ _
theorem rD_zero (p s:List ByteArray) (k:Nat) (hk:k < p.length) (h:rStar p[k]=false):rD p s (k+1) 0=false:=by
 unfold rD;rw [List.take_succ_eq_append_getElem hk,List.take_zero];exact mtB_snoc_none rStar rOk _ h
def rowTo (p s:List ByteArray) (k i:Nat):Nat→Bool:=fun j=>if j < i then rD p s (k+1) j else false
theorem rowTo_set (p s:List ByteArray) (k i:Nat) (v:Bool) (hv:v=rD p s (k+1) i):(tab s.length (rowTo p s k i)).set i v=tab s.length (rowTo p s k (i+1)):=by
 refine tab_set _ _ _ i v ?_ (fun m _ hne=>?_)
 · rw [hv];simp [rowTo]
 · unfold rowTo;by_cases h:m < i
   · rw [if_pos h,if_pos (by omega)]
   · rw [if_neg h,if_neg (by omega)]
theorem wrapn (i:Nat) (h:i≤1000000000000):wrap64 ((i:Int)+1)=((i+1:Nat):Int):=by unfold wrap64;omega
theorem wrapp (i:Nat) (h:i≤1000000000000):wrap64 (((i+1:Nat):Int) - 1)=(i:Int):=by unfold wrap64;omega
theorem rdS (l:List ByteArray) (i:Nat) (h:i < l.length):rdOf ByteArray.empty l (i:Int)=l[i]:=by simp [rdOf,h]
theorem l1_t (p s:List ByteArray) (hp:p.length≤1000000000) (hs:s.length≤1000000000) (k:Nat) (hk:k < p.length) (K:Nat) (r:Bool) (h:agoraref23_match.l0 K p s (tab s.length (rD p s (k+1))) ((k+1:Nat):Int)=some r) :
 ∀ (m i:Nat),m=s.length+1 - i→i≤s.length+1→agoraref23_match.l1 (K+m+1) p s (tab s.length (rD p s k)) (k:Int) (i:Int) (tab s.length (rowTo p s k i))=some r
 | 0,i,hm,hi=>by
  have:i=s.length+1:=by omega
  subst this;simp only [agoraref23_match.l1,wrapn k (by omega)];rw [if_neg (by omega)];rw [tab_congr s.length (rowTo p s k (s.length+1)) (rD p s (k+1)) (fun m hm=>by simp [rowTo];omega)];exact h
 | m+1,i,hm,hi=>by
  have hin:i≤s.length:=by omega
  have ih:=l1_t p s hp hs k hk K r h m (i+1) (by omega) (by omega);have hl1:((tab s.length (rD p s k)).length:Int)=s.length+1:=by rw [tab_len];omega
  have hl2:((tab s.length (rowTo p s k i)).length:Int)=s.length+1:=by rw [tab_len];omega
  rw [show K+(m+1)+1=(K+m+1)+1 by omega];generalize K+m+1=F at ih ⊢;simp only [agoraref23_match.l1,hl1,hl2,rdS p k hk,wrapn i (by omega),tab_rd s.length (rD p s k) i hin];rw [if_pos (by omega),if_pos (by omega),if_pos (by omega)]
  have key : ∀ v,v=rD p s (k+1) i→agoraref23_match.l1 F p s (tab s.length (rD p s k)) (k:Int) ((i+1:Nat):Int) ((tab s.length (rowTo p s k i)).set (i:Int).toNat v)=some r:=fun v hv=>by
   rw [Int.toNat_natCast,rowTo_set p s k i v hv];exact ih
  by_cases hstar:p[k].toList=([42]:List UInt8)
  · have hst:rStar p[k]=true:=by simp [rStar,hstar]
    have hd:=rD_star p s k i hk hin hst;rw [if_pos hstar,if_pos (by omega),if_pos (by omega)]
    cases h0:rD p s k i with
    | true=>
     rw [if_pos rfl,if_pos (by omega)];exact key true (by rw [hd,h0];rfl)
    | false=>
     rw [if_neg (by decide)]
     cases i with
     | zero=>
      rw [if_neg (by omega),if_pos (by omega)];exact key false (by rw [hd,h0];rfl)
     | succ i=>
      rw [if_pos (by omega)];simp only [wrapp i (by omega),tab_rd s.length (rowTo p s k (i+1)) i (by omega)];rw [if_pos (by omega),if_pos (by omega),if_pos (by omega)];exact key _ (by rw [hd,h0];simp [rowTo])
  · have hst:rStar p[k]=false:=by simp [rStar,hstar]
    rw [if_neg hstar]
    cases i with
    | zero=>
     rw [if_neg (by omega)];have e:=rowTo_set p s k 0 false (rD_zero p s k hk hst).symm;have e2:(tab s.length (rowTo p s k 0)).set 0 false=tab s.length (rowTo p s k 0):=tab_set _ _ _ 0 false (by simp [rowTo]) (fun _ _ _=>rfl);rw [← e2,e];exact ih
    | succ i=>
     have hd:=rD_one p s k i hk (by omega) hst;rw [if_pos (by omega)];simp only [wrapp i (by omega),tab_rd s.length (rD p s k) i (by omega),rdS s i (by omega)];rw [if_pos (by omega),if_pos (by omega)]
     cases h0:rD p s k i with
     | true=>
      rw [if_pos rfl];by_cases hq:p[k].toList=([63]:List UInt8)
      · rw [if_pos hq,if_pos (by omega),if_pos (by omega)];exact key true (by rw [hd,h0];simp [rOk,hq])
      · rw [if_neg hq,if_pos (by omega),if_pos (by omega),if_pos (by omega)];exact key _ (by rw [hd,h0];simp [rOk,hq])
     | false=>
      rw [if_neg (by decide),if_pos (by omega),if_pos (by omega)];exact key false (by rw [hd,h0];rfl)
theorem l0_t (p s:List ByteArray) (hp:p.length≤1000000000) (hs:s.length≤1000000000) : ∀ (m k:Nat),m=p.length - k→k≤p.length→∃ K,agoraref23_match.l0 K p s (tab s.length (rD p s k)) (k:Int)=some (rM p s)
 | 0,k,hm,hk=>by
  have:k=p.length:=by omega
  subst this;refine ⟨1,?_⟩;have hl:((tab s.length (rD p s p.length)).length:Int)=s.length+1:=by rw [tab_len];omega
  simp only [agoraref23_match.l0,hl,tab_rd s.length (rD p s p.length) s.length (Nat.le_refl _)];rw [if_neg (by omega),if_pos (by omega),if_pos (by omega)];simp [rD]
 | m+1,k,hm,hk=>by
  obtain ⟨K,h⟩:=l0_t p s hp hs m (k+1) (by omega) (by omega);have hkl:k < p.length:=by omega
  have hz:=l1_t p s hp hs k hkl K _ h (s.length+1) 0 (by omega) (by omega);refine ⟨K+(s.length+1)+1+1,?_⟩;generalize K+(s.length+1)+1=F at hz ⊢;have hw:=wrapn s.length (by omega)
  have hrep:List.replicate (wrap64 ((s.length:Int)+1):Int).toNat false=tab s.length (rowTo p s k 0):=by
   rw [hw,Int.toNat_natCast];apply List.ext_getElem
   · simp [tab]
   · intro j h1 h2;simp [tab,rowTo]
  simp only [agoraref23_match.l0,hrep];rw [if_pos (by omega),if_pos (by rw [hw];omega),if_pos (by rw [hw];omega)];exact hz
theorem ref_match_f (p s:List ByteArray) (hp:p.length≤1000000000) (hs:s.length≤1000000000) : ∃ K,agoraref23_match.f K p s=some (rM p s):=by
 obtain ⟨K,h⟩:=l0_t p s hp hs p.length 0 (by omega) (by omega);refine ⟨K,?_⟩;have hw:=wrapn s.length (by omega)
 have hrow:(List.replicate (wrap64 ((s.length:Int)+1):Int).toNat false).set (0:Int).toNat true=tab s.length (rD p s 0):=by
  rw [hw,Int.toNat_natCast];apply List.ext_getElem
  · simp [tab]
  · intro j h1 h2;rw [List.getElem_set]
    cases j with
    | zero=>simp [tab,rD,mtB]
    | succ j=>
     have:j < s.length:=by rw [tab_len] at h2;omega
     simp [tab,rD,mtB];intro he;subst he;simp at this
 unfold agoraref23_match.f;rw [if_pos (by rw [hw];omega),if_pos (by rw [hw];omega),Option.bind_some,if_pos (by simp [hw]),hrow];exact h
end Go.Proofs.YtodhmbnfliajiaaGreatDoor.Q

/- PureLetters: a text of this claim's proof,as printed or written,without what the claim does not use. -/
namespace Go.Proofs.YtodhmbnfliajiaaGreatDoor.Q
open Go.RowKit Go.Proofs.YtodhmbnfliajiaaGreatDoorW.PrintWords Go.Proofs.YtodhmbnfliajiaaGreatDoorW.PrintLast
def nb (b:ByteArray):List Nat:=b.toList.map UInt8.toNat
def Sh (g:GL) (l:List Nat):Prop :=
 (∃ a:Nat,a < 128∧g=⟨(a:Int),false⟩∧l=[a])∨
 (∃ a:Nat,128≤a∧a < 256∧g=⟨(a:Int),true⟩∧l=[a])∨
 (∃ a b:Nat,a / 32=6∧b / 64=2∧128≤a % 32 * 64+b % 64∧g=⟨((a % 32 * 64+b % 64:Nat):Int),false⟩∧l=[a,b])∨
 (∃ a b c:Nat,a / 16=14∧b / 64=2∧c / 64=2∧2048≤a % 16 * 4096+b % 64 * 64+c % 64∧g=⟨((a % 16 * 4096+b % 64 * 64+c % 64:Nat):Int),false⟩∧l=[a,b,c])∨
 (∃ a b c d:Nat,a / 8=30∧b / 64=2∧c / 64=2∧d / 64=2∧65536≤a % 8 * 262144+b % 64 * 4096+c % 64 * 64+d % 64∧g=⟨((a % 8 * 262144+b % 64 * 4096+c % 64 * 64+d % 64:Nat):Int),false⟩∧l=[a,b,c,d])
theorem gl_ext (a c:Int) (b d:Bool):((⟨a,b⟩:GL)=⟨c,d⟩)↔(a=c∧b=d):=by
 constructor
 · intro h;injection h with h1 h2;exact ⟨h1,h2⟩
 · rintro ⟨rfl,rfl⟩;rfl
set_option maxHeartbeats 4000000 in
theorem sh_eq {g g':GL} {l l':List Nat} (h:Sh g l) (h':Sh g' l'):g=g'↔l=l':=by
 rcases h with ⟨a,h1,rfl,rfl⟩ | ⟨a,h1,h2,rfl,rfl⟩ | ⟨a,b,h1,h2,h3,rfl,rfl⟩ | ⟨a,b,c,h1,h2,h3,h4,rfl,rfl⟩ | ⟨a,b,c,d,h1,h2,h3,h4,h5,rfl,rfl⟩ <;>
 rcases h' with ⟨a',i1,rfl,rfl⟩ | ⟨a',i1,i2,rfl,rfl⟩ | ⟨a',b',i1,i2,i3,rfl,rfl⟩ | ⟨a',b',c',i1,i2,i3,i4,rfl,rfl⟩ | ⟨a',b',c',d',i1,i2,i3,i4,i5,rfl,rfl⟩ <;>
 simp only [gl_ext,List.cons.injEq,and_true,reduceCtorEq,and_false,iff_false,Int.natCast_inj,Bool.false_eq_true,Bool.true_eq_false,List.ne_cons_self,false_iff] <;> first|done|(exact not_false)|omega|(intro h;omega)|(exact Iff.rfl)|(constructor <;> intro h <;> omega)
theorem sh_star {g:GL} {l:List Nat} (h:Sh g l):gStar g=decide (l=[42]):=by
 rcases h with ⟨a,h1,rfl,rfl⟩ | ⟨a,h1,h2,rfl,rfl⟩ | ⟨a,b,h1,h2,h3,rfl,rfl⟩ | ⟨a,b,c,h1,h2,h3,h4,rfl,rfl⟩ | ⟨a,b,c,d,h1,h2,h3,h4,h5,rfl,rfl⟩ <;> rw [Bool.eq_iff_iff] <;> simp [gStar] <;> omega
theorem sh_ask {g:GL} {l:List Nat} (h:Sh g l):(!g.f1 && (g.f0==63))=decide (l=[63]):=by
 rcases h with ⟨a,h1,rfl,rfl⟩ | ⟨a,h1,h2,rfl,rfl⟩ | ⟨a,b,h1,h2,h3,rfl,rfl⟩ | ⟨a,b,c,h1,h2,h3,h4,rfl,rfl⟩ | ⟨a,b,c,d,h1,h2,h3,h4,h5,rfl,rfl⟩ <;> rw [Bool.eq_iff_iff] <;> simp <;> omega
theorem nb_inj {a b:ByteArray}:nb a=nb b↔a.toList=b.toList:=by
 unfold nb;constructor
 · intro h;exact List.map_inj_right (f:=UInt8.toNat) (fun x y=>UInt8.toNat_inj.1) |>.1 h
 · intro h;rw [h]
theorem nb_one (b:ByteArray) (x:UInt8):nb b=[x.toNat]↔b.toList=[x]:=by
 unfold nb;constructor
 · intro h;exact List.map_inj_right (f:=UInt8.toNat) (fun x y=>UInt8.toNat_inj.1) |>.1 (h.trans rfl)
 · intro h;rw [h];rfl
theorem sh_rStar {g:GL} {b:ByteArray} (h:Sh g (nb b)):rStar b=gStar g:=by
 rw [sh_star h];unfold rStar;exact decide_eq_decide.2 (nb_one b 42).symm
theorem sh_rOk {g g':GL} {b b':ByteArray} (h:Sh g (nb b)) (h':Sh g' (nb b')):rOk b b'=gOk g g':=by
 unfold rOk gOk;rw [sh_ask h];have e1:decide (b.toList=([63]:List UInt8))=decide (nb b=[63]):=decide_eq_decide.2 (nb_one b 63).symm;rw [e1];congr 1
 rw [Bool.eq_iff_iff];have e2:=sh_eq h h';rw [nb_inj] at e2;rw [beq_iff_eq,← e2];rcases g with ⟨g0,g1⟩;rcases g' with ⟨i0,i1⟩
 rw [gl_ext];simp
theorem nb_extract (s:ByteArray) (i w:Nat) (h:i+w≤s.size):nb (s.extract i (i+w))=(List.range w).map fun k=>(s.get! (i+k)).toNat:=by
 unfold nb;rw [ByteArray.toList_eq];apply List.ext_getElem
 · simp;have:s.data.size=s.size:=rfl;omega
 · intro k h1 h2;simp only [List.length_map,List.length_range] at h2;have hk:i+k < s.data.size:=by have:s.data.size=s.size:=rfl;omega
   simp only [List.getElem_map,List.getElem_range,Array.getElem_toList,ByteArray.data_extract,Array.getElem_extract];congr 1
   show _=s.data[i+k]!
   rw [getElem!_pos s.data (i+k) hk]
theorem decode_width (s:ByteArray) (i:Nat) (h:i < s.size):1≤(Utf8.decode s i).2∧i+(Utf8.decode s i).2≤s.size:=by
 rw [Go.Lib.decode_at];generalize (s.get! i).toNat=b0;generalize (s.get! (i+1)).toNat=b1;generalize (s.get! (i+2)).toNat=b2;generalize (s.get! (i+3)).toNat=b3;unfold Go.Lib.decodeN;repeat' split
 all_goals (simp only;omega)
def gl_of (d:Nat×Nat) (b:Nat):GL:=if d.1=65533∧d.2=1 then ⟨(b:Int),true⟩ else ⟨(d.1:Int),false⟩
theorem glet_of (s:ByteArray) (i:Nat) (h:i < s.size):glet s i=gl_of (Utf8.decode s i) (s.get! i).toNat:=by
 unfold glet gl_of;rw [bt_get s i h]
set_option maxHeartbeats 4000000 in
theorem sh_decode (n b0 b1 b2 b3:Nat) (h0:b0 < 256) (d:Nat×Nat) (hd:d=Go.Lib.decodeN n b0 b1 b2 b3):Sh (gl_of d b0) ([b0,b1,b2,b3].take d.2):=by
 have bad : ∀ d:Nat×Nat,128≤b0→d=(65533,1)→Sh (gl_of d b0) ([b0,b1,b2,b3].take d.2):=by
  rintro d hb rfl;exact Or.inr (Or.inl ⟨b0,hb,h0,rfl,rfl⟩)
 by_cases c0:b0 < 128
 · have e:d=(b0,1):=by rw [hd];unfold Go.Lib.decodeN;rw [if_pos c0]
   subst e;refine Or.inl ⟨b0,c0,?_,rfl⟩;unfold gl_of;rw [if_neg (by simp only;omega)]
 · unfold Go.Lib.decodeN at hd;rw [if_neg c0] at hd;split at hd
   · next q=>
     split at hd
     · next q2=>
       subst hd;refine Or.inr (Or.inr (Or.inl ⟨b0,b1,q.1,q.2.2,q2,?_,rfl⟩));unfold gl_of;rw [if_neg (by simp only;omega)]
     · exact bad d (by omega) hd
   · split at hd
     · next q=>
       split at hd
       · next q2=>
         subst hd;refine Or.inr (Or.inr (Or.inr (Or.inl ⟨b0,b1,b2,q.1,q.2.1.2,q.2.2.2,q2.1,?_,rfl⟩)));unfold gl_of;rw [if_neg (by simp only;omega)]
       · exact bad d (by omega) hd
     · split at hd
       · next q=>
         split at hd
         · next q2=>
           subst hd;refine Or.inr (Or.inr (Or.inr (Or.inr ⟨b0,b1,b2,b3,q.1,q.2.1.2,q.2.2.1.2,q.2.2.2.2,q2.1,?_,rfl⟩)));unfold gl_of;rw [if_neg (by simp only;omega)]
         · exact bad d (by omega) hd
       · exact bad d (by omega) hd
theorem sh_at (s:ByteArray) (i:Nat) (h:i < s.size):Sh (glet s i) (nb (s.extract i (i+(Utf8.decode s i).2))):=by
 have hw:=decode_width s i h
 have h4:(Utf8.decode s i).2≤4:=by
  rw [Go.Lib.decode_at];unfold Go.Lib.decodeN
  repeat' split
  all_goals (simp only;omega)
 rw [glet_of s i h,nb_extract s i _ hw.2]
 have e:((List.range (Utf8.decode s i).2).map fun k=>(s.get! (i+k)).toNat)=[(s.get! i).toNat,(s.get! (i+1)).toNat,(s.get! (i+2)).toNat,(s.get! (i+3)).toNat].take (Utf8.decode s i).2:=by
  generalize (Utf8.decode s i).2=w at *;rcases w with _|_|_|_|_|w
  · rfl
  · rfl
  · rfl
  · rfl
  · rfl
  · omega
 rw [e];exact sh_decode (s.size - i) _ _ _ _ (s.get! i).toNat_lt _ (Go.Lib.decode_at s i)
def rlets (s:ByteArray):Nat→Nat→List ByteArray
 | 0,_=>[]
 | f+1,pos=>if pos < s.size then s.extract pos (pos+(Utf8.decode s pos).2) :: rlets s f (pos+(Utf8.decode s pos).2) else []
def rletters (s:ByteArray):List ByteArray:=rlets s s.size 0
def plets (s:ByteArray):Nat→Nat→List (GL×ByteArray)
 | 0,_=>[]
 | f+1,pos=>if pos < s.size then (glet s pos,s.extract pos (pos+(Utf8.decode s pos).2)) :: plets s f (pos+(Utf8.decode s pos).2) else []
theorem plets_fst (s:ByteArray) : ∀ f pos,(plets s f pos).map Prod.fst=glets s f pos
 | 0,_=>rfl
 | f+1,pos=>by
  unfold plets glets;by_cases h:pos < s.size
  · rw [if_pos h,if_pos h,List.map_cons,plets_fst s f]
  · rw [if_neg h,if_neg h];rfl
theorem plets_snd (s:ByteArray) : ∀ f pos,(plets s f pos).map Prod.snd=rlets s f pos
 | 0,_=>rfl
 | f+1,pos=>by
  unfold plets rlets;by_cases h:pos < s.size
  · rw [if_pos h,if_pos h,List.map_cons,plets_snd s f]
  · rw [if_neg h,if_neg h];rfl
theorem plets_sh (s:ByteArray) : ∀ f pos,∀ x ∈ plets s f pos,Sh x.1 (nb x.2)
 | 0,_,x,hx=>by simp [plets] at hx
 | f+1,pos,x,hx=>by
  unfold plets at hx;by_cases h:pos < s.size
  · rw [if_pos h] at hx;rcases List.mem_cons.1 hx with rfl|hx
    · exact sh_at s pos h
    · exact plets_sh s f _ x hx
  · rw [if_neg h] at hx;cases hx
theorem letters_match (p s:ByteArray):rM (rletters p) (rletters s)=gM (gletters p) (gletters s):=by
 have e1:=mtB_map (fun x:GL×ByteArray=>gStar x.1) (fun x y:GL×ByteArray=>gOk x.1 y.1) gStar gOk Prod.fst Prod.fst (plets p p.size 0) (plets s s.size 0) (fun _ _=>rfl) (fun _ _ _ _=>rfl);have e2:=mtB_map (fun x:GL×ByteArray=>gStar x.1) (fun x y:GL×ByteArray=>gOk x.1 y.1) rStar rOk Prod.snd Prod.snd (plets p p.size 0) (plets s s.size 0) (fun a ha=>sh_rStar (plets_sh p _ _ a ha)) (fun a ha x hx=>sh_rOk (plets_sh p _ _ a ha) (plets_sh s _ _ x hx));rw [plets_fst,plets_fst] at e1;rw [plets_snd,plets_snd] at e2;exact e2.trans e1.symm
end Go.Proofs.YtodhmbnfliajiaaGreatDoor.Q

