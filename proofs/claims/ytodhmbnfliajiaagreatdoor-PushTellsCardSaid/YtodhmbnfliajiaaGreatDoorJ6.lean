/- Merged out of: HandJson, PureGet, PureStable. -/
import Derived.WalkKit
import Derived.WalkSpells
import Derived.Deep.LoopGhost
import Derived.Lib.Hide
import Derived.BigQuiet
import Derived.Deep.QuietTactic
import Derived.Test.YtodhmbnfliajiaaGreatDoorShelf
import Derived.Test.YtodhmbnfliajiaaGreatDoorQx0
import Derived.Test.YtodhmbnfliajiaaGreatDoorJ5
import Derived.Test.YtodhmbnfliajiaaGreatDoorQx3
import Derived.Sort.LotA
import Derived.Test.YtodhmbnfliajiaaGreatDoorJ11
/- HandJson: a text of this claim's proof,as printed or written,without what the claim does not use. -/
namespace Go.Proofs.YtodhmbnfliajiaaGreatDoor.Q
open Go.RowKit Go.Shelf Go.Proofs.YtodhmbnfliajiaaGreatDoorW.PrintWords Go.Proofs.YtodhmbnfliajiaaGreatDoorW.PrintLast
abbrev JS:=S27
def aclIdx:List ByteArray→ByteArray→Int→Int
 | [],_,_=>-1
 | a :: l,x,i=>if a.toList=x.toList then i else aclIdx l x (i+1)
def aclValue (kind:Int) (keys:List ByteArray) (list:List JS) (key:ByteArray):Option JS :=
 if kind≠5 then none else if aclIdx keys key 0 < 0 then none else if (list.length:Int)≤aclIdx keys key 0 then none else some (rd_T27 list (aclIdx keys key 0))
theorem aclIdx_l0 (l:List ByteArray) (hl:l.length≤9223372036854775806) (x:ByteArray) : ∀ (m k i:Nat),m=l.length - i→i≤l.length→m < k→slices_Index_string_string.l0 k l x (l.length:Int) (i:Int)=some (aclIdx (l.drop i) x (i:Int))
 | 0,k,i,hm,hi,hk=>by
  obtain ⟨k,rfl⟩ : ∃ j,k=j+1:=⟨k - 1,by omega⟩
  have:i=l.length:=by omega
  subst this
  simp [slices_Index_string_string.l0,aclIdx]
 | m+1,k,i,hm,hi,hk=>by
  obtain ⟨k,rfl⟩ : ∃ j,k=j+1:=⟨k - 1,by omega⟩
  have hlt:i < l.length:=by omega
  have ih:=aclIdx_l0 l hl x m k (i+1) (by omega) (by omega) (by omega)
  rw [List.drop_eq_getElem_cons hlt]
  have hrd:rdOf ByteArray.empty l (i:Int)=l[i]:=by simp [rdOf,hlt]
  have hw:wrap64 ((i:Int)+1)=((i+1:Nat):Int):=by unfold wrap64;omega
  simp only [slices_Index_string_string.l0,aclIdx]
  rw [if_pos (by omega),if_pos (by omega),if_pos (by omega),hrd,hw,ih]
  by_cases h:l[i].toList=x.toList
  · rw [if_pos h.symm,if_pos h]
  · rw [if_neg (fun e=>h e.symm),if_neg h];rfl
theorem aclIdx_ge (l:List ByteArray) (x:ByteArray) : ∀ i,-1≤i→-1≤aclIdx l x i∧aclIdx l x i < i+l.length+1:=by
 induction l with
 | nil=>intro i hi;simp [aclIdx];omega
 | cons a l ih=>
  intro i hi
  simp only [aclIdx,List.length_cons]
  split
  · omega
  · have:=ih (i+1) (by omega);omega
theorem acl_index (l:List ByteArray) (hl:l.length≤9223372036854775806) (A:Option Addr) (c:Nat) (x:ByteArray) (w:World) (hr:Kd.C Kd.string w A l.length l) (hc:l.length≤c) :
 Calls Tryz.prog 50 #[.slice A l.length c,.string x] w fun e w'=>e=.returned (.int .i64 (aclIdx l x 0))∧Drawn0 w w':=by
 refine slices_Index_string_string.calls (l.length+1) A c l x _ w hr hc ?_
 unfold slices_Index_string_string.f
 have:=aclIdx_l0 l hl x l.length (l.length+1) 0 (by omega) (by omega) (by omega)
 simpa using this
def put5 (W:World) (g:Nat) (v0 v1 v2 v3 v4:Value):World:=((((W.setCell ⟨g,0,none⟩ v0).setCell ⟨g,1,none⟩ v1).setCell ⟨g,2,none⟩ v2).setCell ⟨g,3,none⟩ v3).setCell ⟨g,4,none⟩ v4
theorem put5_heap {W:World} {g:Nat} {a0 a1 a2 a3 a4:Value} {t:TypeId} (h:W.heap[g]?=some (.cells #[a0,a1,a2,a3,a4] t (0,0))) (v0 v1 v2 v3 v4:Value):(put5 W g v0 v1 v2 v3 v4).heap[g]?=some (.cells #[v0,v1,v2,v3,v4] t (0,0)):=by
 unfold put5
 refine blk_put (cs:=#[v0,v1,v2,v3,a4]) ?_ 4 _ rfl
 refine blk_put (cs:=#[v0,v1,v2,a3,a4]) ?_ 3 _ rfl
 refine blk_put (cs:=#[v0,v1,a2,a3,a4]) ?_ 2 _ rfl
 refine blk_put (cs:=#[v0,a1,a2,a3,a4]) ?_ 1 _ rfl
 exact blk_put (cs:=#[a0,a1,a2,a3,a4]) h 0 _ rfl
theorem put5_below {n:Nat} {w W:World} {g:Nat} (h:Below n w W) (hg:n≤g) (v0 v1 v2 v3 v4:Value):Below n w (put5 W g v0 v1 v2 v3 v4):=by
 unfold put5
 exact ((((h.setCell hg _).setCell hg _).setCell hg _).setCell hg _).setCell hg _
end Go.Proofs.YtodhmbnfliajiaaGreatDoor.Q

/- PureGet: a text of this claim's proof,as printed or written,without what the claim does not use. -/
namespace Go.Proofs.YtodhmbnfliajiaaGreatDoor.Q
open Go.RowKit Go.Proofs.YtodhmbnfliajiaaGreatDoorW.PrintWords Go.Proofs.YtodhmbnfliajiaaGreatDoorW.PrintLast Go.Proofs.YtodhmbnfliajiaaGreatDoorW.PrintMore
theorem nat_succ_wrap (i:Nat) (h:i≤1000000000000):wrap64 ((i:Int)+1)=((i+1:Nat):Int):=by unfold wrap64;omega
def getOf (o:Option JS):Int×Int×ByteArray×List ByteArray×List JS×Bool :=
 match o with
 | none=>(0,0,⟨#[]⟩,[],[],false)
 | some x=>(x.f0,x.f1,x.f2,x.f3,x.f4,true)
theorem aclIdx_lo (x:ByteArray) : ∀ (l:List ByteArray) (i:Int),0≤i→aclIdx l x i = -1∨i≤aclIdx l x i
 | [],_,_=>Or.inl rfl
 | a :: l,i,h=>by
  unfold aclIdx
  by_cases c:a.toList=x.toList
  · rw [if_pos c];exact Or.inr (Int.le_refl _)
  · rw [if_neg c]
    rcases aclIdx_lo x l (i+1) (by omega) with h|h
    · exact Or.inl h
    · exact Or.inr (by omega)
def valFrom (keys:List ByteArray) (list:List JS) (key:ByteArray) (i:Nat):Option JS :=
 if aclIdx (keys.drop i) key (i:Int) < 0 then none else if (list.length:Int)≤aclIdx (keys.drop i) key (i:Int) then none else some (rd_T27 list (aclIdx (keys.drop i) key (i:Int)))
theorem get_l0 (keys:List ByteArray) (hk:keys.length≤1000000000) (list:List JS) (key:ByteArray) (kd n:Int) (t:ByteArray) : ∀ (m i K:Nat),m=keys.length - i→i≤keys.length→2 * m+1 < K→
 agoraref01_Get.l0 K key (i:Int) kd n t keys list=some (getOf (valFrom keys list key i))
 | 0,i,K,hm,hi,hK=>by
  obtain ⟨K,rfl⟩ : ∃ j,K=j+2:=⟨K - 2,by omega⟩
  have:i=keys.length:=by omega
  subst this
  unfold agoraref01_Get.l0
  rw [if_neg (by omega),agoraref01_Get.j1,if_neg (by decide)]
  unfold valFrom
  rw [List.drop_length];rfl
 | m+1,i,K,hm,hi,hK=>by
  obtain ⟨K,rfl⟩ : ∃ j,K=j+2:=⟨K - 2,by omega⟩
  have hlt:i < keys.length:=by omega
  have hrd:rdOf ByteArray.empty keys (i:Int)=keys[i]:=by simp [rdOf,hlt]
  have ih:=get_l0 keys hk list key kd n t m (i+1) K (by omega) (by omega) (by omega)
  unfold agoraref01_Get.l0
  rw [if_pos (by omega),agoraref01_Get.j1]
  by_cases h1:i < list.length
  · rw [if_pos (decide_eq_true (by omega)),if_pos (by omega),if_pos (by omega),hrd,nat_succ_wrap i (by omega),ih]
    unfold valFrom
    rw [List.drop_eq_getElem_cons hlt,aclIdx]
    by_cases h2:keys[i].toList=key.toList
    · rw [if_pos h2,if_pos (by omega),if_pos h2,if_neg (by omega),if_neg (by omega)];rfl
    · rw [if_neg h2,if_neg h2];rfl
  · rw [if_neg (by rw [decide_eq_false (by omega)];decide)]
    unfold valFrom
    rcases aclIdx_lo key (keys.drop i) (i:Int) (by omega) with h|h
    · rw [if_pos (by omega)];rfl
    · rw [if_neg (by omega),if_pos (by omega)];rfl
theorem get_f (kd n:Int) (t:ByteArray) (keys:List ByteArray) (hk:keys.length≤1000000000) (list:List JS) (key:ByteArray) (K:Nat) (hK:2 * keys.length+1 < K):agoraref01_Get.f K kd n t keys list key=some (getOf (aclValue kd keys list key)):=by
 unfold agoraref01_Get.f aclValue
 by_cases h:kd=5
 · rw [if_pos h,if_neg (by omega)]
   have:=get_l0 keys hk list key kd n t keys.length 0 K (by omega) (by omega) hK
   exact this
 · rw [if_neg h,if_pos h];rfl
end Go.Proofs.YtodhmbnfliajiaaGreatDoor.Q

/- PureStable: a text of this claim's proof,as printed or written,without what the claim does not use. -/
namespace Go.Proofs.YtodhmbnfliajiaaGreatDoor.Q
open Go.Sort
section
variable {α:Type} [Inhabited α]
theorem swp_at (d:Array α) (j:Nat) (h:j+1 < d.size):(swp d (j+1) j)[j]! = d[j+1]!∧∀ p,p < j→(swp d (j+1) j)[p]! = d[p]! := by
 unfold swp
 constructor
 · rw [getElem!_pos _ j (by simp;omega),Array.getElem_setIfInBounds,if_pos rfl]
   simp;omega
 · intro p hp
   rw [getElem!_pos _ p (by simp;omega),Array.getElem_setIfInBounds,if_neg (by omega),Array.getElem_setIfInBounds,if_neg (by omega),getElem!_pos d p (by omega)]
   all_goals (simp;omega)
theorem inner_same (lt lt':α→α→Bool) (v:α→Nat) (hs : ∀ x y,v y < v x→lt x y=lt' x y) : ∀ (j:Nat) (d:Array α),j < d.size→(∀ p,p < j→v d[p]! < v d[j]!)→insInner lt 0 j d=insInner lt' 0 j d
 | 0,d,_,_=>by unfold insInner;rfl
 | j+1,d,hj,h=>by
  unfold insInner
  rw [hs d[j+1]! d[j]! (h j (by omega))]
  obtain ⟨e1,e2⟩:=swp_at d j hj
  have hz:(swp d (j+1) j).size=d.size:=by unfold swp;simp
  rw [inner_same lt lt' v hs j (swp d (j+1) j) (by omega) (fun p hp=>by rw [e1,e2 p hp];exact h p (by omega))]
end
def lexB (key:Nat→Int) (x y:Nat):Bool:=decide (key x < key y) || (decide (key x=key y) && decide (x < y))
theorem lexB_iff (key:Nat→Int) (x y:Nat):lexB key x y=true↔Lex key x y:=by
 unfold lexB Lex;simp
theorem lex_swo (key:Nat→Int) (m:Nat):SWO (fun x y:Fin (m+1)=>lexB key x.val y.val) where
 irrefl:=fun x=>by unfold lexB;simp
 trans:=fun x y z h1 h2=>by
  rw [lexB_iff] at *;exact Lex.trans h1 h2
 ntrans:=fun x y z h1 h2=>by
  have n1 : ¬ Lex key x.val y.val:=fun h=>by rw [(lexB_iff key _ _).2 h] at h1;cases h1
  have n2 : ¬ Lex key y.val z.val:=fun h=>by rw [(lexB_iff key _ _).2 h] at h2;cases h2
  cases h:lexB key x.val z.val with
  | false=>rfl
  | true=>
   have h3:=(lexB_iff key _ _).1 h
   exfalso
   unfold Lex at *
   omega
theorem outer_same (key:Nat→Int) (m:Nat) : ∀ (k i:Nat) (d:Array (Fin (m+1))),k=m+1 - i→0 < i→i≤m+1→d.size=m+1→SortedIn (fun x y:Fin (m+1)=>lexB key x.val y.val) 0 i d→(∀ p,p < i→d[p]!.val < i)→(∀ p,i≤p→p < m+1→d[p]!.val=p)→
 insOuter (fun x y:Fin (m+1)=>decide (key x.val < key y.val)) 0 (m+1) i d=insOuter (fun x y:Fin (m+1)=>lexB key x.val y.val) 0 (m+1) i d
 | 0,i,d,hk,h0,hi,hz,hS,hlo,hhi=>by
  rw [insOuter,if_neg (by omega)]
  conv=>rhs;rw [insOuter,if_neg (by omega)]
 | k+1,i,d,hk,h0,hi,hz,hS,hlo,hhi=>by
  rw [insOuter,if_pos (by omega)]
  conv=>rhs;rw [insOuter,if_pos (by omega)]
  have hin:=inner_same (fun x y:Fin (m+1)=>decide (key x.val < key y.val)) (fun x y:Fin (m+1)=>lexB key x.val y.val) Fin.val (fun x y hxy=>by
   unfold lexB
   rw [decide_eq_false (show ¬ x.val < y.val by omega),Bool.and_false,Bool.or_false]) i d (by omega) (fun p hp=>by rw [hhi i (Nat.le_refl _) (by omega)];exact hlo p hp)
  rw [hin]
  obtain ⟨⟨g1,g2,g3⟩,gs⟩:=insInner_spec (lex_swo key m) swp_permIn permIn_refl permIn_trans 0 (i+1) i (by omega) i d (by omega) (Nat.le_refl _) (by omega) ⟨fun p q hap hpq hqi _ hq=>hS p q hap hpq (by omega),fun q h1 h2=>by omega⟩
  refine outer_same key m k (i+1) _ (by omega) (by omega) (by omega) (by rw [g1];exact hz) gs (fun p hp=>?_) (fun p hp1 hp2=>by rw [g2 p (.inr hp1)];exact hhi p (by omega) hp2)
  have hsz:(insInner (fun x y:Fin (m+1)=>lexB key x.val y.val) 0 i d).size=m+1:=by rw [g1];exact hz
  have hmem:(insInner (fun x y:Fin (m+1)=>lexB key x.val y.val) 0 i d)[p]! ∈ ((insInner (fun x y:Fin (m+1)=>lexB key x.val y.val) 0 i d).extract 0 (i+1)).toList:=by
   rw [getElem!_pos _ p (by omega)]
   rw [Array.mem_toList_iff,Array.mem_extract_iff_getElem]
   exact ⟨p,by simp;omega,by simp⟩
  have hmem2:=g3.mem_iff.1 hmem
  rw [Array.mem_toList_iff,Array.mem_extract_iff_getElem] at hmem2
  obtain ⟨q,hq,e⟩:=hmem2
  rw [← e]
  simp only [Nat.zero_add,Nat.sub_zero] at hq ⊢
  have hq':q < i+1:=by omega
  have hqs:q < d.size:=by omega
  have:=getElem!_pos d q hqs
  rw [← this]
  by_cases hqi:q=i
  · rw [hqi,hhi i (Nat.le_refl _) (by omega)];omega
  · have:=hlo q (by omega);omega
def idRow (m:Nat):Array (Fin (m+1)):=Array.ofFn (fun i:Fin (m+1)=>i)
theorem idRow_size (m:Nat):(idRow m).size=m+1:=by simp [idRow]
theorem idRow_at (m p:Nat) (h:p < m+1):(idRow m)[p]!.val=p:=by
 rw [getElem!_pos _ p (by rw [idRow_size];exact h)]
 simp [idRow]
def placesBy (key:Nat→Int) (m:Nat):List Nat:=(insertionSort (fun x y:Fin (m+1)=>decide (key x.val < key y.val)) (idRow m) 0 (m+1)).toList.map Fin.val
theorem placesBy_spec (key:Nat→Int) (m:Nat):(placesBy key m).Pairwise (Lex key)∧(∀ y,y ∈ placesBy key m↔y < m+1)∧(placesBy key m).length=m+1:=by
 have he:insertionSort (fun x y:Fin (m+1)=>decide (key x.val < key y.val)) (idRow m) 0 (m+1)=insertionSort (fun x y:Fin (m+1)=>lexB key x.val y.val) (idRow m) 0 (m+1):=by
  unfold insertionSort
  exact outer_same key m m 1 (idRow m) (by omega) (by omega) (by omega) (idRow_size m) (fun i j h1 h2 h3=>by omega) (fun p hp=>by rw [idRow_at m p (by omega)];exact hp) (fun p h1 h2=>idRow_at m p h2)
 obtain ⟨⟨g1,g2,g3⟩,gs⟩:=insertionSort_holds (lt:=fun x y:Fin (m+1)=>lexB key x.val y.val) (lex_swo key m) (idRow m) 0 (m+1) (by omega) (by rw [idRow_size];exact Nat.le_refl _)
 unfold placesBy
 rw [he]
 generalize insertionSort (fun x y:Fin (m+1)=>lexB key x.val y.val) (idRow m) 0 (m+1)=d at *
 rw [idRow_size] at g1
 have ex1:(d.extract 0 (m+1)).toList=d.toList:=by rw [Array.toList_extract,List.extract_eq_take_drop,List.drop_zero,List.take_of_length_le (by rw [Array.length_toList];omega)]
 have ex2:((idRow m).extract 0 (m+1)).toList=(idRow m).toList:=by rw [Array.toList_extract,List.extract_eq_take_drop,List.drop_zero,List.take_of_length_le (by rw [Array.length_toList,idRow_size];omega)]
 rw [ex1,ex2] at g3
 have hid:(idRow m).toList.map Fin.val=List.range (m+1):=by
  apply List.ext_getElem
  · simp [idRow]
  · intro i h1 h2
    have h3:i < m+1:=by simpa using h2
    have:=idRow_at m i h3
    rw [getElem!_pos _ i (by rw [idRow_size];exact h3)] at this
    rw [List.getElem_map,Array.getElem_toList,List.getElem_range]
    exact this
 have hp:(d.toList.map Fin.val).Perm (List.range (m+1)):=by rw [← hid];exact g3.map _
 refine ⟨?_,fun y=>by rw [hp.mem_iff,List.mem_range],by rw [hp.length_eq,List.length_range]⟩
 have hnd:(d.toList.map Fin.val).Nodup:=hp.nodup_iff.2 List.nodup_range
 rw [List.pairwise_iff_getElem]
 intro i j hi hj hij
 have hi':i < d.size:=by simpa using hi
 have hj':j < d.size:=by simpa using hj
 have h1:=gs i j (by omega) hij (by omega)
 rw [getElem!_pos d i hi',getElem!_pos d j hj'] at h1
 have hne:(d.toList.map Fin.val)[i]≠(d.toList.map Fin.val)[j]:=List.pairwise_iff_getElem.1 hnd i j hi hj hij
 simp only [List.getElem_map,Array.getElem_toList] at hne ⊢
 have n1 : ¬ Lex key d[j].val d[i].val:=fun h=>by
  have:=(lexB_iff key _ _).2 h
  simp only at h1
  rw [this] at h1;cases h1
 unfold Lex at *
 omega
end Go.Proofs.YtodhmbnfliajiaaGreatDoor.Q

