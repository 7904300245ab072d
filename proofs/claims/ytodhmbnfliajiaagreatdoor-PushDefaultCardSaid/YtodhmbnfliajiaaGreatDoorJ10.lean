/- Merged out of: Opens, PureStable. -/
import Derived.Test.YtodhmbnfliajiaaGreatDoorJ14
/- Opens: a text of this claim's proof,as printed or written,without what the claim does not use. -/
namespace Go.Proofs.YtodhmbnfliajiaaGreatDoor.Opens
open Go.RowKit Go.Proofs.YtodhmbnfliajiaaGreatDoorW.PrintWords
def At {α:Type} (P:Program) (t:TypeId) (d:Kd α) (Wf:α→Prop) (fuel:Nat):Prop :=
 ∀ (H:Type) (enc:TypeId×Value→H) (w:World) (cs:List Value) (x:DataW H×List MemPlace),DataW.trod enc P w 0 (fun _=>true) true fuel t cs=some x→∃ a,d.K w a cs∧Wf a
section
variable {P:Program} {t:TypeId} {fuel:Nat}
theorem int {k:IntKind} (ht:P.underlying t=some (.int k)):At P t (Kd.int k) (fun n=>(Lit.int k n).wf=true) fuel:=fun _ _ _ _ _ h=>by
 obtain ⟨n,rfl,_,hw⟩:=DataW.trod_int ht h;exact ⟨n,rfl,hw⟩
theorem bool (ht:P.underlying t=some .bool):At P t Kd.bool (fun _=>True) fuel:=fun _ _ _ _ _ h=>by
 obtain ⟨b,rfl,_⟩:=DataW.trod_bool ht h;exact ⟨b,rfl,trivial⟩
theorem string (ht:P.underlying t=some .string):At P t Kd.string (fun s=>s.size≤maxLen) fuel:=fun _ _ _ _ _ h=>by
 obtain ⟨s,rfl,_,hs⟩:=DataW.trod_string ht h;exact ⟨s,rfl,hs⟩
end
theorem choose_list {α:Type} {p:Nat→α→Prop} : ∀ (n:Nat),(∀ i,i < n→∃ a,p i a)→∃ l:List α,l.length=n∧∀ i a,l[i]?=some a→p i a
 | 0,_=>⟨[],rfl,fun i a h=>by simp at h⟩
 | n+1,h=>by
  obtain ⟨l,hl,hp⟩:=choose_list n (fun i hi=>h i (by omega));obtain ⟨a,ha⟩:=h n (by omega);refine ⟨l++[a],by simp [hl],fun i b hb=>?_⟩;by_cases hi:i < n
  · rw [List.getElem?_append_left (by omega)] at hb;exact hp i b hb
  · rw [List.getElem?_append_right (by omega)] at hb
    have:i - l.length=0:=by
     cases hq:i - l.length with
     | zero=>rfl
     | succ m=>rw [hq] at hb;simp at hb
    rw [this] at hb;simp at hb;subst hb
    rw [show i=n by omega];exact ha
theorem slice {α:Type} {P:Program} {t e:TypeId} {d:Kd α} {Wf:α→Prop} {fuel:Nat} (ht:P.underlying t=some (.slice e)) (hsz:P.cellsOf e=d.sz) (he:At P e d Wf fuel) :
 At P t (Kd.slice e d) (fun l=>l.length≤maxLen∧∀ x ∈ l,Wf x) (fuel+1):=fun H enc w cs x h=>by
 rcases DataW.trod_slice ht h with ⟨rfl,_⟩ | ⟨a,len,cap,elems,rest,n,hn,rfl,_,_,hlc,hcm,hel,hall,_⟩
 · refine ⟨[],⟨none,0,rfl,Nat.le_refl _,rfl,by simp,fun h=>absurd h (by simp)⟩,by simp,fun x hx=>by cases hx⟩
 · obtain rfl:n=fuel:=by omega
   have hone : ∀ i,i < len→∃ b,(∃ c,d.K w b c∧c.length=d.sz∧∀ q u,c[q]?=some u→w.cell? (a.add (i * d.sz+q))=some u)∧Wf b:=fun i hi=>by
    have h1:=hall i hi;rw [List.getElem?_eq_getElem (by omega)] at h1;obtain ⟨c,hc,ht'⟩:=Option.bind_eq_some_iff.1 h1;obtain ⟨b,hb,hw⟩:=he H enc w c _ ht';refine ⟨b,⟨c,hb,d.K_len hb,fun q u hq=>?_⟩,hw⟩;obtain ⟨_,hlen,hcell⟩:=World.cells?_some hc;have hq':q < c.length:=(List.getElem?_eq_some_iff.1 hq).1;have:=hcell q (by omega);rw [hsz] at this hlen;rw [← Addr.add_add a (i * d.sz) q,this];exact hq
   obtain ⟨l,hl,hp⟩:=choose_list len hone;refine ⟨l,⟨some a,cap,by rw [hl],by omega,rfl,by simp only [maxLen] at hcm;omega,fun _=>⟨a,rfl,fun j p hj=>?_⟩⟩,by simp only [maxLen] at hcm ⊢;omega,fun x hx=>?_⟩
   · obtain ⟨⟨c,hk,hcl,hcc⟩,_⟩:=hp j p hj;exact ⟨c,hcl,hk,hcc⟩
   · obtain ⟨i,hi,rfl⟩:=List.getElem_of_mem hx;exact (hp i _ (List.getElem?_eq_getElem hi)).2
def Fields {α:Type} (P:Program) (fs:List Field) (off:Nat) (d:Kd α) (Wf:α→Prop) (fuel:Nat):Prop :=
 ∀ (H:Type) (enc:TypeId×Value→H) (w:World) (cs:List Value),off+d.sz≤cs.length→
  (∀ f ∈ fs,∃ x,DataW.trod (H:=H) enc P w 0 (fun _=>true) true fuel f.type ((cs.drop f.offset).take (P.cellsOf f.type))=some x)→
  ∃ a,d.K w a ((cs.drop off).take d.sz)∧Wf a
theorem fields_one {α:Type} {P:Program} {f:Field} {d:Kd α} {Wf:α→Prop} {fuel:Nat} (h:At P f.type d Wf fuel) (hsz:P.cellsOf f.type=d.sz):Fields P [f] f.offset d Wf fuel:=fun H enc w cs _ hx=>by
 obtain ⟨x,hx⟩:=hx f (List.mem_singleton.2 rfl);rw [hsz] at hx;exact h H enc w _ _ hx
theorem fields_cons {α β:Type} {P:Program} {f:Field} {fs:List Field} {d:Kd α} {d':Kd β} {Wf:α→Prop} {Wf':β→Prop} {fuel:Nat} (h:At P f.type d Wf fuel) (hsz:P.cellsOf f.type=d.sz) (hr:Fields P fs (f.offset+d.sz) d' Wf' fuel) :
 Fields P (f :: fs) f.offset (Kd.pair d d') (fun x=>Wf x.1∧Wf' x.2) fuel:=fun H enc w cs hl hx=>by
 have hl':f.offset+(d.sz+d'.sz)≤cs.length:=hl;obtain ⟨a,ha,hwa⟩:=fields_one h hsz H enc w cs (by omega) (fun g hg=>hx g (by rw [List.mem_singleton.1 hg];exact List.mem_cons_self));obtain ⟨b,hb,hwb⟩:=hr H enc w cs (by omega) (fun g hg=>hx g (List.mem_cons_of_mem _ hg));refine ⟨(a,b),⟨_,_,?_,ha,hb⟩,hwa,hwb⟩;show (cs.drop f.offset).take (d.sz+d'.sz)=_
 rw [List.take_add,List.drop_drop]
theorem struct {α β:Type} {P:Program} {t:TypeId} {fs:Array Field} {d:Kd α} {Wf:α→Prop} {fuel:Nat} (ht:P.underlying t=some (.struct fs)) (hsz:P.cellsOf t=d.sz) (h:Fields P fs.toList 0 d Wf fuel) (f:β→α) (g:α→β) (hfg : ∀ x,f (g x)=x) :
 At P t (Kd.iso d f) (fun y=>Wf (f y)) (fuel+1):=fun H enc w cs x hx=>by
 obtain ⟨xs,n,hn,_,hlen,hxs,hall⟩:=DataW.trod_struct ht hx;obtain rfl:n=fuel:=by omega
 rw [hsz] at hlen
 obtain ⟨a,ha,hw⟩:=h H enc w cs (by omega) (fun q hq=>by
  obtain ⟨i,hi,rfl⟩:=List.getElem_of_mem hq;have hi':i < fs.size:=by simpa using hi
  have:=hall i fs[i] (Array.getElem?_eq_getElem hi');rw [List.getElem?_eq_getElem (by omega)] at this
  exact ⟨_,by simpa using this⟩)
 rw [List.drop_zero,List.take_of_length_le (by omega)] at ha;exact ⟨g a,by show d.K w (f (g a)) cs;rw [hfg];exact ha,by show Wf (f (g a));rw [hfg];exact hw⟩
theorem zero {α:Type} {P:Program} {t:TypeId} {d:Kd α} {Wf:α→Prop}:At P t d Wf 0:=fun _ _ _ _ _ h=>by simp [DataW.trod] at h
theorem fix_ {α:Type} {P:Program} {t:TypeId} {F:Kd α→Kd α} {sz:Nat} {E:List Nat} {hs : ∀ n,(Kd.upto F sz E n).sz=sz} {hE : ∀ n q,q ∈ (Kd.upto F sz E n).E→q ∈ E} {Wf:α→Prop}
 (h : ∀ fuel,At P t (Kd.upto F sz E fuel) Wf fuel) (fuel:Nat):At P t (Kd.fix F sz E hs hE) Wf fuel:=fun H enc w cs x hx=>by
 obtain ⟨a,ha,hw⟩:=h fuel H enc w cs x hx;exact ⟨a,⟨fuel,ha⟩,hw⟩
theorem mono_wf {α:Type} {P:Program} {t:TypeId} {d:Kd α} {Wf Wf':α→Prop} {fuel:Nat} (h:At P t d Wf fuel) (hi : ∀ x,Wf x→Wf' x):At P t d Wf' fuel:=fun H enc w cs x hx=>by
 obtain ⟨a,ha,hw⟩:=h H enc w cs x hx;exact ⟨a,ha,hi a hw⟩
theorem of_Trod {α:Type} {P:Program} {t:TypeId} {d:Kd α} {Wf:α→Prop} (h : ∀ fuel,At P t d Wf fuel) {H:Type} {enc:TypeId×Value→H} {w:World} {v:Value} {x:DataW H} {ps:List MemPlace}
 (hx:DataW.Trod enc P w 0 (fun _=>true) true t v x ps) : ∃ a,d.K w a v.cells.toList∧Wf a:=by
 obtain ⟨fuel,hx⟩:=hx;exact h fuel H enc w _ _ hx
end Go.Proofs.YtodhmbnfliajiaaGreatDoor.Opens

/- PureStable: a text of this claim's proof,as printed or written,without what the claim does not use. -/
namespace Go.Proofs.YtodhmbnfliajiaaGreatDoor.Q
open Go.Sort
section
variable {α:Type} [Inhabited α]
theorem swp_at (d:Array α) (j:Nat) (h:j+1 < d.size):(swp d (j+1) j)[j]! = d[j+1]!∧∀ p,p < j→(swp d (j+1) j)[p]! = d[p]! := by
 unfold swp;constructor
 · rw [getElem!_pos _ j (by simp;omega),Array.getElem_setIfInBounds,if_pos rfl];simp;omega
 · intro p hp;rw [getElem!_pos _ p (by simp;omega),Array.getElem_setIfInBounds,if_neg (by omega),Array.getElem_setIfInBounds,if_neg (by omega),getElem!_pos d p (by omega)];all_goals (simp;omega)
theorem inner_same (lt lt':α→α→Bool) (v:α→Nat) (hs : ∀ x y,v y < v x→lt x y=lt' x y) : ∀ (j:Nat) (d:Array α),j < d.size→(∀ p,p < j→v d[p]! < v d[j]!)→insInner lt 0 j d=insInner lt' 0 j d
 | 0,d,_,_=>by unfold insInner;rfl
 | j+1,d,hj,h=>by
  unfold insInner;rw [hs d[j+1]! d[j]! (h j (by omega))];obtain ⟨e1,e2⟩:=swp_at d j hj;have hz:(swp d (j+1) j).size=d.size:=by unfold swp;simp
  rw [inner_same lt lt' v hs j (swp d (j+1) j) (by omega) (fun p hp=>by rw [e1,e2 p hp];exact h p (by omega))]
end
def lexB (key:Nat→Int) (x y:Nat):Bool:=decide (key x < key y) || (decide (key x=key y) && decide (x < y))
theorem lexB_iff (key:Nat→Int) (x y:Nat):lexB key x y=true↔Lex key x y:=by
 unfold lexB Lex;simp
theorem lex_swo (key:Nat→Int) (m:Nat):SWO (fun x y:Fin (m+1)=>lexB key x.val y.val) where
 irrefl:=fun x=>by unfold lexB;simp
 trans:=fun x y z h1 h2=>by
  rw [lexB_iff] at *;exact Lex.trans h1 h2
 ntrans:=fun x y z h1 h2=>by
  have n1 : ¬ Lex key x.val y.val:=fun h=>by rw [(lexB_iff key _ _).2 h] at h1;cases h1
  have n2 : ¬ Lex key y.val z.val:=fun h=>by rw [(lexB_iff key _ _).2 h] at h2;cases h2
  cases h:lexB key x.val z.val with
  | false=>rfl
  | true=>
   have h3:=(lexB_iff key _ _).1 h;exfalso;unfold Lex at *;omega
theorem outer_same (key:Nat→Int) (m:Nat) : ∀ (k i:Nat) (d:Array (Fin (m+1))),k=m+1 - i→0 < i→i≤m+1→d.size=m+1→SortedIn (fun x y:Fin (m+1)=>lexB key x.val y.val) 0 i d→(∀ p,p < i→d[p]!.val < i)→(∀ p,i≤p→p < m+1→d[p]!.val=p)→
 insOuter (fun x y:Fin (m+1)=>decide (key x.val < key y.val)) 0 (m+1) i d=insOuter (fun x y:Fin (m+1)=>lexB key x.val y.val) 0 (m+1) i d
 | 0,i,d,hk,h0,hi,hz,hS,hlo,hhi=>by
  rw [insOuter,if_neg (by omega)];conv=>rhs;rw [insOuter,if_neg (by omega)]
 | k+1,i,d,hk,h0,hi,hz,hS,hlo,hhi=>by
  rw [insOuter,if_pos (by omega)];conv=>rhs;rw [insOuter,if_pos (by omega)]
  have hin:=inner_same (fun x y:Fin (m+1)=>decide (key x.val < key y.val)) (fun x y:Fin (m+1)=>lexB key x.val y.val) Fin.val (fun x y hxy=>by
   unfold lexB
   rw [decide_eq_false (show ¬ x.val < y.val by omega),Bool.and_false,Bool.or_false]) i d (by omega) (fun p hp=>by rw [hhi i (Nat.le_refl _) (by omega)];exact hlo p hp)
  rw [hin];obtain ⟨⟨g1,g2,g3⟩,gs⟩:=insInner_spec (lex_swo key m) swp_permIn permIn_refl permIn_trans 0 (i+1) i (by omega) i d (by omega) (Nat.le_refl _) (by omega) ⟨fun p q hap hpq hqi _ hq=>hS p q hap hpq (by omega),fun q h1 h2=>by omega⟩;refine outer_same key m k (i+1) _ (by omega) (by omega) (by omega) (by rw [g1];exact hz) gs (fun p hp=>?_) (fun p hp1 hp2=>by rw [g2 p (.inr hp1)];exact hhi p (by omega) hp2);have hsz:(insInner (fun x y:Fin (m+1)=>lexB key x.val y.val) 0 i d).size=m+1:=by rw [g1];exact hz
  have hmem:(insInner (fun x y:Fin (m+1)=>lexB key x.val y.val) 0 i d)[p]! ∈ ((insInner (fun x y:Fin (m+1)=>lexB key x.val y.val) 0 i d).extract 0 (i+1)).toList:=by
   rw [getElem!_pos _ p (by omega)];rw [Array.mem_toList_iff,Array.mem_extract_iff_getElem];exact ⟨p,by simp;omega,by simp⟩
  have hmem2:=g3.mem_iff.1 hmem;rw [Array.mem_toList_iff,Array.mem_extract_iff_getElem] at hmem2;obtain ⟨q,hq,e⟩:=hmem2;rw [← e];simp only [Nat.zero_add,Nat.sub_zero] at hq ⊢;have hq':q < i+1:=by omega
  have hqs:q < d.size:=by omega
  have:=getElem!_pos d q hqs;rw [← this];by_cases hqi:q=i
  · rw [hqi,hhi i (Nat.le_refl _) (by omega)];omega
  · have:=hlo q (by omega);omega
def idRow (m:Nat):Array (Fin (m+1)):=Array.ofFn (fun i:Fin (m+1)=>i)
theorem idRow_size (m:Nat):(idRow m).size=m+1:=by simp [idRow]
theorem idRow_at (m p:Nat) (h:p < m+1):(idRow m)[p]!.val=p:=by
 rw [getElem!_pos _ p (by rw [idRow_size];exact h)];simp [idRow]
def placesBy (key:Nat→Int) (m:Nat):List Nat:=(insertionSort (fun x y:Fin (m+1)=>decide (key x.val < key y.val)) (idRow m) 0 (m+1)).toList.map Fin.val
theorem placesBy_spec (key:Nat→Int) (m:Nat):(placesBy key m).Pairwise (Lex key)∧(∀ y,y ∈ placesBy key m↔y < m+1)∧(placesBy key m).length=m+1:=by
 have he:insertionSort (fun x y:Fin (m+1)=>decide (key x.val < key y.val)) (idRow m) 0 (m+1)=insertionSort (fun x y:Fin (m+1)=>lexB key x.val y.val) (idRow m) 0 (m+1):=by
  unfold insertionSort;exact outer_same key m m 1 (idRow m) (by omega) (by omega) (by omega) (idRow_size m) (fun i j h1 h2 h3=>by omega) (fun p hp=>by rw [idRow_at m p (by omega)];exact hp) (fun p h1 h2=>idRow_at m p h2)
 obtain ⟨⟨g1,g2,g3⟩,gs⟩:=insertionSort_holds (lt:=fun x y:Fin (m+1)=>lexB key x.val y.val) (lex_swo key m) (idRow m) 0 (m+1) (by omega) (by rw [idRow_size];exact Nat.le_refl _);unfold placesBy;rw [he];generalize insertionSort (fun x y:Fin (m+1)=>lexB key x.val y.val) (idRow m) 0 (m+1)=d at *;rw [idRow_size] at g1;have ex1:(d.extract 0 (m+1)).toList=d.toList:=by rw [Array.toList_extract,List.extract_eq_take_drop,List.drop_zero,List.take_of_length_le (by rw [Array.length_toList];omega)]
 have ex2:((idRow m).extract 0 (m+1)).toList=(idRow m).toList:=by rw [Array.toList_extract,List.extract_eq_take_drop,List.drop_zero,List.take_of_length_le (by rw [Array.length_toList,idRow_size];omega)]
 rw [ex1,ex2] at g3
 have hid:(idRow m).toList.map Fin.val=List.range (m+1):=by
  apply List.ext_getElem
  · simp [idRow]
  · intro i h1 h2;have h3:i < m+1:=by simpa using h2
    have:=idRow_at m i h3;rw [getElem!_pos _ i (by rw [idRow_size];exact h3)] at this;rw [List.getElem_map,Array.getElem_toList,List.getElem_range];exact this
 have hp:(d.toList.map Fin.val).Perm (List.range (m+1)):=by rw [← hid];exact g3.map _
 refine ⟨?_,fun y=>by rw [hp.mem_iff,List.mem_range],by rw [hp.length_eq,List.length_range]⟩;have hnd:(d.toList.map Fin.val).Nodup:=hp.nodup_iff.2 List.nodup_range;rw [List.pairwise_iff_getElem];intro i j hi hj hij;have hi':i < d.size:=by simpa using hi
 have hj':j < d.size:=by simpa using hj
 have h1:=gs i j (by omega) hij (by omega);rw [getElem!_pos d i hi',getElem!_pos d j hj'] at h1;have hne:(d.toList.map Fin.val)[i]≠(d.toList.map Fin.val)[j]:=List.pairwise_iff_getElem.1 hnd i j hi hj hij;simp only [List.getElem_map,Array.getElem_toList] at hne ⊢
 have n1 : ¬ Lex key d[j].val d[i].val:=fun h=>by
  have:=(lexB_iff key _ _).2 h;simp only at h1;rw [this] at h1;cases h1
 unfold Lex at *;omega
end Go.Proofs.YtodhmbnfliajiaaGreatDoor.Q

