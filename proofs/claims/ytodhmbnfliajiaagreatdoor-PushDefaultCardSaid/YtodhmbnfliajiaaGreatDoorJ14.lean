/- Merged out of: Qx7, HandAfter, ShelfX, PureSort, PureOrders. -/
import Derived.Test.YtodhmbnfliajiaaGreatDoorQx0
import Derived.WalkSpells
import Derived.Lib.Hide
import Derived.Shelf.SlSortCmp.Insertion
import Derived.Shelf.SlicesQ.IndexFunc
import Derived.StillTail
import Derived.Great.Frames
/- Qx7: a text of this claim's proof,as printed or written,without what the claim does not use. -/
namespace Go.Proofs.YtodhmbnfliajiaaGreatDoor.Q
open Go.RowKit Go.Proofs.YtodhmbnfliajiaaGreatDoorW.PrintWords Go.Proofs.YtodhmbnfliajiaaGreatDoorW.PrintLast Go.Proofs.YtodhmbnfliajiaaGreatDoorW.PrintMore
attribute [local go_sem] max2_int min2_int max_two min_two max_three min_three max_four min_four
set_option linter.unusedVariables false
set_option linter.unusedSimpArgs false
def slices_Index_string_string.l0:Nat→List ByteArray→ByteArray→Int→Int→Option (Int)
 | 0,_,_,_,_=>none
 | k+1,x0,x1,x7,x8=>if x8 < x7 then (if 0≤x8 then (if x8 < (x0.length:Int) then (if x1.toList=(rdOf ByteArray.empty x0 x8).toList then (some x8) else (slices_Index_string_string.l0 k x0 x1 x7 (wrap64 (x8+1)))) else (none)) else (none)) else (some (-1))
def slices_Index_string_string.f (k:Nat) (l0:List ByteArray) (a1:ByteArray):Option (Int):=slices_Index_string_string.l0 k l0 a1 (l0.length:Int) 0
set_option maxHeartbeats 8000000 in
set_option maxRecDepth 100000 in
theorem slices_Index_string_string.calls (k:Nat) (A0:Option Addr) (c0:Nat) (l0:List ByteArray) (a1:ByteArray) (r:Int) (w:World) (hr0:Kd.C Kd.string w A0 l0.length l0) (hc0:l0.length≤c0) (h:slices_Index_string_string.f k l0 a1=some r) :
 Calls Tryz.prog 50 #[.slice A0 l0.length c0,.string a1] w fun e w'=>e=.returned (.int .i64 r)∧Drawn0 w w':=by
 have HR0:=Aside0.mk hr0;have HC0:=Aside0.mk hc0;clear hr0 hc0;have H:(slices_Index_string_string.l0 k l0 a1 (l0.length:Int) 0)=some r:=h;clear h;have H':=Aside0.mk H;clear H;go_enter Tryz.func50,Tryz.ntmps50;go_wp2;go_loopg [8] k (fun kq v8 w'=>∃ (x8_1:Int),v8=.int .i64 x8_1∧Aside0 (slices_Index_string_string.l0 kq l0 a1 (l0.length:Int) x8_1=some r)∧Aside0 (kq≤k)∧Drawn0 w w');case atStart=>exact ⟨(0),sz_,H',⟨Nat.le_refl _⟩,dz_⟩
 case round=>
  clear H';try clear p2
  obtain ⟨x8_1,rfl,HA,HK1,⟨m1,rfl⟩⟩:=hrel
  cases gk with
  | zero=>exact absurd HA.out (by simp [slices_Index_string_string.l0])
  | succ k1=>
   have H:=HA.out;clear HA;simp only [slices_Index_string_string.l0] at H;by_cases c3:x8_1 < (l0.length:Int)
   · rw [if_pos c3] at H;have c3b0:decide (x8_1 < (l0.length:Int))=true:=decide_eq_true c3;clear c3;by_cases c4:0≤x8_1
     · rw [if_pos c4] at H;have c4b0:decide (0≤x8_1)=true:=decide_eq_true c4;clear c4;by_cases c5:x8_1 < (l0.length:Int)
       · rw [if_pos c5] at H;have c5b0:decide (x8_1 < (l0.length:Int))=true:=decide_eq_true c5;clear c5;by_cases c6:a1.toList=(rdOf ByteArray.empty l0 x8_1).toList
         · rw [if_pos c6] at H;have c6b0:(a1.toList==(rdOf ByteArray.empty l0 x8_1).toList)=true:=beq_iff_eq.mpr c6;have c6b1:(a1.toList != (rdOf ByteArray.empty l0 x8_1).toList)=false:=bne_eq_false_iff_eq.mpr c6;clear c6;obtain rfl:=Option.some.inj H;have p122:0≤(x8_1:Int):=of_decide_eq_true as_;have q122:x8_1 < (l0.length:Int):=of_decide_eq_true as_;obtain ⟨ad122,e122,hx122_0⟩:=Kd.at_string HR0.out x8_1 p122 q122;cases e122;replace p122:=eq_true p122;replace q122:=eq_true q122;go_wp2;go_ret;exact ⟨sz_,dz_⟩
         · rw [if_neg c6] at H;have c6b0:(a1.toList==(rdOf ByteArray.empty l0 x8_1).toList)=false:=beq_eq_false_iff_ne.mpr c6;have c6b1:(a1.toList != (rdOf ByteArray.empty l0 x8_1).toList)=true:=bne_iff_ne.mpr c6;have H':=Aside0.mk H;clear H;have p122:0≤(x8_1:Int):=of_decide_eq_true as_;have q122:x8_1 < (l0.length:Int):=of_decide_eq_true as_;obtain ⟨ad122,e122,hx122_0⟩:=Kd.at_string HR0.out x8_1 p122 q122;cases e122;replace p122:=eq_true p122;replace q122:=eq_true q122;go_wp2;go_roundg k1;case measure=>have:=HK1.out;omega
           case rel=>exact ⟨(wrap64 (x8_1+1)),sz_,H',⟨by have:=HK1.out;omega⟩,dz_⟩
       · rw [if_neg c5] at H;exact absurd H (by simp)
     · rw [if_neg c4] at H;exact absurd H (by simp)
   · rw [if_neg c3] at H;have c3b0:decide (x8_1 < (l0.length:Int))=false:=decide_eq_false c3;clear c3;obtain rfl:=Option.some.inj H;go_wp2;go_ret;exact ⟨sz_,dz_⟩
end Go.Proofs.YtodhmbnfliajiaaGreatDoor.Q

/- HandAfter: a text of this claim's proof,as printed or written,without what the claim does not use. -/
namespace Go.Proofs.YtodhmbnfliajiaaGreatDoor.Q
open Go.RowKit Go.Proofs.YtodhmbnfliajiaaGreatDoorW.PrintWords Go.Proofs.YtodhmbnfliajiaaGreatDoorW.PrintLast
def agoraref27_after.f (a0 a1:ByteArray):Option (ByteArray×Bool):=if a1.size≤a0.size∧(a0.extract 0 a1.size).toList=a1.toList then some (a0.extract a1.size a0.size,true) else some (⟨#[]⟩,false)
set_option maxRecDepth 100000 in
set_option maxHeartbeats 2000000 in
theorem agoraref27_after.calls (a0 a1:ByteArray) (r1:ByteArray) (r2:Bool) (w:World) (h:agoraref27_after.f a0 a1=some (r1,r2)) :
 Calls Tryz.prog 66 #[.string a0,.string a1] w fun e w'=>e=.returned (.tuple #[.string r1,.bool r2])∧Drawn0 w w':=by
 unfold agoraref27_after.f at h;by_cases h1:a1.size≤a0.size
 · have d1:decide (a0.size < a1.size)=false:=decide_eq_false (by omega);have d2:decide ((a0.size:Int) < (a1.size:Int))=false:=decide_eq_false (by omega);by_cases h2:(a0.extract 0 a1.size).toList=a1.toList
   · rw [if_pos ⟨h1,h2⟩] at h;injection h with h;injection h with e1 e2
     subst e1;subst e2
     have b1:((a0.extract 0 a1.size).toList==a1.toList)=true:=by simp [h2]
     have b2:((a0.extract 0 a1.size).toList != a1.toList)=false:=by simp [h2]
     clear h2;go_enter Tryz.func66,Tryz.ntmps66;go_wp2;go_ret2;exact ⟨rfl,Drawn0.refl _⟩
   · rw [if_neg (fun h=>h2 h.2)] at h;injection h with h;injection h with e1 e2
     subst e1;subst e2
     have b1:((a0.extract 0 a1.size).toList==a1.toList)=false:=by simp [h2]
     have b2:((a0.extract 0 a1.size).toList != a1.toList)=true:=by simp [h2]
     clear h2;go_enter Tryz.func66,Tryz.ntmps66;go_wp2;go_ret2;exact ⟨rfl,Drawn0.refl _⟩
 · have d1:decide (a0.size < a1.size)=true:=decide_eq_true (by omega);have d2:decide ((a0.size:Int) < (a1.size:Int))=true:=decide_eq_true (by omega);rw [if_neg (fun h=>h1 h.1)] at h;injection h with h;injection h with e1 e2
   subst e1;subst e2
   clear h1;go_enter Tryz.func66,Tryz.ntmps66;go_wp2;go_ret2;exact ⟨rfl,Drawn0.refl _⟩
end Go.Proofs.YtodhmbnfliajiaaGreatDoor.Q

/- ShelfX: a text of this claim's proof,as printed or written,without what the claim does not use. -/
namespace Go.Proofs
open Go.Shelf
def Tryz.insL_ren:Go.Shelf.Ren:=⟨fun|20=>85|n=>n,fun|24=>3|22=>58|3=>3|25=>60|4=>4|0=>0|n=>n,fun|n=>n⟩
theorem Tryz.insL:Go.Proofs.SlLaysF.n20 Tryz.prog Tryz.insL_ren:={
 mixed:=by kernel_rfl
 f20:=⟨Tryz.f85.name,by decide,Tryz.func85.trans (congrArg some (by kernel_rfl))⟩
 t0:=Tryz.underlying0
 a0:=Tryz.isAgg0
 z0:=Tryz.sizeOf0
 v0:=Tryz.zeroValue0
 t3:=Tryz.underlying3
 a3:=Tryz.isAgg3
 z3:=Tryz.sizeOf3
 v3:=Tryz.zeroValue3
 t4:=Tryz.underlying4
 a4:=Tryz.isAgg4
 z4:=Tryz.sizeOf4
 v4:=Tryz.zeroValue4
 t22:=Tryz.underlying58
 a22:=Tryz.isAgg58
 z22:=Tryz.sizeOf58
 v22:=Tryz.zeroValue58
 a24:=Tryz.isAgg3
 z24:=Tryz.sizeOf3
 t25:=Tryz.underlying60
 a25:=Tryz.isAgg60
 z25:=Tryz.sizeOf60
 v25:=Tryz.zeroValue60 }
end Go.Proofs


/- PureSort: a text of this claim's proof,as printed or written,without what the claim does not use. -/
namespace Go.Proofs.YtodhmbnfliajiaaGreatDoor.Q
def Lex (key:Nat→Int) (a b:Nat):Prop:=key a < key b∨(key a=key b∧a < b)
theorem Lex.trans {key:Nat→Int} {a b c:Nat} (h:Lex key a b) (k:Lex key b c):Lex key a c:=by
 unfold Lex at *;omega
theorem first_least (key:Nat→Int) (p:Nat→Bool) : ∀ l:List Nat,l.Pairwise (Lex key)→∀ i,l.find? p=some i→p i=true∧i ∈ l∧∀ k ∈ l,p k=true→i=k∨Lex key i k
 | [],_,i,h=>by simp at h
 | a :: l,hp,i,h=>by
  have hq:=List.pairwise_cons.1 hp;by_cases c:p a=true
  · rw [List.find?_cons_of_pos c] at h;injection h with h
    subst h;refine ⟨c,List.mem_cons_self ..,fun k hk _=>?_⟩;rcases List.mem_cons.1 hk with rfl|hk
    · exact Or.inl rfl
    · exact Or.inr (hq.1 k hk)
  · rw [List.find?_cons_of_neg c] at h;obtain ⟨h1,h2,h3⟩:=first_least key p l hq.2 i h;refine ⟨h1,List.mem_cons_of_mem _ h2,fun k hk hpk=>?_⟩;rcases List.mem_cons.1 hk with rfl|hk
    · exact absurd hpk c
    · exact h3 k hk hpk
end Go.Proofs.YtodhmbnfliajiaaGreatDoor.Q

/- PureOrders: a text of this claim's proof,as printed or written,without what the claim does not use. -/
namespace Go.Proofs.YtodhmbnfliajiaaGreatDoor.Q
open Go.RowKit Go.Proofs.YtodhmbnfliajiaaGreatDoorW.PrintWords
set_option linter.unusedVariables false
set_option linter.unnecessarySimpa false
section
variable {P:Program} {ops:Array Oper} {Q:Exit→Act→World→Prop}
def looksBack (l:List Oper):Bool:=(List.range l.length).all fun i=>match l[i]? with
 | none=>true
 | some o=>o.guard.isNone && o.after.all fun e=>!Region.binds .any e || decide (e.on < i)
theorem looksBack_spec {l:List Oper} (h:looksBack l=true) {i:Nat} {o:Oper} (ho:l[i]?=some o):o.guard=none∧∀ e ∈ o.after,Region.binds .any e=true→e.on < i:=by
 unfold looksBack at h;rw [List.all_eq_true] at h;have hi:=(List.getElem?_eq_some_iff.1 ho).1;have:=h i (List.mem_range.2 hi);rw [ho] at this;simp only [Bool.and_eq_true,Option.isNone_iff_eq_none,Array.all_eq_true_iff_forall_mem,Bool.or_eq_true,Bool.not_eq_true',decide_eq_true_eq] at this;exact ⟨this.1,fun e he hb=>(this.2 e he).resolve_left (by rw [hb];decide)⟩
structure Stands (V:Nat→World→Value→Prop) (D:Nat→Nat) (n:Nat) (a0:Act) (w0:World) (listed:Array Bool) (a:Act) (w:World):Prop where
 below:Below w0.heap.size w0 w
 size:a.tmps.size=a0.tmps.size
 defers:a.defers=a0.defers
 kept : ∀ x,(∀ i,i < n→D i≠x)→a.eval (.tmp x)=a0.eval (.tmp x)
 done : ∀ i,i < n→listed.getD i false=true→V i w (a.eval (.tmp (D i)))
def Part (P:Program) (l:List Oper) (V:Nat→World→Value→Prop) (D:Nat→Nat) (a0:Act) (w0:World) (Q:Exit→Act→World→Prop) (i:Nat) (o:Oper):Prop :=
 ∀ a w,Below w0.heap.size w0 w→(∀ x,(∀ i,i < l.length→D i≠x)→a.eval (.tmp x)=a0.eval (.tmp x))→(∀ e ∈ o.after,Region.binds .any e=true→V e.on w (a.eval (.tmp (D e.on))))→
  ∀ K:Act→World→Prop,(∀ v w',V i w' v→Below w.heap.size w w'→K (a.put o.dst v) w')→Oper.wp P o a w K Q
theorem wpAny_parts (l:List Oper) (hl:looksBack l=true) (V:Nat→World→Value→Prop) (D:Nat→Nat) (a0:Act) (w0:World)
 (hV : ∀ i w w' v,Below w.heap.size w w'→V i w v→V i w' v)
 (hD : ∀ i o,l[i]?=some o→o.dst=some (D i)) (hinj : ∀ i j,i < l.length→j < l.length→D i=D j→i=j) (hin : ∀ i,i < l.length→D i < a0.tmps.size)
 (hp : ∀ i o,l[i]?=some o→Part P l V D a0 w0 Q i o)
 (hq : ∀ a w,Below w0.heap.size w0 w→a.tmps.size=a0.tmps.size→a.defers=a0.defers→(∀ x,(∀ i,i < l.length→D i≠x)→a.eval (.tmp x)=a0.eval (.tmp x))→(∀ i,i < l.length→V i w (a.eval (.tmp (D i))))→Q .normal a w) :
 ∀ fuel listed a w,listed.size=l.length→listed.toList.count false≤fuel→Stands V D l.length a0 w0 listed a w→wpAny P .any l.toArray Q fuel listed a w:=by
 have all_of : ∀ (listed:Array Bool),listed.size=l.length→Region.ready .any l.toArray listed=[]→∀ j,j < l.length→listed.getD j false=true:=by
  intro listed hs hr j
  induction j using Nat.strongRecOn with
  | _ j ih=>
   intro hj
   cases hc:listed.getD j false with
   | true=>rfl
   | false=>
    exfalso;have ho:l[j]?=some l[j]:=List.getElem?_eq_getElem hj
    have:j ∈ Region.ready .any l.toArray listed:=by
     refine mem_ready.2 ⟨?_,l[j],by simpa using ho,fun e he hb=>?_⟩
     · have hlt:j < listed.size:=by omega
       simp only [Array.getD_eq_getD_getElem?,Array.getElem?_eq_getElem hlt,Option.getD_some] at hc ⊢;exact hc
     · have hlt:=(looksBack_spec hl ho).2 e he hb;exact ih e.on hlt (by omega)
    rw [hr] at this;cases this
 intro fuel
 induction fuel with
 | zero=>
  intro listed a w hs hc hI
  have hall : ∀ j,j < l.length→listed.getD j false=true:=by
   intro j hj;have hlt:j < listed.size:=by omega
   have hm:false ∉ listed.toList:=by
    intro h;have:=List.count_pos_iff.2 h;omega
   simp only [Array.getD_eq_getD_getElem?,Array.getElem?_eq_getElem hlt,Option.getD_some]
   cases hx:listed[j] with
   | true=>rfl
   | false=>exact absurd (by rw [← hx];simp) hm
  refine ⟨?_,hq a w hI.below hI.size hI.defers hI.kept (fun i hi=>hI.done i hi (hall i hi))⟩;apply List.eq_nil_iff_forall_not_mem.2;intro j hj;obtain ⟨h1,o,ho,-⟩:=mem_ready.1 hj
  have hlt:j < l.length:=by
   have:=(Array.getElem?_eq_some_iff.1 ho).1;simpa using this
  have h2:=hall j hlt;have hlt':j < listed.size:=by omega
  simp only [Array.getD_eq_getD_getElem?,Array.getElem?_eq_getElem hlt',Option.getD_some] at h1 h2;rw [h1] at h2;cases h2
 | succ fuel ih=>
  intro listed a w hs hc hI;refine ⟨fun hr=>hq a w hI.below hI.size hI.defers hI.kept (fun i hi=>hI.done i hi (all_of listed hs hr i hi)),fun i hi=>?_⟩;obtain ⟨h1,o,ho,hdep⟩:=mem_ready.1 hi;have ho':l[i]?=some o:=by simpa using ho
  have hlt:i < l.length:=(List.getElem?_eq_some_iff.1 ho').1;have hlt':i < listed.size:=by omega
  refine wpOp_step (P:=P) (ops:=l.toArray) (i:=i) (o:=o) ho (fun K' hK=>?_);have hg:=(looksBack_spec hl ho').1;rw [if_pos (by simp [Region.wanted,hg])];refine hp i o ho' a w hI.below hI.kept (fun e he hb=>hI.done e.on (by have:=(looksBack_spec hl ho').2 e he hb;omega) (hdep e he hb)) K' (fun v w' hv hb=>hK _ _ ?_)
  have hf:listed.toList[i]'(by simpa using hlt')=false:=by
   simp only [Array.getD_eq_getD_getElem?,Array.getElem?_eq_getElem hlt',Option.getD_some] at h1;simpa using h1
  refine ih _ _ _ (by simpa using hs) ?_ ?_
  · rw [Array.toList_setIfInBounds,List.count_set (by simpa using hlt')];have hpos:0 < listed.toList.count false:=List.count_pos_iff.2 (by rw [← hf];exact List.getElem_mem _);rw [hf];generalize listed.toList.count false=m at *;have e1:(if (false==false)=true then 1 else 0)=1:=rfl;have e2:(if (true==false)=true then 1 else 0)=0:=rfl;rw [e1,e2];omega
  · have hd:=hD i o ho';rw [hd];have hDi:=hin i hlt;refine ⟨below_step hI.below hb,?_,?_,fun x hx=>?_,fun j hj hlj=>?_⟩
    · simpa [Act.put] using hI.size
    · simpa [Act.put] using hI.defers
    · rw [Act.eval_put_ne _ _ _ _ (hx i hlt)];exact hI.kept x hx
    · by_cases hij:i=j
      · subst hij;rw [Act.eval_put_same _ _ _ (by rw [hI.size];exact hDi)];exact hv
      · rw [Act.eval_put_ne _ _ _ _ (fun e=>hij (hinj i j hlt hj e))];refine hV j w w' _ hb (hI.done j hj ?_);rwa [getD_set_ne false hij] at hlj
def PartsFrom (P:Program) (l:List Oper) (V:Nat→World→Value→Prop) (D:Nat→Nat) (a0:Act) (w0:World) (Q:Exit→Act→World→Prop):Nat→List Oper→Prop
 | _,[]=>True
 | k,o :: r=>Part P l V D a0 w0 Q k o∧PartsFrom P l V D a0 w0 Q (k+1) r
theorem PartsFrom.at {l:List Oper} {V:Nat→World→Value→Prop} {D:Nat→Nat} {a0:Act} {w0:World} : ∀ (r:List Oper) (k:Nat),PartsFrom P l V D a0 w0 Q k r→∀ i o,r[i]?=some o→Part P l V D a0 w0 Q (k+i) o:=by
 intro r
 induction r with
 | nil=>intro k _ i o h;simp at h
 | cons x r ih=>
  intro k h i o ho
  cases i with
  | zero=>simp at ho;subst ho;exact h.1
  | succ i=>
   have:=ih (k+1) h.2 i o (by simpa using ho);rwa [Nat.add_right_comm] at this
def slotAt (ds:List Nat) (i:Nat):Nat:=ds.getD i 0
def slotsOk (l:List Oper) (ds:List Nat) (m:Nat):Bool:=decide (l.map (·.dst)=ds.map some) && (decide ds.Nodup && ds.all fun d=>decide (d < m))
theorem wp_region_parts {id:Nat} {a0:Act} {w:World} (l:List Oper) (ds:List Nat) (V:Nat→World→Value→Prop) (hm:P.follows .mixedOrders=true) (hl:looksBack l=true) (hs:slotsOk l ds a0.tmps.size=true)
 (hV : ∀ i w w' v,Below w.heap.size w w'→V i w v→V i w' v)
 (hp:PartsFrom P l V (slotAt ds) a0 w.drew Q 0 l)
 (hq : ∀ a w',Below w.heap.size w w'→a.tmps.size=a0.tmps.size→a.defers=a0.defers→(∀ x,x ∉ ds→a.eval (.tmp x)=a0.eval (.tmp x))→(∀ i,i < l.length→V i w' (a.eval (.tmp (slotAt ds i))))→Q .normal a w'):(Code.region id l.toArray true).wp P Q a0 w:=by
 unfold slotsOk at hs;simp only [Bool.and_eq_true,decide_eq_true_eq,List.all_eq_true] at hs;obtain ⟨hd,hn,hall⟩:=hs;have hlen:l.length=ds.length:=by have:=congrArg List.length hd;simpa using this
 have hD : ∀ i o,l[i]?=some o→o.dst=some (slotAt ds i):=by
  intro i o ho;have h1:(l.map (·.dst))[i]?=some o.dst:=by simp [ho]
  rw [hd] at h1;have hi:i < ds.length:=by rw [← hlen];exact (List.getElem?_eq_some_iff.1 ho).1
  unfold slotAt;simp [hi] at h1 ⊢;exact h1.symm
 have hx : ∀ x,(∀ i,i < l.length→slotAt ds i≠x)↔x ∉ ds:=by
  intro x;constructor
  · intro h hm;obtain ⟨i,hi,e⟩:=List.getElem_of_mem hm;exact h i (by omega) (by unfold slotAt;simp [hi,e])
  · intro h i hi e;apply h;rw [← e];unfold slotAt;have:i < ds.length:=by omega
    simp [this]
 refine wp_region_any hm ?_;refine wpAny_parts l hl V (slotAt ds) a0 w.drew hV hD ?_ ?_ (fun i o ho=>by have:=PartsFrom.at l 0 hp i o ho;rwa [Nat.zero_add] at this) ?_ _ _ _ _ (by simp) ?_ ?_
 · intro i j hi hj e;unfold slotAt at e;have hi':i < ds.length:=by omega
   have hj':j < ds.length:=by omega
   simp [hi',hj'] at e;have hpw:=List.pairwise_iff_getElem.1 hn;rcases Nat.lt_trichotomy i j with h|h|h
   · exact absurd e (hpw i j hi' hj' h)
   · exact h
   · exact absurd e.symm (hpw j i hj' hi' h)
 · intro i hi;have hi':i < ds.length:=by omega
   exact hall _ (by unfold slotAt;simp [hi'])
 · intro a w' hb h1 h2 h3 h4;exact hq a w' (below_step (below_drew1 (Below.refl _ _)) hb) h1 h2 (fun x hxx=>h3 x ((hx x).2 hxx)) h4
 · simp
 · exact ⟨Below.refl _ _,rfl,rfl,fun _ _=>rfl,fun i hi hc=>by rw [getD_replicate_false] at hc;cases hc⟩
end
end Go.Proofs.YtodhmbnfliajiaaGreatDoor.Q

