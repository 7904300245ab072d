/- Merged out of: Qx2, Tabs, HandEvent, PureGet, PureLeft. -/
import Derived.Lib.LaidU8
import Derived.Test.YtodhmbnfliajiaaGreatDoorHandField
import Derived.Test.YtodhmbnfliajiaaGreatDoorQx3
import Derived.Test.YtodhmbnfliajiaaGreatDoorPureRune
import Derived.Test.YtodhmbnfliajiaaGreatDoorQx4
/- Qx2: a text of this claim's proof,as printed or written,without what the claim does not use. -/
namespace Go.Proofs.YtodhmbnfliajiaaGreatDoor.Q
open Go.RowKit Go.Proofs.YtodhmbnfliajiaaGreatDoorW.PrintWords Go.Proofs.YtodhmbnfliajiaaGreatDoorW.PrintLast Go.Proofs.YtodhmbnfliajiaaGreatDoorW.PrintMore
attribute [local go_sem] max2_int min2_int max_two min_two max_three min_three max_four min_four
set_option linter.unusedVariables false
set_option linter.unusedSimpArgs false
theorem eqA80 (d:Nat) (w:World) (x0 y0:Int) (x1 y1:Bool) :
 (Op.equalIn (d+2) 80 (.agg #[.int .i32 x0,.bool x1]) (.agg #[.int .i32 y0,.bool y1])).run Tryz.prog w=.ok (x0==y0 && (x1==y1)) w:=by
 refine eqA_of Tryz.underlying80 kr_ ?_;refine eqf_cons (by rfl) (by go_simp;rfl) (by go_simp;rfl) (by go_simp) ?_;exact eqf_last (by rfl) (by go_simp;rfl) (by go_simp;rfl) (by go_simp)
end Go.Proofs.YtodhmbnfliajiaaGreatDoor.Q

/- Tabs: a text of this claim's proof,as printed or written,without what the claim does not use. -/
namespace Go.Proofs.YtodhmbnfliajiaaGreatDoor.Q
open Go.RowKit Go.Shelf Go.Proofs.YtodhmbnfliajiaaGreatDoorW.PrintWords
def Tabs (w:World):Prop:=Lib.Utf8Tabs 1 2 w∧∃ m:Int,w.cell? ⟨0,0,none⟩=some (.int .i64 m)
theorem Tabs.below {w W:World} (h:Tabs w) (hb:Below w.heap.size w W):Tabs W:=by
 obtain ⟨⟨h1,h2⟩,m,h3⟩:=h;exact ⟨⟨fun c hc=>pw_cell_below hb (h1 c hc),fun i hi=>⟨pw_cell_below hb (h2 i hi).1,pw_cell_below hb (h2 i hi).2⟩⟩,m,pw_cell_below hb h3⟩
end Go.Proofs.YtodhmbnfliajiaaGreatDoor.Q

/- HandEvent: a text of this claim's proof,as printed or written,without what the claim does not use. -/
namespace Go.Proofs.YtodhmbnfliajiaaGreatDoor.Q
open Go.RowKit Go.Proofs.YtodhmbnfliajiaaGreatDoorW.PrintWords Go.Proofs.YtodhmbnfliajiaaGreatDoorW.PrintLast Go.Proofs.YtodhmbnfliajiaaGreatDoorW.PrintMore
structure EvV.OkR (x:EvV) (w:World):Prop where
 ok:x.Ok w
 k10:Kd.C Kd.string w x.A10 x.prev.length x.prev
 l10:x.prev.length≤x.c10
 k11:Kd.C Kd.string w x.A11 x.auth.length x.auth
 l11:x.auth.length≤x.c11
 k15:Kd.C k69 w x.A15 x.sigs.length x.sigs
 l15:x.sigs.length≤x.c15
theorem EvV.OkR.below {x:EvV} {w W:World} (h:x.OkR w) (hb:Below w.heap.size w W):x.OkR W:=⟨h.ok.below hb,Kd.C_below h.k10 hb,h.l10,Kd.C_below h.k11 hb,h.l11,Kd.C_below h.k15 hb,h.l15⟩
def evC (x:EvV):Array Value:=#[.string x.room,.string x.type,.string x.sender,.bool x.isS,.string x.key,.int .i64 x.kind,.int .i64 x.n,.string x.text,.slice x.A8 x.keys.length x.c8,.slice x.A9 x.list.length x.c9,.slice x.A10 x.prev.length x.c10,.slice x.A11 x.auth.length x.c11,.int .i64 x.depth,.int .i64 x.ts,.string x.hash,.slice x.A15 x.sigs.length x.c15]
def EB (g:Nat) (x:EvV) (W:World):Prop:=W.heap[g]?=some (.cells (evC x) 30 (0,0))
end Go.Proofs.YtodhmbnfliajiaaGreatDoor.Q

/- PureGet: a text of this claim's proof,as printed or written,without what the claim does not use. -/
namespace Go.Proofs.YtodhmbnfliajiaaGreatDoor.Q
open Go.RowKit Go.Proofs.YtodhmbnfliajiaaGreatDoorW.PrintWords Go.Proofs.YtodhmbnfliajiaaGreatDoorW.PrintLast Go.Proofs.YtodhmbnfliajiaaGreatDoorW.PrintMore
theorem nat_succ_wrap (i:Nat) (h:i≤1000000000000):wrap64 ((i:Int)+1)=((i+1:Nat):Int):=by unfold wrap64;omega
def getOf (o:Option JS):Int×Int×ByteArray×List ByteArray×List JS×Bool :=
 match o with
 | none=>(0,0,⟨#[]⟩,[],[],false)
 | some x=>(x.f0,x.f1,x.f2,x.f3,x.f4,true)
theorem aclIdx_lo (x:ByteArray) : ∀ (l:List ByteArray) (i:Int),0≤i→aclIdx l x i = -1∨i≤aclIdx l x i
 | [],_,_=>Or.inl rfl
 | a :: l,i,h=>by
  unfold aclIdx;by_cases c:a.toList=x.toList
  · rw [if_pos c];exact Or.inr (Int.le_refl _)
  · rw [if_neg c];rcases aclIdx_lo x l (i+1) (by omega) with h|h
    · exact Or.inl h
    · exact Or.inr (by omega)
def valFrom (keys:List ByteArray) (list:List JS) (key:ByteArray) (i:Nat):Option JS :=
 if aclIdx (keys.drop i) key (i:Int) < 0 then none else if (list.length:Int)≤aclIdx (keys.drop i) key (i:Int) then none else some (rd_T27 list (aclIdx (keys.drop i) key (i:Int)))
theorem get_l0 (keys:List ByteArray) (hk:keys.length≤1000000000) (list:List JS) (key:ByteArray) (kd n:Int) (t:ByteArray) : ∀ (m i K:Nat),m=keys.length - i→i≤keys.length→2 * m+1 < K→
 agoraref01_Get.l0 K key (i:Int) kd n t keys list=some (getOf (valFrom keys list key i))
 | 0,i,K,hm,hi,hK=>by
  obtain ⟨K,rfl⟩ : ∃ j,K=j+2:=⟨K - 2,by omega⟩;have:i=keys.length:=by omega
  subst this;unfold agoraref01_Get.l0;rw [if_neg (by omega),agoraref01_Get.j1,if_neg (by decide)];unfold valFrom;rw [List.drop_length];rfl
 | m+1,i,K,hm,hi,hK=>by
  obtain ⟨K,rfl⟩ : ∃ j,K=j+2:=⟨K - 2,by omega⟩;have hlt:i < keys.length:=by omega
  have hrd:rdOf ByteArray.empty keys (i:Int)=keys[i]:=by simp [rdOf,hlt]
  have ih:=get_l0 keys hk list key kd n t m (i+1) K (by omega) (by omega) (by omega);unfold agoraref01_Get.l0;rw [if_pos (by omega),agoraref01_Get.j1];by_cases h1:i < list.length
  · rw [if_pos (decide_eq_true (by omega)),if_pos (by omega),if_pos (by omega),hrd,nat_succ_wrap i (by omega),ih];unfold valFrom;rw [List.drop_eq_getElem_cons hlt,aclIdx];by_cases h2:keys[i].toList=key.toList
    · rw [if_pos h2,if_pos (by omega),if_pos h2,if_neg (by omega),if_neg (by omega)];rfl
    · rw [if_neg h2,if_neg h2];rfl
  · rw [if_neg (by rw [decide_eq_false (by omega)];decide)];unfold valFrom;rcases aclIdx_lo key (keys.drop i) (i:Int) (by omega) with h|h
    · rw [if_pos (by omega)];rfl
    · rw [if_neg (by omega),if_pos (by omega)];rfl
theorem get_f (kd n:Int) (t:ByteArray) (keys:List ByteArray) (hk:keys.length≤1000000000) (list:List JS) (key:ByteArray) (K:Nat) (hK:2 * keys.length+1 < K):agoraref01_Get.f K kd n t keys list key=some (getOf (aclValue kd keys list key)):=by
 unfold agoraref01_Get.f aclValue;by_cases h:kd=5
 · rw [if_pos h,if_neg (by omega)];have:=get_l0 keys hk list key kd n t keys.length 0 K (by omega) (by omega) hK;exact this
 · rw [if_neg h,if_pos h];rfl
end Go.Proofs.YtodhmbnfliajiaaGreatDoor.Q

/- PureLeft: a text of this claim's proof,as printed or written,without what the claim does not use. -/
namespace Go.Proofs.YtodhmbnfliajiaaGreatDoor.Q
open Go.RowKit Go.Proofs.YtodhmbnfliajiaaGreatDoorW.PrintWords Go.Proofs.YtodhmbnfliajiaaGreatDoorW.PrintLast Go.Proofs.YtodhmbnfliajiaaGreatDoorW.PrintMore
def Okay (x:JS):Prop:=x.f3.length≤100∧x.f4.length≤300∧x.f2.size≤2000∧∀ y ∈ x.f3,y.size≤300
def OkayN:Nat→JS→Prop
 | 0,_=>True
 | n+1,x=>Okay x∧∀ y ∈ x.f4,OkayN n y
theorem left_l1 (d:Nat) (hd:d≤20) (ih : ∀ (x:JS) (n:Int),n≤300→∃ K r,agoralaw05_left.f K x.f0 x.f1 x.f2 x.f3 x.f4 n (d:Int)=some r∧-1≤r∧r≤300∧(0≤r→OkayN d x)) (x:JS) (hl:x.f4.length≤300) :
 ∀ (m i:Nat) (n:Int),m=x.f4.length - i→i≤x.f4.length→-1≤n→n≤300→∃ K r,agoralaw05_left.l1 K n ((d+1:Nat):Int) (i:Int) x.f0 x.f1 x.f2 x.f3 x.f4=some r∧-1≤r∧r≤300∧(0≤r→∀ y ∈ x.f4.drop i,OkayN d y)
 | 0,i,n,hm,hi,h1,h2=>by
  refine ⟨1,n,?_,h1,h2,fun _ y hy=>?_⟩
  · rw [agoralaw05_left.l1,if_neg (by omega)]
  · rw [List.drop_of_length_le (by omega)] at hy;cases hy
 | m+1,i,n,hm,hi,h1,h2=>by
  have hlt:i < x.f4.length:=by omega
  have hrd:rd_T27 x.f4 (i:Int)=x.f4[i]:=by simp [rd_T27,hlt]
  by_cases h0:n < 0
  · refine ⟨1,n,?_,h1,h2,fun h=>by omega⟩;rw [agoralaw05_left.l1,if_pos (by omega),if_neg (by omega)]
  · obtain ⟨K1,r1,e1,a1,b1,c1⟩:=ih x.f4[i] n h2;obtain ⟨K2,r2,e2,a2,b2,c2⟩:=left_l1 d hd ih x hl m (i+1) r1 (by omega) (by omega) a1 b1;have hw:wrap64 (((d+1:Nat):Int) - 1)=(d:Int):=by rw [wrap_small _ (by omega) (by omega)];omega
    refine ⟨K1+K2+1,r2,?_,a2,b2,fun h=>?_⟩
    · rw [agoralaw05_left.l1,if_pos (by omega),if_pos (by omega),if_pos (by omega),hrd,hw,at_rounds (fun k=>agoralaw05_left.mono _ _ _ _ _ _ _ k) (Nat.le_add_right K1 K2) e1,Option.bind_some,nat_succ_wrap i (by omega)];exact at_rounds (fun k=>(agoralaw05_left.mono_l k).2.2.2 _ _ _ _ _ _ _ _) (Nat.le_add_left K2 K1) e2
    · intro y hy;rw [List.drop_eq_getElem_cons hlt] at hy
      have hr1:0≤r1:=by
       by_cases hr:0≤r1
       · exact hr
       · exfalso
         have:r2=r1:=by
          have q:agoralaw05_left.l1 (K2+1) r1 ((d+1:Nat):Int) ((i+1:Nat):Int) x.f0 x.f1 x.f2 x.f3 x.f4=some r1:=by
           rw [agoralaw05_left.l1];by_cases z:((i+1:Nat):Int) < (x.f4.length:Int)
           · rw [if_pos z,if_neg (by omega)]
           · rw [if_neg z]
          have q2:=at_rounds (fun k=>(agoralaw05_left.mono_l k).2.2.2 _ _ _ _ _ _ _ _) (Nat.le_succ K2) e2;rw [q] at q2;injection q2 with q2;exact q2.symm
         omega
      rcases List.mem_cons.1 hy with rfl|hy
      · exact c1 hr1
      · exact c2 h y hy
theorem left_l0 (d:Nat) (x:JS) (hl:x.f3.length≤100) (Q:Int→Prop) (n:Int) (h : ∃ K r,agoralaw05_left.l1 K n (d:Int) 0 x.f0 x.f1 x.f2 x.f3 x.f4=some r∧-1≤r∧r≤300∧(0≤r→Q r)) :
 ∀ (m i:Nat),m=x.f3.length - i→i≤x.f3.length→∃ K r,agoralaw05_left.l0 K n (d:Int) (i:Int) x.f0 x.f1 x.f2 x.f3 x.f4=some r∧-1≤r∧r≤300∧(0≤r→Q r∧∀ y ∈ x.f3.drop i,y.size≤300)
 | 0,i,hm,hi=>by
  obtain ⟨K,r,e,q1,q2,q3⟩:=h;refine ⟨K+1,r,?_,q1,q2,fun h=>⟨q3 h,fun y hy=>by rw [List.drop_of_length_le (by omega)] at hy;cases hy⟩⟩;rw [agoralaw05_left.l0,if_neg (by omega)];exact e
 | m+1,i,hm,hi=>by
  obtain ⟨K,r,e,q1,q2,q3⟩:=left_l0 d x hl Q n h m (i+1) (by omega) (by omega);have hlt:i < x.f3.length:=by omega
  have hrd:rdOf ByteArray.empty x.f3 (i:Int)=x.f3[i]:=by simp [rdOf,hlt]
  by_cases c:((rdOf ByteArray.empty x.f3 (i:Int)).size:Int) > 300
  · refine ⟨1,-1,?_,by omega,by omega,by omega⟩;rw [agoralaw05_left.l0,if_pos (by omega),if_pos (by omega),if_pos c]
  · refine ⟨K+1,r,?_,q1,q2,fun h=>⟨(q3 h).1,fun y hy=>?_⟩⟩;rotate_left
    · rw [List.drop_eq_getElem_cons hlt] at hy;rcases List.mem_cons.1 hy with rfl|hy
      · rw [hrd] at c;omega
      · exact (q3 h).2 y hy
    rw [agoralaw05_left.l0,if_pos (by omega),if_pos (by omega),if_neg c,nat_succ_wrap i (by omega)];exact e
theorem left_f : ∀ (d:Nat),d≤20→∀ (x:JS) (n:Int),n≤300→∃ K r,agoralaw05_left.f K x.f0 x.f1 x.f2 x.f3 x.f4 n (d:Int)=some r∧-1≤r∧r≤300∧(0≤r→OkayN d x)
 | 0,_,x,n,hn=>by
  refine ⟨2,-1,?_,by omega,by omega,by omega⟩;rw [agoralaw05_left.f];by_cases h1:n < 1
  · rw [if_pos h1,agoralaw05_left.j0,if_pos rfl]
  · rw [if_neg h1,if_pos (by decide),agoralaw05_left.j0,if_pos rfl]
 | d+1,hd,x,n,hn=>by
  have bad:agoralaw05_left.j0 1 n ((d+1:Nat):Int) true x.f0 x.f1 x.f2 x.f3 x.f4=some (-1):=by rw [agoralaw05_left.j0,if_pos rfl]
  have fin : ∀ {P:Prop},agoralaw05_left.f 2 x.f0 x.f1 x.f2 x.f3 x.f4 n ((d+1:Nat):Int)=some (-1)→∃ K r,agoralaw05_left.f K x.f0 x.f1 x.f2 x.f3 x.f4 n ((d+1:Nat):Int)=some r∧-1≤r∧r≤300∧(0≤r→P):=fun e=>⟨2,-1,e,by omega,by omega,by omega⟩
  by_cases h1:n < 1
  · exact fin (by rw [agoralaw05_left.f,if_pos h1];exact bad)
  by_cases h2:(x.f2.size:Int) > 2000
  · exact fin (by rw [agoralaw05_left.f,if_neg h1,if_neg (by omega),if_pos h2];exact bad)
  by_cases h3:(x.f3.length:Int) > 100
  · exact fin (by rw [agoralaw05_left.f,if_neg h1,if_neg (by omega),if_neg h2,if_pos h3];exact bad)
  by_cases h4:(x.f4.length:Int) > 300
  · exact fin (by rw [agoralaw05_left.f,if_neg h1,if_neg (by omega),if_neg h2,if_neg h3,decide_eq_true h4];exact bad)
  have hw:wrap64 (n - 1)=n - 1:=wrap_small _ (by omega) (by omega)
  have hq : ∃ K r,agoralaw05_left.l1 K (n - 1) ((d+1:Nat):Int) 0 x.f0 x.f1 x.f2 x.f3 x.f4=some r∧-1≤r∧r≤300∧(0≤r→∀ y ∈ x.f4,OkayN d y):=by
   obtain ⟨K,r,e,a,b,c⟩:=left_l1 d (by omega) (left_f d (by omega)) x (by omega) x.f4.length 0 (n - 1) (by omega) (by omega) (by omega) (by omega);exact ⟨K,r,e,a,b,fun h y hy=>c h y (by simpa using hy)⟩
  obtain ⟨K,r,e,q1,q2,q3⟩:=left_l0 (d+1) x (by omega) (fun _=>∀ y ∈ x.f4,OkayN d y) (n - 1) hq x.f3.length 0 (by omega) (by omega);refine ⟨K+2,r,?_,q1,q2,fun h=>⟨⟨by omega,by omega,by omega,fun y hy=>(q3 h).2 y (by simpa using hy)⟩,(q3 h).1⟩⟩;rw [agoralaw05_left.f,if_neg h1,if_neg (by omega),if_neg h2,if_neg h3,decide_eq_false h4,agoralaw05_left.j0,if_neg (by decide),hw];exact e
section
variable (room type sender:ByteArray) (key:ByteArray) (c:JS) (prev auth:List ByteArray) (hash:ByteArray) (sigs:List S69)
structure EvFits:Prop where
 room:room.size≤2000
 type:type.size≤2000
 sender:sender.size≤2000
 key:key.size≤2000
 hash:hash.size≤2000
 prev:prev.length≤30
 auth:auth.length≤30
 sigs:sigs.length≤30
 okay:OkayN 20 c
end
end Go.Proofs.YtodhmbnfliajiaaGreatDoor.Q

