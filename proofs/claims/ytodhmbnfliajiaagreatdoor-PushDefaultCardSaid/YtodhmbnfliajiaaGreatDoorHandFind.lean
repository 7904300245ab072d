/- HandFind: a text of this claim's proof,as printed or written,without what the claim does not use. -/
import Derived.Test.YtodhmbnfliajiaaGreatDoorHandHolds
import Derived.Test.YtodhmbnfliajiaaGreatDoorJ12
namespace Go.Proofs.YtodhmbnfliajiaaGreatDoor.Q
open Go.RowKit Go.Shelf Go.Proofs.YtodhmbnfliajiaaGreatDoorW.PrintWords Go.Proofs.YtodhmbnfliajiaaGreatDoorW.PrintLast Go.Proofs.YtodhmbnfliajiaaGreatDoorW.PrintMore
set_option linter.unusedVariables false
abbrev RL:=S47
def ruleOk (x:EvV) (name:ByteArray) (mem lev:Int) (r:RL):Bool := !r.f2 && !(r.f3.any fun c=>!holdsB c.f0 c.f1 c.f2 c.f3 x name mem lev)
def bestStep (key:Nat→Int) (ok:Nat→Bool) (b:Option Nat) (i:Nat):Option Nat:=if ok i && (match b with|none=>true|some j=>decide (key i < key j)) then some i else b
def bestIdx (key:Nat→Int) (ok:Nat→Bool) (n:Nat):Option Nat:=(List.range n).foldl (bestStep key ok) none
def BestIs (key:Nat→Int) (ok:Nat→Bool) (n:Nat) (o:Option Nat):Prop:=match o with
 | none=>∀ k,k < n→ok k=false
 | some i=>ok i=true∧i < n∧∀ k,k < n→ok k=true→i=k∨Lex key i k
theorem best_spec (key:Nat→Int) (ok:Nat→Bool) : ∀ n,BestIs key ok n (bestIdx key ok n)
 | 0=>fun k hk=>by omega
 | n+1=>by
  have ih:=best_spec key ok n
  have e:bestIdx key ok (n+1)=bestStep key ok (bestIdx key ok n) n:=by
   unfold bestIdx;rw [List.range_succ,List.foldl_append];rfl
  rw [e];generalize bestIdx key ok n=b at *;unfold bestStep
  cases hok:ok n with
  | false=>
   rw [Bool.false_and,if_neg (by decide)]
   cases b with
   | none=>
    intro k hk;by_cases hkn:k=n
    · rw [hkn];exact hok
    · exact ih k (by omega)
   | some i=>
    refine ⟨ih.1,by have:=ih.2.1;omega,fun k hk ho=>?_⟩;by_cases hkn:k=n
    · rw [hkn,hok] at ho;cases ho
    · exact ih.2.2 k (by omega) ho
  | true=>
   rw [Bool.true_and]
   cases b with
   | none=>
    rw [if_pos rfl];refine ⟨hok,by omega,fun k hk ho=>?_⟩;by_cases hkn:k=n
    · exact .inl hkn.symm
    · rw [ih k (by omega)] at ho;cases ho
   | some i=>
    simp only;by_cases hlt:key n < key i
    · rw [if_pos (decide_eq_true hlt)];refine ⟨hok,by omega,fun k hk ho=>?_⟩;by_cases hkn:k=n
      · exact .inl hkn.symm
      · rcases ih.2.2 k (by omega) ho with rfl|h
        · exact .inr (.inl hlt)
        · exact .inr (by unfold Lex at *;omega)
    · rw [if_neg (by rw [decide_eq_false hlt];decide)];refine ⟨ih.1,by have:=ih.2.1;omega,fun k hk ho=>?_⟩;by_cases hkn:k=n
      · have:=ih.2.1;rw [hkn];exact .inr (by unfold Lex;omega)
      · exact ih.2.2 k (by omega) ho
theorem best_unique {key:Nat→Int} {ok:Nat→Bool} {n:Nat} {a b:Option Nat} (ha:BestIs key ok n a) (hb:BestIs key ok n b):a=b:=by
 cases a with
 | none=>cases b with
  | none=>rfl
  | some j=>exact absurd (ha j hb.2.1) (by rw [hb.1];decide)
 | some i=>cases b with
  | none=>exact absurd (hb i ha.2.1) (by rw [ha.1];decide)
  | some j=>
   rcases ha.2.2 j hb.2.1 hb.1 with h|h
   · rw [h]
   · rcases hb.2.2 i ha.2.1 ha.1 with h'|h'
     · rw [h']
     · unfold Lex at *;omega
def placesOf (key:Nat→Int):Nat→List Nat
 | 0=>[]
 | m+1=>placesBy key m
theorem placesOf_spec (key:Nat→Int) : ∀ n,(placesOf key n).Pairwise (Lex key)∧(∀ y,y ∈ placesOf key n↔y < n)∧(placesOf key n).length=n
 | 0=>by simp [placesOf]
 | m+1=>placesBy_spec key m
theorem find_best (key:Nat→Int) (ok:Nat→Bool) (n:Nat):(placesOf key n).find? ok=bestIdx key ok n:=by
 obtain ⟨h1,h2,_⟩:=placesOf_spec key n;refine best_unique (key:=key) (ok:=ok) (n:=n) ?_ (best_spec key ok n)
 cases h:(placesOf key n).find? ok with
 | none=>
  intro k hk;have:=List.find?_eq_none.1 h k ((h2 k).2 hk);simpa using this
 | some i=>
  obtain ⟨g1,g2,g3⟩:=first_least key ok _ h1 i h;exact ⟨g1,(h2 i).1 g2,fun k hk ho=>g3 k ((h2 k).2 hk) ho⟩
def clsOf (l:List RL) (i:Nat):Int:=(rd_T47 l (i:Int)).f0
def okAt (l:List RL) (x:EvV) (name:ByteArray) (mem lev:Int) (i:Nat):Bool:=ruleOk x name mem lev (rd_T47 l (i:Int))
def findB (l:List RL) (x:EvV) (user name:ByteArray) (mem lev:Int):Int×Bool :=
 if x.sender.toList=user.toList then (0,false) else match bestIdx (clsOf l) (okAt l x name mem lev) l.length with|none=>(0,false)|some i=>((i:Int),true)
set_option maxRecDepth 100000 in
set_option maxHeartbeats 8000000 in
theorem fails_calls (B:Nat) (q:S23) (x:EvV) (user name:ByteArray) (mem lev:Int) (W:World) (hT:Tabs W) (hp:q.f2.size≤1000000000) (hn:name.size≤1000000000) (hf : ∀ k,(fieldB x k).2.2.size≤1000000000) (hk:x.keys.length≤1000000000) (hx:x.Ok W)
 (hb:W.heap[B]?=some (.cells #[.string x.room,.string x.type,.string x.sender,.bool x.isS,.string x.key,.int .i64 x.kind,.int .i64 x.n,.string x.text,.slice x.A8 x.keys.length x.c8,.slice x.A9 x.list.length x.c9,.slice x.A10 x.prev.length x.c10,.slice x.A11 x.auth.length x.c11,.int .i64 x.depth,.int .i64 x.ts,.string x.hash,.slice x.A15 x.sigs.length x.c15,.string user,.string name,.int .i64 mem,.int .i64 lev] 32 (0,0))) :
 Calls Tryz.prog 37 #[.agg #[.string q.f0,.string q.f1,.string q.f2,.int .i64 q.f3],.pointer (some ⟨B,0,none⟩)] W fun e w'=>e=.returned (.bool (!holdsB q.f0 q.f1 q.f2 q.f3 x name mem lev))∧Below W.heap.size W w':=by
 have HB:=Lib.hid ((Below.refl W.heap.size W).alloc (Nat.le_refl _) (.cells #[.string q.f0,.string q.f1,.string q.f2,.int .i64 q.f3] 23));have HH:=Lib.hid (fun W' (h:Below W.heap.size W W')=>holds_calls q.f0 q.f1 q.f2 q.f3 x user name mem lev W' (hT.below h) hp hn hf hk (hx.below h));have hb1:=blk_alloc hb (.cells #[.string q.f0,.string q.f1,.string q.f2,.int .i64 q.f3] 23);have HB1:=Lib.hid hb1;have hu:=Tryz.underlying32;clear hT hx hf hk hp hn hb hb1;generalize holdsB q.f0 q.f1 q.f2 q.f3 x name mem lev=r at *;go_enter Tryz.func37,Tryz.ntmps37;go_wp2_with (first|((with_reducible refine gate_dst (N:=5) rfl ?_);refine wpList_load_row rfl 32 (.tmp 1) rfl B rfl 32 #[.string x.room,.string x.type,.string x.sender,.bool x.isS,.string x.key,.int .i64 x.kind,.int .i64 x.n,.string x.text,.slice x.A8 x.keys.length x.c8,.slice x.A9 x.list.length x.c9,.slice x.A10 x.prev.length x.c10,.slice x.A11 x.auth.length x.c11,.int .i64 x.depth,.int .i64 x.ts,.string x.hash,.slice x.A15 x.sigs.length x.c15,.string user,.string name,.int .i64 mem,.int .i64 lev] (0,0) _ HB1.out hu rfl kr_ ?_)|(go_at_call 11;refine (HH.out _ HB.out).mono ?_;rintro e w3 ⟨rfl,hb3⟩));go_ret;exact ⟨rfl,below_step HB.out hb3⟩
def fillTo (k n:Nat):List Int:=(List.range k).map (fun i:Nat=>(i:Int))++List.replicate (n - k) 0
theorem fillTo_set (k n:Nat) (h:k < n):(fillTo k n).set k (k:Int)=fillTo (k+1) n:=by
 unfold fillTo;rw [List.set_append_right _ _ (by simp),List.range_succ,List.map_append,List.append_assoc];congr 1
 rw [List.length_map,List.length_range,Nat.sub_self];obtain ⟨m,hm⟩ : ∃ m,n - k=m+1:=⟨n - k - 1,by omega⟩;rw [hm,List.replicate_succ,List.set_cons_zero,show n - (k+1)=m by omega];rfl
theorem fillTo_get (k n j:Nat) (hk:k≤n) (hj:j < k):(nums .i64 (fillTo k n))[j]?=some (.int .i64 (j:Int)):=by
 unfold nums fillTo;rw [List.getElem?_map,List.getElem?_append_left (by simp;exact hj)];simp [hj]
theorem intInfo:(Tryz.prog.info? 3).map (fun i=>(i.zero,i.size,i.bytes))=some (some (.int .i64 0),1,8):=kr_
def OrderIs (w:World) (D:Nat) (L:List Nat):Prop := ∀ k (h:k < L.length),w.cell? ⟨D,k,none⟩=some (.int .i64 ((L[k]):Int))
set_option maxRecDepth 100000 in
set_option maxHeartbeats 2000000 in
theorem order_calls (B D:Nat) (A:Option Addr) (c:Nat) (l:List RL) (W:World) (hl:l.length≤16) (hBD:B < D) (hWD:D < W.heap.size) (hC:Kd.C k47 W A l.length l) (hlow : ∀ ad,A=some ad→0 < l.length→ad.block < D)
 (hb:W.cell? ⟨B,0,none⟩=some (.slice A l.length c)) (ho:W.ownsRow D 3 1 (.slice (some ⟨D,0,none⟩) l.length l.length) l.length (nums .i64 (fillTo l.length l.length))) :
 Calls Tryz.prog 34 #[.slice (some ⟨D,0,none⟩) l.length l.length,.func (.func 35) #[] #[.pointer (some ⟨B,0,none⟩)]] W fun e w'=>e=.returned (.tuple #[])∧(Below D W w'∧OrderIs w' D (placesOf (clsOf l) l.length)):=by
 have eg : ∀ args w,(callFunc 35 args).run Tryz.prog w=.ok (.enter 35 args) w:=enters_of Tryz.func35 kr_ rfl
 cases hn:l.length with
 | zero=>
  refine sortStable_calls 0 0 (by omega) _ _ _ W _ ?_;refine (insert_none _ _ _ _ W).mono ?_;rintro e w' ⟨rfl,rfl⟩;exact ⟨rfl,Below.refl _ _,fun k h=>by simp [placesOf] at h⟩
 | succ m=>
  have hH:Sort.Holds (encP m) W D 0 (idRow m):=by
   intro j hj;rw [idRow_size] at hj;have h1:=ho.cells (g:=D) rfl j _ (fillTo_get l.length l.length j (Nat.le_refl _) (by omega));have h2:=ho.frozenAt j;rw [Nat.zero_add];refine ⟨?_,h2⟩;rw [add_plain] at h1;rw [h1];show some (Value.int .i64 (j:Int))=some (.int .i64 (((idRow m)[j]!).val:Int))
   rw [idRow_at m j hj]
  have hpos:0 < l.length:=by omega
  obtain ⟨ad,_,_,hA,-⟩:=at_T47 hC 0 (by omega) (by omega)
  have hcmp:CmpReads Tryz.prog 35 #[.pointer (some ⟨B,0,none⟩)] (encP m) (fun x y=>Lib.compareInt (clsOf l x.val) (clsOf l y.val)) D 0 (m+1) W:=by
   intro q os dk hdk x y;have hbl:=below_sortW (encP m) W D 0 q dk os (by omega)
   have hcell : ∀ i:Nat,i < l.length→(sortWorld (encP m) W D 0 q dk os).cell? (ad.add (i * 6))=some (.int .i64 (clsOf l i)):=by
    intro i hi;obtain ⟨ad',A3,c3,he,g0,-⟩:=at_T47 hC (i:Int) (by omega) (by omega);rw [hA] at he;injection he with he
    subst he;rw [Int.toNat_natCast] at g0;exact (hbl.cell (p:=ad.add (i * 6)) (by rw [add_block];exact hlow ad hA hpos)).trans g0
   have:=less_calls B A l.length c x.val y.val ad (clsOf l x.val) (clsOf l y.val) (sortWorld (encP m) W D 0 q dk os) (by have:=x.isLt;omega) (by have:=y.isLt;omega) (by omega) hA ((hbl.cell (p:=⟨B,0,none⟩) hBD).trans hb) (hcell x.val (by have:=x.isLt;omega)) (hcell y.val (by have:=y.isLt;omega));exact this
  have hI:=insert_calls 35 #[.pointer (some ⟨B,0,none⟩)] eg m (by omega) (clsOf l) D (m+1) W hH hcmp;refine sortStable_calls (m+1) (m+1) (by omega) _ _ _ W _ (hI.mono ?_);rintro e w' ⟨rfl,q,rfl⟩;refine ⟨rfl,?_,?_⟩
  · have h0:=below_sortW (encP m) W D 0 0 (sortedBy (clsOf l) m) #[] (by omega);have h1:sortWorld (encP m) W D 0 0 (sortedBy (clsOf l) m) #[]=(Sort.putRow (encP m) W D 0 (sortedBy (clsOf l) m)).drewN 0:=sortWorld_none _ _ _ _ _ _;rw [h1] at h0;exact pw_below_drewN h0 q
  · intro k hk;have hlen:(placesOf (clsOf l) (m+1)).length=m+1:=(placesOf_spec (clsOf l) (m+1)).2.2
    have hsz:(sortedBy (clsOf l) m).size=m+1:=by
     have:(placesOf (clsOf l) (m+1)).length=(sortedBy (clsOf l) m).size:=by
      show ((sortedBy (clsOf l) m).toList.map Fin.val).length=_
      simp
     omega
    have hH2:=Sort.holds_putRow (encP m) W D 0 (idRow m) (sortedBy (clsOf l) m) hH (by rw [idRow_size];exact hsz);have:=(hH2 k (by omega)).1;rw [Nat.zero_add] at this;refine this.trans ?_;have hk2:k < (sortedBy (clsOf l) m).size:=by omega
    have e2:(placesOf (clsOf l) (m+1))[k]=((sortedBy (clsOf l) m)[k]'hk2).val:=by
     have e3:(placesOf (clsOf l) (m+1))[k]?=some ((sortedBy (clsOf l) m)[k]'hk2).val:=by
      show (((sortedBy (clsOf l) m).toList.map Fin.val)[k]?=_)
      rw [List.getElem?_map,Array.getElem?_toList,Array.getElem?_eq_getElem hk2];rfl
     rw [List.getElem?_eq_getElem hk] at e3;exact Option.some.inj e3
    rw [e2,getElem!_pos _ k hk2]
set_option maxRecDepth 100000 in
set_option maxHeartbeats 8000000 in
theorem find_calls (A:Option Addr) (c:Nat) (l:List RL) (x:EvV) (user name:ByteArray) (mem lev:Int) (w:World) (hT:Tabs w) (hl:l.length≤16) (hC:Kd.C k47 w A l.length l) (hc:l.length≤c)
 (hp : ∀ r ∈ l,r.f3.length≤9223372036854775806∧∀ q ∈ r.f3,q.f2.size≤1000000000) (hn:name.size≤1000000000) (hf : ∀ k,(fieldB x k).2.2.size≤1000000000) (hk:x.keys.length≤1000000000) (hx:x.Ok w) :
 Calls Tryz.prog 14 #[.slice A l.length c,.agg #[.string x.room,.string x.type,.string x.sender,.bool x.isS,.string x.key,.int .i64 x.kind,.int .i64 x.n,.string x.text,.slice x.A8 x.keys.length x.c8,.slice x.A9 x.list.length x.c9,.slice x.A10 x.prev.length x.c10,.slice x.A11 x.auth.length x.c11,.int .i64 x.depth,.int .i64 x.ts,.string x.hash,.slice x.A15 x.sigs.length x.c15,.string user,.string name,.int .i64 mem,.int .i64 lev]] w fun e w'=>e=.returned (.tuple #[.int .i64 (findB l x user name mem lev).1,.bool (findB l x user name mem lev).2])∧Below w.heap.size w w':=by
 have hv:=findB.eq_1 l x user name mem lev;have HB:=Lib.hid (((Below.refl w.heap.size w).alloc (Nat.le_refl _) (.cells #[.slice A l.length c] 37)).alloc (by simp) (.cells #[.string x.room,.string x.type,.string x.sender,.bool x.isS,.string x.key,.int .i64 x.kind,.int .i64 x.n,.string x.text,.slice x.A8 x.keys.length x.c8,.slice x.A9 x.list.length x.c9,.slice x.A10 x.prev.length x.c10,.slice x.A11 x.auth.length x.c11,.int .i64 x.depth,.int .i64 x.ts,.string x.hash,.slice x.A15 x.sigs.length x.c15,.string user,.string name,.int .i64 mem,.int .i64 lev] 32));by_cases h0:x.sender.toList=user.toList
 · have b0:(x.sender.toList==user.toList)=true:=by simp [h0]
   rw [if_pos h0] at hv;have HV:=Lib.hid hv;clear hv h0 hT hp hx hf;go_enter Tryz.func14,Tryz.ntmps14;go_wp2;go_ret2;exact ⟨by rw [HV.out];rfl,HB.out⟩
 · have b0:(x.sender.toList==user.toList)=false:=by simp [h0]
   rw [if_neg h0] at hv;have HV:=Lib.hid hv;clear hv h0;have hmk:=print_make_int (P:=Tryz.prog) 58 3 (.int .i64 0) 8 Tryz.underlying58 intInfo rfl (by decide) (l.length:Int) (by omega) (by omega);simp only [Int.toNat_natCast] at hmk;go_enter Tryz.func14,Tryz.ntmps14;go_wp2;have hkl:=blk_alloc (blk_alloc (blk_new w (.cells #[.slice A l.length c] 37)) (.cells #[.string x.room,.string x.type,.string x.sender,.bool x.isS,.string x.key,.int .i64 x.kind,.int .i64 x.n,.string x.text,.slice x.A8 x.keys.length x.c8,.slice x.A9 x.list.length x.c9,.slice x.A10 x.prev.length x.c10,.slice x.A11 x.auth.length x.c11,.int .i64 x.depth,.int .i64 x.ts,.string x.hash,.slice x.A15 x.sigs.length x.c15,.string user,.string name,.int .i64 mem,.int .i64 lev] 32)) (.cells (madeCells #[.int .i64 0] l.length) 3);have hks:=blk_alloc (blk_new (w.alloc (.cells #[.slice A l.length c] 37)) (.cells #[.string x.room,.string x.type,.string x.sender,.bool x.isS,.string x.key,.int .i64 x.kind,.int .i64 x.n,.string x.text,.slice x.A8 x.keys.length x.c8,.slice x.A9 x.list.length x.c9,.slice x.A10 x.prev.length x.c10,.slice x.A11 x.auth.length x.c11,.int .i64 x.depth,.int .i64 x.ts,.string x.hash,.slice x.A15 x.sigs.length x.c15,.string user,.string name,.int .i64 mem,.int .i64 lev] 32)) (.cells (madeCells #[.int .i64 0] l.length) 3);rw [show (w.alloc (.cells #[.slice A l.length c] 37)).heap.size=w.heap.size+1 by simp] at hks;have hO:=own_made' ((w.alloc (.cells #[.slice A l.length c] 37)).alloc (.cells #[.string x.room,.string x.type,.string x.sender,.bool x.isS,.string x.key,.int .i64 x.kind,.int .i64 x.n,.string x.text,.slice x.A8 x.keys.length x.c8,.slice x.A9 x.list.length x.c9,.slice x.A10 x.prev.length x.c10,.slice x.A11 x.auth.length x.c11,.int .i64 x.depth,.int .i64 x.ts,.string x.hash,.slice x.A15 x.sigs.length x.c15,.string user,.string name,.int .i64 mem,.int .i64 lev] 32)) (w.heap.size+1+1) 3 .i64 l.length (by simp) (by omega);rw [show ((w.alloc (.cells #[.slice A l.length c] 37)).alloc (.cells #[.string x.room,.string x.type,.string x.sender,.bool x.isS,.string x.key,.int .i64 x.kind,.int .i64 x.n,.string x.text,.slice x.A8 x.keys.length x.c8,.slice x.A9 x.list.length x.c9,.slice x.A10 x.prev.length x.c10,.slice x.A11 x.auth.length x.c11,.int .i64 x.depth,.int .i64 x.ts,.string x.hash,.slice x.A15 x.sigs.length x.c15,.string user,.string name,.int .i64 mem,.int .i64 lev] 32)).heap.size=w.heap.size+1+1 by simp,List.length_replicate] at hO;have hB3:=HB.out.alloc HB.out.size (.cells (madeCells #[.int .i64 0] l.length) 3);have hz3:w.heap.size+1+1 < (((w.alloc (.cells #[.slice A l.length c] 37)).alloc (.cells #[.string x.room,.string x.type,.string x.sender,.bool x.isS,.string x.key,.int .i64 x.kind,.int .i64 x.n,.string x.text,.slice x.A8 x.keys.length x.c8,.slice x.A9 x.list.length x.c9,.slice x.A10 x.prev.length x.c10,.slice x.A11 x.auth.length x.c11,.int .i64 x.depth,.int .i64 x.ts,.string x.hash,.slice x.A15 x.sigs.length x.c15,.string user,.string name,.int .i64 mem,.int .i64 lev] 32)).alloc (.cells (madeCells #[.int .i64 0] l.length) 3)).heap.size:=by simp
   have hlow : ∀ ad,A=some ad→0 < l.length→ad.block < w.heap.size:=by
    intro ad hA h0;obtain ⟨ad',_,_,he,g0,-⟩:=at_T47 hC 0 (by omega) (by omega);rw [hA] at he;injection he with he;subst he
    have:=World.block_lt_of_cell? w _ g0;rwa [add_block] at this
   have hfill:(List.replicate l.length (0:Int))=fillTo 0 l.length:=by simp [fillTo]
   rw [hfill] at hO;have HKL:=Lib.hid hkl;have HKS:=Lib.hid hks;have HO:=Lib.hid hO;have HB3:=Lib.hid hB3;have HLOW:=Lib.hid hlow
   have HC0:=Lib.hid hC;have HT0:=Lib.hid (fun W h=>hT.below (W:=W) h);have HX0:=Lib.hid (fun W h=>hx.below (W:=W) h)
   have HP:=Lib.hid hp;have HF:=Lib.hid hf
   clear hkl hks hO hB3 hlow hfill HB hmk hC hT hx hp hf;generalize ((w.alloc (.cells #[.slice A l.length c] 37)).alloc (.cells #[.string x.room,.string x.type,.string x.sender,.bool x.isS,.string x.key,.int .i64 x.kind,.int .i64 x.n,.string x.text,.slice x.A8 x.keys.length x.c8,.slice x.A9 x.list.length x.c9,.slice x.A10 x.prev.length x.c10,.slice x.A11 x.auth.length x.c11,.int .i64 x.depth,.int .i64 x.ts,.string x.hash,.slice x.A15 x.sigs.length x.c15,.string user,.string name,.int .i64 mem,.int .i64 lev] 32)).alloc (.cells (madeCells #[.int .i64 0] l.length) 3)=W3 at HKL HKS HO HB3 hz3 ⊢;obtain ⟨D,hD⟩ : ∃ D,D=w.heap.size+1+1:=⟨_,rfl⟩;rw [← hD] at HO hz3 ⊢;have HD:=Lib.hid hD;clear hD;go_loopw [7,22] (fun _ vi wr=>∃ k:Nat,k≤l.length∧vi=.int .i64 k∧Hid (wr.ownsRow D 3 1 (.slice (some ⟨D,0,none⟩) l.length l.length) l.length (nums .i64 (fillTo k l.length)))∧Hid (Below D W3 wr)) (fun _ vi _=>l.length - (intOf vi).toNat);case atStart=>exact ⟨0,Nat.zero_le _,rfl,HO,Below.refl _ _⟩
   case round=>
    obtain ⟨k,hkl,rfl,hown,hW⟩:=hrel;by_cases hlt:k < l.length
    · obtain ⟨hc1,hf1⟩:=own_at hown.out (k:Int) (by omega) (by omega);have hst:=own_store hown.out (k:Int) (k:Int);simp only [Int.toNat_natCast] at hc1 hf1 hst;rw [fillTo_set k l.length hlt] at hst;have HST:=Lib.hid hst.1;have HBW:=Lib.hid (hW.out.setCell (p:=⟨D,k,none⟩) (Nat.le_refl D) (.int .i64 (k:Int)));clear hst hown;have i1:(k:Int) < (l.length:Int):=by omega
      go_wp2;go_roundw;case rel=>exact ⟨k+1,by omega,by simp,HST,HBW⟩
      case measure=>simp [intOf];omega
    · obtain rfl:k=l.length:=by omega
      have hDsz:D < wr.heap.size:=by have:=hW.out.size;omega
      have hBD:w.heap.size < D:=by rw [HD.out];omega
      have hkl4:wr.heap[w.heap.size]?=_:=(hW.out.block w.heap.size hBD).trans HKL.out;have hks4:wr.heap[w.heap.size+1]?=_:=(hW.out.block (w.heap.size+1) (by rw [HD.out];omega)).trans HKS.out;have hB4:Below w.heap.size w wr:=HB3.out.trans (hW.out.mono (Nat.le_of_lt hBD));have HS:=Lib.hid (order_calls w.heap.size D A c l wr hl hBD hDsz (Kd.C_below HC0.out hB4) (fun ad h1 h2=>Nat.lt_trans (HLOW.out ad h1 h2) hBD) ((blk_cell hkl4 0).trans rfl) hown.out);have HKL4:=Lib.hid hkl4;have HKS4:=Lib.hid hks4;have HB4:=Lib.hid hB4
      clear hkl4 hks4 hB4 hown hW HKL HKS HO HB3 hz3 hlt hkl;go_wp2_with (go_at_call 34;refine HS.out.mono ?_;rintro e W5 ⟨rfl,hb5,ho5⟩);have hkl5:W5.heap[w.heap.size]?=_:=(hb5.block w.heap.size hBD).trans HKL4.out;have hks5:W5.heap[w.heap.size+1]?=_:=(hb5.block (w.heap.size+1) (by rw [HD.out];omega)).trans HKS4.out;have HB5:=Lib.hid (HB4.out.trans (hb5.mono (Nat.le_of_lt hBD)));have HKL5:=Lib.hid hkl5;have HKS5:=Lib.hid hks5;have HO5:=Lib.hid ho5
      clear hkl5 hks5 ho5 hb5 HKL4 HKS4 HB4 HS hDsz;have hfb:=find_best (clsOf l) (okAt l x name mem lev) l.length;obtain ⟨-,hmem,hlen⟩:=placesOf_spec (clsOf l) l.length;rw [← hfb] at HV;clear hfb;generalize placesOf (clsOf l) l.length=L at *;have HMEM:=Lib.hid hmem;have HLEN:=Lib.hid hlen
      clear hmem;go_loopw [9,10,35] (fun _ _ vi wr=>∃ k:Nat,k≤l.length∧vi=.int .i64 k∧Hid (L.find? (okAt l x name mem lev)=(L.drop k).find? (okAt l x name mem lev))∧Hid (Below W5.heap.size W5 wr)) (fun _ _ vi _=>l.length - (intOf vi).toNat);case atStart=>exact ⟨0,Nat.zero_le _,rfl,by simp [Hid],Below.refl _ _⟩
      case round=>
       obtain ⟨k,hkn,rfl,HI,hW⟩:=hrel;by_cases hlt:k < l.length
       · have hkL:k < L.length:=by omega
         have hiL:L[k] < l.length:=(HMEM.out _).1 (List.getElem_mem hkL);have hord:=pw_cell_below hW.out (HO5.out k hkL);have hI:=HI.out;rw [List.drop_eq_getElem_cons hkL] at hI;generalize L[k]=i at *;have hBw:Below w.heap.size w wr:=HB5.out.trans (hW.out.mono HB5.out.size);obtain ⟨ad,A3,c3,hA,g0,g1,g2,g3,g4,g5,L3,C3⟩:=at_T47 (Kd.C_below HC0.out hBw) (i:Int) (by omega) (by omega);subst hA;rw [Int.toNat_natCast] at g0 g1 g2 g3 g4 g5
         have hrl:rd_T47 l (i:Int) ∈ l:=by
          have:rd_T47 l (i:Int)=l[i]:=by simp [rd_T47,hiL]
          rw [this];exact List.getElem_mem hiL
         obtain ⟨hp1,hp2⟩:=HP.out _ hrl;have hcl:=(blk_cell (blk_below HKL5.out hW.out) 0).trans (rfl:_=some (Value.slice (some ad) l.length c));have hok:okAt l x name mem lev i=(!(rd_T47 l (i:Int)).f2 && !((rd_T47 l (i:Int)).f3.any fun q=>!holdsB q.f0 q.f1 q.f2 q.f3 x name mem lev)):=rfl;have HI2:=Lib.hid hI;clear hI HI hrl g0 g1 g4 g5;generalize rd_T47 l (i:Int)=r at *;have i1:(i:Int) < (l.length:Int):=by omega
         have i2:(0:Int)≤(i:Int):=by omega
         have i3:(k:Int) < (l.length:Int):=by omega
         have eg : ∀ args w,(callFunc 37 args).run Tryz.prog w=.ok (.enter 37 args) w:=enters_of Tryz.func37 kr_ rfl;have HCF:=Lib.hid (containsFunc_cond 37 #[.pointer (some ⟨w.heap.size+1,0,none⟩)] eg (fun q=>!holdsB q.f0 q.f1 q.f2 q.f3 x name mem lev) r.f3 hp1 A3 c3 wr C3 (fun W q hq hb=>fails_calls (w.heap.size+1) q x user name mem lev W (HT0.out W (hBw.trans (hb.mono hBw.size))) (hp2 q hq) hn HF.out hk (HX0.out W (hBw.trans (hb.mono hBw.size))) (blk_below (blk_below HKS5.out hW.out) hb)));have HC3:=Lib.hid C3;have HL3:=Lib.hid L3;have HBW:=Lib.hid hBw
         clear C3 L3 hBw hp1 hp2 eg hiL hlen hkL
         cases hoff:r.f2 with
         | true=>
          rw [hoff] at g2 hok;have HS:=Lib.hid (show L.find? (okAt l x name mem lev)=(L.drop (k+1)).find? (okAt l x name mem lev) by rw [HI2.out,List.find?_cons_of_neg (by rw [hok];simp)]);clear hok HI2 hoff HCF;go_wp2;go_roundw;case rel=>exact ⟨k+1,by omega,by simp,HS,hW⟩
          case measure=>simp [intOf];omega
         | false=>
          rw [hoff] at g2 hok
          cases hany:r.f3.any (fun q=>!holdsB q.f0 q.f1 q.f2 q.f3 x name mem lev) with
          | true=>
           rw [hany] at hok HCF;have HS:=Lib.hid (show L.find? (okAt l x name mem lev)=(L.drop (k+1)).find? (okAt l x name mem lev) by rw [HI2.out,List.find?_cons_of_neg (by rw [hok];decide)]);clear hok HI2 hoff hany;go_wp2_with (go_at_call 38;refine HCF.out.mono ?_;rintro e W6 ⟨rfl,hb6⟩);have HW6:=Lib.hid (hW.out.trans (hb6.mono hW.out.size));go_roundw;case rel=>exact ⟨k+1,by omega,by simp,HS,HW6⟩
           case measure=>simp [intOf];omega
          | false=>
           rw [hany] at hok HCF;have HS:=Lib.hid (show L.find? (okAt l x name mem lev)=some i by rw [HI2.out,List.find?_cons_of_pos (by rw [hok];decide)]);have hV2:findB l x user name mem lev=((i:Int),true):=by rw [HV.out,HS.out]
           have HV2:=Lib.hid hV2;clear hok HI2 hoff hany hV2;go_wp2_with (go_at_call 38;refine HCF.out.mono ?_;rintro e W6 ⟨rfl,hb6⟩);go_ret2;exact ⟨by rw [HV2.out];rfl,HBW.out.trans (hb6.mono HBW.out.size)⟩
       · obtain rfl:k=l.length:=by omega
         have hV2:findB l x user name mem lev=(0,false):=by
          rw [HV.out,HI.out,List.drop_eq_nil_of_le (by omega)];rfl
         have HV2:=Lib.hid hV2;clear hV2 hlt;go_wp2;go_ret2;exact ⟨by rw [HV2.out];rfl,HB5.out.trans (hW.out.mono HB5.out.size)⟩
end Go.Proofs.YtodhmbnfliajiaaGreatDoor.Q
