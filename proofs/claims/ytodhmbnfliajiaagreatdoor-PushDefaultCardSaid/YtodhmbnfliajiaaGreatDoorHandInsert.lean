/- HandInsert: a text of this claim's proof,as printed or written,without what the claim does not use. -/
import Derived.WalkSpells
import Derived.WalkSmall
import Derived.Lib.Hide
import Derived.Laws.CopyOwn
import Derived.StillTailTactics
import Derived.Test.YtodhmbnfliajiaaGreatDoorQx0
namespace Go.Proofs.YtodhmbnfliajiaaGreatDoor.Q
open Go.RowKit Go.Proofs.YtodhmbnfliajiaaGreatDoorW.PrintWords Go.Proofs.YtodhmbnfliajiaaGreatDoorW.PrintLast Go.Proofs.YtodhmbnfliajiaaGreatDoorW.PrintMore
set_option linter.unusedVariables false
set_option linter.unusedSimpArgs false
theorem C_flat {α:Type} {d:Kd α} {w:World} {ad:Addr} {n:Nat} {xs:List α} (h:d.C w (some ad) n xs) (hn:0 < n) :
 ∃ cs:List Value,cs.length=n * d.sz∧(∀ i u,cs[i]?=some u→w.cell? (ad.add i)=some u)∧(∀ u ∈ cs,u.oneCell'=true)∧∀ j p,xs[j]?=some p→d.K w p ((cs.drop (j * d.sz)).take d.sz):=by
 obtain ⟨h1,h2,h3⟩:=h;obtain ⟨ad',he,hc⟩:=h3 hn;injection he with he
 subst he
 have key : ∀ m,m≤n→∃ cs:List Value,cs.length=m * d.sz∧(∀ i u,cs[i]?=some u→w.cell? (ad.add i)=some u)∧(∀ u ∈ cs,u.oneCell'=true)∧∀ j p,j < m→xs[j]?=some p→d.K w p ((cs.drop (j * d.sz)).take d.sz):=by
  intro m
  induction m with
  | zero=>intro _;exact ⟨[],by simp,fun i u hu=>by simp at hu,fun u hu=>by simp at hu,fun j p hj=>by omega⟩
  | succ m ih=>
   intro hm;obtain ⟨cs,g1,g2,g3,g4⟩:=ih (by omega);have hlt:m < xs.length:=by omega
   obtain ⟨c,k1,k2,k3⟩:=hc m xs[m] (List.getElem?_eq_getElem hlt);refine ⟨cs++c,by rw [List.length_append,g1,k1,Nat.succ_mul],fun i u hu=>?_,fun u hu=>?_,fun j p hj hp=>?_⟩
   · by_cases hi:i < cs.length
     · rw [List.getElem?_append_left hi] at hu;exact g2 i u hu
     · rw [List.getElem?_append_right (by omega)] at hu;have:=k3 _ u hu;rwa [show m * d.sz+(i - cs.length)=i by omega] at this
   · rcases List.mem_append.1 hu with hu|hu
     · exact g3 u hu
     · exact d.K_one k2 u hu
   · by_cases hjm:j=m
     · subst hjm;rw [List.getElem?_eq_getElem hlt] at hp;injection hp with hp
       subst hp;rw [List.drop_append_of_le_length (by omega),List.drop_eq_nil_of_le (by omega),List.nil_append,List.take_of_length_le (by omega)];exact k2
     · have hle:j * d.sz+d.sz≤cs.length:=by
        rw [g1,← Nat.succ_mul];exact Nat.mul_le_mul_right _ (by omega)
       rw [List.drop_append_of_le_length (by omega),List.take_append_of_le_length (by rw [List.length_drop];omega)];exact g4 j p (by omega) hp
 obtain ⟨cs,g1,g2,g3,g4⟩:=key n (Nat.le_refl _);exact ⟨cs,g1,g2,g3,fun j p hp=>g4 j p (by have:=(List.getElem?_eq_some_iff.1 hp).1;omega) hp⟩
theorem C_of_block {α:Type} {d:Kd α} {w:World} {g:Nat} {t:TypeId} {cur:List Value} {xs:List α} (hg:w.heap[g]?=some (.cells cur.toArray t (0,0))) (hl:xs.length * d.sz≤cur.length) (hb:xs.length≤9223372036854775807) (hsz:0 < d.sz)
 (hK : ∀ j p,xs[j]?=some p→d.K w p ((cur.drop (j * d.sz)).take d.sz)):d.C w (some ⟨g,0,none⟩) xs.length xs:=by
 refine ⟨rfl,hb,fun _=>⟨_,rfl,fun j p hp=>⟨(cur.drop (j * d.sz)).take d.sz,?_,hK j p hp,fun i u hu=>?_⟩⟩⟩
 · have hj:=(List.getElem?_eq_some_iff.1 hp).1;have:j * d.sz+d.sz≤xs.length * d.sz:=by rw [← Nat.succ_mul];exact Nat.mul_le_mul_right _ (by omega)
   rw [List.length_take,List.length_drop];omega
 · rw [add_plain,blk_cell hg]
   have hi:i < d.sz:=by
    have:=(List.getElem?_eq_some_iff.1 hu).1;rw [List.length_take] at this;omega
   rw [List.getElem?_take_of_lt hi,List.getElem?_drop] at hu;simpa using hu
section
variable {P:Program}
theorem run_copy_cells (w:World) (dT sT ty elem:TypeId) (k g o dLen dCap:Nat) (a:Addr) (sLen sCap:Nat) (cur:Array Value) (t:TypeId) (cs:List Value)
 (hu:P.underlying dT=some (.slice elem)) (hs:(P.info? elem).map (·.size)=some k)
 (hg:w.heap[g]?=some (.cells cur t (0,0))) (hn:cs.length=Nat.min sLen dLen * k)
 (hsrc : ∀ j v,cs[j]?=some v→w.cell? (a.add j)=some v) (hfit:o+cs.length≤cur.size) (h1 : ∀ v ∈ cs,v.oneCell'=true) :
 (Builtin.copy_ #[dT,sT] ty #[.slice (some ⟨g,o,none⟩) dLen dCap,.slice (some a) sLen sCap]).run P w =
  .ok (goInt (Nat.min sLen dLen)) (w.setRow g (splice cur.toList o cs).toArray):=by
 have hl:=run_loadCells_list (P:=P) w a cs hsrc;have hst:=run_storeCells_at P g o t cs 0 cur w hg (by simpa using hfit) h1
 cases hq:P.info? elem with
 | none=>simp [hq] at hs
 | some i=>
  have hi:i.size=k:=by simpa [hq] using hs
  rw [hn] at hl;simp [Builtin.copy_,run_underlying hu,Builtin.lenOf,Builtin.firstCells,sizeOf,typeInfo,hq,hi,hl,hst,splice]
end
theorem reps_cat {α:Type} {R:α→List Value→Prop} {size:Nat} {ps qs:List α} {cs ds:List Value} (h:Reps R size ps cs) (h':Reps R size qs ds):Reps R size (ps++qs) (cs++ds):=by
 refine ⟨by rw [List.length_append,List.length_append,h.1,h'.1,Nat.add_mul],fun j p hp=>?_⟩;by_cases hj:j < ps.length
 · rw [List.getElem?_append_left hj] at hp;have:j * size+size≤cs.length:=by rw [h.1,← Nat.succ_mul];exact Nat.mul_le_mul_right _ hj
   rw [List.drop_append_of_le_length (by omega),List.take_append_of_le_length (by rw [List.length_drop];omega)];exact h.2 j p hp
 · rw [List.getElem?_append_right (by omega)] at hp;have e:j * size=cs.length+(j - ps.length) * size:=by rw [h.1,← Nat.add_mul];congr 1;omega
   rw [e,List.drop_length_add_append];exact h'.2 _ p hp
theorem reps_take {α:Type} {R:α→List Value→Prop} {size:Nat} {ps:List α} {cs:List Value} (h:Reps R size ps cs) (n:Nat) (hn:n≤ps.length):Reps R size (ps.take n) (cs.take (n * size)):=by
 have h3:n * size≤cs.length:=by rw [h.1];exact Nat.mul_le_mul_right _ hn
 refine ⟨by rw [List.length_take,List.length_take];rw [Nat.min_eq_left h3,Nat.min_eq_left hn],fun j p hp=>?_⟩
 have hj:j < n:=by
  have:=(List.getElem?_eq_some_iff.1 hp).1;rw [List.length_take] at this;omega
 rw [List.getElem?_take_of_lt hj] at hp;have:j * size+size≤n * size:=by rw [← Nat.succ_mul];exact Nat.mul_le_mul_right _ hj
 rw [List.drop_take,List.take_take,Nat.min_eq_left (by omega)];exact h.2 j p hp
theorem reps_drop {α:Type} {R:α→List Value→Prop} {size:Nat} {ps:List α} {cs:List Value} (h:Reps R size ps cs) (n:Nat):Reps R size (ps.drop n) (cs.drop (n * size)):=by
 refine ⟨by rw [List.length_drop,List.length_drop,h.1,Nat.sub_mul],fun j p hp=>?_⟩;rw [List.getElem?_drop] at hp;rw [List.drop_drop,← Nat.add_mul];exact h.2 _ p hp
theorem C_run {α:Type} {d:Kd α} {w:World} {A:Option Addr} {n:Nat} {xs:List α} (h:d.C w A n xs) (hn:0 < n) :
 ∃ ad cs,A=some ad∧(∀ i u,cs[i]?=some u→w.cell? (ad.add i)=some u)∧(∀ u ∈ cs,u.oneCell'=true)∧Reps (d.K w) d.sz xs cs:=by
 obtain ⟨ad,e,-⟩:=h.2.2 hn;subst e;obtain ⟨cs,g1,g2,g3,g4⟩:=C_flat h hn;exact ⟨ad,cs,rfl,g2,g3,by rw [g1,h.1],g4⟩
theorem splice_cat (a z c:List Value) (o:Nat) (h:a.length=o):splice (a++z) o c=(a++c)++z.drop c.length:=by
 subst h;unfold splice;rw [List.take_left,List.drop_length_add_append,List.append_assoc]
section
variable {P:Program} {ops:Array Oper} {rest:List Oper} {o:Oper} {a:Act} {Q:Exit→Act→World→Prop}
theorem step_append_grow {W:World} (hgd:o.guard=none) (s x:Operand) (t ti e:TypeId) (i:TypeInfo) (z:Value) (ho:o.op=.call { callee:=.builtin .append,args:=#[s,x],argTypes:=#[t,ti]})
 (ht:P.underlying t=some (.slice e)) {k:IntKind} (hti:P.underlying ti=some (.int k)) (hi:P.info? e=some i) (hz:i.zero=some z) (hzs:z.cells.size=i.size) (hsz:0 < i.size)
 (ad:Addr) (n cap m:Nat) (kx:IntKind) (xs:List Value) (hs:a.eval s=.slice (some ad) n cap) (hx:a.eval x=.int kx (m:Int)) (hl:xs.length=n * i.size) (hc : ∀ j u,xs[j]?=some u→W.cell? (ad.add j)=some u)
 (hcap:cap < n+m) (hm:0 < m) (hby:0 < i.bytes) (hbytes:(n+m) * i.bytes≤140737488355328)
 (h : ∀ w1 c zs,n+m≤c→c≤maxLen→zs.length=(c - n) * i.size→w1=W.drew.alloc (.cells (xs++zs).toArray e)→wpList P ops Q rest (a.put o.dst (.slice (some ⟨W.heap.size,0,none⟩) (n+m) c)) w1) :
 wpList P ops Q (o :: rest) a W:=by
 have hmb:m * i.bytes≤140737488355328:=Nat.le_trans (Nat.mul_le_mul_right _ (Nat.le_add_left m n)) hbytes;have hle:n+m≤140737488355328:=Nat.le_trans (Nat.le_mul_of_pos_right _ hby) hbytes;have h63:n+m≤maxLen:=by simp only [maxLen];omega
 have hbig : ¬ (281474976710656 < (m:Int) * (i.bytes:Int)):=by
  rw [← Int.natCast_mul];omega
 have hm':m≤140737488355328:=by omega
 have hw:IntKind.i64.wrap (m:Int)=m:=by rw [IntKind.wrap_i64];omega
 have hneg : ¬ ((m:Int) < 0):=by omega
 have hn : ¬ (n+m≤cap):=by omega
 have h63' : ¬ (9223372036854775807 < ((n:Int)+(m:Int))):=by omega
 have h48' : ¬ (281474976710656 < Builtin.nextslicecap (n+m) cap * i.bytes):=by
  have:=growslice_fits hcap hbytes;omega
 have hmz : ¬ (m * i.size=0):=Nat.mul_ne_zero (by omega) (by omega);have hfo:=run_firstCells_some (P:=P) W.drew i.size n ad n cap xs hl (by simpa using hc);have hge:=grownCap_ge W (n+m) cap e;have hcm:grownCap W (n+m) cap e≤maxLen:=grownCap_le_maxLen W (n+m) cap e h63
 have hrun:(Builtin.append_ #[t,ti] o.type #[.slice (some ad) n cap,.int kx (m:Int)]).run P W =
  .ok (.slice (some ⟨W.heap.size,0,none⟩) (n+m) (grownCap W (n+m) cap e)) (W.drew.alloc (.cells (xs++((Builtin.zeroCells z.cells m).toList++(Builtin.zeroCells z.cells (grownCap W (n+m) cap e - (n+m))).toList)).toArray e)):=by
  simp [Builtin.append_,run_underlying ht,run_underlying hti,sizeOf,typeInfo,zeroValue,hi,hz,asInt,asIntOf,hw,hneg,hbig,hn,h63',h48',Question.forced,hfo,newRow,grownCap,hmz]
  try
   congr 2
   apply Array.ext';simp [List.append_assoc]
 refine wpList_plain hgd fun K hK=>?_
 unfold Oper.wp execOp;simp only [ho,resolve,invoke,builtin,Sem.run_bind,Sem.run_pure,Result.andThen_ok,List.map_toArray,List.map_cons,List.map_nil,hs,hx,hrun];refine hK _ _ (h _ _ _ hge hcm ?_ rfl);rw [List.length_append,Array.length_toList,Array.length_toList,size_zeroCells,size_zeroCells,hzs,← Nat.add_mul];congr 1
 omega
theorem step_copy_cells {W:World} (hgd:o.guard=none) (s x:Operand) (dT sT elem:TypeId) (k g off dLen dCap sLen sCap:Nat) (ad:Addr) (cur:Array Value) (t:TypeId) (cs:List Value)
 (ho:o.op=.call { callee:=.builtin .copy,args:=#[s,x],argTypes:=#[dT,sT]}) (hs:a.eval s=.slice (some ⟨g,off,none⟩) dLen dCap) (hx:a.eval x=.slice (some ad) sLen sCap)
 (hu:P.underlying dT=some (.slice elem)) (hsz:(P.info? elem).map (·.size)=some k)
 (hg:W.heap[g]?=some (.cells cur t (0,0))) (hn:cs.length=Nat.min sLen dLen * k)
 (hsrc : ∀ j v,cs[j]?=some v→W.cell? (ad.add j)=some v) (hfit:off+cs.length≤cur.size) (h1 : ∀ v ∈ cs,v.oneCell'=true)
 (h : ∀ w1,w1=W.setRow g (splice cur.toList off cs).toArray→wpList P ops Q rest (a.put o.dst (goInt (Nat.min sLen dLen))) w1) :
 wpList P ops Q (o :: rest) a W:=by
 have hrun:=run_copy_cells (P:=P) W dT sT o.type elem k g off dLen dCap ad sLen sCap cur t cs hu hsz hg hn hsrc hfit h1;refine wpList_plain hgd fun K hK=>?_
 unfold Oper.wp execOp;simp only [ho,resolve,invoke,builtin,Sem.run_bind,Sem.run_pure,Result.andThen_ok,List.map_toArray,List.map_cons,List.map_nil,hs,hx,hrun];exact hK _ _ (h _ rfl)
end
set_option maxRecDepth 100000 in
set_option maxHeartbeats 2000000 in
theorem insert_rules (w:World) (A0 A2:Option Addr) (c2:Nat) (l0 l2:List S47) (h0:Kd.C k47 w A0 7 l0) (h2:Kd.C k47 w A2 1 l2) :
 Calls Tryz.prog 43 #[.slice A0 7 7,.int .i64 5,.slice A2 1 c2] w fun e w'=>∃ g c,e=.returned (.slice (some ⟨g,0,none⟩) 8 c)∧8≤c∧Kd.C k47 w' (some ⟨g,0,none⟩) 8 (l0.take 5++l2++l0.drop 5)∧Below w.heap.size w w':=by
 obtain ⟨i0,hi0,hzz⟩:=Option.map_eq_some_iff.1 info47;simp only [Prod.mk.injEq] at hzz;obtain ⟨hz0,hz1,hz2⟩:=hzz;have hsz:(Tryz.prog.info? 47).map (·.size)=some 6:=by rw [hi0];simp [hz1]
 obtain ⟨a0,cs0,rfl,hc0,ho0,hr0⟩:=C_run h0 (by omega);obtain ⟨a2,cs2,rfl,hc2,ho2,hr2⟩:=C_run h2 (by omega);have l0l:l0.length=7:=h0.1;have l2l:l2.length=1:=h2.1;have n0:cs0.length=42:=by have:=hr0.1;rw [l0l] at this;exact this
 have n2:cs2.length=6:=by have:=hr2.1;rw [l2l] at this;exact this
 have t0l:(cs0.take 30).length=30:=by rw [List.length_take,n0];rfl
 obtain ⟨g,hgw⟩ : ∃ g,g=w.heap.size:=⟨_,rfl⟩;have HG:=Lib.hid hgw;clear hgw;go_enter Tryz.func43,Tryz.ntmps43;go_wp2_with (first|((with_reducible refine gate_dst (N:=40) rfl ?_);refine step_append_grow rfl (.tmp 34) (.tmp 39) 37 3 47 i0 _ rfl Tryz.underlying37 Tryz.underlying3 hi0 hz0 (by rw [hz1];rfl) (by rw [hz1];decide) a0 5 7 3 .i64 (cs0.take 30) rfl rfl (by rw [hz1,List.length_take,n0];rfl) (fun j u hu=>hc0 j u (by have:=(List.getElem?_eq_some_iff.1 hu).1;rw [List.length_take] at this;rwa [List.getElem?_take_of_lt (by omega)] at hu)) (by decide) (by decide) (by rw [hz2];decide) (by rw [hz2];decide) ?_;intro w1 c zs hc5 hcm hzl hw1;rw [← HG.out];(obtain ⟨hb1,hk1⟩:Below w.heap.size w w1∧w1.heap[g]?=some (.cells (cs0.take 30++zs).toArray 47 (0,0)):=by (subst hw1;exact ⟨below_alloc (below_drew1 (Below.refl _ _)) _,by rw [HG.out];exact blk_new w.drew _⟩));clear hw1)|((with_reducible refine gate_dst (N:=45) rfl ?_);refine step_copy_cells rfl (.tmp 43) (.tmp 44) 37 37 47 6 g 30 3 (c - 5) 1 c2 a2 (cs0.take 30++zs).toArray 47 cs2 rfl rfl rfl Tryz.underlying37 hsz hk1 n2 (fun j v h=>pw_cell_below hb1 (hc2 j v h)) (by rw [List.size_toArray,List.length_append,t0l,hzl,hz1,n2];have:=Nat.mul_le_mul_right 6 (show 3≤c - 5 by omega);omega) ho2 ?_;intro w2 hw2;(obtain ⟨hb2,hk2⟩:Below w.heap.size w w2∧w2.heap[g]?=some (.cells ((cs0.take 30++cs2)++zs.drop 6).toArray 47 (0,0)):=by (subst hw2;rw [splice_cat _ _ _ 30 t0l,n2];exact ⟨below_setRow hb1 (by rw [HG.out];exact Nat.le_refl _) _,setRow_heap _ _ _ _ _ _ hk1⟩));clear hw2));have hw6:IntKind.i64.wrap 6=6:=by rw [IntKind.wrap_i64];rfl
 have hc6 : ¬ (c=6):=by omega
 go_still_tail 8,kr_;have hb3:Below w.heap.size w { w2 with drawn:=w2.drawn+1 }:=below_drew1 hb2;have hk3:({ w2 with drawn:=w2.drawn+1 }:World).heap[g]?=some (.cells ((cs0.take 30++cs2)++zs.drop 6).toArray 47 (0,0)):=hk2;generalize ({ w2 with drawn:=w2.drawn+1 }:World)=w3 at *;have t36:(cs0.take 30++cs2).length=36:=by rw [List.length_append,t0l,n2]
 have d30:(cs0.drop 30).length=12:=by rw [List.length_drop,n0]
 have had : ∀ j,(a0.add 30).add j=a0.add (30+j):=fun j=>by simp [Addr.add,Nat.add_assoc]
 refine step_copy_cells rfl (.tmp 50) (.tmp 53) 37 37 47 6 g 36 2 (c - 6) 2 2 (a0.add 30) _ 47 (cs0.drop 30) rfl rfl rfl Tryz.underlying37 hsz hk3 d30 (fun j v h=>by rw [had];rw [List.getElem?_drop] at h;exact pw_cell_below hb3 (hc0 _ v h)) (by rw [List.size_toArray,List.length_append,t36,d30,List.length_drop,hzl,hz1];have:=Nat.mul_le_mul_right 6 (show 3≤c - 5 by omega);omega) (fun v h=>ho0 v (List.mem_of_mem_drop h)) ?_;intro w4 hw4
 obtain ⟨hb4,hk4⟩:Below w.heap.size w w4∧w4.heap[g]?=some (.cells (((cs0.take 30++cs2)++cs0.drop 30)++(zs.drop 6).drop 12).toArray 47 (0,0)):=by
  subst hw4;rw [splice_cat _ _ _ 36 t36,d30];exact ⟨below_setRow hb3 (by rw [HG.out];exact Nat.le_refl _) _,setRow_heap _ _ _ _ _ _ hk3⟩
 clear hw4;go_wp2;go_ret;refine ⟨g,c,rfl,hc5,?_,hb4⟩;have hr0':=reps_cat (reps_cat ((reps_take hr0 5 (by omega)).imp_ (fun _ _ hp=>Kd.K_below _ hb4 hp)) (hr2.imp_ (fun _ _ hp=>Kd.K_below _ hb4 hp))) ((reps_drop hr0 5).imp_ (fun _ _ hp=>Kd.K_below _ hb4 hp));have hl8:(l0.take 5++l2++l0.drop 5).length=8:=by rw [List.length_append,List.length_append,List.length_take,List.length_drop,l0l,l2l];rfl
 have hle:(l0.take 5++l2++l0.drop 5).length * 6≤((cs0.take 30++cs2)++cs0.drop 30).length:=by rw [hl8,List.length_append,t36,d30];decide
 have:=C_of_block (d:=k47) (xs:=l0.take 5++l2++l0.drop 5) hk4 (show _ * 6≤_ from Nat.le_trans hle (by simp only [List.length_append];omega)) (by rw [hl8];decide) (by decide) (fun j p hp=>by
  have hj:=(List.getElem?_eq_some_iff.1 hp).1;have h6:j * 6+6≤(l0.take 5++l2++l0.drop 5).length * 6:=by rw [← Nat.succ_mul];exact Nat.mul_le_mul_right _ hj
  have:=hr0'.2 j p hp;show k47.K w4 p (((((cs0.take 30++cs2)++cs0.drop 30)++(zs.drop 6).drop 12).drop (j * 6)).take 6)
  rw [List.drop_append_of_le_length (show j * 6≤_ by omega),List.take_append_of_le_length (by rw [List.length_drop];omega)]
  exact this)
 rw [hl8] at this;exact this
end Go.Proofs.YtodhmbnfliajiaaGreatDoor.Q
