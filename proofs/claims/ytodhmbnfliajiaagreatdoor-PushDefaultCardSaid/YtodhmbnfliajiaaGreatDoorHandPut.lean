/- HandPut: a text of this claim's proof,as printed or written,without what the claim does not use. -/
import Derived.Test.YtodhmbnfliajiaaGreatDoorJ13
namespace Go.Proofs.YtodhmbnfliajiaaGreatDoor.Q
open Go.RowKit Go.Proofs.YtodhmbnfliajiaaGreatDoorW.PrintWords Go.Proofs.YtodhmbnfliajiaaGreatDoorW.PrintLast Go.Proofs.YtodhmbnfliajiaaGreatDoorW.PrintMore
def putT:Bool×List (List Nat×List Nat):=(true,[([],[]),([],[]),([1],[1]),([0,2],[0,2]),([],[]),([4],[4]),([3,5,3],[3,5]),([],[]),([],[]),([8],[8]),([7,9,6],[7,9]),([],[]),([11],[11]),([10,12,10],[10,12]),([6,13],[6,13]),([14,13,0,1,2,3,4,5,6,7,8,9,10,11,12,13,14],[14])])
def putB:List Nat:=[0,0,2,7,0,16,63,0,0,256,1023,0,2048,8191,16383,32767]
theorem putTab:rtab .any (opsOf Tryz.f68 1)=putT:=kr_
theorem putBits:waitsOk putT.2 putB=true:=kr_
theorem info27:(Tryz.prog.info? 27).map (fun i=>(i.zero,i.size,i.bytes))=some (some (.agg #[(.int .i64 0),(.int .i64 0),(.string ⟨#[]⟩),(.slice none 0 0),(.slice none 0 0)]),5,80):=kr_
abbrev jrow (a b:Int) (t:ByteArray) (A:Option Addr) (n c:Nat) (B:Option Addr) (m d:Nat):List Value:=[.int .i64 a,.int .i64 b,.string t,.slice A n c,.slice B m d]
def putWrites (W:World) (g:Nat) (v0 v1 v2 v3 v4:Value):World:=((((W.setCell ⟨g,0,none⟩ v0).setCell ⟨g,1,none⟩ v1).setCell ⟨g,2,none⟩ v2).setCell ⟨g,3,none⟩ v3).setCell ⟨g,4,none⟩ v4
def PutInv (w11:World) (l:List ByteArray) (key:ByteArray) (rows:List (List Value)) (row:List Value) (A3:Option Addr) (c3:Nat) (A4:Option Addr) (c4:Nat) (g:Nat) (a0:Act) (b:Nat→Bool) (a:Act) (w':World):Prop :=
 ∃ (v0 v3 v5 v6 v7 v10 v12 v13 m14:Value) (w2:World),a=putSel a0 b [(0,7,v0),(2,9,.slice A3 l.length c3),(3,10,v3),(5,12,v5),(6,13,v6),(7,14,v7),(9,16,.slice A4 rows.length c4),(10,17,v10),(11,18,.agg row.toArray),(12,19,v12),(13,20,v13),(14,21,m14)]∧
  (b 15=false→w'=w2)∧(b 15=true→w'=putWrites w2 g (.int .i64 5) (.int .i64 0) (.string ⟨#[]⟩) v6 v13)∧(b 14=true→m14=.agg #[.int .i64 5,.int .i64 0,.string ⟨#[]⟩,v6,v13])∧Below w11.heap.size w11 w2∧
  Chain Kd.string 9 w11.heap.size l key (b 0) (b 3) (b 5) (b 6) v0 v3 v5 v6 w2∧Chain (Kd.raw 5) 27 w11.heap.size rows row (b 7) (b 10) (b 12) (b 13) v7 v10 v12 v13 w2
set_option linter.unusedSimpArgs false in
set_option maxHeartbeats 8000000 in
set_option maxRecDepth 100000 in
theorem put_calls (a0_0 a0_1:Int) (a0_2:ByteArray) (A3:Option Addr) (c3:Nat) (l:List ByteArray) (A4:Option Addr) (c4:Nat) (rows:List (List Value)) (key:ByteArray) (b0 b1:Int) (b2:ByteArray) (B3:Option Addr) (n3 d3:Nat) (B4:Option Addr) (n4 d4:Nat) (w:World)
 (hr3:Kd.C Kd.string w A3 l.length l) (hc3:l.length≤c3) (hr4:Kd.C (Kd.raw 5) w A4 rows.length rows) (hc4:rows.length≤c4) (hl:l.length < 8796093022207) (hm:rows.length < 1759218604440) :
 Calls Tryz.prog 68 #[.agg #[.int .i64 a0_0,.int .i64 a0_1,.string a0_2,.slice A3 l.length c3,.slice A4 rows.length c4],.string key,.agg #[.int .i64 b0,.int .i64 b1,.string b2,.slice B3 n3 d3,.slice B4 n4 d4]] w fun e w'=>
  ∃ (v3 v4:Value),e=.returned (.agg #[.int .i64 5,.int .i64 0,.string ⟨#[]⟩,v3,v4])∧Below w.heap.size w w'∧Kd.R Kd.string 9 w' w.heap.size (fun _=>True) v3 (l++[key])∧Kd.R (Kd.raw 5) 27 w' w.heap.size (fun _=>True) v4 (rows++[jrow b0 b1 b2 B3 n3 d3 B4 n4 d4]):=by
 have HR3:=Aside0.mk hr3;have HR4:=Aside0.mk hr4;have HC3:=Aside0.mk hc3;have HC4:=Aside0.mk hc4
 clear hr3 hr4 hc3 hc4;go_enter Tryz.func68,Tryz.ntmps68;try go_wp2_with fail
 have HBw:Below w.heap.size w (((w.alloc (Obj.cells #[.int .i64 a0_0,.int .i64 a0_1,.string a0_2,.slice A3 l.length c3,.slice A4 rows.length c4] 27)).alloc (Obj.cells #[.int .i64 b0,.int .i64 b1,.string b2,.slice B3 n3 d3,.slice B4 n4 d4] 27)).alloc (Obj.cells #[.int .i64 0,.int .i64 0,.string ⟨#[]⟩,.slice none 0 0,.slice none 0 0] 27)):=(((Below.refl _ _).alloc (Nat.le_refl _) _).alloc (by simp) _).alloc (by simp;omega) _;have BK0:(((w.alloc (Obj.cells #[.int .i64 a0_0,.int .i64 a0_1,.string a0_2,.slice A3 l.length c3,.slice A4 rows.length c4] 27)).alloc (Obj.cells #[.int .i64 b0,.int .i64 b1,.string b2,.slice B3 n3 d3,.slice B4 n4 d4] 27)).alloc (Obj.cells #[.int .i64 0,.int .i64 0,.string ⟨#[]⟩,.slice none 0 0,.slice none 0 0] 27)).heap[w.heap.size]?=some (Obj.cells #[.int .i64 a0_0,.int .i64 a0_1,.string a0_2,.slice A3 l.length c3,.slice A4 rows.length c4] 27):=blk_alloc (blk_alloc (blk_new _ _) _) _
 have BK1:(((w.alloc (Obj.cells #[.int .i64 a0_0,.int .i64 a0_1,.string a0_2,.slice A3 l.length c3,.slice A4 rows.length c4] 27)).alloc (Obj.cells #[.int .i64 b0,.int .i64 b1,.string b2,.slice B3 n3 d3,.slice B4 n4 d4] 27)).alloc (Obj.cells #[.int .i64 0,.int .i64 0,.string ⟨#[]⟩,.slice none 0 0,.slice none 0 0] 27)).heap[w.heap.size+1]?=some (Obj.cells #[.int .i64 b0,.int .i64 b1,.string b2,.slice B3 n3 d3,.slice B4 n4 d4] 27):=by
  have:=blk_alloc (blk_new (w.alloc (Obj.cells #[.int .i64 a0_0,.int .i64 a0_1,.string a0_2,.slice A3 l.length c3,.slice A4 rows.length c4] 27)) (Obj.cells #[.int .i64 b0,.int .i64 b1,.string b2,.slice B3 n3 d3,.slice B4 n4 d4] 27)) (Obj.cells #[.int .i64 0,.int .i64 0,.string ⟨#[]⟩,.slice none 0 0,.slice none 0 0] 27);simpa using this
 have BK2:(((w.alloc (Obj.cells #[.int .i64 a0_0,.int .i64 a0_1,.string a0_2,.slice A3 l.length c3,.slice A4 rows.length c4] 27)).alloc (Obj.cells #[.int .i64 b0,.int .i64 b1,.string b2,.slice B3 n3 d3,.slice B4 n4 d4] 27)).alloc (Obj.cells #[.int .i64 0,.int .i64 0,.string ⟨#[]⟩,.slice none 0 0,.slice none 0 0] 27)).heap[w.heap.size+1+1]?=some (Obj.cells #[.int .i64 0,.int .i64 0,.string ⟨#[]⟩,.slice none 0 0,.slice none 0 0] 27):=by
  have:=blk_new ((w.alloc (Obj.cells #[.int .i64 a0_0,.int .i64 a0_1,.string a0_2,.slice A3 l.length c3,.slice A4 rows.length c4] 27)).alloc (Obj.cells #[.int .i64 b0,.int .i64 b1,.string b2,.slice B3 n3 d3,.slice B4 n4 d4] 27)) (Obj.cells #[.int .i64 0,.int .i64 0,.string ⟨#[]⟩,.slice none 0 0,.slice none 0 0] 27);simpa using this
 generalize (((w.alloc (Obj.cells #[.int .i64 a0_0,.int .i64 a0_1,.string a0_2,.slice A3 l.length c3,.slice A4 rows.length c4] 27)).alloc (Obj.cells #[.int .i64 b0,.int .i64 b1,.string b2,.slice B3 n3 d3,.slice B4 n4 d4] 27)).alloc (Obj.cells #[.int .i64 0,.int .i64 0,.string ⟨#[]⟩,.slice none 0 0,.slice none 0 0] 27))=W1 at HBw BK0 BK1 BK2 ⊢;refine start_ (n:=16) (S:=fun w'=>True) (ds:=[]) #[false,false,false,false,false,false,false,false,false,false,false,false,false,false,false,false] kr_ rfl rfl trivial (fun hHeld=>?_);refine with_tabW putTab putBits (fun HT_ HW_=>?_)
 replace HBw:=HBw.drew;replace BK0:=blk_drew BK0;replace BK1:=blk_drew BK1;replace BK2:=blk_drew BK2;generalize W1.drew=w11 at HBw BK0 BK1 BK2 hHeld ⊢;clear hHeld;refine pure_ (i:=1) (N:=some 8) (v:=?_) (a':=?_) #[false,true,false,false,false,false,false,false,false,false,false,false,false,false,false,false] rfl rfl (any_of HT_.out kr_) (fun _ _ _ h=>h) (Or.inl ⟨by rfl,?_⟩) ?_ ?_;rotate_left
 · intro w';go_simp;with_reducible rfl
 rotate_left
 · exact pz_
 refine pure_ (i:=4) (N:=some 11) (v:=?_) (a':=?_) #[false,true,false,false,true,false,false,false,false,false,false,false,false,false,false,false] rfl rfl (any_of HT_.out kr_) (fun _ _ _ h=>h) (Or.inl ⟨by rfl,?_⟩) ?_ ?_;rotate_left
 · intro w';go_simp;with_reducible rfl
 rotate_left
 · exact pz_
 refine pure_ (i:=8) (N:=some 15) (v:=?_) (a':=?_) #[false,true,false,false,true,false,false,false,true,false,false,false,false,false,false,false] rfl rfl (any_of HT_.out kr_) (fun _ _ _ h=>h) (Or.inl ⟨by rfl,?_⟩) ?_ ?_;rotate_left
 · intro w';go_simp;with_reducible rfl
 rotate_left
 · exact pz_
 have hg0:=lt_of_block BK0;have hg1:=lt_of_block BK1;have hg2:=lt_of_block BK2
 refine inv_at [0,2,3,5,6,7,9,10,11,12,13,14,15] (PutInv w11 l key rows (jrow b0 b1 b2 B3 n3 d3 B4 n4 d4) A3 c3 A4 c4 (w.heap.size+1+1)) HT_.out HW_.out kr_ kr_ ?_ ?_ ?_
 · exact ⟨.bool false,.bool false,.bool false,.bool false,.bool false,.bool false,.bool false,.bool false,.bool false,w11,by simp only [putSel,Bool.false_eq_true,if_false],fun _=>rfl,fun h=>absurd h (by decide),fun h=>absurd h (by decide),Below.refl _ _,Chain.none _ _ _ _ _ _ _ _ _ _,Chain.none _ _ _ _ _ _ _ _ _ _⟩
 · skip
   refine steps_cons ?_ ?_
   · rintro b a w' ⟨v0,v3,v5,v6,v7,v10,v12,v13,m14,w2,ha,hw2,hw15,h14,HB2,CS,CJ⟩ hb_ hon hoff;have h15:=hoff 15 kr_;obtain rfl:=hw2 h15;have hq:=hoff 3 kr_;have hs:=hoff 6 kr_
     rw [hb_,hq,hs] at CS;refine ⟨_,rfl,fun K hK=>?_⟩;replace ha:=Aside0.mk ha;refine Kd.R_lit_step Kd.string _ 9 ?hg (N:=7) ?hd (xs:=([]:List ByteArray)) (inner:=[]) (ok:=fun _=>True) (okp:=fun _=>True) ?hr ?hp (fun _ hk=>hk) trivial (Below.refl _ _) (Nat.le_refl _) (by simp) ?_;(case hd=>rfl);(case hg=>rfl);(case hr=>exact hr_);(case hp=>exact (Reps.none _ _))
     intro v w12 ho hb hg_ hnew_;refine hK.out _ _ ⟨v,v3,v5,v6,v7,v10,v12,v13,m14,w12,(by rw [ha.out];exact putSel_upk 0 hb_ rfl rfl rfl),fun _=>rfl,fun h=>absurd (h15.symm.trans h) (by decide),fun h=>absurd ((hoff 14 kr_).symm.trans h) (by decide),HB2.trans (hb.mono HB2.size),?_,CJ.below hb⟩;refine Eq.mp ?_ (Chain.start flat_string CS rfl HB2.size hb ho);show _=Chain _ _ _ _ _ true (b 3) (b 5) (b 6) _ _ _ _ _
     rw [hq,hs]
   refine steps_cons ?_ ?_
   · rintro b a w' ⟨v0,v3,v5,v6,v7,v10,v12,v13,m14,w2,ha,hw2,hw15,h14,HB2,CS,CJ⟩ hb_ hon hoff;have h15:=hoff 15 kr_;obtain rfl:=hw2 h15;have e8:a.tmps[8]?=some (.pointer (some ⟨w.heap.size,3,none⟩)):=by rw [ha];exact (putSel_off rfl).trans rfl
     have BK:=blk_below BK0 HB2;have hc0_:w'.cell? ⟨w.heap.size,0,none⟩=some (.int .i64 a0_0):=(blk_cell BK 0).trans rfl;have hc1_:w'.cell? ⟨w.heap.size,1,none⟩=some (.int .i64 a0_1):=(blk_cell BK 1).trans rfl;have hc2_:w'.cell? ⟨w.heap.size,2,none⟩=some (.string a0_2):=(blk_cell BK 2).trans rfl;have hc3_:w'.cell? ⟨w.heap.size,3,none⟩=some (.slice A3 l.length c3):=(blk_cell BK 3).trans rfl;have hc4_:w'.cell? ⟨w.heap.size,4,none⟩=some (.slice A4 rows.length c4):=(blk_cell BK 4).trans rfl;refine ⟨_,rfl,fun K hK=>?_⟩;replace ha:=Aside0.mk ha;refine value_ (w1:=w') (v:=.slice A3 l.length c3) (by rfl) rfl ?_ ?_
     · go_simp;(try simp only [i64_w]);try rfl
     refine hK.out _ _ ⟨v0,v3,v5,v6,v7,v10,v12,v13,m14,w',(by rw [ha.out];exact putSel_upk 1 hb_ rfl rfl rfl),fun _=>rfl,fun h=>absurd (h15.symm.trans h) (by decide),fun h=>absurd ((hoff 14 kr_).symm.trans h) (by decide),HB2,CS,CJ⟩
   refine steps_cons ?_ ?_
   · rintro b a w' ⟨v0,v3,v5,v6,v7,v10,v12,v13,m14,w2,ha,hw2,hw15,h14,HB2,CS,CJ⟩ hb_ hon hoff;have h15:=hoff 15 kr_;obtain rfl:=hw2 h15;have e7:a.tmps[7]?=some (v0):=by rw [ha];exact putSel_on (e:=(0,7,v0)) 0 rfl rfl (hon 0 kr_) rfl
     have e9:a.tmps[9]?=some (.slice A3 l.length c3):=by rw [ha];exact putSel_on (e:=(2,9,.slice A3 l.length c3)) 1 rfl rfl (hon 2 kr_) rfl
     have hp:=hon 0 kr_;have hs:=hoff 6 kr_
     rw [hp,hb_,hs] at CS;have RX:=CS.1 rfl rfl;refine ⟨_,rfl,fun K hK=>?_⟩;replace ha:=Aside0.mk ha;refine Kd.R_append_rows_step Kd.string (w0:=w11) w11.heap.size (by rfl) (.tmp 7) (.tmp 9) 24 9 (.string ⟨#[]⟩) 16 rfl Tryz.underlying24 info9 rfl (by decide) (by omega) v0 [] l _ _ _ (fun _=>True) (fun _=>False) (eval_of e7) (eval_of e9) RX (Kd.C_below HR3.out (HBw.trans (HB2.mono HBw.size))) (fun _ _ h=>h) (fun _ h=>h.elim) (fun _ _=>trivial) HB2 HB2.size (by simp;omega) ?_;intro v w12 ho hb hg hat;refine hK.out _ _ ⟨v0,v,v5,v6,v7,v10,v12,v13,m14,w12,(by rw [ha.out];exact putSel_upk 2 hb_ rfl rfl rfl),fun _=>rfl,fun h=>absurd (h15.symm.trans h) (by decide),fun h=>absurd ((hoff 14 kr_).symm.trans h) (by decide),hb,?_,CJ.other (flat_raw 5) RX (by decide) hg⟩;refine Eq.mp ?_ (Chain.first CS rfl hg hat ho);show _=Chain _ _ _ _ _ (b 0) true (b 5) (b 6) _ _ _ _ _
     rw [hp,hs]
   refine steps_cons ?_ ?_
   · rintro b a w' ⟨v0,v3,v5,v6,v7,v10,v12,v13,m14,w2,ha,hw2,hw15,h14,HB2,CS,CJ⟩ hb_ hon hoff;have h15:=hoff 15 kr_;obtain rfl:=hw2 h15;have hs:=hoff 6 kr_;rw [hb_,hs] at CS;have e11:a.tmps[11]?=some (.string key):=by rw [ha];exact (putSel_off rfl).trans rfl
     refine ⟨_,rfl,fun K hK=>?_⟩;replace ha:=Aside0.mk ha;refine Kd.R_lit_step Kd.string _ 9 ?hg (N:=12) ?hd (xs:=([key]:List ByteArray)) (inner:=[.string key]) (ok:=fun _=>True) (okp:=fun _=>True) ?hr ?hp (fun _ hk=>hk) trivial (Below.refl _ _) (Nat.le_refl _) (by simp) ?_;(case hd=>rfl);(case hg=>rfl);(case hr=>exact hr_);(case hp=>exact (Reps.one (show Kd.M Kd.string _ _ _ key [.string key] from rfl) (Reps.none _ _)))
     intro v w12 ho hb hg_ hnew_;refine hK.out _ _ ⟨v0,v3,v,v6,v7,v10,v12,v13,m14,w12,(by rw [ha.out];exact putSel_upk 3 hb_ rfl rfl rfl),fun _=>rfl,fun h=>absurd (h15.symm.trans h) (by decide),fun h=>absurd ((hoff 14 kr_).symm.trans h) (by decide),HB2.trans (hb.mono HB2.size),?_,CJ.below hb⟩;refine Eq.mp ?_ (Chain.lit flat_string CS rfl HB2.size hb ho);show _=Chain _ _ _ _ _ (b 0) (b 3) true (b 6) _ _ _ _ _
     rw [hs]
   refine steps_cons ?_ ?_
   · rintro b a w' ⟨v0,v3,v5,v6,v7,v10,v12,v13,m14,w2,ha,hw2,hw15,h14,HB2,CS,CJ⟩ hb_ hon hoff;have h15:=hoff 15 kr_;obtain rfl:=hw2 h15;have e10:a.tmps[10]?=some (v3):=by rw [ha];exact putSel_on (e:=(3,10,v3)) 2 rfl rfl (hon 3 kr_) rfl
     have hp:=hon 0 kr_;have hq:=hon 3 kr_;have hr:=hon 5 kr_
     rw [hp,hq,hr,hb_] at CS;have RX:=CS.2.1 rfl rfl;have RY:=CS.2.2.1 rfl rfl;obtain ⟨AY,cY,eY⟩:=Kd.R_slice RY;have RYc:=RY;rw [eY] at RYc;have e12:a.tmps[12]?=some (v5):=by rw [ha];exact putSel_on (e:=(5,12,v5)) 3 rfl rfl (hon 5 kr_) rfl
     rw [eY] at e12;refine ⟨_,rfl,fun K hK=>?_⟩;replace ha:=Aside0.mk ha;refine Kd.R_append_rows_step Kd.string (w0:=w11) w11.heap.size (by rfl) (.tmp 10) (.tmp 12) 24 9 (.string ⟨#[]⟩) 16 rfl Tryz.underlying24 info9 rfl (by decide) (by omega) v3 l [key] _ _ _ (fun _=>True) (fun _=>False) (eval_of e10) (eval_of e12) RX (Kd.R_reads' RYc).2.2 (fun _ _ h=>h) (fun _ h=>h.elim) (fun _ _=>trivial) HB2 HB2.size (by simp;omega) ?_;intro v w12 ho hb hg hat;refine hK.out _ _ ⟨v0,v3,v5,v,v7,v10,v12,v13,m14,w12,(by rw [ha.out];exact putSel_upk 4 hb_ rfl rfl rfl),fun _=>rfl,fun h=>absurd (h15.symm.trans h) (by decide),fun h=>absurd ((hoff 14 kr_).symm.trans h) (by decide),hb,?_,CJ.other (flat_raw 5) RX (by decide) hg⟩;refine Eq.mp ?_ (Chain.second CS ho);show _=Chain _ _ _ _ _ (b 0) (b 3) (b 5) true _ _ _ _ _
     rw [hp,hq,hr]
   refine steps_cons ?_ ?_
   · rintro b a w' ⟨v0,v3,v5,v6,v7,v10,v12,v13,m14,w2,ha,hw2,hw15,h14,HB2,CS,CJ⟩ hb_ hon hoff;have h15:=hoff 15 kr_;obtain rfl:=hw2 h15;have hq:=hoff 10 kr_;have hs:=hoff 13 kr_
     rw [hb_,hq,hs] at CJ;refine ⟨_,rfl,fun K hK=>?_⟩;replace ha:=Aside0.mk ha;refine Kd.R_lit_step (Kd.raw 5) _ 27 ?hg (N:=14) ?hd (xs:=([]:List (List Value))) (inner:=[]) (ok:=fun _=>True) (okp:=fun _=>True) ?hr ?hp (fun _ hk=>hk) trivial (Below.refl _ _) (Nat.le_refl _) (by simp) ?_;(case hd=>rfl);(case hg=>rfl);(case hr=>exact hr_);(case hp=>exact (Reps.none _ _))
     intro v w12 ho hb hg_ hnew_;refine hK.out _ _ ⟨v0,v3,v5,v6,v,v10,v12,v13,m14,w12,(by rw [ha.out];exact putSel_upk 5 hb_ rfl rfl rfl),fun _=>rfl,fun h=>absurd (h15.symm.trans h) (by decide),fun h=>absurd ((hoff 14 kr_).symm.trans h) (by decide),HB2.trans (hb.mono HB2.size),CS.below hb,?_⟩;refine Eq.mp ?_ (Chain.start (flat_raw 5) CJ rfl HB2.size hb ho);show _=Chain _ _ _ _ _ true (b 10) (b 12) (b 13) _ _ _ _ _
     rw [hq,hs]
   refine steps_cons ?_ ?_
   · rintro b a w' ⟨v0,v3,v5,v6,v7,v10,v12,v13,m14,w2,ha,hw2,hw15,h14,HB2,CS,CJ⟩ hb_ hon hoff;have h15:=hoff 15 kr_;obtain rfl:=hw2 h15;have e15:a.tmps[15]?=some (.pointer (some ⟨w.heap.size,4,none⟩)):=by rw [ha];exact (putSel_off rfl).trans rfl
     have BK:=blk_below BK0 HB2;have hc0_:w'.cell? ⟨w.heap.size,0,none⟩=some (.int .i64 a0_0):=(blk_cell BK 0).trans rfl;have hc1_:w'.cell? ⟨w.heap.size,1,none⟩=some (.int .i64 a0_1):=(blk_cell BK 1).trans rfl;have hc2_:w'.cell? ⟨w.heap.size,2,none⟩=some (.string a0_2):=(blk_cell BK 2).trans rfl;have hc3_:w'.cell? ⟨w.heap.size,3,none⟩=some (.slice A3 l.length c3):=(blk_cell BK 3).trans rfl;have hc4_:w'.cell? ⟨w.heap.size,4,none⟩=some (.slice A4 rows.length c4):=(blk_cell BK 4).trans rfl;refine ⟨_,rfl,fun K hK=>?_⟩;replace ha:=Aside0.mk ha;refine value_ (w1:=w') (v:=.slice A4 rows.length c4) (by rfl) rfl ?_ ?_
     · go_simp;(try simp only [i64_w]);try rfl
     refine hK.out _ _ ⟨v0,v3,v5,v6,v7,v10,v12,v13,m14,w',(by rw [ha.out];exact putSel_upk 6 hb_ rfl rfl rfl),fun _=>rfl,fun h=>absurd (h15.symm.trans h) (by decide),fun h=>absurd ((hoff 14 kr_).symm.trans h) (by decide),HB2,CS,CJ⟩
   refine steps_cons ?_ ?_
   · rintro b a w' ⟨v0,v3,v5,v6,v7,v10,v12,v13,m14,w2,ha,hw2,hw15,h14,HB2,CS,CJ⟩ hb_ hon hoff;have h15:=hoff 15 kr_;obtain rfl:=hw2 h15;have e14:a.tmps[14]?=some (v7):=by rw [ha];exact putSel_on (e:=(7,14,v7)) 5 rfl rfl (hon 7 kr_) rfl
     have e16:a.tmps[16]?=some (.slice A4 rows.length c4):=by rw [ha];exact putSel_on (e:=(9,16,.slice A4 rows.length c4)) 6 rfl rfl (hon 9 kr_) rfl
     have hp:=hon 7 kr_;have hs:=hoff 13 kr_
     rw [hp,hb_,hs] at CJ;have RX:=CJ.1 rfl rfl;refine ⟨_,rfl,fun K hK=>?_⟩;replace ha:=Aside0.mk ha;refine Kd.R_append_rows_step (Kd.raw 5) (w0:=w11) w11.heap.size (by rfl) (.tmp 14) (.tmp 16) 25 27 (.agg #[(.int .i64 0),(.int .i64 0),(.string ⟨#[]⟩),(.slice none 0 0),(.slice none 0 0)]) 80 rfl Tryz.underlying25 info27 rfl (by decide) (by omega) v7 [] rows _ _ _ (fun _=>True) (fun _=>False) (eval_of e14) (eval_of e16) RX (Kd.C_below HR4.out (HBw.trans (HB2.mono HBw.size))) (fun _ _ h=>h) (fun _ h=>h.elim) (fun _ _=>trivial) HB2 HB2.size (by simp;omega) ?_;intro v w12 ho hb hg hat;refine hK.out _ _ ⟨v0,v3,v5,v6,v7,v,v12,v13,m14,w12,(by rw [ha.out];exact putSel_upk 7 hb_ rfl rfl rfl),fun _=>rfl,fun h=>absurd (h15.symm.trans h) (by decide),fun h=>absurd ((hoff 14 kr_).symm.trans h) (by decide),hb,CS.other flat_string RX (by decide) hg,?_⟩;refine Eq.mp ?_ (Chain.first CJ rfl hg hat ho);show _=Chain _ _ _ _ _ (b 7) true (b 12) (b 13) _ _ _ _ _
     rw [hp,hs]
   refine steps_cons ?_ ?_
   · rintro b a w' ⟨v0,v3,v5,v6,v7,v10,v12,v13,m14,w2,ha,hw2,hw15,h14,HB2,CS,CJ⟩ hb_ hon hoff;have h15:=hoff 15 kr_;obtain rfl:=hw2 h15;have e5:a.tmps[5]?=some (.pointer (some ⟨w.heap.size+1,0,none⟩)):=by rw [ha];exact (putSel_off rfl).trans rfl
     have BK:=blk_below BK1 HB2;have hc0_:w'.cell? ⟨w.heap.size+1,0,none⟩=some (.int .i64 b0):=(blk_cell BK 0).trans rfl;have hc1_:w'.cell? ⟨w.heap.size+1,1,none⟩=some (.int .i64 b1):=(blk_cell BK 1).trans rfl;have hc2_:w'.cell? ⟨w.heap.size+1,2,none⟩=some (.string b2):=(blk_cell BK 2).trans rfl;have hc3_:w'.cell? ⟨w.heap.size+1,3,none⟩=some (.slice B3 n3 d3):=(blk_cell BK 3).trans rfl;have hc4_:w'.cell? ⟨w.heap.size+1,4,none⟩=some (.slice B4 n4 d4):=(blk_cell BK 4).trans rfl;refine ⟨_,rfl,fun K hK=>?_⟩;replace ha:=Aside0.mk ha;refine value_ (w1:=w') (v:=.agg #[.int .i64 b0,.int .i64 b1,.string b2,.slice B3 n3 d3,.slice B4 n4 d4]) (by rfl) rfl ?_ ?_
     · go_simp;(try simp only [i64_w]);try rfl
     refine hK.out _ _ ⟨v0,v3,v5,v6,v7,v10,v12,v13,m14,w',(by rw [ha.out];exact putSel_upk 8 hb_ rfl rfl rfl),fun _=>rfl,fun h=>absurd (h15.symm.trans h) (by decide),fun h=>absurd ((hoff 14 kr_).symm.trans h) (by decide),HB2,CS,CJ⟩
   refine steps_cons ?_ ?_
   · rintro b a w' ⟨v0,v3,v5,v6,v7,v10,v12,v13,m14,w2,ha,hw2,hw15,h14,HB2,CS,CJ⟩ hb_ hon hoff;have h15:=hoff 15 kr_;obtain rfl:=hw2 h15;have hs:=hoff 13 kr_;rw [hb_,hs] at CJ;have e18:a.tmps[18]?=some (.agg #[.int .i64 b0,.int .i64 b1,.string b2,.slice B3 n3 d3,.slice B4 n4 d4]):=by rw [ha];exact putSel_on (e:=(11,18,.agg #[.int .i64 b0,.int .i64 b1,.string b2,.slice B3 n3 d3,.slice B4 n4 d4])) 8 rfl rfl (hon 11 kr_) rfl
     refine ⟨_,rfl,fun K hK=>?_⟩;replace ha:=Aside0.mk ha;refine Kd.R_lit_step (Kd.raw 5) _ 27 ?hg (N:=19) ?hd (xs:=([(jrow b0 b1 b2 B3 n3 d3 B4 n4 d4)]:List (List Value))) (inner:=(jrow b0 b1 b2 B3 n3 d3 B4 n4 d4)) (ok:=fun _=>True) (okp:=fun _=>True) ?hr ?hp (fun _ hk=>hk) trivial (Below.refl _ _) (Nat.le_refl _) (by simp) ?_;(case hd=>rfl);(case hg=>rfl);(case hr=>exact hr_);(case hp=>exact (Reps.snoc (Reps.none _ _) (show (Kd.raw 5).M _ _ _ (jrow b0 b1 b2 B3 n3 d3 B4 n4 d4) (jrow b0 b1 b2 B3 n3 d3 B4 n4 d4) from ⟨rfl,rfl,by simp [jrow,Value.oneCell']⟩) rfl))
     intro v w12 ho hb hg_ hnew_;refine hK.out _ _ ⟨v0,v3,v5,v6,v7,v10,v,v13,m14,w12,(by rw [ha.out];exact putSel_upk 9 hb_ rfl rfl rfl),fun _=>rfl,fun h=>absurd (h15.symm.trans h) (by decide),fun h=>absurd ((hoff 14 kr_).symm.trans h) (by decide),HB2.trans (hb.mono HB2.size),CS.below hb,?_⟩;refine Eq.mp ?_ (Chain.lit (flat_raw 5) CJ rfl HB2.size hb ho);show _=Chain _ _ _ _ _ (b 7) (b 10) true (b 13) _ _ _ _ _
     rw [hs]
   refine steps_cons ?_ ?_
   · rintro b a w' ⟨v0,v3,v5,v6,v7,v10,v12,v13,m14,w2,ha,hw2,hw15,h14,HB2,CS,CJ⟩ hb_ hon hoff;have h15:=hoff 15 kr_;obtain rfl:=hw2 h15;have e17:a.tmps[17]?=some (v10):=by rw [ha];exact putSel_on (e:=(10,17,v10)) 7 rfl rfl (hon 10 kr_) rfl
     have hp:=hon 7 kr_;have hq:=hon 10 kr_;have hr:=hon 12 kr_
     rw [hp,hq,hr,hb_] at CJ;have RX:=CJ.2.1 rfl rfl;have RY:=CJ.2.2.1 rfl rfl;obtain ⟨AY,cY,eY⟩:=Kd.R_slice RY;have RYc:=RY;rw [eY] at RYc;have e19:a.tmps[19]?=some (v12):=by rw [ha];exact putSel_on (e:=(12,19,v12)) 9 rfl rfl (hon 12 kr_) rfl
     rw [eY] at e19;refine ⟨_,rfl,fun K hK=>?_⟩;replace ha:=Aside0.mk ha;refine Kd.R_append_rows_step (Kd.raw 5) (w0:=w11) w11.heap.size (by rfl) (.tmp 17) (.tmp 19) 25 27 (.agg #[(.int .i64 0),(.int .i64 0),(.string ⟨#[]⟩),(.slice none 0 0),(.slice none 0 0)]) 80 rfl Tryz.underlying25 info27 rfl (by decide) (by omega) v10 rows [(jrow b0 b1 b2 B3 n3 d3 B4 n4 d4)] _ _ _ (fun _=>True) (fun _=>False) (eval_of e17) (eval_of e19) RX (Kd.R_reads' RYc).2.2 (fun _ _ h=>h) (fun _ h=>h.elim) (fun _ _=>trivial) HB2 HB2.size (by simp;omega) ?_;intro v w12 ho hb hg hat;refine hK.out _ _ ⟨v0,v3,v5,v6,v7,v10,v12,v,m14,w12,(by rw [ha.out];exact putSel_upk 10 hb_ rfl rfl rfl),fun _=>rfl,fun h=>absurd (h15.symm.trans h) (by decide),fun h=>absurd ((hoff 14 kr_).symm.trans h) (by decide),hb,CS.other flat_string RX (by decide) hg,?_⟩;refine Eq.mp ?_ (Chain.second CJ ho);show _=Chain _ _ _ _ _ (b 7) (b 10) (b 12) true _ _ _ _ _
     rw [hp,hq,hr]
   refine steps_cons ?_ ?_
   · rintro b a w' ⟨v0,v3,v5,v6,v7,v10,v12,v13,m14,w2,ha,hw2,hw15,h14,HB2,CS,CJ⟩ hb_ hon hoff;have h15:=hoff 15 kr_;obtain rfl:=hw2 h15;have e13:a.tmps[13]?=some v6:=by rw [ha];exact putSel_on (e:=(6,13,v6)) 4 rfl rfl (hon 6 kr_) rfl
     have e20:a.tmps[20]?=some v13:=by rw [ha];exact putSel_on (e:=(13,20,v13)) 10 rfl rfl (hon 13 kr_) rfl
     obtain ⟨AX,cX,eX⟩:=Kd.R_slice (CS.2.2.2 (hon 6 kr_));obtain ⟨AY,cY,eY⟩:=Kd.R_slice (CJ.2.2.2 (hon 13 kr_));rw [eX] at e13;rw [eY] at e20
     refine ⟨_,rfl,fun K hK=>?_⟩;replace ha:=Aside0.mk ha;refine value_ (w1:=w') (v:=.agg #[.int .i64 5,.int .i64 0,.string ⟨#[]⟩,v6,v13]) (by rfl) rfl ?_ ?_
     · rw [eX,eY];go_simp;try rfl
     refine hK.out _ _ ⟨v0,v3,v5,v6,v7,v10,v12,v13,(.agg #[.int .i64 5,.int .i64 0,.string ⟨#[]⟩,v6,v13]),w',(by rw [ha.out];exact putSel_upk 11 hb_ rfl rfl rfl),fun _=>rfl,fun h=>absurd (h15.symm.trans h) (by decide),fun _=>rfl,HB2,CS,CJ⟩
   refine steps_cons ?_ ?_
   · rintro b a w' ⟨v0,v3,v5,v6,v7,v10,v12,v13,m14,w2,ha,hw2,hw15,h14,HB2,CS,CJ⟩ hb_ hon hoff;obtain rfl:=hw2 hb_;obtain rfl:=h14 (hon 14 kr_);have e6:a.tmps[6]?=some (.pointer (some ⟨w.heap.size+1+1,0,none⟩)):=by rw [ha];exact (putSel_off rfl).trans rfl
     have e21:a.tmps[21]?=some (.agg #[.int .i64 5,.int .i64 0,.string ⟨#[]⟩,v6,v13]):=by rw [ha];exact putSel_on (e:=(14,21,.agg #[.int .i64 5,.int .i64 0,.string ⟨#[]⟩,v6,v13])) 11 rfl rfl (hon 14 kr_) rfl
     obtain ⟨AX,cX,eX⟩:=Kd.R_slice (CS.2.2.2 (hon 6 kr_));obtain ⟨AY,cY,eY⟩:=Kd.R_slice (CJ.2.2.2 (hon 13 kr_));have BK:=blk_below BK2 HB2;have hs0:w'.cell? ⟨w.heap.size+1+1,0,none⟩=some (.int .i64 0):=(blk_cell BK 0).trans rfl;have hs1:w'.cell? ⟨w.heap.size+1+1,1,none⟩=some (.int .i64 0):=(blk_cell BK 1).trans rfl;have hs2:w'.cell? ⟨w.heap.size+1+1,2,none⟩=some (.string ⟨#[]⟩):=(blk_cell BK 2).trans rfl;have hs3:w'.cell? ⟨w.heap.size+1+1,3,none⟩=some (.slice none 0 0):=(blk_cell BK 3).trans rfl;have hs4:w'.cell? ⟨w.heap.size+1+1,4,none⟩=some (.slice none 0 0):=(blk_cell BK 4).trans rfl;have hf0:=blk_frozen BK 0;have hf1:=blk_frozen BK 1;have hf2:=blk_frozen BK 2;have hf3:=blk_frozen BK 3;have hf4:=blk_frozen BK 4
     rw [eX,eY] at e21;refine ⟨_,rfl,fun K hK=>?_⟩;replace ha:=Aside0.mk ha;refine skip_ (w1:=?_) (by rfl) rfl ?_ ?_;rotate_left
     · go_simp;rfl
     refine hK.out _ _ ⟨v0,v3,v5,v6,v7,v10,v12,v13,_,w',(by rw [ha.out];exact putSel_none (v:=undef) rfl),fun h=>absurd ((up_self b 15).symm.trans h) (by decide),fun _=>?_,fun _=>rfl,HB2,CS,CJ⟩;rw [eX,eY];simp [putWrites]
   exact steps_nil
 rintro b a w33 hall ⟨v0,v3,v5,v6,v7,v10,v12,v13,m14,w2,ha,hw2,hw15,h14,HB2,CS,CJ⟩;have hb0_:=hall 0 kr_;have hb2_:=hall 2 kr_;have hb3_:=hall 3 kr_;have hb5_:=hall 5 kr_;have hb6_:=hall 6 kr_;have hb7_:=hall 7 kr_;have hb9_:=hall 9 kr_;have hb10_:=hall 10 kr_;have hb11_:=hall 11 kr_;have hb12_:=hall 12 kr_;have hb13_:=hall 13 kr_;have hb14_:=hall 14 kr_;have hb15_:=hall 15 kr_;subst ha;obtain rfl:=h14 hb14_;have hw:=hw15 hb15_;rw [hb0_,hb3_,hb5_,hb6_] at CS;rw [hb7_,hb10_,hb12_,hb13_] at CJ;have R6:=CS.2.2.2 rfl;have R13:=CJ.2.2.2 rfl;have BK:=blk_below BK2 HB2
 have hput:w33.heap[w.heap.size+1+1]?=some (.cells #[.int .i64 5,.int .i64 0,.string ⟨#[]⟩,v6,v13] 27 (0,0)):=by
  rw [hw];unfold putWrites;refine blk_put (cs:=#[.int .i64 5,.int .i64 0,.string ⟨#[]⟩,v6,.slice none 0 0]) ?_ 4 _ rfl;refine blk_put (cs:=#[.int .i64 5,.int .i64 0,.string ⟨#[]⟩,.slice none 0 0,.slice none 0 0]) ?_ 3 _ rfl;refine blk_put (cs:=#[.int .i64 5,.int .i64 0,.string ⟨#[]⟩,.slice none 0 0,.slice none 0 0]) ?_ 2 _ rfl;refine blk_put (cs:=#[.int .i64 5,.int .i64 0,.string ⟨#[]⟩,.slice none 0 0,.slice none 0 0]) ?_ 1 _ rfl;exact blk_put BK 0 _ rfl
 have hB33:Below w.heap.size w w33:=by
  rw [hw];unfold putWrites;have h:=HBw.trans (HB2.mono HBw.size);exact ((((h.setCell (by simp;omega) _).setCell (by simp;omega) _).setCell (by simp;omega) _).setCell (by simp;omega) _).setCell (by simp;omega) _
 have hkeep : ∀ k,w11.heap.size≤k→k < w2.heap.size→w33.heap[k]?=w2.heap[k]?:=by
  intro k hk _;rw [hw];unfold putWrites;have hne:k≠w.heap.size+1+1:=by omega
  have hs : ∀ (V:World) (j:Nat) (u:Value),(V.setCell ⟨w.heap.size+1+1,j,none⟩ u).heap[k]?=V.heap[k]?:=fun V j u=>Below.heap_setCell V ⟨w.heap.size+1+1,j,none⟩ u k hne
  rw [hs,hs,hs,hs,hs]
 have Q6:Kd.R Kd.string 9 w33 w11.heap.size (fun _=>True) v6 (l++[key]):=Kd.R_mono (Kd.R_step (Kd.R_flat flat_string R6 (ok':=fun k=>w11.heap.size≤k) (fun k hk _=>Kd.R_base R6 k hk)) hkeep) (fun _ _=>trivial);have Q13:Kd.R (Kd.raw 5) 27 w33 w11.heap.size (fun _=>True) v13 (rows++[jrow b0 b1 b2 B3 n3 d3 B4 n4 d4]):=Kd.R_mono (Kd.R_step (Kd.R_flat (flat_raw 5) R13 (ok':=fun k=>w11.heap.size≤k) (fun k hk _=>Kd.R_base R13 k hk)) hkeep) (fun _ _=>trivial);simp only [putSel,hb0_,hb2_,hb3_,hb5_,hb6_,hb7_,hb9_,hb10_,hb11_,hb12_,hb13_,hb14_,if_true,Act.put,List.setIfInBounds_toArray,List.set_cons_zero,List.set_cons_succ];clear hw hw2 hw15 h14 HB2 CS CJ R6 R13 BK BK0 BK1 BK2 hkeep;try go_wp2
 refine bodyPost_ret (results_cell_row rfl _ _ (w.heap.size+1+1) 27 #[.int .i64 5,.int .i64 0,.string ⟨#[]⟩,v6,v13] (0,0) _ rfl hput Tryz.underlying27 rfl kr_) rfl ?_;exact ⟨_,_,rfl,hB33,Kd.R_lower Q6 HBw.size,Kd.R_lower Q13 HBw.size⟩
theorem C_rawR {α:Type} {Rr:α→List Value→Prop} {sz:Nat} {w:World} {A:Option Addr} {n:Nat} {xs:List α} (h:ReadsRow Rr sz w A n xs) (hone : ∀ x c,Rr x c→∀ u ∈ c,u.oneCell'=true) : ∃ rows:List (List Value),rows.length=xs.length∧(Kd.raw sz).C w A n rows∧∀ (j:Nat) (x:α) (r:List Value),xs[j]?=some x→rows[j]?=some r→Rr x r:=by
 rcases Nat.eq_zero_or_pos n with h0|h0
 · have hx:xs=[]:=List.eq_nil_of_length_eq_zero (by have:=h.1;omega);subst hx;exact ⟨[],rfl,⟨by simp;omega,h.2.1,fun hp=>absurd hp (by omega)⟩,fun j x r hj=>by simp at hj⟩
 · obtain ⟨ad,hA,hc⟩:=h.2.2 h0
   have hch : ∀ j:Nat,∃ c:List Value,∀ p,xs[j]?=some p→c.length=sz∧Rr p c∧∀ i u,c[i]?=some u→w.cell? (ad.add (j * sz+i))=some u:=by
    intro j
    cases hj:xs[j]? with
    | none=>exact ⟨[],fun p hp=>by cases hp⟩
    | some p=>
     obtain ⟨c,h1,h2,h3⟩:=hc j p hj;exact ⟨c,fun q hq=>by injection hq with hq;subst hq;exact ⟨h1,h2,h3⟩⟩
   obtain ⟨f,hf⟩:=Classical.axiomOfChoice hch;refine ⟨(List.range xs.length).map f,by simp,⟨by simp;exact h.1,h.2.1,fun _=>⟨ad,hA,fun j p hj=>?_⟩⟩,fun j x r hj hr=>?_⟩
   · rw [List.getElem?_map] at hj
     cases hr:(List.range xs.length)[j]? with
     | none=>rw [hr] at hj;cases hj
     | some m=>
      rw [hr] at hj;obtain ⟨hl,he⟩:=List.getElem?_eq_some_iff.1 hr;rw [List.getElem_range] at he;subst he;simp only [Option.map_some,Option.some.injEq] at hj;subst hj;have hl':j < xs.length:=by simpa using hl
      obtain ⟨h1,h2,h3⟩:=hf j _ (List.getElem?_eq_getElem hl');exact ⟨f j,h1,⟨rfl,h1,hone _ _ h2⟩,h3⟩
   · have hl':=(List.getElem?_eq_some_iff.1 hj).1;rw [List.getElem?_map,List.getElem?_range hl'] at hr;simp only [Option.map_some,Option.some.injEq] at hr;subst hr;exact (hf j x hj).2.1
theorem C_unraw {α:Type} {d:Kd α} {w:World} {A:Option Addr} {n:Nat} {xs:List α} {rows:List (List Value)} (hr:(Kd.raw d.sz).C w A n rows) (hl:rows.length=xs.length) (hK : ∀ (j:Nat) (x:α) (r:List Value),xs[j]?=some x→rows[j]?=some r→d.K w x r):d.C w A n xs:=by
 refine ⟨by rw [← hl];exact hr.1,hr.2.1,fun h0=>?_⟩;obtain ⟨ad,hA,hc⟩:=hr.2.2 h0;refine ⟨ad,hA,fun j p hj=>?_⟩;have hjl:=(List.getElem?_eq_some_iff.1 hj).1;have hr':rows[j]?=some (rows[j]'(by omega)):=List.getElem?_eq_getElem (by omega);obtain ⟨c,h1,h2,h3⟩:=hc j _ hr';have hK':=hK j p _ hj hr';rw [← h2.1] at hK';exact ⟨c,h1,hK',h3⟩
theorem Put_F (ok:Nat→Prop) (a0_0 a0_1:Int) (a0_2:ByteArray) (A3:Option Addr) (c3:Nat) (l:List ByteArray) (A4:Option Addr) (c4:Nat) (list:List S27) (key:ByteArray) (v:S27) (B3:Option Addr) (d3:Nat) (B4:Option Addr) (d4:Nat) (w:World)
 (hr3:Kd.C Kd.string w A3 l.length l) (hc3:l.length≤c3) (hr4:Kd.F k27 w ok A4 list.length list) (hc4:list.length≤c4) (hl:l.length < 8796093022207) (hm:list.length < 1759218604440)
 (hv3:Kd.F Kd.string w ok B3 v.f3.length v.f3) (hd3:v.f3.length≤d3) (hv4:Kd.F k27 w ok B4 v.f4.length v.f4) (hd4:v.f4.length≤d4) :
 Calls Tryz.prog 68 #[.agg #[.int .i64 a0_0,.int .i64 a0_1,.string a0_2,.slice A3 l.length c3,.slice A4 list.length c4],.string key,.agg #[.int .i64 v.f0,.int .i64 v.f1,.string v.f2,.slice B3 v.f3.length d3,.slice B4 v.f4.length d4]] w fun e w'=>
  ∃ A c B d,e=.returned (.agg #[.int .i64 5,.int .i64 0,.string ⟨#[]⟩,.slice A (l++[key]).length c,.slice B (list++[v]).length d])∧Below w.heap.size w w'∧Kd.F Kd.string w' (fun k=>ok k∨w.heap.size≤k) A (l++[key]).length (l++[key])∧(l++[key]).length≤c∧Kd.F k27 w' (fun k=>ok k∨w.heap.size≤k) B (list++[v]).length (list++[v])∧(list++[v]).length≤d:=by
 obtain ⟨rows,hrl,hrC,hrK⟩:=C_rawR (Kd.F_rows hr4) (fun _ _ h=>k27.K_one (Kd.FK_now h));have hsz:k27.sz=5:=rfl;rw [hsz] at hrC;have hvK:=k27_mkF w ok v hd3 hv3 hd4 hv4;rw [← hrl] at hrC ⊢;refine (put_calls a0_0 a0_1 a0_2 A3 c3 l A4 c4 rows key v.f0 v.f1 v.f2 B3 v.f3.length d3 B4 v.f4.length d4 w hr3 hc3 hrC (by omega) hl (by omega)).mono ?_;rintro e w' ⟨v3,v4,rfl,hb,h3,h4⟩;obtain ⟨A,c,rfl⟩:=Kd.R_slice h3;obtain ⟨B,d,rfl⟩:=Kd.R_slice h4;have g3:=Kd.R_reads' h3;have g4:=Kd.R_reads' h4;have h3':=Kd.R_flat (ok':=fun k=>w.heap.size≤k) flat_string h3 (fun k hk _=>Kd.R_base h3 k hk);have h4':=Kd.R_flat (ok':=fun k=>w.heap.size≤k) (flat_raw 5) h4 (fun k hk _=>Kd.R_base h4 k hk);have hlen:(rows++[jrow v.f0 v.f1 v.f2 B3 v.f3.length d3 B4 v.f4.length d4]).length=(list++[v]).length:=by simp [hrl]
 refine ⟨A,c,B,d,by rw [hlen],hb,Kd.F_mono (Kd.R_F h3') (fun k hk=>Or.inr hk),g3.2.1,?_,by rw [← hlen];exact g4.2.1⟩;intro W' hW;have g5:=(Kd.R_F h4') W' (fun k hk hlt=>hW k (Or.inr hk) hlt);rw [hlen] at g5;have hold : ∀ {x:S27} {r:List Value},Kd.FK k27 w ok x r→k27.K W' x r:=fun hx=>(Kd.FK_below hx hb) W' (fun k hk hlt=>hW k (Or.inl hk) hlt)
 refine C_unraw g5 hlen (fun j x r hj hr=>?_);rcases Nat.lt_trichotomy j list.length with hlt|heq|hgt
 · rw [List.getElem?_append_left hlt] at hj;rw [List.getElem?_append_left (by omega)] at hr;exact hold (hrK j x r hj hr)
 · subst heq;rw [List.getElem?_append_right (Nat.le_refl _),Nat.sub_self] at hj;rw [← hrl,List.getElem?_append_right (Nat.le_refl _),Nat.sub_self] at hr;simp only [List.getElem?_cons_zero,Option.some.injEq] at hj hr;subst hj;subst hr
   exact hold hvK
 · rw [List.getElem?_eq_none (by simp;omega)] at hj;cases hj
end Go.Proofs.YtodhmbnfliajiaaGreatDoor.Q
