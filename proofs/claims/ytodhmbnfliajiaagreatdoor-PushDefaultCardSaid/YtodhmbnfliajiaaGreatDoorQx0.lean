/- Qx0: a text of this claim's proof,as printed or written,without what the claim does not use. -/
import Derived.Test.YtodhmbnfliajiaaGreatDoorProg
import Derived.Test.YtodhmbnfliajiaaGreatDoorJ4
namespace Go.Proofs.YtodhmbnfliajiaaGreatDoor.Q
open Go.RowKit Go.Proofs.YtodhmbnfliajiaaGreatDoorW.PrintWords Go.Proofs.YtodhmbnfliajiaaGreatDoorW.PrintLast Go.Proofs.YtodhmbnfliajiaaGreatDoorW.PrintMore
attribute [local go_sem] max2_int min2_int max_two min_two max_three min_three max_four min_four
set_option linter.unusedVariables false
set_option linter.unusedSimpArgs false
theorem nf_:¬ (false=true):=by decide
theorem bs_ {α β : Type} {o : Option α} {f : α→Option β} {r : β} (h:o.bind f=some r):∃ t,Aside0 (o=some t)∧f t=some r:=by
 obtain ⟨t,a,b⟩:=Option.bind_eq_some_iff.mp h;exact ⟨t,⟨a⟩,b⟩
theorem bz_ {p : Prop} (h:p:=by repeat (first|(with_reducible first|exact HB.out|apply below_alloc|apply pw_below_drewN|apply below_drew1)|exact HB.out)):p:=h
theorem ag_ {p : Prop} (h:p:=by (try simp only [List.map_toArray,List.map_cons,List.map_nil]);first|done|rfl|(simp only [List.length_drop,List.length_take];rfl)):p:=h
theorem as_ {p : Prop} (h:p:=by first|(with_reducible assumption)|assumption):p:=h
theorem sz_ {p : Prop} (h:p:=by first|rfl|(simp;done)|(simp [*];done)):p:=h
theorem dz_ {p : Prop} (h:p:=by repeat (first|exact Drawn0.refl _|apply Drawn0.step)):p:=h
theorem kr_ {p : Prop} (h:p:=by kernel_rfl):p:=h
theorem dr_ {p : Prop} (h:p:=by decide):p:=h
theorem pz_ {p : Prop} (h:p:=by simp only [Act.put,List.setIfInBounds_toArray,List.set_cons_zero,List.set_cons_succ,i64_w,i32_w]; rfl):p:=h
theorem hr_ {p : Prop} (h:p:=by first|(go_simp;done)|(go_simp;rfl)):p:=h
theorem bk_ {p q : Prop} (i:Aside0 p) (h:p→q:=by intro h_; (with_reducible repeat (first|refine blk_drewN ?_ _|refine blk_drew ?_|refine blk_alloc ?_ _)); exact h_):q:=h i.out
theorem rz_ {p q : Prop} (i:Aside0 p) (h:p→q:=by intro h_; (with_reducible repeat (first|apply Kd.R_alloc|apply Kd.R_drewN|apply Kd.R_drew)); exact h_):q:=h i.out
def errW:Option Int→Value
 | none=>.nilIface
 | some c=>.iface 0 (.int .i64 c)
theorem errW_none:errW none=.nilIface:=rfl
theorem errW_some (c:Int):errW (some c)=.iface 0 (.int .i64 c):=rfl
theorem info4:(Tryz.prog.info? 4).map (fun i=>(i.zero,i.size,i.bytes))=some (some (.bool false),1,1):=kr_
theorem info9:(Tryz.prog.info? 9).map (fun i=>(i.zero,i.size,i.bytes))=some (some (.string ⟨#[]⟩),1,16):=kr_
theorem info47:(Tryz.prog.info? 47).map (fun i=>(i.zero,i.size,i.bytes))=some (some (.agg #[(.int .i64 0),(.string ⟨#[]⟩),(.bool false),(.slice none 0 0),(.bool false),(.bool false)]),6,64):=kr_
structure S27 where
 f0:Int
 f1:Int
 f2:ByteArray
 f3:(List ByteArray)
 f4:(List S27)
def z27:S27:=⟨(0:Int),(0:Int),(⟨#[]⟩:ByteArray),([]:List ByteArray),([]:List S27)⟩
def F27 (d:Kd S27):Kd S27:=Kd.iso (Kd.pair (Kd.int .i64) (Kd.pair (Kd.int .i64) (Kd.pair Kd.string (Kd.pair (Kd.slice 9 Kd.string) (Kd.slice 27 d))))) (fun x:S27=>(x.f0,x.f1,x.f2,x.f3,x.f4))
theorem mono27:Kd.Mono F27:=Kd.mono_iso _ (Kd.mono_pair (Kd.mono_const _) (Kd.mono_pair (Kd.mono_const _) (Kd.mono_pair (Kd.mono_const _) (Kd.mono_pair (Kd.mono_const _) (Kd.mono_slice 27 Kd.mono_id)))))
theorem sub27:Kd.Sub F27 [9,27]:=Kd.sub_iso _ (Kd.sub_pair (Kd.sub_const _ (by decide)) (Kd.sub_pair (Kd.sub_const _ (by decide)) (Kd.sub_pair (Kd.sub_const _ (by decide)) (Kd.sub_pair (Kd.sub_const _ (by decide)) (Kd.sub_slice 27 (by decide) Kd.sub_id)))))
theorem sz27 : ∀ n,(Kd.upto F27 5 [9,27] n).sz=5:=Kd.upto_sz (fun _=>rfl)
def k27:Kd S27:=Kd.fix F27 5 [9,27] sz27 (Kd.upto_E sub27)
theorem k27_open {w:World} {x:S27} {cs:List Value} (h:k27.K w x cs) : ∃ A3 c3 A4 c4,cs=[.int .i64 x.f0,.int .i64 x.f1,.string x.f2,.slice A3 x.f3.length c3,.slice A4 x.f4.length c4]∧x.f3.length≤c3∧Kd.string.C w A3 x.f3.length x.f3∧x.f4.length≤c4∧k27.C w A4 x.f4.length x.f4:=by
 obtain ⟨n,h⟩:=h
 cases n with
 | zero=>exact h.elim
 | succ n=>
  obtain ⟨_,_,rfl,rfl,⟨_,_,rfl,rfl,⟨_,_,rfl,rfl,⟨_,_,rfl,⟨A3,c3,rfl,l3,g3⟩,⟨A4,c4,rfl,l4,g4⟩⟩⟩⟩⟩:=h;exact ⟨A3,c3,A4,c4,rfl,l3,g3,l4,Kd.fix_C g4⟩
theorem k27_mk (w:World) (x:S27) {A3:Option Addr} {c3:Nat} (l3:x.f3.length≤c3) (g3:Kd.string.C w A3 x.f3.length x.f3) {A4:Option Addr} {c4:Nat} (l4:x.f4.length≤c4) (g4:k27.C w A4 x.f4.length x.f4):k27.K w x [.int .i64 x.f0,.int .i64 x.f1,.string x.f2,.slice A3 x.f3.length c3,.slice A4 x.f4.length c4]:=by
 obtain ⟨n4,q4⟩:=Kd.fix_C_back mono27 g4;have r4:=Kd.upto_C_le mono27 sz27 (show n4≤n4 by omega) q4;exact ⟨n4+1,⟨[.int .i64 x.f0],[.int .i64 x.f1,.string x.f2,.slice A3 x.f3.length c3,.slice A4 x.f4.length c4],rfl,rfl,⟨[.int .i64 x.f1],[.string x.f2,.slice A3 x.f3.length c3,.slice A4 x.f4.length c4],rfl,rfl,⟨[.string x.f2],[.slice A3 x.f3.length c3,.slice A4 x.f4.length c4],rfl,rfl,⟨[.slice A3 x.f3.length c3],[.slice A4 x.f4.length c4],rfl,⟨A3,c3,rfl,l3,g3⟩,⟨A4,c4,rfl,l4,r4⟩⟩⟩⟩⟩⟩
theorem k27_openF {W:World} {ok:Nat→Prop} {x:S27} {cs:List Value} (h:Kd.FK k27 W ok x cs) : ∃ A3 c3 A4 c4,cs=[.int .i64 x.f0,.int .i64 x.f1,.string x.f2,.slice A3 x.f3.length c3,.slice A4 x.f4.length c4]∧x.f3.length≤c3∧Kd.F Kd.string W ok A3 x.f3.length x.f3∧x.f4.length≤c4∧Kd.F k27 W ok A4 x.f4.length x.f4:=by
 obtain ⟨A3,c3,A4,c4,rfl,l3,_,l4,_⟩:=k27_open (Kd.FK_now h);exact ⟨A3,c3,A4,c4,rfl,l3,(fun W' hW=>by obtain ⟨A3_,c3_,A4_,c4_,he,l3_,g3_,l4_,g4_⟩:=k27_open (h W' hW);injection (Option.some.inj (show some (Value.slice A3 x.f3.length c3)=some (Value.slice A3_ x.f3.length c3_) from congrArg (fun l=>l[3]?) he)) with ha_ _ _;rw [ha_];exact g3_),l4,(fun W' hW=>by obtain ⟨A3_,c3_,A4_,c4_,he,l3_,g3_,l4_,g4_⟩:=k27_open (h W' hW);injection (Option.some.inj (show some (Value.slice A4 x.f4.length c4)=some (Value.slice A4_ x.f4.length c4_) from congrArg (fun l=>l[4]?) he)) with ha_ _ _;rw [ha_];exact g4_)⟩
theorem k27_mkF (W:World) (ok:Nat→Prop) (x:S27) {A3:Option Addr} {c3:Nat} (l3:x.f3.length≤c3) (g3:Kd.F Kd.string W ok A3 x.f3.length x.f3) {A4:Option Addr} {c4:Nat} (l4:x.f4.length≤c4) (g4:Kd.F k27 W ok A4 x.f4.length x.f4):Kd.FK k27 W ok x [.int .i64 x.f0,.int .i64 x.f1,.string x.f2,.slice A3 x.f3.length c3,.slice A4 x.f4.length c4]:=fun W2 hW=>k27_mk W2 x l3 (g3 W2 hW) l4 (g4 W2 hW)
def rd_T27 (xs:List S27) (i:Int):S27:=xs.getD i.toNat z27
theorem at_T27 {w:World} {A:Option Addr} {n:Nat} {xs:List S27} (h:Kd.C k27 w A n xs) (i:Int) (h0:0≤i) (h1:i < n) : ∃ ad A3 c3 A4 c4,A=some ad∧w.cell? (ad.add (i.toNat * 5))=some (.int .i64 (rd_T27 xs i).f0)∧w.cell? ⟨(ad.add (i.toNat * 5)).block,(ad.add (i.toNat * 5)).off+1,none⟩=some (.int .i64 (rd_T27 xs i).f1)∧w.cell? ⟨(ad.add (i.toNat * 5)).block,(ad.add (i.toNat * 5)).off+2,none⟩=some (.string (rd_T27 xs i).f2)∧w.cell? ⟨(ad.add (i.toNat * 5)).block,(ad.add (i.toNat * 5)).off+3,none⟩=some (.slice A3 (rd_T27 xs i).f3.length c3)∧w.cell? ⟨(ad.add (i.toNat * 5)).block,(ad.add (i.toNat * 5)).off+4,none⟩=some (.slice A4 (rd_T27 xs i).f4.length c4)∧(rd_T27 xs i).f3.length≤c3∧Kd.string.C w A3 (rd_T27 xs i).f3.length (rd_T27 xs i).f3∧(rd_T27 xs i).f4.length≤c4∧k27.C w A4 (rd_T27 xs i).f4.length (rd_T27 xs i).f4:=by
 obtain ⟨ad,c,e,_,hK,hc0⟩:=Kd.C_get h z27 i h0 h1;have hc : ∀ j u,c[j]?=some u→w.cell? (ad.add (i.toNat * 5+j))=some u:=hc0;obtain ⟨A3,c3,A4,c4,rfl,l3,g3,l4,g4⟩:=k27_open hK;exact ⟨ad,A3,c3,A4,c4,e,hc 0 _ rfl,by rw [← add_field _ _ 1 (by omega)];exact hc 1 _ rfl,by rw [← add_field _ _ 2 (by omega)];exact hc 2 _ rfl,by rw [← add_field _ _ 3 (by omega)];exact hc 3 _ rfl,by rw [← add_field _ _ 4 (by omega)];exact hc 4 _ rfl,l3,g3,l4,g4⟩
structure S23 where
 f0:ByteArray
 f1:ByteArray
 f2:ByteArray
 f3:Int
def z23:S23:=⟨(⟨#[]⟩:ByteArray),(⟨#[]⟩:ByteArray),(⟨#[]⟩:ByteArray),(0:Int)⟩
def k23:Kd S23:=Kd.iso (Kd.pair Kd.string (Kd.pair Kd.string (Kd.pair Kd.string (Kd.int .i64)))) (fun x:S23=>(x.f0,x.f1,x.f2,x.f3))
theorem k23_open {w:World} {x:S23} {cs:List Value} (h:k23.K w x cs):cs=[.string x.f0,.string x.f1,.string x.f2,.int .i64 x.f3]:=by
 obtain ⟨_,_,rfl,rfl,⟨_,_,rfl,rfl,⟨_,_,rfl,rfl,rfl⟩⟩⟩:=h;exact rfl
theorem k23_mk (w:World) (x:S23)  : k23.K w x [.string x.f0,.string x.f1,.string x.f2,.int .i64 x.f3]:=⟨[.string x.f0],[.string x.f1,.string x.f2,.int .i64 x.f3],rfl,rfl,⟨[.string x.f1],[.string x.f2,.int .i64 x.f3],rfl,rfl,⟨[.string x.f2],[.int .i64 x.f3],rfl,rfl,rfl⟩⟩⟩
theorem k23_mkM (w:World) (base:Nat) (ok:Nat→Prop) (x:S23)  : k23.M w base ok x [.string x.f0,.string x.f1,.string x.f2,.int .i64 x.f3]:=⟨[.string x.f0],[.string x.f1,.string x.f2,.int .i64 x.f3],rfl,rfl,⟨[.string x.f1],[.string x.f2,.int .i64 x.f3],rfl,rfl,⟨[.string x.f2],[.int .i64 x.f3],rfl,rfl,rfl⟩⟩⟩
def rd_T23 (xs:List S23) (i:Int):S23:=xs.getD i.toNat z23
theorem at_T23 {w:World} {A:Option Addr} {n:Nat} {xs:List S23} (h:Kd.C k23 w A n xs) (i:Int) (h0:0≤i) (h1:i < n) : ∃ ad ,A=some ad∧w.cell? (ad.add (i.toNat * 4))=some (.string (rd_T23 xs i).f0)∧w.cell? ⟨(ad.add (i.toNat * 4)).block,(ad.add (i.toNat * 4)).off+1,none⟩=some (.string (rd_T23 xs i).f1)∧w.cell? ⟨(ad.add (i.toNat * 4)).block,(ad.add (i.toNat * 4)).off+2,none⟩=some (.string (rd_T23 xs i).f2)∧w.cell? ⟨(ad.add (i.toNat * 4)).block,(ad.add (i.toNat * 4)).off+3,none⟩=some (.int .i64 (rd_T23 xs i).f3):=by
 obtain ⟨ad,c,e,_,hK,hc0⟩:=Kd.C_get h z23 i h0 h1;have hc : ∀ j u,c[j]?=some u→w.cell? (ad.add (i.toNat * 4+j))=some u:=hc0;obtain rfl:=k23_open hK;exact ⟨ad,e,hc 0 _ rfl,by rw [← add_field _ _ 1 (by omega)];exact hc 1 _ rfl,by rw [← add_field _ _ 2 (by omega)];exact hc 2 _ rfl,by rw [← add_field _ _ 3 (by omega)];exact hc 3 _ rfl⟩
structure S47 where
 f0:Int
 f1:ByteArray
 f2:Bool
 f3:(List S23)
 f4:Bool
 f5:Bool
def z47:S47:=⟨(0:Int),(⟨#[]⟩:ByteArray),false,([]:List S23),false,false⟩
def k47:Kd S47:=Kd.iso (Kd.pair (Kd.int .i64) (Kd.pair Kd.string (Kd.pair Kd.bool (Kd.pair (Kd.slice 23 k23) (Kd.pair Kd.bool Kd.bool))))) (fun x:S47=>(x.f0,x.f1,x.f2,x.f3,x.f4,x.f5))
theorem k47_open {w:World} {x:S47} {cs:List Value} (h:k47.K w x cs) : ∃ A3 c3,cs=[.int .i64 x.f0,.string x.f1,.bool x.f2,.slice A3 x.f3.length c3,.bool x.f4,.bool x.f5]∧x.f3.length≤c3∧k23.C w A3 x.f3.length x.f3:=by
 obtain ⟨_,_,rfl,rfl,⟨_,_,rfl,rfl,⟨_,_,rfl,rfl,⟨_,_,rfl,⟨A3,c3,rfl,l3,g3⟩,⟨_,_,rfl,rfl,rfl⟩⟩⟩⟩⟩:=h;exact ⟨A3,c3,rfl,l3,g3⟩
theorem k47_mk (w:World) (x:S47) {A3:Option Addr} {c3:Nat} (l3:x.f3.length≤c3) (g3:k23.C w A3 x.f3.length x.f3):k47.K w x [.int .i64 x.f0,.string x.f1,.bool x.f2,.slice A3 x.f3.length c3,.bool x.f4,.bool x.f5]:=⟨[.int .i64 x.f0],[.string x.f1,.bool x.f2,.slice A3 x.f3.length c3,.bool x.f4,.bool x.f5],rfl,rfl,⟨[.string x.f1],[.bool x.f2,.slice A3 x.f3.length c3,.bool x.f4,.bool x.f5],rfl,rfl,⟨[.bool x.f2],[.slice A3 x.f3.length c3,.bool x.f4,.bool x.f5],rfl,rfl,⟨[.slice A3 x.f3.length c3],[.bool x.f4,.bool x.f5],rfl,⟨A3,c3,rfl,l3,g3⟩,⟨[.bool x.f4],[.bool x.f5],rfl,rfl,rfl⟩⟩⟩⟩⟩
theorem k47_mkF (W:World) (ok:Nat→Prop) (x:S47) {A3:Option Addr} {c3:Nat} (l3:x.f3.length≤c3) (g3:Kd.F k23 W ok A3 x.f3.length x.f3):Kd.FK k47 W ok x [.int .i64 x.f0,.string x.f1,.bool x.f2,.slice A3 x.f3.length c3,.bool x.f4,.bool x.f5]:=fun W2 hW=>k47_mk W2 x l3 (g3 W2 hW)
def rd_T47 (xs:List S47) (i:Int):S47:=xs.getD i.toNat z47
theorem at_T47 {w:World} {A:Option Addr} {n:Nat} {xs:List S47} (h:Kd.C k47 w A n xs) (i:Int) (h0:0≤i) (h1:i < n) : ∃ ad A3 c3,A=some ad∧w.cell? (ad.add (i.toNat * 6))=some (.int .i64 (rd_T47 xs i).f0)∧w.cell? ⟨(ad.add (i.toNat * 6)).block,(ad.add (i.toNat * 6)).off+1,none⟩=some (.string (rd_T47 xs i).f1)∧w.cell? ⟨(ad.add (i.toNat * 6)).block,(ad.add (i.toNat * 6)).off+2,none⟩=some (.bool (rd_T47 xs i).f2)∧w.cell? ⟨(ad.add (i.toNat * 6)).block,(ad.add (i.toNat * 6)).off+3,none⟩=some (.slice A3 (rd_T47 xs i).f3.length c3)∧w.cell? ⟨(ad.add (i.toNat * 6)).block,(ad.add (i.toNat * 6)).off+4,none⟩=some (.bool (rd_T47 xs i).f4)∧w.cell? ⟨(ad.add (i.toNat * 6)).block,(ad.add (i.toNat * 6)).off+5,none⟩=some (.bool (rd_T47 xs i).f5)∧(rd_T47 xs i).f3.length≤c3∧k23.C w A3 (rd_T47 xs i).f3.length (rd_T47 xs i).f3:=by
 obtain ⟨ad,c,e,_,hK,hc0⟩:=Kd.C_get h z47 i h0 h1;have hc : ∀ j u,c[j]?=some u→w.cell? (ad.add (i.toNat * 6+j))=some u:=hc0;obtain ⟨A3,c3,rfl,l3,g3⟩:=k47_open hK;exact ⟨ad,A3,c3,e,hc 0 _ rfl,by rw [← add_field _ _ 1 (by omega)];exact hc 1 _ rfl,by rw [← add_field _ _ 2 (by omega)];exact hc 2 _ rfl,by rw [← add_field _ _ 3 (by omega)];exact hc 3 _ rfl,by rw [← add_field _ _ 4 (by omega)];exact hc 4 _ rfl,by rw [← add_field _ _ 5 (by omega)];exact hc 5 _ rfl,l3,g3⟩
structure S69 where
 f0:ByteArray
 f1:ByteArray
def z69:S69:=⟨(⟨#[]⟩:ByteArray),(⟨#[]⟩:ByteArray)⟩
def k69:Kd S69:=Kd.iso (Kd.pair Kd.string Kd.string) (fun x:S69=>(x.f0,x.f1))
theorem k69_open {w:World} {x:S69} {cs:List Value} (h:k69.K w x cs):cs=[.string x.f0,.string x.f1]:=by
 obtain ⟨_,_,rfl,rfl,rfl⟩:=h;exact rfl
def rd_T69 (xs:List S69) (i:Int):S69:=xs.getD i.toNat z69
theorem at_T69 {w:World} {A:Option Addr} {n:Nat} {xs:List S69} (h:Kd.C k69 w A n xs) (i:Int) (h0:0≤i) (h1:i < n) : ∃ ad ,A=some ad∧w.cell? (ad.add (i.toNat * 2))=some (.string (rd_T69 xs i).f0)∧w.cell? ⟨(ad.add (i.toNat * 2)).block,(ad.add (i.toNat * 2)).off+1,none⟩=some (.string (rd_T69 xs i).f1):=by
 obtain ⟨ad,c,e,_,hK,hc0⟩:=Kd.C_get h z69 i h0 h1;have hc : ∀ j u,c[j]?=some u→w.cell? (ad.add (i.toNat * 2+j))=some u:=hc0;obtain rfl:=k69_open hK;exact ⟨ad,e,hc 0 _ rfl,by rw [← add_field _ _ 1 (by omega)];exact hc 1 _ rfl⟩
structure S30 where
 f0:ByteArray
 f1:ByteArray
 f2:ByteArray
 f3:Bool
 f4:ByteArray
 f5:S27
 f6:(List ByteArray)
 f7:(List ByteArray)
 f8:Int
 f9:Int
 f10:ByteArray
 f11:(List S69)
def k30:Kd S30:=Kd.iso (Kd.pair Kd.string (Kd.pair Kd.string (Kd.pair Kd.string (Kd.pair Kd.bool (Kd.pair Kd.string (Kd.pair k27 (Kd.pair (Kd.slice 9 Kd.string) (Kd.pair (Kd.slice 9 Kd.string) (Kd.pair (Kd.int .i64) (Kd.pair (Kd.int .i64) (Kd.pair Kd.string (Kd.slice 69 k69)))))))))))) (fun x:S30=>(x.f0,x.f1,x.f2,x.f3,x.f4,x.f5,x.f6,x.f7,x.f8,x.f9,x.f10,x.f11))
theorem k30_open {w:World} {x:S30} {cs:List Value} (h:k30.K w x cs) : ∃ A8 c8 A9 c9 A10 c10 A11 c11 A15 c15,cs=[.string x.f0,.string x.f1,.string x.f2,.bool x.f3,.string x.f4,.int .i64 x.f5.f0,.int .i64 x.f5.f1,.string x.f5.f2,.slice A8 x.f5.f3.length c8,.slice A9 x.f5.f4.length c9,.slice A10 x.f6.length c10,.slice A11 x.f7.length c11,.int .i64 x.f8,.int .i64 x.f9,.string x.f10,.slice A15 x.f11.length c15]∧x.f5.f3.length≤c8∧Kd.string.C w A8 x.f5.f3.length x.f5.f3∧x.f5.f4.length≤c9∧k27.C w A9 x.f5.f4.length x.f5.f4∧x.f6.length≤c10∧Kd.string.C w A10 x.f6.length x.f6∧x.f7.length≤c11∧Kd.string.C w A11 x.f7.length x.f7∧x.f11.length≤c15∧k69.C w A15 x.f11.length x.f11:=by
 obtain ⟨_,_,rfl,rfl,⟨_,_,rfl,rfl,⟨_,_,rfl,rfl,⟨_,_,rfl,rfl,⟨_,_,rfl,rfl,⟨_,_,rfl,s5,⟨_,_,rfl,⟨A10,c10,rfl,l10,g10⟩,⟨_,_,rfl,⟨A11,c11,rfl,l11,g11⟩,⟨_,_,rfl,rfl,⟨_,_,rfl,rfl,⟨_,_,rfl,rfl,⟨A15,c15,rfl,l15,g15⟩⟩⟩⟩⟩⟩⟩⟩⟩⟩⟩⟩:=h;obtain ⟨A8,c8,A9,c9,rfl,l8,g8,l9,g9⟩:=k27_open s5;exact ⟨A8,c8,A9,c9,A10,c10,A11,c11,A15,c15,rfl,l8,g8,l9,g9,l10,g10,l11,g11,l15,g15⟩
structure S32 where
 f0:S30
 f1:ByteArray
 f2:ByteArray
 f3:Int
 f4:Int
def k32:Kd S32:=Kd.iso (Kd.pair k30 (Kd.pair Kd.string (Kd.pair Kd.string (Kd.pair (Kd.int .i64) (Kd.int .i64))))) (fun x:S32=>(x.f0,x.f1,x.f2,x.f3,x.f4))
theorem k32_open {w:World} {x:S32} {cs:List Value} (h:k32.K w x cs) : ∃ A8 c8 A9 c9 A10 c10 A11 c11 A15 c15,cs=[.string x.f0.f0,.string x.f0.f1,.string x.f0.f2,.bool x.f0.f3,.string x.f0.f4,.int .i64 x.f0.f5.f0,.int .i64 x.f0.f5.f1,.string x.f0.f5.f2,.slice A8 x.f0.f5.f3.length c8,.slice A9 x.f0.f5.f4.length c9,.slice A10 x.f0.f6.length c10,.slice A11 x.f0.f7.length c11,.int .i64 x.f0.f8,.int .i64 x.f0.f9,.string x.f0.f10,.slice A15 x.f0.f11.length c15,.string x.f1,.string x.f2,.int .i64 x.f3,.int .i64 x.f4]∧x.f0.f5.f3.length≤c8∧Kd.string.C w A8 x.f0.f5.f3.length x.f0.f5.f3∧x.f0.f5.f4.length≤c9∧k27.C w A9 x.f0.f5.f4.length x.f0.f5.f4∧x.f0.f6.length≤c10∧Kd.string.C w A10 x.f0.f6.length x.f0.f6∧x.f0.f7.length≤c11∧Kd.string.C w A11 x.f0.f7.length x.f0.f7∧x.f0.f11.length≤c15∧k69.C w A15 x.f0.f11.length x.f0.f11:=by
 obtain ⟨_,_,rfl,s0,⟨_,_,rfl,rfl,⟨_,_,rfl,rfl,⟨_,_,rfl,rfl,rfl⟩⟩⟩⟩:=h;obtain ⟨A8,c8,A9,c9,A10,c10,A11,c11,A15,c15,rfl,l8,g8,l9,g9,l10,g10,l11,g11,l15,g15⟩:=k30_open s0;exact ⟨A8,c8,A9,c9,A10,c10,A11,c11,A15,c15,rfl,l8,g8,l9,g9,l10,g10,l11,g11,l15,g15⟩
structure S80 where
 f0:Int
 f1:Bool
def z80:S80:=⟨(0:Int),false⟩
def k80:Kd S80:=Kd.iso (Kd.pair (Kd.int .i32) Kd.bool) (fun x:S80=>(x.f0,x.f1))
theorem k80_open {w:World} {x:S80} {cs:List Value} (h:k80.K w x cs):cs=[.int .i32 x.f0,.bool x.f1]:=by
 obtain ⟨_,_,rfl,rfl,rfl⟩:=h;exact rfl
theorem k80_mk (w:World) (x:S80)  : k80.K w x [.int .i32 x.f0,.bool x.f1]:=⟨[.int .i32 x.f0],[.bool x.f1],rfl,rfl,rfl⟩
def rd_T80 (xs:List S80) (i:Int):S80:=xs.getD i.toNat z80
theorem at_T80 {w:World} {A:Option Addr} {n:Nat} {xs:List S80} (h:Kd.C k80 w A n xs) (i:Int) (h0:0≤i) (h1:i < n) : ∃ ad ,A=some ad∧w.cell? (ad.add (i.toNat * 2))=some (.int .i32 (rd_T80 xs i).f0)∧w.cell? ⟨(ad.add (i.toNat * 2)).block,(ad.add (i.toNat * 2)).off+1,none⟩=some (.bool (rd_T80 xs i).f1):=by
 obtain ⟨ad,c,e,_,hK,hc0⟩:=Kd.C_get h z80 i h0 h1;have hc : ∀ j u,c[j]?=some u→w.cell? (ad.add (i.toNat * 2+j))=some u:=hc0;obtain rfl:=k80_open hK;exact ⟨ad,e,hc 0 _ rfl,by rw [← add_field _ _ 1 (by omega)];exact hc 1 _ rfl⟩
theorem k27_heap:Kd.Heap k27:=Kd.heap_fix (fun _ h_=>Kd.heap_iso _ (Kd.heap_pair (Kd.heap_int .i64) (Kd.heap_pair (Kd.heap_int .i64) (Kd.heap_pair Kd.heap_string (Kd.heap_pair (Kd.heap_slice 9 Kd.heap_string) (Kd.heap_slice 27 h_))))))
end Go.Proofs.YtodhmbnfliajiaaGreatDoor.Q
