/- Contracts and laws. Conditions: none. -/
import Derived.Test.YtkoeecdjijfjnaaGreatDoorC1
set_option linter.all false
set_option maxRecDepth 100000
set_option maxHeartbeats 8000000
namespace Go.Proofs.YtkoeecdjijfjnaaGreatDoor
open Go.RowKit
theorem aB.set {w w':World}{Q:Nat->Prop}(h:aB Q w w'){p:Addr}(u:Value)(hp:¬ Q p.block):aB Q w (w'.setCell p u) :=
 fun b hb hq=>(Below.heap_setCell _ _ _ _ (fun e=>hp (e ▸ hq))).trans (h b hb hq)
theorem aB.of_below {w w':World}{Q:Nat->Prop}{N:Nat}(h:Below N w w')(hQ:∀ b,Q b->b<N):aB Q w w':=fun b _ hq=>h.block b (hQ b hq)
theorem bZ.set {w:World}{Q:Nat->Prop}{v:Value}{l:List GV}(h:bZ w Q v l){p:Addr}(u:Value)(hp:¬ Q p.block):bZ (w.setCell p u) Q v l :=
 h.carry (fun _ _ hq=>Below.heap_setCell _ _ _ _ (fun e=>hp (e ▸ hq))) (fun _ _ h=>h)
structure mg (x:GN)(a:NA)(w W:World):Prop where
 ext:Ext w W
 size:W.heap.size=w+3
 box:Blk W w 60 (aN x a).toArray
 res:Blk W (w+1) 135 #[qn,false]
 out:Blk W (w+2) 135 #[qn,false]
theorem mg.mk' (x:GN)(a:NA)(w:World):mg x a w (((w.alloc (qk (aN x a).toArray 60)).alloc (qk #[qn,false] 135)).alloc (qk #[qn,false] 135)) :=
 ⟨(((aq w).alloc' _).alloc' _).alloc' _,U,((aw w 60 (aN x a).toArray).alloc _).alloc _,(az _ _ _ U).alloc _,az _ _ _ U⟩
theorem Dq (x:GN)(a:NA)(P:Nat->Prop)(before:List GL)(vb:Value)(w:World)(hx:NAt w P x a)(hk:x.kind=0)(hP:∀ b,P b->b<w) :
  qg 98 #[fE x a,vb] w (zM P (cQ before x) w):=by
 have HX:=aYf hx;have HPP:=aYf hP;have HQ:=aYf (show cQ before x=⟨[x.value],false⟩ by unfold cQ;rw [if_pos hk]);have t0:(x.kind == 0)=true:=aYh hk;obtain ⟨i0,hi,hz0,hz1,hz2⟩:=info_parts Tryz.info58;have HI:=aYf hi;clear hx hP hk hi;go_enter Tryz.func98,Tryz.ntmps98;go_upto_region 2 with fail;have HW:=aYf (mg.mk' x a w);generalize hW:(((w.alloc (qk (aN x a).toArray 60)).alloc (qk #[qn,false] 135)).alloc (qk #[qn,false] 135))=W at *;clear hW;have b0:=HW.out.box.cell' (u:=↑x.kind) 0 rfl;have b8:=HW.out.box.cell' (u:=↑x.value.kind) 8 rfl;have b9:=HW.out.box.cell' (u:=↑x.value.n) 9 rfl;have b10:=HW.out.box.cell' (u:=x.value.s) 10 rfl;have b11:=HW.out.box.cell' (u:=.slice a.xA x.value.kids a.xc) 11 rfl;have o0:=HW.out.out.cell' (u:=qn) 0 rfl;go_wp2_with (at_builtin;go_must (refine aM _ rfl (.tmp 60) (.tmp 63) 56 dd W 58 i0 _ 4 56 Tryz.underlying56 HI.out hz0 hz1 hz2 rfl I qn 0 [] rfl (aT _ _ _ _) (fun _=>True) (qp W) 1 1 [x.value.kind,x.value.n,x.value.s,.slice a.xA x.value.kids a.xc] rfl (Sl.new _ _ _ _ _ rfl) ci I I U ?_);intro v2 w2 ho2 hbl2;have hx2:Ext W w2:=((aq W).alloc' _).trans hbl2;have q0:=(HW.out.out.ext hx2).cell' (u:=qn) 0 rfl;have q1:=(HW.out.out.ext hx2).cell' (u:=false) 1 rfl;have p0:=(HW.out.out.ext hx2).frozen 0;have r0:=(HW.out.res.ext hx2).cell' (u:=qn) 0 rfl;have r1:=(HW.out.res.ext hx2).cell' (u:=false) 1 rfl;have s0:=(HW.out.res.ext hx2).frozen 0;have s1:=(HW.out.res.ext hx2).frozen 1;obtain ⟨A2,c2,e2,-,-,-⟩:=Sl.of_own ho2;subst e2)
 have hsz:=HW.out.size;have q:=(((HW.out.res.ext hx2).far (p:=qp (w.heap.size+1+1)) (by show w.heap.size+1 ≠ w+1+1;omega) (.slice A2 (0+1) c2)).set_ 0 (.slice A2 (0+1) c2)).set_ 1 false;have z0:=q.cell' (u:=.slice A2 1 c2) 0 rfl;have z1:=q.cell' (u:=false) 1 rfl;clear q;have HRES:=aYf (show bZ w2 (New P W) (.slice A2 1 c2) [x.value] from bZ.of_own ho2 (RVs.one (RV.carry (aB.of_ext hx2) (fun _ _ h=>.inl h) (HX.out.value.ext HW.out.ext).rv)) U (fun b hb=>.inr (ho2.block_ge hb)))
 have hn1:∀ b,b=w.heap.size+1∨b=w.heap.size+1+1->¬ New P W b:=by
  rintro b hb (h | h)
  ·have:=HPP.out b h;omega
  ·omega
 rw [HQ.out];refine bodyPost_ret (v:=.agg #[.slice A2 1 c2,false]) (by simp [results,Tryz.results98,go_sem,z0,z1]) rfl ⟨A2,c2,rfl,?_,?_⟩
 ·exact (((HRES.out.set (p:=qp (w.heap.size+1+1)) _ (hn1 _ (.inr rfl))).set (p:=qp (w+1)) _ (hn1 _ (.inl rfl))).set (p:=qt (w+1) 1) _ (hn1 _ (.inl rfl))).imp (fun b _ h=>h.elim .inl (fun h=>.inr I))
 ·exact (((HW.out.ext.trans' hx2).setCell' (p:=qp (w.heap.size+1+1)) (by show w.heap.size<=w+1+1;omega) _).setCell' (p:=qp (w+1)) cm _).setCell' (p:=qt (w+1) 1) cm _
theorem qA (lo:Int)(k:Nat):eE lo (k+1)=eE lo k ++ [.mk 0 (lo+k) ByteArray.empty []]:=by
 induction k generalizing lo with
 | zero=>simp [eE]
 | succ k ih =>
  rw [eE,ih (lo+1),eE];simp only [List.cons_append]
  congr 4
  simp;omega
theorem Ci (w:World)(P:Nat->Prop){n:Int}(h:I64 n):RV w P (.mk 0 n ByteArray.empty []) [qz,.int .i64 n,.string ByteArray.empty,qn] :=
 RV.mk_iff.2 ⟨cu,h,U,_,rfl,none,0,[],rfl,U,U,⟨rfl,fun h=>absurd h U⟩,rfl⟩
def LO (lo:Int)(N g:Nat)(P:Nat->Prop)(W:World)(n:Value)(wr:World):Prop :=
 ∃ (k:Nat) (v:Value) (xs:List Value),k<=N∧n=.int .i64 (lo+k)∧Blk wr g 135 #[v,false]∧wr.ownsRow W 58 4 v k xs∧RVs wr P (eE lo k) xs∧Fr (fun b=>b=g) W wr
theorem IS (x:GN)(a:NA)(P:Nat->Prop)(before:List GL)(vb:Value)(w:World)(hx:NAt w P x a)(hk:x.kind=1)(hP:∀ b,P b->b<w)(hnum:bQ x=true) :
  qg 98 #[fE x a,vb] w (zM P (cQ before x) w):=by
 have HPP:=aYf hP;have HQ:=aYf (show cQ before x=if 1024<=x.hi - x.lo then ⟨[],true⟩ else ⟨eE x.lo (x.hi - x.lo+1).toNat,false⟩ by unfold cQ;rw [if_neg I,if_pos hk]);have t0:(x.kind == 0)=false:=aYg I;have t1:(x.kind == 1)=true:=aYh hk;obtain ⟨hn1,hn2,hn3,hn4⟩:=aZ hnum;obtain ⟨i0,hi,hz0,hz1,hz2⟩:=info_parts Tryz.info58;have HI:=aYf hi;clear hx hP hk hi hnum;go_enter Tryz.func98,Tryz.ntmps98;go_upto_region 2 with fail;have HW:=aYf (mg.mk' x a w);generalize hW:(((w.alloc (qk (aN x a).toArray 60)).alloc (qk #[qn,false] 135)).alloc (qk #[qn,false] 135))=W at *;clear hW;have b0:=HW.out.box.cell' (u:=↑x.kind) 0 rfl;have b2:=HW.out.box.cell' (u:=↑x.lo) 2 rfl;have b3:=HW.out.box.cell' (u:=↑x.hi) 3 rfl
 by_cases hbig:1024<=x.hi - x.lo
 ·have td:decide (1024<=x.hi - x.lo)=true:=aYi hbig
  have HQ2:=aYf (HQ.out.trans (if_pos hbig));have r0:=HW.out.res.cell' (u:=qn) 0 rfl;have r1:=HW.out.res.cell' (u:=false) 1 rfl;have s0:=HW.out.res.frozen 0;have s1:=HW.out.res.frozen 1;go_wp2_with fail;have q:=(HW.out.res.set_ 0 qn).set_ 1 true;have z0:=q.cell' (u:=qn) 0 rfl;have z1:=q.cell' (u:=true) 1 rfl;clear q;rw [HQ2.out];refine bodyPost_ret (v:=.agg #[qn,true]) (by simp [results,Tryz.results98,go_sem,z0,z1]) rfl ⟨none,0,rfl,⟨none,0,[],rfl,U,U,⟨rfl,fun h=>absurd h U⟩,rfl⟩,?_⟩;exact (HW.out.ext.setCell' (p:=qp (w+1)) cm _).setCell' (p:=qt (w+1) 1) cm _
 ·have td:decide (1024<=x.hi - x.lo)=false:=aYj hbig
  have HQ2:=aYf (HQ.out.trans (if_neg hbig));obtain ⟨N,hN⟩:∃ N:Nat,x.hi - x.lo+1=N:=⟨(x.hi - x.lo+1).toNat,I⟩;have HN:=aYf hN;have hN2:N<=1024:=by omega
  have hN3:1<=N:=I;have hhi1:x.lo+N<=x.hi+1:=I;have hhi2:x.hi+1<=x.lo+N:=I;clear hN;go_wp2_with fail;go_loopw [6] (fun n wr=>LO x.lo N (w+2) P W n wr) (fun n _=>(x.hi+1 - intOf n).toNat)
  case atStart=>exact ⟨0,↑qn,[],af _,U,HW.out.out,aT _ _ _ _,rfl,au _ _⟩
  case round =>
   obtain ⟨k,v,xs,hk,rfl,hout,hown,hrv,hfr⟩:=hrel;have HOUT:=aYf hout;have HOWN:=aYf hown;have HRV:=aYf hrv;have HFR:=aYf hfr;have o0:=hout.cell' (u:=v) 0 rfl;have o1:=hout.cell' (u:=false) 1 rfl;have p0:=hout.frozen 0;have BX:=aYf (HW.out.box.fr hfr I);have c3:=BX.out.cell' (u:=↑x.hi) 3 rfl;have hsz:=hfr.size;have hsw:=HW.out.size;clear hout hown hrv hfr b0 b2 b3;by_cases hlt:k<N
   ·have tl:decide (x.lo+(k:Int)<=x.hi)=true:=aYi I
    go_wp2_with (at_builtin;go_must (refine aM _ rfl (.tmp 84) (.tmp 87) 56 dd W 58 i0 _ 4 56 Tryz.underlying56 HI.out hz0 hz1 hz2 rfl I v _ _ rfl (HOWN.out.alloc _) (fun _=>True) (qp wr) 1 1 [qz,.int .i64 (x.lo+k),.string ByteArray.empty,qn] rfl (Sl.new _ _ _ _ _ rfl) ci I I bh ?_);intro v2 w2 ho2 hbl2;have hx2:Below W wr w2:=((Below.refl _ wr).alloc hsz _).trans hbl2;have q0:=(hx2.cell (p:=qp (w+2)) (by show w.heap.size+2<W;omega)).trans o0;have q2:=(hx2.frozen (p:=qp (w+2)) (by show w.heap.size+2<W;omega)).trans p0;obtain ⟨A2,c2,e2,-,-,-⟩:=Sl.of_own ho2;subst e2);go_roundw
    case rel =>
     have hb2:Blk w2 (w+2) 135 #[v,false]:=(hx2.block _ I).trans HOUT.out;have hP2:∀ b,P b->b<W:=fun b hb=>by have:=HPP.out b hb;omega
     have hP3:¬ P (w.heap.size+1+1):=fun h=>by have:=HPP.out _ h;omega
     refine ⟨k+1,.slice A2 (k+1) c2,_,I,bh,hb2.set_ 0 _,ownsRow_setCell_below ho2 (a:=qp (w.heap.size+1+1)) i8 _,?_,?_⟩
     ·rw [qA]
      exact RVs.append (RVs.carry ((aB.of_below hx2 hP2).set (p:=qp (w.heap.size+1+1)) _ hP3) (fun _ _ h=>h) HRV.out) (RVs.one (Ci _ _ dg))
     ·exact (HFR.out.trans_new ⟨hx2.os,hx2.tape,hx2.output,hx2.size,fun i hi hm=>hx2.block i I⟩).setCell (p:=qp (w.heap.size+1+1)) (.inl rfl) _
    case measure=>simp [intOf];omega
   ·have tl:decide (x.lo+(k:Int)<=x.hi)=false:=aYj I
    have r0:=(HW.out.res.fr HFR.out I).cell' (u:=qn) 0 rfl;have r1:=(HW.out.res.fr HFR.out I).cell' (u:=false) 1 rfl;have s0:=(HW.out.res.fr HFR.out I).frozen 0;have s1:=(HW.out.res.fr HFR.out I).frozen 1;obtain ⟨A2,c2,e2,-,-,-⟩:=Sl.of_own HOWN.out;subst e2;go_wp2_with fail;have hkN:k=N:=by omega
    have HKN:=aYf hkN;clear hkN;have q:=((HW.out.res.fr HFR.out I).set_ 0 (.slice A2 k c2)).set_ 1 false;have z0:=q.cell' (u:=.slice A2 k c2) 0 rfl;have z1:=q.cell' (u:=false) 1 rfl;clear q;have HRES:=aYf (show bZ wr (New P W) (.slice A2 k c2) (eE x.lo k) from bZ.of_own (HOWN.out.len_cast (dR _ _).symm rfl) (RVs.carry (fun _ _ _=>rfl) (fun _ _ h=>.inl h) HRV.out) (by rw [dR];omega) (fun b hb=>.inr (HOWN.out.block_ge hb)))
    have hn1:¬ New P W (w+1):=by
     rintro (h | h)
     ·have:=HPP.out _ h;omega
     ·omega
    have HEQ:=aYf (show cQ before x=⟨eE x.lo k,false⟩ by rw [HQ2.out,HKN.out,HN.out];simp);rw [HEQ.out];refine bodyPost_ret (v:=.agg #[.slice A2 k c2,false]) (by simp [results,Tryz.results98,go_sem,z0,z1]) rfl ⟨A2,c2,by rw [dR],?_,?_⟩
    ·rw [dR]
     exact ((HRES.out.set (p:=qp (w+1)) _ hn1).set (p:=qt (w+1) 1) _ hn1).imp (fun b _ h=>h.elim .inl (fun h=>.inr I))
    ·refine Fr.new_ext (M:=fun b=>b=w.heap.size+1∨b=w.heap.size+2) ?_ (fun b hb=>by omega)
     exact ((((ar HW.out.ext).trans (HFR.out.mono (fun b hb=>.inr hb))).setCell (p:=qp (w+1)) (.inl (.inl rfl)) _).setCell (p:=qt (w+1) 1) (.inl (.inl rfl)) _)
theorem D0 (x:GN)(a:NA)(P:Nat->Prop)(before:List GL)(vb:Value)(w:World)(hx:NAt w P x a)(hk:x.kind=3)(hP:∀ b,P b->b<w)(hb:GLs w P vb before)
  (hkids:∀ z ∈ x.kids,0<=z∧z<(before:Int))(hlok:∀ z ∈ x.kids,LOK (before.getD z.toNat default))(hkl:x.kids.length<=2000) :
  qg 98 #[fE x a,vb] w (zM P (cQ before x) w):=by
 have HX:=aYf hx;have HPP:=aYf hP;have HB:=aYf hb;have HK:=aYf hkids;have HL:=aYf hlok;have HQ:=aYf (show cQ before x=xV x before by unfold cQ;rw [if_neg I,if_neg I,if_pos hk]);have t0:(x.kind == 0)=false:=aYg I;have t1:(x.kind == 1)=false:=aYg I;have t3:(x.kind == 3)=true:=aYh hk;clear hx hP hk hb hkids hlok;go_enter Tryz.func98,Tryz.ntmps98;go_upto_region 2 with fail;have HW:=aYf (mg.mk' x a w);generalize hW:(((w.alloc (qk (aN x a).toArray 60)).alloc (qk #[qn,false] 135)).alloc (qk #[qn,false] 135))=W at *;clear hW;have BX:=aYf HW.out.box;have x0:=BX.out.cell' (u:=↑x.kind) 0 rfl;have x1:=BX.out.cell' (u:=x.name) 1 rfl;have x2:=BX.out.cell' (u:=↑x.lo) 2 rfl;have x3:=BX.out.cell' (u:=↑x.hi) 3 rfl;have x4:=BX.out.cell' (u:=.slice a.wA x.weights a.wc) 4 rfl;have x5:=BX.out.cell' (u:=.slice a.lA x.labels a.lc) 5 rfl;have x6:=BX.out.cell' (u:=.slice a.vA x.values a.vc) 6 rfl;have x7:=BX.out.cell' (u:=.slice a.kA x.kids a.kc) 7 rfl;have x8:=BX.out.cell' (u:=↑x.value.kind) 8 rfl;have x9:=BX.out.cell' (u:=↑x.value.n) 9 rfl;have x10:=BX.out.cell' (u:=x.value.s) 10 rfl
 have x11:=BX.out.cell' (u:=.slice a.xA x.value.kids a.xc) 11 rfl;go_wp2_with fail;refine (uQ x a P before vb _ (HX.out.ext HW.out.ext) (HB.out.ext HW.out.ext) HK.out HL.out hkl).mono ?_;rintro e w1 ⟨A,c,rfl,hv,hx1⟩;have HX1:=aYf hx1;have HV:=aYf hv;have r0:=(HW.out.res.ext hx1).cell' (u:=qn) 0 rfl;have r1:=(HW.out.res.ext hx1).cell' (u:=false) 1 rfl;have s0:=(HW.out.res.ext hx1).frozen 0;have s1:=(HW.out.res.ext hx1).frozen 1;have hsz:=HW.out.size;clear hx1 hv x0 x1 x2 x3 x4 x5 x6 x7 x8 x9 x10 x11;generalize xV x before=g at *;obtain ⟨vals,many⟩:=g;go_wp2_with fail;have q:=((HW.out.res.ext HX1.out).set_ 0 (.slice A vals c)).set_ 1 many;have z0:=q.cell' (u:=.slice A vals c) 0 rfl;have z1:=q.cell' (u:=many) 1 rfl;clear q;rw [HQ.out]
 have hn1:¬ New P W (w+1):=by
  rintro (h | h)
  ·have:=HPP.out _ h;omega
  ·omega
 refine bodyPost_ret (v:=.agg #[.slice A vals c,many]) (by simp [results,Tryz.results98,go_sem,z0,z1]) rfl ⟨A,c,rfl,?_,?_⟩
 ·exact ((HV.out.set (p:=qp (w+1)) _ hn1).set (p:=qt (w+1) 1) _ hn1).imp (fun b _ h=>h.elim .inl (fun h=>.inr I))
 ·exact ((HW.out.ext.trans' HX1.out).setCell' (p:=qp (w+1)) cm _).setCell' (p:=qt (w+1) 1) cm _
def By (x:GN)(before:List GL)(bind:Bool)(g:Nat)(P:Nat->Prop)(W:World)(i:Value)(wr:World):Prop :=
 ∃ (k:Nat) (out:List GV) (m:Bool) (v:Value) (xs:List Value),k<=x.kids∧i=↑k∧Blk wr g 135 #[v,m]∧wr.ownsRow W 58 4 v out xs∧RVs wr P out xs∧Fr (fun b=>b=g) W wr ∧
  out.length<=1024*k∧jL before bind 0 [] false x.kids=jL before bind k out m (x.kids.drop k)
theorem yP (x:GN)(a:NA)(P:Nat->Prop)(before:List GL)(vb:Value)(w:World)(hx:NAt w P x a)(bind:Bool)(hk:x.kind=if bind then 4 else 2)(hP:∀ b,P b->b<w)(hb:GLs w P vb before)
  (hkids:∀ z ∈ x.kids,0<=z∧z<(before:Int))(hlok:∀ z ∈ x.kids,LOK (before.getD z.toNat default))(hkl:x.kids.length<=2000) :
  qg 98 #[fE x a,vb] w (zM P (cQ before x) w):=by
 have HX:=aYf hx;have HPP:=aYf hP;have HB:=aYf hb;have HK:=aYf hkids;have HL:=aYf hlok
 have HQ:=aYf (show cQ before x=jL before bind 0 [] false x.kids by
  unfold cQ;cases bind
  ·simp only [Bool.false_eq_true,if_false] at hk
   rw [if_neg I,if_neg I,if_neg I,aYj I]
  ·simp only [if_true] at hk
   rw [if_neg I,if_neg I,if_neg I,aYi I])
 have t0:(x.kind == 0)=false:=aYg ig;have t1:(x.kind == 1)=false:=aYg ig;have t3:(x.kind == 3)=false:=aYg ig;have t4:(x.kind == 4)=bind:=by cases bind <;> simp at hk <;> simp [hk]
 have T4:=aYf t4;obtain ⟨Ab,cb,eb,hb1,hb2⟩:=Lst.form hb;subst eb;obtain ⟨hkl1,hkl2⟩:=hx.kids.le;obtain ⟨i0,hi,hz0,hz1,hz2⟩:=info_parts Tryz.info58;have HI:=aYf hi;clear hx hP hk hb hkids hlok hi t4;go_enter Tryz.func98,Tryz.ntmps98;go_upto_region 2 with fail;have HW:=aYf (mg.mk' x a w);generalize hW:(((w.alloc (qk (aN x a).toArray 60)).alloc (qk #[qn,false] 135)).alloc (qk #[qn,false] 135))=W at *;clear hW;have b0:=HW.out.box.cell' (u:=↑x.kind) 0 rfl;go_wp2_with fail;go_loopw [7] (fun n wr=>By x before bind (w+2) P W n wr) (fun n _=>x.kids.length - (intOf n).toNat)
 case atStart=>exact ⟨0,[],false,↑qn,[],af _,rfl,HW.out.out,aT _ _ _ _,rfl,au _ _,U,rfl⟩
 case round =>
  obtain ⟨k,out,m,v,xs,hk,rfl,hout,hown,hrv,hfr,hol,ht⟩:=hrel;have HT:=aYf ht;have HOUT:=aYf hout;have HOWN:=aYf hown;have HRV:=aYf hrv;have HFR:=aYf hfr;have o0:=hout.cell' (u:=v) 0 rfl;have o1:=hout.cell' (u:=m) 1 rfl;have p0:=hout.frozen 0;have p1:=hout.frozen 1;have lo2:=hout.lt;have hsw:=HW.out.size;have BX:=aYf (HW.out.box.fr hfr I);have c0:=BX.out.cell' (u:=↑x.kind) 0 rfl;have c7:=BX.out.cell' (u:=.slice a.kA x.kids a.kc) 7 rfl;have HEW:=aYf (show Ext w wr from Fr.new_ext ((ar HW.out.ext).trans hfr) (fun b hb=>by omega));have HEX:=aYf (show aB P w wr from fun b hb hp=>(hfr.block b I (by have:=HPP.out b hp;omega)).trans (HW.out.ext.block b hb));clear hout hown hrv hfr b0 ht;by_cases hlt:k<x.kids
  ·by_cases hbk:bind=true∧k=0
   ·obtain ⟨hb1,rfl⟩:=hbk
    subst hb1;have t4:(x.kind == 4)=true:=T4.out;have HU:=aYf (show jL before true 0 [] false x.kids=jL before true (0+1) out m (x.kids.drop 1) by rw [HT.out,aJ 0 hlt,jL,if_pos ⟨rfl,rfl⟩]);go_wp2_with fail;go_roundw
    case rel=>exact ⟨1,out,m,v,xs,I,rfl,HOUT.out,HOWN.out,HRV.out,HFR.out,I,HU.out⟩
    case measure=>simp [intOf];omega
   ·obtain ⟨b1,o1',e1,-,-,g1⟩:=(HX.out.kids.carry (Q:=P) HEX.out (fun _ _ h=>h)).get hlt
    rw [e1] at c7;clear e1;have hz:=HK.out _ (aC (d:=0) hlt);have HLZ:=aYf (HL.out _ (aC (d:=0) hlt));have HD:=aYf (show jL before bind 0 [] false x.kids=_ from by rw [HT.out,aJ 0 hlt,jL,if_neg hbk]);generalize x.kids.getD k 0=z at *;obtain ⟨b2,o2,A2,d2,rfl,-,hv2,g2,g3⟩:=(HB.out.ext HEW.out).get (i:=z.toNat) I;have hfew:=HLZ.out.few;have hvle:=hv2.le;obtain ⟨c2,hs2,hr2⟩:=hv2.slice_parts;have HS2:=aYf hs2;have HR2:=aYf hr2;clear hv2 hs2 hr2;generalize before.getD z.toNat default=l at *;obtain ⟨vals,many⟩:=l;simp only at HD g2 g3 hfew HS2 HR2 hvle;obtain ⟨Av,cv,ev,-,-,-⟩:=Sl.of_own HOWN.out;subst ev;cases bind
    all_goals
     have t4:=T4.out
     first
      | (have tk:((k:Int) == 0)=false:=aYg (by simp at hbk;omega))
      | skip
     go_wp2_with (at_builtin;go_must (refine aS _ rfl (.tmp 35) (.tmp 37) 56 dd W 58 i0 _ 4 56 Tryz.underlying56 HI.out hz0 hz1 hz2 rfl I (.slice Av out cv) _ _ rfl (HOWN.out.alloc _) P A2 vals d2 c2 rfl (HS2.out.ext ((aq wr).alloc' _)) HR2.out.oneCell I I bh ?_);intro v3 w3 ho3 hf3 hb3);have hBL:=(aw wr 135 #[.slice A2 vals d2,many]).fr hf3 (fun e=>by have:=HOWN.out.block_lt e.symm;omega);have hG2:=(HOUT.out.alloc (qk #[.slice A2 vals d2,many] 135)).fr hf3 (fun e=>by have:=HOWN.out.block_ge e.symm;omega);have hsz3:=hf3.size;simp at hsz3;have hKP:aB P wr w3:=fun b hb hp=>(hf3.block b bh (fun e=>by have:=HOWN.out.block_ge e.symm;have:=HPP.out b hp;omega)).trans (Below.heap_alloc wr _ b hb)
     have HF3:=aYf (show Fr (fun b=>b=w.heap.size+2) W w3 from HFR.out.trans_new ⟨hf3.os,hf3.tape,hf3.output,I,fun i hi hm=>(hf3.block i bh (fun e=>hm (.inr (HOWN.out.block_ge e.symm)))).trans (Below.heap_alloc wr _ i hi)⟩);have HBL:=aYf hBL;have HG2:=aYf hG2;have HKP:=aYf hKP;have HO3:=aYf (ho3.len_cast (show out.length+vals=(out ++ vals).length by simp) rfl)
     have HV3:=aYf (show sO w3 (fun _=>True) P v3 (out ++ vals) from by
      obtain ⟨A,c,e,h1,h2,h3⟩:=Sl.of_own HO3.out;unfold maxLen at h2;refine ⟨A,c,_,e,h1,⟨bh,h2⟩,h3 _ (fun _ _=>trivial),?_⟩;exact RVs.append (RVs.carry HKP.out (fun _ _ h=>h) HRV.out) (RVs.carry HKP.out (fun _ _ h=>h) HR2.out))
     clear hBL hG2 hKP hf3 hb3 ho3 o0 o1 p0 p1 c0 c7 g1 g2 g3;refine (nY (out ++ vals) (fun _=>True) P _ _ HV3.out bh).mono ?_;rintro e w4 ⟨v4,ys,rfl,ho4,hr4,hx4⟩;have HX4:=aYf hx4;have HO4:=aYf ho4;have HR4:=aYf hr4;have BL:=HBL.out.ext hx4;have G2:=HG2.out.ext hx4;have l1:=BL.cell' (u:=many) 1 rfl;have o0:=G2.cell' (u:=.slice Av out cv) 0 rfl;have o1:=G2.cell' (u:=m) 1 rfl;have p0:=G2.frozen 0;have p1:=G2.frozen 1;have HSL:=aYf (xR (out ++ vals));obtain ⟨A4,c4,e4,-,-,-⟩:=Sl.of_own ho4;subst e4;clear hx4 ho4 hr4 BL G2;generalize eS (out ++ vals)=so at *;have hsl:so.length<=out+vals:=by have:=HSL.out;simpa using this
     have HM:=aYf (show ∀ mm,mm=(m || many || decide (1024<so.length))->By x before _ (w+2) P W (.int .i64 ((k+1:Nat):Int)) ((w4.setCell (qp (w.heap.size+1+1)) (.slice A4 so c4)).setCell (qt (w.heap.size+1+1) 1) (.bool mm)) from by
      intro mm hmm;have hsw3:W.heap.size<=w3:=HF3.out.size;have hP3:¬ P (w.heap.size+1+1):=fun h=>by have:=HPP.out _ h;omega
      refine ⟨k+1,so,mm,.slice A4 so c4,ys,I,rfl,((HG2.out.ext HX4.out).set_ 0 _).set_ 1 _,?_,?_,?_,I,?_⟩
      ·exact ownsRow_setCell_below (ownsRow_setCell_below (HO4.out.base_le hsw3) (a:=qp (w.heap.size+1+1)) i8 _) (a:=qt (w.heap.size+1+1) 1) i8 _
      ·have hk0:aB P w4 w4:=fun _ _ _=>rfl
       exact RVs.carry ((hk0.set (p:=qp (w.heap.size+1+1)) _ hP3).set (p:=qt (w.heap.size+1+1) 1) _ hP3) (fun _ _ h=>h) HR4.out
      ·exact ((HF3.out.trans (ar HX4.out)).setCell (p:=qp (w.heap.size+1+1)) (.inl rfl) _).setCell (p:=qt (w.heap.size+1+1) 1) (.inl rfl) _
      ·rw [HD.out,hmm])
     cases m
     ·cases many
      ·by_cases hl:1024<so.length
       ·have tl:decide (1024<(so:Int))=true:=aYi I
        have HL1:=aYf hl;clear hl;go_wp2_with fail;go_roundw
        case rel=>exact HM.out true (by have:=HL1.out;simp [this])
        case measure=>simp [intOf];omega
       ·have tl:decide (1024<(so:Int))=false:=aYj I
        have HL1:=aYf hl;clear hl;go_wp2_with fail;go_roundw
        case rel=>exact HM.out false (by have:=HL1.out;simp;omega)
        case measure=>simp [intOf];omega
      ·go_wp2_with fail
       go_roundw
       case rel=>exact HM.out true U
       case measure=>simp [intOf];omega
     ·go_wp2_with fail
      go_roundw
      case rel=>exact HM.out true U
      case measure=>simp [intOf];omega
  ·have HR:=aYf (HW.out.res.fr HFR.out I)
   have r0:=HR.out.cell' (u:=qn) 0 rfl;have r1:=HR.out.cell' (u:=false) 1 rfl;have s0:=HR.out.frozen 0;have s1:=HR.out.frozen 1;obtain ⟨Av,cv,ev,-,-,-⟩:=Sl.of_own HOWN.out;subst ev;have HU:=aYf (show cQ before x=if m then ⟨[],true⟩ else ⟨out,false⟩ by rw [HQ.out,HT.out,drop_nil I,jL])
   have hn1:¬ New P W (w+1):=by
    rintro (h | h)
    ·have:=HPP.out _ h;omega
    ·omega
   have HN1:=aYf hn1;clear hn1;cases m
   ·go_wp2_with fail
    have q:=(HR.out.set_ 0 (.slice Av out cv)).set_ 1 false;have z0:=q.cell' (u:=.slice Av out cv) 0 rfl;have z1:=q.cell' (u:=false) 1 rfl;clear q;rw [HU.out];refine bodyPost_ret (v:=.agg #[.slice Av out cv,false]) (by simp [results,Tryz.results98,go_sem,z0,z1]) rfl ⟨Av,cv,rfl,?_,?_⟩
    ·have hv:bZ wr (New P W) (.slice Av out cv) out:=bZ.of_own HOWN.out (RVs.carry (fun _ _ _=>rfl) (fun _ _ h=>.inl h) HRV.out) I (fun b hb=>.inr (HOWN.out.block_ge hb))
     exact ((hv.set (p:=qp (w+1)) _ HN1.out).set (p:=qt (w+1) 1) _ HN1.out).imp (fun b _ h=>h.elim .inl (fun h=>.inr I))
    ·refine Fr.new_ext (M:=fun b=>b=w.heap.size+1∨b=w.heap.size+2) ?_ (fun b hb=>by omega)
     exact ((((ar HW.out.ext).trans (HFR.out.mono (fun b hb=>.inr hb))).setCell (p:=qp (w+1)) (.inl (.inl rfl)) _).setCell (p:=qt (w+1) 1) (.inl (.inl rfl)) _)
   ·go_wp2_with fail
    have q:=(HR.out.set_ 0 qn).set_ 1 true;have z0:=q.cell' (u:=qn) 0 rfl;have z1:=q.cell' (u:=true) 1 rfl;clear q;rw [HU.out];refine bodyPost_ret (v:=.agg #[qn,true]) (by simp [results,Tryz.results98,go_sem,z0,z1]) rfl ⟨none,0,rfl,⟨none,0,[],rfl,U,U,⟨rfl,fun h=>absurd h U⟩,rfl⟩,?_⟩;refine Fr.new_ext (M:=fun b=>b=w.heap.size+1∨b=w.heap.size+2) ?_ (fun b hb=>by omega);exact ((((ar HW.out.ext).trans (HFR.out.mono (fun b hb=>.inr hb))).setCell (p:=qp (w+1)) (.inl (.inl rfl)) _).setCell (p:=qt (w+1) 1) (.inl (.inl rfl)) _)
structure BO (before:List GL)(x:GN):Prop where
 kind:0<=x.kind∧x.kind<=4
 kids:∀ z ∈ x.kids,0<=z∧z<(before:Int)
 lok:∀ z ∈ x.kids,LOK (before.getD z.toNat default)
 few:x.kids.length<=2000
 num:bQ x=true
theorem Fz (x:GN)(a:NA)(P:Nat->Prop)(before:List GL)(vb:Value)(w:World)(hx:NAt w P x a)(hb:GLs w P vb before)(hok:BO before x) :
  qg 98 #[fE x a,vb] w (zM P (cQ before x) w):=by
 have h0:qg 98 #[fE x a,vb] w (zM (fun b=>P b∧b<w) (cQ before x) w):=by
  have hx':NAt w (fun b=>P b∧b<w) x a:=hx.carry (fun _ _ _=>rfl) (fun b h1 h2=>⟨h2,h1⟩);have hb':GLs w (fun b=>P b∧b<w) vb before:=hb.grow (aq _) (fun b h1 h2=>⟨h2,h1⟩);have hk:=hok.kind;by_cases k0:x.kind=0
  ·exact Dq x a _ before vb w hx' k0 (fun b h=>h.2)
  by_cases k1:x.kind=1
  ·exact IS x a _ before vb w hx' k1 (fun b h=>h.2) hok.num
  by_cases k3:x.kind=3
  ·exact D0 x a _ before vb w hx' k3 (fun b h=>h.2) hb' hok.kids hok.lok hok.few
  by_cases k2:x.kind=2
  ·exact yP x a _ before vb w hx' false (by simpa using k2) (fun b h=>h.2) hb' hok.kids hok.lok hok.few
  ·exact yP x a _ before vb w hx' true bh (fun b h=>h.2) hb' hok.kids hok.lok hok.few
 refine h0.mono ?_;rintro e w' ⟨A,c,h1,h2,h3⟩;exact ⟨A,c,h1,h2.imp (fun b _ h=>h.elim (fun h=>.inl h.1) .inr),h3⟩
theorem Tryz.info135:(Tryz.prog.info? 135).map (fun i=>(i.zero,i.size,i.bytes))=some (some (.agg #[qn,false]),2,32):=av
def EF (P:Nat->Prop)(l:List GL)(w:World)(e:Ending)(w':World):Prop:=∃ v,e=.returned v∧GLs w' (New P w) v l∧Ext w w'
def F2 (t:List GN)(n:Nat)(P:Nat->Prop)(B:Nat)(W:World)(v i:Value)(wr:World):Prop :=
 ∃ (k:Nat) (xs:List Value),k<=n∧i=↑k∧wr.ownsRow W 135 2 v k xs∧RL (RGL wr (Off P B wr v)) (aE (t.take k)) xs∧Ext W wr
theorem nJ (t:List GN):(aE t).length=t:=by unfold aE;rw [dU];simp
theorem LM {t:List GN}{n:Nat}(hg:aO t n){k:Nat}(hk:k<n):BO (aE (t.take k)) (t.getD k default):=by
 have hc:=hg.at_ hk;have hkt:k<t:=by have:=hg.1;omega
 refine ⟨hc.node.kind,fun z hz=>?_,fun z hz=>?_,by have:=(cJ hg hk).1;omega,hc.node.numbers⟩
 ·rw [nJ,ak]
  have:=hc.node.kids z hz;omega
 ·have hz':=hc.node.kids z hz
  rw [gU hkt hz'];exact mJ hg z.toNat I
theorem D9 {P:Nat->Prop}{B N:Nat}{wr w1 w4:World}{v v':Value}{ls:List GL}{g:GL}{xs:List Value}{A:Option Addr}{c:Nat}
  (hB:B<=N)(ho:wr.ownsRow N 135 2 v ls xs)(hr:RL (RGL wr (Off P B wr v)) ls xs)(h1:Ext wr w1)
  (hg:bZ w1 (New (Off P B wr v) wr) (.slice A g.vals c) g.vals)(hN:N<=wr)
  (hf:Fr (fun k=>some k=v.ownBlock) (w1.alloc (qk #[.slice A g.vals c,g.many] 135)) w4)
  (hown:v'.ownBlock=v.ownBlock∨v'.ownBlock=some (w1.alloc (qk #[.slice A g.vals c,g.many] 135)).heap.size) :
  RL (RGL w4 (Off P B w4 v')) (ls ++ [g]) (xs ++ [.slice A g.vals c,.bool g.many]):=by
 have hs1:=h1.size;have hs4:=hf.size;simp at hs4;have h14:Fr (fun k=>some k=v.ownBlock) w1 w4:=(ar ((aq w1).alloc' _)).trans hf;have h04:Fr (fun k=>some k=v.ownBlock) wr w4:=(ar h1).trans h14;have hv:∀ b,v.ownBlock=some b->N<=b∧b<wr:=fun b hb=>⟨ho.block_ge hb,ho.block_lt hb⟩
 have hne:∀ b,b<w1.heap.size->some b ≠ v.ownBlock->some b ≠ v'.ownBlock:=by
  intro b hb h;rcases hown with e | e
  ·rw [e];exact h
  ·rw [e];intro e';injection e' with e';simp at e';omega
 refine RL.append (hr.mono (fun l _ cs h=>h.carry (aB.off h04) (fun b hb h=>⟨h.1,I,hne b I h.2.2⟩))) (RL.one ⟨_,rfl,?_⟩)
 have hq:∀ b,New (Off P B wr v) wr b->(P b∨B<=b)∧some b ≠ v.ownBlock:=by
  rintro b (h | h)
  ·exact ⟨h.1,h.2.2⟩
  ·exact ⟨.inr I,fun e=>by have:=(hv b e.symm).2;omega⟩
 exact hg.carry (fun b hb h=>h14.block b hb (hq b h).2.symm.symm) (fun b hb h=>⟨(hq b h).1,I,hne b hb (hq b h).2⟩)
theorem Lq (t:List GN)(n:Nat)(P:Nat->Prop)(vn:Value)(w:World)(ht:Nds w P vn t)(hg:aO t n) :
  qg 68 #[.agg #[vn],↑n] w (EF P (aE (t.take n)) w):=by
 have HT:=aYf ht;have HG:=aYf hg;obtain ⟨An,cn,en,hn1,hn2⟩:=ht.form;subst en;have hnt:=hg.1;have hn4:=hg.2.1;clear ht hg;obtain ⟨i0,hi,hz0,hz1,hz2⟩:=info_parts Tryz.info135;have HI:=aYf hi;clear hi;go_enter Tryz.func68,Tryz.ntmps68;go_wp2_with fail;have HE:=aYf (show Ext w (w.alloc (qk #[.slice An t cn] 25)) from (aq w).alloc' _);have HBX:=aYf (aw w 25 #[.slice An t cn]);generalize hW:w.alloc (qk #[.slice An t cn] 25)=W at *;clear hW;go_loopw [5,6] (fun v i wr=>F2 t n P w W v i wr) (fun _ i _=>n - (intOf i).toNat)
 case atStart=>exact ⟨0,[],af _,rfl,aT _ _ _ _,rfl,aq _⟩
 case round =>
  obtain ⟨k,xs,hk,rfl,hown,hrl,hx⟩:=hrel;have HOWN:=aYf hown;have HRL:=aYf hrl;have HX:=aYf hx;have hsz:=hx.size;have hsw:=HE.out.size;have b0:=(HBX.out.ext hx).cell' (u:=.slice An t cn) 0 rfl;clear hown hrl hx;have hll:(aE (t.take k))=k:=by rw [nJ,ak];omega
  have HLL:=aYf hll;clear hll;by_cases hlt:k<n
  ·have hkt:k<t:=by omega
   obtain ⟨b1,o1,a1,rfl,-,ha1,hc1⟩:=(HT.out.carry (Q:=Off P w wr u5) (aB.of_ext (HE.out.trans' HX.out)) (fun b hb h=>⟨.inl h,I,fun e=>by have:=HOWN.out.block_ge e.symm;omega⟩)).get hkt;have HOK:=aYf (LM HG.out hlt)
   have HSN:=aYf (show aE (t.take (k+1))=aE (t.take k) ++ [cQ (aE (t.take k)) (t.getD k default)] by
    unfold aE;rw [aW default hkt,iW])
   have HA1:=aYf ha1
   have HGL:=aYf (show GLs wr (Off P w wr u5) u5 (aE (t.take k)) from
    Lst.of_own (HOWN.out.len_cast HLL.out.symm rfl) HRL.out (by rw [HLL.out];omega) (fun b hb=>HOWN.out.block_lt hb))
   have c0:=hc1.c0;have c1:=hc1.c1;have c2:=hc1.c2;have c3:=hc1.c3;have c4:=hc1.c4;have c5:=hc1.c5;have c6:=hc1.c6;have c7:=hc1.c7;have c8:=hc1.c8;have c9:=hc1.c9;have c10:=hc1.c10;have c11:=hc1.c11;clear hc1 ha1;generalize t.getD k default=x at *;go_wp2_with fail;refine (Fz x a1 _ (aE (t.take k)) u5 _ HA1.out HGL.out HOK.out).mono ?_;rintro e w1 ⟨A2,d2,rfl,hv2,hx2⟩;have HV2:=aYf hv2;have HX2:=aYf hx2;clear hv2 hx2 c0 c1 c2 c3 c4 c5 c6 c7 c8 c9 c10 c11 b0;generalize hgg:cQ (aE (t.take k)) x=g at *;clear hgg;go_wp2_with (at_builtin;go_must (refine aS _ rfl (.tmp 12) (.tmp 20) 132 dd W 135 i0 _ 2 32 Tryz.underlying132 HI.out hz0 hz1 hz2 rfl I u5 _ _ rfl ((HOWN.out.ext_ HX2.out).alloc _) (fun _=>True) (qp w1) 1 1 [.slice A2 g.vals d2,g.many] rfl (Sl.new w1 _ _ _ _ rfl) ci I I (by have:=HX2.out.size;simp;omega) ?_);intro v4 w4 ho4 hf4 hb4);go_roundw
   case rel =>
    refine ⟨k+1,_,I,by go_num,ho4,?_,?_⟩
    ·rw [HSN.out]
     exact D9 hsw (HOWN.out.len_cast HLL.out.symm rfl) HRL.out HX2.out HV2.out hsz hf4 hb4
    ·exact Fr.new_ext (((ar (HX.out.trans' HX2.out)).alloc _).trans hf4) (fun b hb=>HOWN.out.block_ge hb.symm)
   case measure=>simp [intOf];omega
  ·have hkn:k=n:=by omega
   have HKN:=aYf hkn;clear hkn;go_wp2_with fail;go_ret;refine ⟨_,rfl,?_,HE.out.trans' HX.out⟩;rw [<- HKN.out];have h:GLs wr (New P w) u5 (aE (t.take k)):=Lst.of_own (HOWN.out.len_cast HLL.out.symm rfl) (HRL.out.mono (fun l _ cs h=>h.carry (fun _ _ _=>rfl) (fun b _ h=>h.1))) (by rw [HLL.out];omega) (fun b hb=>HOWN.out.block_lt hb);exact h
def vd (P:Nat->Prop)(g:GL)(w:World)(e:Ending)(w':World):Prop :=
 ∃ A c,e=.returned (.tuple #[.slice A g.vals c,(!g.many)])∧bZ w' (New P w) (.slice A g.vals c) g.vals∧Ext w w'
theorem sU (t:List GN)(n:Nat)(P:Nat->Prop)(vn:Value)(w:World)(ht:Nds w P vn t)(hg:aO t (n+1)) :
  qg 44 #[.agg #[vn],↑n] w (vd P ((aE t).getD n default) w):=by
 have HT:=aYf ht;have HG:=aYf hg;obtain ⟨An,cn,en,hn1,hn2⟩:=ht.form;subst en;have hnt:=hg.1;have hn4:=hg.2.1
 have HTK:=aYf (show (aE (t.take (n+1))).getD n default=(aE t).getD n default by
  unfold aE;rw [gX _ _ _ hnt];simp [List.getD])
 have HLN:=aYf (show (aE (t.take (n+1)))=n+1 by rw [nJ,ak];omega);clear ht hg;go_enter Tryz.func44,Tryz.ntmps44;go_wp2_with fail;refine (Lq t (n+1) P _ _ (HT.out.ext ((aq w).alloc' _)) HG.out).mono ?_;rintro e w1 ⟨v,rfl,hv,hx1⟩;have HX1:=aYf (((aq w).alloc' _).trans' hx1);obtain ⟨A,c,ev,h1,h2⟩:=Lst.form hv;subst ev;have hln:n<(aE (t.take (n+1))):=by rw [HLN.out];omega
 obtain ⟨b,o,A2,d2,rfl,-,hv2,g2,g3⟩:=hv.get hln;rw [HTK.out] at hv2 g2 g3;have HV2:=aYf hv2;have hn0:(0:Int)<=(n:Int):=by omega
 have hn9:(n:Int)<((aE (t.take (n+1))):Int):=I;clear hv hx1 hv2;generalize (aE (t.take (n+1))).length=L at *;generalize (aE t).getD n default=g at *;obtain ⟨vals,many⟩:=g;simp only at g2 g3;go_wp2_with fail;go_quiet (fail);go_wp2_with fail;go_ret2;refine ⟨A2,d2,rfl,?_,HX1.out.drewN' _⟩;exact (HV2.out.ext ((aq w1).drewN' _)).imp (fun b _ h=>h.elim .inl (fun h=>.inr (by simp at h;omega)))
theorem JW (t:List GN)(x:GN)(a:NA)(n:Nat)(P:Nat->Prop)(vn:Value)(w:World)(ht:Nds w P vn t)(hx:NAt w P x a)(hk:0<x.kids.length)(hz:x.kids.getD 0 0=n)(hg:aO t (n+1)) :
  qg 33 #[.agg #[vn],fE x a] w (dE (.int .i64 (iI t x)) w):=by
 have HT:=aYf ht;have HG:=aYf hg;have HX:=aYf hx;have HZ:=aYf hz
 have HQ:=aYf (show iI t x=if ((aE t).getD n default).many then 4 else if eF ((aE t).getD n default).vals x.values then 0 else 1 by
  unfold iI;rw [hz];simp)
 obtain ⟨An,cn,en,hn1,hn2⟩:=ht.form;subst en;obtain ⟨hkl1,hkl2⟩:=hx.kids.le;clear ht hg hx hz;go_enter Tryz.func33,Tryz.ntmps33;go_wp2_with fail;have HE:=aYf (show Ext w ((w.alloc (qk #[.slice An t cn] 25)).alloc (qk (aN x a).toArray 60)) from ((aq w).alloc' _).alloc' _);have HBT:=aYf ((aw w 25 #[.slice An t cn]).alloc (qk (aN x a).toArray 60));have HBX:=aYf (az (w.alloc (qk #[.slice An t cn] 25)) 60 (aN x a).toArray (g:=w.heap.size+1) U);generalize hW:(w.alloc (qk #[.slice An t cn] 25)).alloc (qk (aN x a).toArray 60)=W at *;clear hW;have b0:=HBT.out.cell' (u:=.slice An t cn) 0 rfl;have b7:=HBX.out.cell' (u:=.slice a.kA x.kids a.kc) 7 rfl;obtain ⟨b1,o1,e1,-,-,g1⟩:=(HX.out.kids.ext HE.out).get hk;rw [HZ.out,Nat.add_zero] at g1;rw [e1] at b7;clear e1;have HVA:=aYf (show ∀ W',Nds W' P (.slice An t cn) t->qg 44 #[.agg #[.slice An t cn],↑n] W' (vd P ((aE t).getD n default) W') from fun W' h=>sU t n P _ W' h HG.out);generalize (aE t).getD n default=g at *;obtain ⟨vals,many⟩:=g
 go_region_held3 (fun w'=>qc w' w 0 (.slice An t cn)∧qc w' (w+1) 7 (.slice (qt b1 o1) x.kids a.kc)∧qc w' b1 o1 n)
  (first
   | go_keep
   | (go_split_ands
      exact ⟨aA hx1 ‹_›,aA hx1 ‹_›,aA hx1 ‹_›⟩))
  (first
   | (go_at_call 44;refine (HVA.out _ (HT.out.ext HE.out.drew')).mono ?_;rintro e w1 ⟨A,c,rfl,hv,hx1⟩))
 have HX1:=aYf (((aq W).drew').trans' hx1);have b6:=(HBX.out.ext HX1.out).cell' (u:=.slice a.vA x.values a.vc) 6 rfl;have HV:=aYf hv;clear hv hx1;cases many
 ·go_wp2_with fail
  refine (sF vals x.values (New P (W.drew)) P _ _ _ HV.out (HX.out.values.ext (HE.out.trans' HX1.out))).mono ?_;rintro e w2 ⟨rfl,hx2⟩;have HX2:=aYf hx2;clear hx2;generalize eF vals x.values=bb at *;cases bb
  ·go_wp2_with fail
   go_ret;exact ⟨aK ip,HE.out.trans' (HX1.out.trans' HX2.out)⟩
  ·go_wp2_with fail
   go_ret;exact ⟨aK ip,HE.out.trans' (HX1.out.trans' HX2.out)⟩
 ·go_wp2_with fail
  go_ret;exact ⟨aK ip,HE.out.trans' HX1.out⟩
