/- Contracts of functions. Conditions: none. -/
import Derived.Test.YtkoeecdjijfjnaaGreatTV
import Derived.Test.YtkoeecdjijfjnaaGreatC1
set_option maxRecDepth 100000
set_option maxHeartbeats 8000000
namespace Go.Proofs.YtkoeecdjijfjnaaGreat
open Go.RowKit
theorem aB.set {w w':World}{Q:Nat->Prop}(h:aB Q w w'){p:Addr}(u:Value)(hp:¬ Q p.block):aB Q w (w'.setCell p u) :=
 fun b hb hq=>(Below.heap_setCell _ _ _ _ (fun e=>hp (e ▸ hq))).trans (h b hb hq)
theorem aB.of_below {w w':World}{Q:Nat->Prop}{N:Nat}(h:Below N w w')(hQ:∀ b,Q b->b<N):aB Q w w':=fun b _ hq=>h.block b (hQ b hq)
theorem bV.set {w:World}{Q:Nat->Prop}{v:Value}{l:List GV}(h:bV w Q v l){p:Addr}(u:Value)(hp:¬ Q p.block):bV (w.setCell p u) Q v l :=
 h.carry (fun _ _ hq=>Below.heap_setCell _ _ _ _ (fun e=>hp (e ▸ hq))) (fun _ _ h=>h)
structure aCw (x:GN)(a:NA)(w W:World):Prop where
 ext:Ext w W
 size:W.heap.size=w.heap.size+3
 box:Blk W w.heap.size 87 (aL x a).toArray
 res:Blk W (w.heap.size+1) 194 #[.slice none 0 0,.bool false]
 out:Blk W (w.heap.size+2) 194 #[.slice none 0 0,.bool false]
theorem aCw.mk' (x:GN)(a:NA)(w:World):aCw x a w (((w.alloc (.cells (aL x a).toArray 87)).alloc (.cells #[.slice none 0 0,.bool false] 194)).alloc (.cells #[.slice none 0 0,.bool false] 194)) :=
 ⟨(((Ext.refl w).alloc' _).alloc' _).alloc' _,Y,((Blk.new w 87 (aL x a).toArray).alloc _).alloc _,(Blk.new' _ _ _ Y).alloc _,Blk.new' _ _ _ Y⟩
theorem aEb (x:GN)(a:NA)(P:Nat->Prop)(before:List GL)(vb:Value)(w:World)(hx:NAt w P x a)(hk:x.kind=0)(hP:∀ b,P b->b<w.heap.size) :
  Calls Tryz.prog 173 #[jJ x a,vb] w (xK P (cG before x) w):=by
 have HX:=aYl hx;have HPP:=aYl hP;have HQ:=aYl (show cG before x=⟨[x.value],false⟩ by unfold cG;rw [if_pos hk]);have t0:(x.kind == 0)=true:=aYn hk;obtain ⟨i0,hi,hz0,hz1,hz2⟩:=info_parts Tryz.info85;have HI:=aYl hi;clear hx hP hk hi;go_enter Tryz.func173,Tryz.ntmps173;go_upto_region 2 with fail;have HW:=aYl (aCw.mk' x a w);generalize hW:(((w.alloc (.cells (aL x a).toArray 87)).alloc (.cells #[.slice none 0 0,.bool false] 194)).alloc (.cells #[.slice none 0 0,.bool false] 194))=W at *;clear hW;have b0:=HW.out.box.cell' (u:=↑x.kind) 0 rfl;have b8:=HW.out.box.cell' (u:=↑x.value.kind) 8 rfl;have b9:=HW.out.box.cell' (u:=↑x.value.n) 9 rfl;have b10:=HW.out.box.cell' (u:=.string x.value.s) 10 rfl;have b11:=HW.out.box.cell' (u:=.slice a.xA x.value.kids.length a.xc) 11 rfl;have o0:=HW.out.out.cell' (u:=.slice none 0 0) 0 rfl;go_wp2_with (at_builtin;go_must (refine aI _ rfl (.tmp 60) (.tmp 63) 83 al W.heap.size 85 i0 _ 4 56 Tryz.underlying83 HI.out hz0 hz1 hz2 rfl U (.slice none 0 0) 0 [] rfl (aN _ _ _ _) (fun _=>True) (some ⟨W.heap.size,0,none⟩) 1 1 [.int .i64 x.value.kind,.int .i64 x.value.n,.string x.value.s,.slice a.xA x.value.kids.length a.xc] rfl (Sl.new _ _ _ _ _ rfl) af U U Y ?_);intro v2 w2 ho2 hbl2;have hx2:Ext W w2:=((Ext.refl W).alloc' _).trans hbl2;have q0:=(HW.out.out.ext hx2).cell' (u:=.slice none 0 0) 0 rfl;have q1:=(HW.out.out.ext hx2).cell' (u:=.bool false) 1 rfl;have p0:=(HW.out.out.ext hx2).frozen 0;have r0:=(HW.out.res.ext hx2).cell' (u:=.slice none 0 0) 0 rfl;have r1:=(HW.out.res.ext hx2).cell' (u:=.bool false) 1 rfl;have s0:=(HW.out.res.ext hx2).frozen 0;have s1:=(HW.out.res.ext hx2).frozen 1;obtain ⟨A2,c2,e2,-,-,-⟩:=Sl.of_own ho2;subst e2)
 have hsz:=HW.out.size;have q:=(((HW.out.res.ext hx2).far (p:=⟨w.heap.size+1+1,0,none⟩) (by show w.heap.size+1 ≠ w.heap.size+1+1;omega) (.slice A2 (0+1) c2)).set_ 0 (.slice A2 (0+1) c2)).set_ 1 (.bool false);have z0:=q.cell' (u:=.slice A2 1 c2) 0 rfl;have z1:=q.cell' (u:=.bool false) 1 rfl;clear q;have HRES:=aYl (show bV w2 (New P W.heap.size) (.slice A2 1 c2) [x.value] from bV.of_own ho2 (RVs.one (RV.carry (aB.of_ext hx2) (fun _ _ h=>.inl h) (HX.out.value.ext HW.out.ext).rv)) Y (fun b hb=>.inr (ho2.block_ge hb)))
 have hn1:∀ b,b=w.heap.size+1∨b=w.heap.size+1+1->¬ New P W.heap.size b:=by
  rintro b hb (h | h)
  ·have:=HPP.out b h;omega
  ·omega
 rw [HQ.out];refine bodyPost_ret (v:=.agg #[.slice A2 1 c2,.bool false]) (by simp [results,Tryz.results173,go_sem,z0,z1]) rfl ⟨A2,c2,rfl,?_,?_⟩
 ·exact (((HRES.out.set (p:=⟨w.heap.size+1+1,0,none⟩) _ (hn1 _ (.inr rfl))).set (p:=⟨w.heap.size+1,0,none⟩) _ (hn1 _ (.inl rfl))).set (p:=⟨w.heap.size+1,1,none⟩) _ (hn1 _ (.inl rfl))).imp (fun b _ h=>h.elim .inl (fun h=>.inr U))
 ·exact (((HW.out.ext.trans' hx2).setCell' (p:=⟨w.heap.size+1+1,0,none⟩) (by show w.heap.size<=w.heap.size+1+1;omega) _).setCell' (p:=⟨w.heap.size+1,0,none⟩) ae _).setCell' (p:=⟨w.heap.size+1,1,none⟩) ae _
theorem pC (lo:Int)(k:Nat):dZ lo (k+1)=dZ lo k ++ [.mk 0 (lo+k) ByteArray.empty []]:=by
 induction k generalizing lo with
 | zero=>simp [dZ]
 | succ k ih =>
  rw [dZ,ih (lo+1),dZ];simp only [List.cons_append]
  congr 4
  simp;omega
theorem aJf (w:World)(P:Nat->Prop){n:Int}(h:I64 n):RV w P (.mk 0 n ByteArray.empty []) [.int .i64 0,.int .i64 n,.string ByteArray.empty,.slice none 0 0] :=
 RV.mk_iff.2 ⟨ak,h,Y,_,rfl,none,0,[],rfl,Y,Y,⟨rfl,fun h=>absurd h Y⟩,rfl⟩
def aId (lo:Int)(N g:Nat)(P:Nat->Prop)(W:World)(n:Value)(wr:World):Prop :=
 ∃ (k:Nat) (v:Value) (xs:List Value),k<=N∧n=.int .i64 (lo+k)∧Blk wr g 194 #[v,.bool false]∧wr.ownsRow W.heap.size 85 4 v k xs∧RVs wr P (dZ lo k) xs∧Fr (fun b=>b=g) W wr
theorem aEa (x:GN)(a:NA)(P:Nat->Prop)(before:List GL)(vb:Value)(w:World)(_:NAt w P x a)(hk:x.kind=1)(hP:∀ b,P b->b<w.heap.size)(hnum:bF x=true) :
  Calls Tryz.prog 173 #[jJ x a,vb] w (xK P (cG before x) w):=by
 have HPP:=aYl hP;have HQ:=aYl (show cG before x=if 1024<=x.hi - x.lo then ⟨[],true⟩ else ⟨dZ x.lo (x.hi - x.lo+1).toNat,false⟩ by unfold cG;rw [if_neg U,if_pos hk]);have t0:(x.kind == 0)=false:=aYm U;have t1:(x.kind == 1)=true:=aYn hk;obtain ⟨hn1,hn2,hn3,hn4⟩:=cW hnum;obtain ⟨i0,hi,hz0,hz1,hz2⟩:=info_parts Tryz.info85;have HI:=aYl hi;clear hP hk hi hnum;go_enter Tryz.func173,Tryz.ntmps173;go_upto_region 2 with fail;have HW:=aYl (aCw.mk' x a w);generalize hW:(((w.alloc (.cells (aL x a).toArray 87)).alloc (.cells #[.slice none 0 0,.bool false] 194)).alloc (.cells #[.slice none 0 0,.bool false] 194))=W at *;clear hW;have b0:=HW.out.box.cell' (u:=↑x.kind) 0 rfl;have b2:=HW.out.box.cell' (u:=↑x.lo) 2 rfl;have b3:=HW.out.box.cell' (u:=↑x.hi) 3 rfl
 by_cases hbig:1024<=x.hi - x.lo
 ·have td:decide (1024<=x.hi - x.lo)=true:=aYo hbig
  have HQ2:=aYl (HQ.out.trans (if_pos hbig));have r0:=HW.out.res.cell' (u:=.slice none 0 0) 0 rfl;have r1:=HW.out.res.cell' (u:=.bool false) 1 rfl;have s0:=HW.out.res.frozen 0;have s1:=HW.out.res.frozen 1;go_wp2_with fail;have q:=(HW.out.res.set_ 0 (.slice none 0 0)).set_ 1 (.bool true);have z0:=q.cell' (u:=.slice none 0 0) 0 rfl;have z1:=q.cell' (u:=.bool true) 1 rfl;clear q;rw [HQ2.out];refine bodyPost_ret (v:=.agg #[.slice none 0 0,.bool true]) (by simp [results,Tryz.results173,go_sem,z0,z1]) rfl ⟨none,0,rfl,⟨none,0,[],rfl,Y,Y,⟨rfl,fun h=>absurd h Y⟩,rfl⟩,?_⟩;exact (HW.out.ext.setCell' (p:=⟨w.heap.size+1,0,none⟩) ae _).setCell' (p:=⟨w.heap.size+1,1,none⟩) ae _
 ·have td:decide (1024<=x.hi - x.lo)=false:=aYp hbig
  have HQ2:=aYl (HQ.out.trans (if_neg hbig));obtain ⟨N,hN⟩:∃ N:Nat,x.hi - x.lo+1=N:=⟨(x.hi - x.lo+1).toNat,U⟩;have HN:=aYl hN;have hN2:N<=1024:=by omega
  have hN3:1<=N:=U
  have hhi1:x.lo+N<=x.hi+1:=U
  have hhi2:x.hi+1<=x.lo+N:=U
  clear hN;go_wp2_with fail;go_loopw [6] (fun n wr=>aId x.lo N (w.heap.size+2) P W n wr) (fun n _=>(x.hi+1 - intOf n).toNat)
  case atStart=>exact ⟨0,.slice none 0 0,[],Nat.zero_le _,Y,HW.out.out,aN _ _ _ _,rfl,Fr.refl _ _⟩
  case round =>
   obtain ⟨k,v,xs,hk,rfl,hout,hown,hrv,hfr⟩:=hrel;have HOUT:=aYl hout;have HOWN:=aYl hown;have HRV:=aYl hrv;have HFR:=aYl hfr;have o0:=hout.cell' (u:=v) 0 rfl;have o1:=hout.cell' (u:=.bool false) 1 rfl;have p0:=hout.frozen 0;have BX:=aYl (HW.out.box.fr hfr U);have c3:=BX.out.cell' (u:=↑x.hi) 3 rfl;have hsz:=hfr.size;have hsw:=HW.out.size;clear hout hown hrv hfr b0 b2 b3
   by_cases hlt:k<N
   ·have tl:decide (x.lo+(k:Int)<=x.hi)=true:=aYo U
    go_wp2_with (at_builtin;go_must (refine aI _ rfl (.tmp 84) (.tmp 87) 83 al W.heap.size 85 i0 _ 4 56 Tryz.underlying83 HI.out hz0 hz1 hz2 rfl U v _ _ rfl (HOWN.out.alloc _) (fun _=>True) (some ⟨wr.heap.size,0,none⟩) 1 1 [.int .i64 0,.int .i64 (x.lo+k),.string ByteArray.empty,.slice none 0 0] rfl (Sl.new _ _ _ _ _ rfl) af U U ab ?_);intro v2 w2 ho2 hbl2;have hx2:Below W.heap.size wr w2:=((Below.refl _ wr).alloc hsz _).trans hbl2;have q0:=(hx2.cell (p:=⟨w.heap.size+2,0,none⟩) (by show w.heap.size+2<W.heap.size;omega)).trans o0;have q2:=(hx2.frozen (p:=⟨w.heap.size+2,0,none⟩) (by show w.heap.size+2<W.heap.size;omega)).trans p0;obtain ⟨A2,c2,e2,-,-,-⟩:=Sl.of_own ho2;subst e2);go_roundw
    case rel =>
     have hb2:Blk w2 (w.heap.size+2) 194 #[v,.bool false]:=(hx2.block _ U).trans HOUT.out;have hP2:∀ b,P b->b<W.heap.size:=fun b hb=>by have:=HPP.out b hb;omega
     have hP3:¬ P (w.heap.size+1+1):=fun h=>by have:=HPP.out _ h;omega
     refine ⟨k+1,.slice A2 (k+1) c2,_,U,ab,hb2.set_ 0 _,ownsRow_setCell_below ho2 (a:=⟨w.heap.size+1+1,0,none⟩) eu _,?_,?_⟩
     ·rw [pC]
      exact RVs.append (RVs.carry ((aB.of_below hx2 hP2).set (p:=⟨w.heap.size+1+1,0,none⟩) _ hP3) (fun _ _ h=>h) HRV.out) (RVs.one (aJf _ _ aj))
     ·exact (HFR.out.trans_new ⟨hx2.os,hx2.tape,hx2.output,hx2.size,fun i hi hm=>hx2.block i U⟩).setCell (p:=⟨w.heap.size+1+1,0,none⟩) (.inl rfl) _
    case measure=>simp [intOf];omega
   ·have tl:decide (x.lo+(k:Int)<=x.hi)=false:=aYp U
    have r0:=(HW.out.res.fr HFR.out U).cell' (u:=.slice none 0 0) 0 rfl;have r1:=(HW.out.res.fr HFR.out U).cell' (u:=.bool false) 1 rfl;have s0:=(HW.out.res.fr HFR.out U).frozen 0;have s1:=(HW.out.res.fr HFR.out U).frozen 1;obtain ⟨A2,c2,e2,-,-,-⟩:=Sl.of_own HOWN.out;subst e2;go_wp2_with fail;have hkN:k=N:=by omega
    have HKN:=aYl hkN;clear hkN;have q:=((HW.out.res.fr HFR.out U).set_ 0 (.slice A2 k c2)).set_ 1 (.bool false);have z0:=q.cell' (u:=.slice A2 k c2) 0 rfl;have z1:=q.cell' (u:=.bool false) 1 rfl;clear q;have HRES:=aYl (show bV wr (New P W.heap.size) (.slice A2 k c2) (dZ x.lo k) from bV.of_own (HOWN.out.len_cast (dL _ _).symm rfl) (RVs.carry (fun _ _ _=>rfl) (fun _ _ h=>.inl h) HRV.out) (by rw [dL];omega) (fun b hb=>.inr (HOWN.out.block_ge hb)))
    have hn1:¬ New P W.heap.size (w.heap.size+1):=by
     rintro (h | h)
     ·have:=HPP.out _ h;omega
     ·omega
    have HEQ:=aYl (show cG before x=⟨dZ x.lo k,false⟩ by rw [HQ2.out,HKN.out,HN.out];simp);rw [HEQ.out];refine bodyPost_ret (v:=.agg #[.slice A2 k c2,.bool false]) (by simp [results,Tryz.results173,go_sem,z0,z1]) rfl ⟨A2,c2,by rw [dL],?_,?_⟩
    ·rw [dL]
     exact ((HRES.out.set (p:=⟨w.heap.size+1,0,none⟩) _ hn1).set (p:=⟨w.heap.size+1,1,none⟩) _ hn1).imp (fun b _ h=>h.elim .inl (fun h=>.inr U))
    ·refine Fr.new_ext (M:=fun b=>b=w.heap.size+1∨b=w.heap.size+2) ?_ (fun b hb=>by omega)
     exact ((((Fr.of_ext HW.out.ext).trans (HFR.out.mono (fun b hb=>.inr hb))).setCell (p:=⟨w.heap.size+1,0,none⟩) (.inl (.inl rfl)) _).setCell (p:=⟨w.heap.size+1,1,none⟩) (.inl (.inl rfl)) _)
theorem aD9 (x:GN)(a:NA)(P:Nat->Prop)(before:List GL)(vb:Value)(w:World)(hx:NAt w P x a)(hk:x.kind=3)(hP:∀ b,P b->b<w.heap.size)(hb:GLs w P vb before)
  (hkids:∀ z ∈ x.kids,0<=z∧z<(before.length:Int))(hlok:∀ z ∈ x.kids,LOK (before.getD z.toNat default))(hkl:x.kids.length<=2000) :
  Calls Tryz.prog 173 #[jJ x a,vb] w (xK P (cG before x) w):=by
 have HX:=aYl hx;have HPP:=aYl hP;have HB:=aYl hb;have HK:=aYl hkids;have HL:=aYl hlok;have HQ:=aYl (show cG before x=vN x before by unfold cG;rw [if_neg U,if_neg U,if_pos hk]);have t0:(x.kind == 0)=false:=aYm U;have t1:(x.kind == 1)=false:=aYm U;have t3:(x.kind == 3)=true:=aYn hk;clear hx hP hk hb hkids hlok;go_enter Tryz.func173,Tryz.ntmps173;go_upto_region 2 with fail;have HW:=aYl (aCw.mk' x a w);generalize hW:(((w.alloc (.cells (aL x a).toArray 87)).alloc (.cells #[.slice none 0 0,.bool false] 194)).alloc (.cells #[.slice none 0 0,.bool false] 194))=W at *;clear hW;have BX:=aYl HW.out.box;have x0:=BX.out.cell' (u:=↑x.kind) 0 rfl;have x1:=BX.out.cell' (u:=.string x.name) 1 rfl;have x2:=BX.out.cell' (u:=↑x.lo) 2 rfl;have x3:=BX.out.cell' (u:=↑x.hi) 3 rfl;have x4:=BX.out.cell' (u:=.slice a.wA x.weights.length a.wc) 4 rfl;have x5:=BX.out.cell' (u:=.slice a.lA x.labels.length a.lc) 5 rfl;have x6:=BX.out.cell' (u:=.slice a.vA x.values.length a.vc) 6 rfl;have x7:=BX.out.cell' (u:=.slice a.kA x.kids.length a.kc) 7 rfl;have x8:=BX.out.cell' (u:=↑x.value.kind) 8 rfl;have x9:=BX.out.cell' (u:=↑x.value.n) 9 rfl
 have x10:=BX.out.cell' (u:=.string x.value.s) 10 rfl;have x11:=BX.out.cell' (u:=.slice a.xA x.value.kids.length a.xc) 11 rfl;go_wp2_with fail;refine (sX x a P before vb _ (HX.out.ext HW.out.ext) (HB.out.ext HW.out.ext) HK.out HL.out hkl).mono ?_;rintro e w1 ⟨A,c,rfl,hv,hx1⟩;have HX1:=aYl hx1;have HV:=aYl hv;have r0:=(HW.out.res.ext hx1).cell' (u:=.slice none 0 0) 0 rfl;have r1:=(HW.out.res.ext hx1).cell' (u:=.bool false) 1 rfl;have s0:=(HW.out.res.ext hx1).frozen 0;have s1:=(HW.out.res.ext hx1).frozen 1;have hsz:=HW.out.size;clear hx1 hv x0 x1 x2 x3 x4 x5 x6 x7 x8 x9 x10 x11;generalize vN x before=g at *;obtain ⟨vals,many⟩:=g;go_wp2_with fail;have q:=((HW.out.res.ext HX1.out).set_ 0 (.slice A vals.length c)).set_ 1 (.bool many);have z0:=q.cell' (u:=.slice A vals.length c) 0 rfl;have z1:=q.cell' (u:=.bool many) 1 rfl;clear q;rw [HQ.out]
 have hn1:¬ New P W.heap.size (w.heap.size+1):=by
  rintro (h | h)
  ·have:=HPP.out _ h;omega
  ·omega
 refine bodyPost_ret (v:=.agg #[.slice A vals.length c,.bool many]) (by simp [results,Tryz.results173,go_sem,z0,z1]) rfl ⟨A,c,rfl,?_,?_⟩
 ·exact ((HV.out.set (p:=⟨w.heap.size+1,0,none⟩) _ hn1).set (p:=⟨w.heap.size+1,1,none⟩) _ hn1).imp (fun b _ h=>h.elim .inl (fun h=>.inr U))
 ·exact ((HW.out.ext.trans' HX1.out).setCell' (p:=⟨w.heap.size+1,0,none⟩) ae _).setCell' (p:=⟨w.heap.size+1,1,none⟩) ae _
def aI5 (x:GN)(before:List GL)(bind:Bool)(g:Nat)(P:Nat->Prop)(W:World)(i:Value)(wr:World):Prop :=
 ∃ (k:Nat) (out:List GV) (m:Bool) (v:Value) (xs:List Value),k<=x.kids.length∧i=↑k∧Blk wr g 194 #[v,.bool m]∧wr.ownsRow W.heap.size 85 4 v out.length xs∧RVs wr P out xs∧Fr (fun b=>b=g) W wr ∧
  out.length<=1024*k∧jC before bind 0 [] false x.kids=jC before bind k out m (x.kids.drop k)
theorem wN (x:GN)(a:NA)(P:Nat->Prop)(before:List GL)(vb:Value)(w:World)(hx:NAt w P x a)(bind:Bool)(hk:x.kind=if bind then 4 else 2)(hP:∀ b,P b->b<w.heap.size)(hb:GLs w P vb before)
  (hkids:∀ z ∈ x.kids,0<=z∧z<(before.length:Int))(hlok:∀ z ∈ x.kids,LOK (before.getD z.toNat default))(hkl:x.kids.length<=2000) :
  Calls Tryz.prog 173 #[jJ x a,vb] w (xK P (cG before x) w):=by
 have HX:=aYl hx;have HPP:=aYl hP;have HB:=aYl hb;have HK:=aYl hkids;have HL:=aYl hlok
 have HQ:=aYl (show cG before x=jC before bind 0 [] false x.kids by
  unfold cG
  cases bind
  ·simp only [Bool.false_eq_true,if_false] at hk
   rw [if_neg U,if_neg U,if_neg U,aYp U]
  ·simp only [if_true] at hk
   rw [if_neg U,if_neg U,if_neg U,aYo U])
 have t0:(x.kind == 0)=false:=aYm fd;have t1:(x.kind == 1)=false:=aYm fd;have t3:(x.kind == 3)=false:=aYm fd;have t4:(x.kind == 4)=bind:=by cases bind <;> simp at hk <;> simp [hk]
 have T4:=aYl t4;obtain ⟨Ab,cb,eb,hb1,hb2⟩:=Lst.form hb;subst eb;obtain ⟨hkl1,hkl2⟩:=hx.kids.le;obtain ⟨i0,hi,hz0,hz1,hz2⟩:=info_parts Tryz.info85;have HI:=aYl hi;clear hx hP hk hb hkids hlok hi t4;go_enter Tryz.func173,Tryz.ntmps173;go_upto_region 2 with fail;have HW:=aYl (aCw.mk' x a w);generalize hW:(((w.alloc (.cells (aL x a).toArray 87)).alloc (.cells #[.slice none 0 0,.bool false] 194)).alloc (.cells #[.slice none 0 0,.bool false] 194))=W at *;clear hW;have b0:=HW.out.box.cell' (u:=↑x.kind) 0 rfl;go_wp2_with fail;go_loopw [7] (fun n wr=>aI5 x before bind (w.heap.size+2) P W n wr) (fun n _=>x.kids.length - (intOf n).toNat)
 case atStart=>exact ⟨0,[],false,.slice none 0 0,[],Nat.zero_le _,rfl,HW.out.out,aN _ _ _ _,rfl,Fr.refl _ _,Y,rfl⟩
 case round =>
  obtain ⟨k,out,m,v,xs,hk,rfl,hout,hown,hrv,hfr,hol,ht⟩:=hrel;have HT:=aYl ht;have HOUT:=aYl hout;have HOWN:=aYl hown;have HRV:=aYl hrv;have HFR:=aYl hfr;have o0:=hout.cell' (u:=v) 0 rfl;have o1:=hout.cell' (u:=.bool m) 1 rfl;have p0:=hout.frozen 0;have p1:=hout.frozen 1;have lo2:=hout.lt;have hsw:=HW.out.size;have BX:=aYl (HW.out.box.fr hfr U);have c0:=BX.out.cell' (u:=↑x.kind) 0 rfl;have c7:=BX.out.cell' (u:=.slice a.kA x.kids.length a.kc) 7 rfl;have HEW:=aYl (show Ext w wr from Fr.new_ext ((Fr.of_ext HW.out.ext).trans hfr) (fun b hb=>by omega));have HEX:=aYl (show aB P w wr from fun b hb hp=>(hfr.block b U (by have:=HPP.out b hp;omega)).trans (HW.out.ext.block b hb));clear hout hown hrv hfr b0 ht
  by_cases hlt:k<x.kids.length
  ·by_cases hbk:bind=true∧k=0
   ·obtain ⟨hb1,rfl⟩:=hbk
    subst hb1;have t4:(x.kind == 4)=true:=T4.out;have HU:=aYl (show jC before true 0 [] false x.kids=jC before true (0+1) out m (x.kids.drop 1) by rw [HT.out,aG 0 hlt,jC,if_pos ⟨rfl,rfl⟩]);go_wp2_with fail;go_roundw
    case rel=>exact ⟨1,out,m,v,xs,U,rfl,HOUT.out,HOWN.out,HRV.out,HFR.out,U,HU.out⟩
    case measure=>simp [intOf];omega
   ·obtain ⟨b1,o1',e1,-,-,g1⟩:=(HX.out.kids.carry (Q:=P) HEX.out (fun _ _ h=>h)).get hlt
    rw [e1] at c7;clear e1;have hz:=HK.out _ (aF (d:=0) hlt);have HLZ:=aYl (HL.out _ (aF (d:=0) hlt));have HD:=aYl (show jC before bind 0 [] false x.kids=_ from by rw [HT.out,aG 0 hlt,jC,if_neg hbk]);generalize x.kids.getD k 0=z at *;obtain ⟨b2,o2,A2,d2,rfl,-,hv2,g2,g3⟩:=(HB.out.ext HEW.out).get (i:=z.toNat) U;have hfew:=HLZ.out.few;have hvle:=hv2.le;obtain ⟨c2,hs2,hr2⟩:=hv2.slice_parts;have HS2:=aYl hs2;have HR2:=aYl hr2;clear hv2 hs2 hr2;generalize before.getD z.toNat default=l at *;obtain ⟨vals,many⟩:=l;simp only at HD g2 g3 hfew HS2 HR2 hvle;obtain ⟨Av,cv,ev,-,-,-⟩:=Sl.of_own HOWN.out;subst ev
    cases bind
    all_goals
     have t4:=T4.out
     first
      | (have tk:((k:Int) == 0)=false:=aYm (by simp at hbk;omega))
      | skip
     go_wp2_with (at_builtin;go_must (refine aK _ rfl (.tmp 35) (.tmp 37) 83 al W.heap.size 85 i0 _ 4 56 Tryz.underlying83 HI.out hz0 hz1 hz2 rfl U (.slice Av out.length cv) _ _ rfl (HOWN.out.alloc _) P A2 vals.length d2 c2 rfl (HS2.out.ext ((Ext.refl wr).alloc' _)) HR2.out.oneCell U U ab ?_);intro v3 w3 ho3 hf3 hb3);have hBL:=(Blk.new wr 194 #[.slice A2 vals.length d2,.bool many]).fr hf3 (fun e=>by have:=HOWN.out.block_lt e.symm;omega);have hG2:=(HOUT.out.alloc (.cells #[.slice A2 vals.length d2,.bool many] 194)).fr hf3 (fun e=>by have:=HOWN.out.block_ge e.symm;omega);have hsz3:=hf3.size;simp at hsz3;have hKP:aB P wr w3:=fun b hb hp=>(hf3.block b ab (fun e=>by have:=HOWN.out.block_ge e.symm;have:=HPP.out b hp;omega)).trans (Below.heap_alloc wr _ b hb)
     have HF3:=aYl (show Fr (fun b=>b=w.heap.size+2) W w3 from HFR.out.trans_new ⟨hf3.os,hf3.tape,hf3.output,U,fun i hi hm=>(hf3.block i ab (fun e=>hm (.inr (HOWN.out.block_ge e.symm)))).trans (Below.heap_alloc wr _ i hi)⟩);have HBL:=aYl hBL;have HG2:=aYl hG2;have HKP:=aYl hKP;have HO3:=aYl (ho3.len_cast (show out.length+vals.length=(out ++ vals).length by simp) rfl)
     have HV3:=aYl (show rB w3 (fun _=>True) P v3 (out ++ vals) from by
      obtain ⟨A,c,e,h1,h2,h3⟩:=Sl.of_own HO3.out;unfold maxLen at h2;refine ⟨A,c,_,e,h1,⟨ab,h2⟩,h3 _ (fun _ _=>trivial),?_⟩;exact RVs.append (RVs.carry HKP.out (fun _ _ h=>h) HRV.out) (RVs.carry HKP.out (fun _ _ h=>h) HR2.out))
     clear hBL hG2 hKP hf3 hb3 ho3 o0 o1 p0 p1 c0 c7 g1 g2 g3;refine (nK (out ++ vals) (fun _=>True) P _ _ HV3.out ab).mono ?_;rintro e w4 ⟨v4,ys,rfl,ho4,hr4,hx4⟩;have HX4:=aYl hx4;have HO4:=aYl ho4;have HR4:=aYl hr4;have BL:=HBL.out.ext hx4;have G2:=HG2.out.ext hx4;have l1:=BL.cell' (u:=.bool many) 1 rfl;have o0:=G2.cell' (u:=.slice Av out.length cv) 0 rfl;have o1:=G2.cell' (u:=.bool m) 1 rfl;have p0:=G2.frozen 0;have p1:=G2.frozen 1;have HSL:=aYl (vJ (out ++ vals));obtain ⟨A4,c4,e4,-,-,-⟩:=Sl.of_own ho4;subst e4;clear hx4 ho4 hr4 BL G2;generalize eN (out ++ vals)=so at *;have hsl:so.length<=out.length+vals.length:=by have:=HSL.out;simpa using this
     have HM:=aYl (show ∀ mm,mm=(m || many || decide (1024<so.length))->aI5 x before _ (w.heap.size+2) P W (.int .i64 ((k+1:Nat):Int)) ((w4.setCell ⟨w.heap.size+1+1,0,none⟩ (.slice A4 so.length c4)).setCell ⟨w.heap.size+1+1,1,none⟩ (.bool mm)) from by
      intro mm hmm;have hsw3:W.heap.size<=w3.heap.size:=HF3.out.size;have hP3:¬ P (w.heap.size+1+1):=fun h=>by have:=HPP.out _ h;omega
      refine ⟨k+1,so,mm,.slice A4 so.length c4,ys,U,rfl,((HG2.out.ext HX4.out).set_ 0 _).set_ 1 _,?_,?_,?_,U,?_⟩
      ·exact ownsRow_setCell_below (ownsRow_setCell_below (HO4.out.base_le hsw3) (a:=⟨w.heap.size+1+1,0,none⟩) eu _) (a:=⟨w.heap.size+1+1,1,none⟩) eu _
      ·have hk0:aB P w4 w4:=fun _ _ _=>rfl
       exact RVs.carry ((hk0.set (p:=⟨w.heap.size+1+1,0,none⟩) _ hP3).set (p:=⟨w.heap.size+1+1,1,none⟩) _ hP3) (fun _ _ h=>h) HR4.out
      ·exact ((HF3.out.trans (Fr.of_ext HX4.out)).setCell (p:=⟨w.heap.size+1+1,0,none⟩) (.inl rfl) _).setCell (p:=⟨w.heap.size+1+1,1,none⟩) (.inl rfl) _
      ·rw [HD.out,hmm])
     cases m
     ·cases many
      ·by_cases hl:1024<so.length
       ·have tl:decide (1024<(so.length:Int))=true:=aYo U
        have HL1:=aYl hl;clear hl;go_wp2_with fail;go_roundw
        case rel=>exact HM.out true (by have:=HL1.out;simp [this])
        case measure=>simp [intOf];omega
       ·have tl:decide (1024<(so.length:Int))=false:=aYp U
        have HL1:=aYl hl;clear hl;go_wp2_with fail;go_roundw
        case rel=>exact HM.out false (by have:=HL1.out;simp;omega)
        case measure=>simp [intOf];omega
      ·go_wp2_with fail
       go_roundw
       case rel=>exact HM.out true Y
       case measure=>simp [intOf];omega
     ·go_wp2_with fail
      go_roundw
      case rel=>exact HM.out true Y
      case measure=>simp [intOf];omega
  ·have HR:=aYl (HW.out.res.fr HFR.out U)
   have r0:=HR.out.cell' (u:=.slice none 0 0) 0 rfl;have r1:=HR.out.cell' (u:=.bool false) 1 rfl;have s0:=HR.out.frozen 0;have s1:=HR.out.frozen 1;obtain ⟨Av,cv,ev,-,-,-⟩:=Sl.of_own HOWN.out;subst ev;have HU:=aYl (show cG before x=if m then ⟨[],true⟩ else ⟨out,false⟩ by rw [HQ.out,HT.out,drop_nil U,jC])
   have hn1:¬ New P W.heap.size (w.heap.size+1):=by
    rintro (h | h)
    ·have:=HPP.out _ h;omega
    ·omega
   have HN1:=aYl hn1;clear hn1
   cases m
   ·go_wp2_with fail
    have q:=(HR.out.set_ 0 (.slice Av out.length cv)).set_ 1 (.bool false);have z0:=q.cell' (u:=.slice Av out.length cv) 0 rfl;have z1:=q.cell' (u:=.bool false) 1 rfl;clear q;rw [HU.out];refine bodyPost_ret (v:=.agg #[.slice Av out.length cv,.bool false]) (by simp [results,Tryz.results173,go_sem,z0,z1]) rfl ⟨Av,cv,rfl,?_,?_⟩
    ·have hv:bV wr (New P W.heap.size) (.slice Av out.length cv) out:=bV.of_own HOWN.out (RVs.carry (fun _ _ _=>rfl) (fun _ _ h=>.inl h) HRV.out) U (fun b hb=>.inr (HOWN.out.block_ge hb))
     exact ((hv.set (p:=⟨w.heap.size+1,0,none⟩) _ HN1.out).set (p:=⟨w.heap.size+1,1,none⟩) _ HN1.out).imp (fun b _ h=>h.elim .inl (fun h=>.inr U))
    ·refine Fr.new_ext (M:=fun b=>b=w.heap.size+1∨b=w.heap.size+2) ?_ (fun b hb=>by omega)
     exact ((((Fr.of_ext HW.out.ext).trans (HFR.out.mono (fun b hb=>.inr hb))).setCell (p:=⟨w.heap.size+1,0,none⟩) (.inl (.inl rfl)) _).setCell (p:=⟨w.heap.size+1,1,none⟩) (.inl (.inl rfl)) _)
   ·go_wp2_with fail
    have q:=(HR.out.set_ 0 (.slice none 0 0)).set_ 1 (.bool true);have z0:=q.cell' (u:=.slice none 0 0) 0 rfl;have z1:=q.cell' (u:=.bool true) 1 rfl;clear q;rw [HU.out];refine bodyPost_ret (v:=.agg #[.slice none 0 0,.bool true]) (by simp [results,Tryz.results173,go_sem,z0,z1]) rfl ⟨none,0,rfl,⟨none,0,[],rfl,Y,Y,⟨rfl,fun h=>absurd h Y⟩,rfl⟩,?_⟩;refine Fr.new_ext (M:=fun b=>b=w.heap.size+1∨b=w.heap.size+2) ?_ (fun b hb=>by omega);exact ((((Fr.of_ext HW.out.ext).trans (HFR.out.mono (fun b hb=>.inr hb))).setCell (p:=⟨w.heap.size+1,0,none⟩) (.inl (.inl rfl)) _).setCell (p:=⟨w.heap.size+1,1,none⟩) (.inl (.inl rfl)) _)
structure aJi (before:List GL)(x:GN):Prop where
 kind:0<=x.kind∧x.kind<=4
 kids:∀ z ∈ x.kids,0<=z∧z<(before.length:Int)
 lok:∀ z ∈ x.kids,LOK (before.getD z.toNat default)
 few:x.kids.length<=2000
 num:bF x=true
theorem aG5 (x:GN)(a:NA)(P:Nat->Prop)(before:List GL)(vb:Value)(w:World)(hx:NAt w P x a)(hb:GLs w P vb before)(hok:aJi before x) :
  Calls Tryz.prog 173 #[jJ x a,vb] w (xK P (cG before x) w):=by
 have h0:Calls Tryz.prog 173 #[jJ x a,vb] w (xK (fun b=>P b∧b<w.heap.size) (cG before x) w):=by
  have hx':NAt w (fun b=>P b∧b<w.heap.size) x a:=hx.carry (fun _ _ _=>rfl) (fun b h1 h2=>⟨h2,h1⟩);have hb':GLs w (fun b=>P b∧b<w.heap.size) vb before:=hb.grow (Ext.refl _) (fun b h1 h2=>⟨h2,h1⟩);have hk:=hok.kind
  by_cases k0:x.kind=0
  ·exact aEb x a _ before vb w hx' k0 (fun b h=>h.2)
  by_cases k1:x.kind=1
  ·exact aEa x a _ before vb w hx' k1 (fun b h=>h.2) hok.num
  by_cases k3:x.kind=3
  ·exact aD9 x a _ before vb w hx' k3 (fun b h=>h.2) hb' hok.kids hok.lok hok.few
  by_cases k2:x.kind=2
  ·exact wN x a _ before vb w hx' false (by simpa using k2) (fun b h=>h.2) hb' hok.kids hok.lok hok.few
  ·exact wN x a _ before vb w hx' true ab (fun b h=>h.2) hb' hok.kids hok.lok hok.few
 refine h0.mono ?_;rintro e w' ⟨A,c,h1,h2,h3⟩;exact ⟨A,c,h1,h2.imp (fun b _ h=>h.elim (fun h=>.inl h.1) .inr),h3⟩
theorem Tryz.info194:(Tryz.prog.info? 194).map (fun i=>(i.zero,i.size,i.bytes))=some (some (.agg #[.slice none 0 0,.bool false]),2,32):=aa
def aIa (P:Nat->Prop)(l:List GL)(w:World)(e:Ending)(w':World):Prop:=∃ v,e=.returned v∧GLs w' (New P w.heap.size) v l∧Ext w w'
def aIg (t:List GN)(n:Nat)(P:Nat->Prop)(B:Nat)(W:World)(v i:Value)(wr:World):Prop :=
 ∃ (k:Nat) (xs:List Value),k<=n∧i=↑k∧wr.ownsRow W.heap.size 194 2 v k xs∧RL (RGL wr (Off P B wr v)) (aD (t.take k)) xs∧Ext W wr
theorem mX (t:List GN):(aD t).length=t.length:=by unfold aD;rw [eH];simp
theorem aD8 {t:List GN}{n:Nat}(hg:bD t n){k:Nat}(hk:k<n):aJi (aD (t.take k)) (t.getD k default):=by
 have hc:=hg.at_ hk;have hkt:k<t.length:=by have:=hg.1;omega
 refine ⟨hc.node.kind,fun z hz=>?_,fun z hz=>?_,by have:=(fE hg hk).1;omega,hc.node.numbers⟩
 ·rw [mX,List.length_take]
  have:=hc.node.kids z hz;omega
 ·have hz':=hc.node.kids z hz
  rw [gH hkt hz'];exact lX hg z.toNat U
theorem aLg {P:Nat->Prop}{B N:Nat}{wr w1 w4:World}{v v':Value}{ls:List GL}{g:GL}{xs:List Value}{A:Option Addr}{c:Nat}
  (hB:B<=N)(ho:wr.ownsRow N 194 2 v ls.length xs)(hr:RL (RGL wr (Off P B wr v)) ls xs)(h1:Ext wr w1)
  (hg:bV w1 (New (Off P B wr v) wr.heap.size) (.slice A g.vals.length c) g.vals)(hN:N<=wr.heap.size)
  (hf:Fr (fun k=>some k=v.ownBlock) (w1.alloc (.cells #[.slice A g.vals.length c,.bool g.many] 194)) w4)
  (hown:v'.ownBlock=v.ownBlock∨v'.ownBlock=some (w1.alloc (.cells #[.slice A g.vals.length c,.bool g.many] 194)).heap.size) :
  RL (RGL w4 (Off P B w4 v')) (ls ++ [g]) (xs ++ [.slice A g.vals.length c,.bool g.many]):=by
 have hs1:=h1.size;have hs4:=hf.size;simp at hs4;have h14:Fr (fun k=>some k=v.ownBlock) w1 w4:=(Fr.of_ext ((Ext.refl w1).alloc' _)).trans hf;have h04:Fr (fun k=>some k=v.ownBlock) wr w4:=(Fr.of_ext h1).trans h14;have hv:∀ b,v.ownBlock=some b->N<=b∧b<wr.heap.size:=fun b hb=>⟨ho.block_ge hb,ho.block_lt hb⟩
 have hne:∀ b,b<w1.heap.size->some b ≠ v.ownBlock->some b ≠ v'.ownBlock:=by
  intro b hb h;rcases hown with e | e
  ·rw [e];exact h
  ·rw [e];intro e';injection e' with e';simp at e';omega
 refine RL.append (hr.mono (fun l _ cs h=>h.carry (aB.off h04) (fun b hb h=>⟨h.1,U,hne b U h.2.2⟩))) (RL.one ⟨_,rfl,?_⟩)
 have hq:∀ b,New (Off P B wr v) wr.heap.size b->(P b∨B<=b)∧some b ≠ v.ownBlock:=by
  rintro b (h | h)
  ·exact ⟨h.1,h.2.2⟩
  ·exact ⟨.inr U,fun e=>by have:=(hv b e.symm).2;omega⟩
 exact hg.carry (fun b hb h=>h14.block b hb (hq b h).2.symm.symm) (fun b hb h=>⟨(hq b h).1,U,hne b hb (hq b h).2⟩)
theorem aD6 (t:List GN)(n:Nat)(P:Nat->Prop)(vn:Value)(w:World)(ht:Nds w P vn t)(hg:bD t n) :
  Calls Tryz.prog 133 #[.agg #[vn],↑n] w (aIa P (aD (t.take n)) w):=by
 have HT:=aYl ht;have HG:=aYl hg;obtain ⟨An,cn,en,hn1,hn2⟩:=ht.form;subst en;have hnt:=hg.1;have hn4:=hg.2.1;clear ht hg;obtain ⟨i0,hi,hz0,hz1,hz2⟩:=info_parts Tryz.info194;have HI:=aYl hi;clear hi;go_enter Tryz.func133,Tryz.ntmps133;go_wp2_with fail;have HE:=aYl (show Ext w (w.alloc (.cells #[.slice An t.length cn] 25)) from (Ext.refl w).alloc' _);have HBX:=aYl (Blk.new w 25 #[.slice An t.length cn]);generalize hW:w.alloc (.cells #[.slice An t.length cn] 25)=W at *;clear hW;go_loopw [5,6] (fun v i wr=>aIg t n P w.heap.size W v i wr) (fun _ i _=>n - (intOf i).toNat)
 case atStart=>exact ⟨0,[],Nat.zero_le _,rfl,aN _ _ _ _,rfl,Ext.refl _⟩
 case round =>
  obtain ⟨k,xs,hk,rfl,hown,hrl,hx⟩:=hrel;have HOWN:=aYl hown;have HRL:=aYl hrl;have HX:=aYl hx;have hsz:=hx.size;have hsw:=HE.out.size;have b0:=(HBX.out.ext hx).cell' (u:=.slice An t.length cn) 0 rfl;clear hown hrl hx;have hll:(aD (t.take k)).length=k:=by rw [mX,List.length_take];omega
  have HLL:=aYl hll;clear hll
  by_cases hlt:k<n
  ·have hkt:k<t.length:=by omega
   obtain ⟨b1,o1,a1,rfl,-,ha1,hc1⟩:=(HT.out.carry (Q:=Off P w.heap.size wr u5) (aB.of_ext (HE.out.trans' HX.out)) (fun b hb h=>⟨.inl h,U,fun e=>by have:=HOWN.out.block_ge e.symm;omega⟩)).get hkt;have HOK:=aYl (aD8 HG.out hlt)
   have HSN:=aYl (show aD (t.take (k+1))=aD (t.take k) ++ [cG (aD (t.take k)) (t.getD k default)] by
    unfold aD;rw [aX default hkt,iJ])
   have HA1:=aYl ha1
   have HGL:=aYl (show GLs wr (Off P w.heap.size wr u5) u5 (aD (t.take k)) from
    Lst.of_own (HOWN.out.len_cast HLL.out.symm rfl) HRL.out (by rw [HLL.out];omega) (fun b hb=>HOWN.out.block_lt hb))
   have c0:=hc1.c0;have c1:=hc1.c1;have c2:=hc1.c2;have c3:=hc1.c3;have c4:=hc1.c4;have c5:=hc1.c5;have c6:=hc1.c6;have c7:=hc1.c7;have c8:=hc1.c8;have c9:=hc1.c9;have c10:=hc1.c10;have c11:=hc1.c11;clear hc1 ha1;generalize t.getD k default=x at *;go_wp2_with fail;refine (aG5 x a1 _ (aD (t.take k)) u5 _ HA1.out HGL.out HOK.out).mono ?_;rintro e w1 ⟨A2,d2,rfl,hv2,hx2⟩;have HV2:=aYl hv2;have HX2:=aYl hx2;clear hv2 hx2 c0 c1 c2 c3 c4 c5 c6 c7 c8 c9 c10 c11 b0;generalize hgg:cG (aD (t.take k)) x=g at *;clear hgg;go_wp2_with (at_builtin;go_must (refine aK _ rfl (.tmp 12) (.tmp 20) 191 al W.heap.size 194 i0 _ 2 32 Tryz.underlying191 HI.out hz0 hz1 hz2 rfl U u5 _ _ rfl ((HOWN.out.ext_ HX2.out).alloc _) (fun _=>True) (some ⟨w1.heap.size,0,none⟩) 1 1 [.slice A2 g.vals.length d2,.bool g.many] rfl (Sl.new w1 _ _ _ _ rfl) af U U (by have:=HX2.out.size;simp;omega) ?_);intro v4 w4 ho4 hf4 hb4);go_roundw
   case rel =>
    refine ⟨k+1,_,U,by go_num,ho4,?_,?_⟩
    ·rw [HSN.out]
     exact aLg hsw (HOWN.out.len_cast HLL.out.symm rfl) HRL.out HX2.out HV2.out hsz hf4 hb4
    ·exact Fr.new_ext (((Fr.of_ext (HX.out.trans' HX2.out)).alloc _).trans hf4) (fun b hb=>HOWN.out.block_ge hb.symm)
   case measure=>simp [intOf];omega
  ·have hkn:k=n:=by omega
   have HKN:=aYl hkn;clear hkn;go_wp2_with fail;go_ret;refine ⟨_,rfl,?_,HE.out.trans' HX.out⟩;rw [<- HKN.out];have h:GLs wr (New P w.heap.size) u5 (aD (t.take k)):=Lst.of_own (HOWN.out.len_cast HLL.out.symm rfl) (HRL.out.mono (fun l _ cs h=>h.carry (fun _ _ _=>rfl) (fun b _ h=>h.1))) (by rw [HLL.out];omega) (fun b hb=>HOWN.out.block_lt hb);exact h
def aQn (P:Nat->Prop)(g:GL)(w:World)(e:Ending)(w':World):Prop :=
 ∃ A c,e=.returned (.tuple #[.slice A g.vals.length c,.bool (!g.many)])∧bV w' (New P w.heap.size) (.slice A g.vals.length c) g.vals∧Ext w w'
theorem rF (t:List GN)(n:Nat)(P:Nat->Prop)(vn:Value)(w:World)(ht:Nds w P vn t)(hg:bD t (n+1)) :
  Calls Tryz.prog 86 #[.agg #[vn],↑n] w (aQn P ((aD t).getD n default) w):=by
 have HT:=aYl ht;have HG:=aYl hg;obtain ⟨An,cn,en,hn1,hn2⟩:=ht.form;subst en;have hnt:=hg.1;have hn4:=hg.2.1
 have HTK:=aYl (show (aD (t.take (n+1))).getD n default=(aD t).getD n default by
  unfold aD;rw [gJ _ _ _ hnt];simp [List.getD])
 have HLN:=aYl (show (aD (t.take (n+1))).length=n+1 by rw [mX,List.length_take];omega);clear ht hg;go_enter Tryz.func86,Tryz.ntmps86;go_wp2_with fail;refine (aD6 t (n+1) P _ _ (HT.out.ext ((Ext.refl w).alloc' _)) HG.out).mono ?_;rintro e w1 ⟨v,rfl,hv,hx1⟩;have HX1:=aYl (((Ext.refl w).alloc' _).trans' hx1);obtain ⟨A,c,ev,h1,h2⟩:=Lst.form hv;subst ev;have hln:n<(aD (t.take (n+1))).length:=by rw [HLN.out];omega
 obtain ⟨b,o,A2,d2,rfl,-,hv2,g2,g3⟩:=hv.get hln;rw [HTK.out] at hv2 g2 g3;have HV2:=aYl hv2;have hn0:(0:Int)<=(n:Int):=by omega
 have hn9:(n:Int)<((aD (t.take (n+1))).length:Int):=U
 clear hv hx1 hv2;generalize (aD (t.take (n+1))).length=L at *;generalize (aD t).getD n default=g at *;obtain ⟨vals,many⟩:=g;simp only at g2 g3;go_wp2_with fail;go_quiet (fail);go_wp2_with fail;go_ret2;refine ⟨A2,d2,rfl,?_,HX1.out.drewN' _⟩;exact (HV2.out.ext ((Ext.refl w1).drewN' _)).imp (fun b _ h=>h.elim .inl (fun h=>.inr (by simp at h;omega)))
theorem aFg (t:List GN)(x:GN)(a:NA)(n:Nat)(P:Nat->Prop)(vn:Value)(w:World)(ht:Nds w P vn t)(hx:NAt w P x a)(hk:0<x.kids.length)(hz:x.kids.getD 0 0=n)(hg:bD t (n+1)) :
  Calls Tryz.prog 60 #[.agg #[vn],jJ x a] w (dV (.int .i64 (gS t x)) w):=by
 have HT:=aYl ht;have HG:=aYl hg;have HX:=aYl hx;have HZ:=aYl hz
 have HQ:=aYl (show gS t x=if ((aD t).getD n default).many then 4 else if eB ((aD t).getD n default).vals x.values then 0 else 1 by
  unfold gS;rw [hz];simp)
 obtain ⟨An,cn,en,hn1,hn2⟩:=ht.form;subst en;obtain ⟨hkl1,hkl2⟩:=hx.kids.le;clear ht hg hx hz;go_enter Tryz.func60,Tryz.ntmps60;go_wp2_with fail;have HE:=aYl (show Ext w ((w.alloc (.cells #[.slice An t.length cn] 25)).alloc (.cells (aL x a).toArray 87)) from ((Ext.refl w).alloc' _).alloc' _);have HBT:=aYl ((Blk.new w 25 #[.slice An t.length cn]).alloc (.cells (aL x a).toArray 87));have HBX:=aYl (Blk.new' (w.alloc (.cells #[.slice An t.length cn] 25)) 87 (aL x a).toArray (g:=w.heap.size+1) Y);generalize hW:(w.alloc (.cells #[.slice An t.length cn] 25)).alloc (.cells (aL x a).toArray 87)=W at *;clear hW;have b0:=HBT.out.cell' (u:=.slice An t.length cn) 0 rfl;have b7:=HBX.out.cell' (u:=.slice a.kA x.kids.length a.kc) 7 rfl;obtain ⟨b1,o1,e1,-,-,g1⟩:=(HX.out.kids.ext HE.out).get hk;rw [HZ.out,Nat.add_zero] at g1;rw [e1] at b7;clear e1;have HVA:=aYl (show ∀ W',Nds W' P (.slice An t.length cn) t->Calls Tryz.prog 86 #[.agg #[.slice An t.length cn],↑n] W' (aQn P ((aD t).getD n default) W') from fun W' h=>rF t n P _ W' h HG.out);generalize (aD t).getD n default=g at *;obtain ⟨vals,many⟩:=g
 go_region_held3 (fun w'=>w'.cell? ⟨w.heap.size,0,none⟩=some (.slice An t.length cn)∧w'.cell? ⟨w.heap.size+1,7,none⟩=some (.slice (some ⟨b1,o1,none⟩) x.kids.length a.kc)∧w'.cell? ⟨b1,o1,none⟩=some (.int .i64 n))
  (first
   | go_keep
   | (go_split_ands
      exact ⟨aA hx1 ‹_›,aA hx1 ‹_›,aA hx1 ‹_›⟩))
  (first
   | (go_at_call 86;refine (HVA.out _ (HT.out.ext HE.out.drew')).mono ?_;rintro e w1 ⟨A,c,rfl,hv,hx1⟩))
 have HX1:=aYl (((Ext.refl W).drew').trans' hx1);have b6:=(HBX.out.ext HX1.out).cell' (u:=.slice a.vA x.values.length a.vc) 6 rfl;have HV:=aYl hv;clear hv hx1
 cases many
 ·go_wp2_with fail
  refine (qS vals x.values (New P (W.drew).heap.size) P _ _ _ HV.out (HX.out.values.ext (HE.out.trans' HX1.out))).mono ?_;rintro e w2 ⟨rfl,hx2⟩;have HX2:=aYl hx2;clear hx2;generalize eB vals x.values=bb at *
  cases bb
  ·go_wp2_with fail
   go_ret;exact ⟨aH fh,HE.out.trans' (HX1.out.trans' HX2.out)⟩
  ·go_wp2_with fail
   go_ret;exact ⟨aH fh,HE.out.trans' (HX1.out.trans' HX2.out)⟩
 ·go_wp2_with fail
  go_ret;exact ⟨aH fh,HE.out.trans' HX1.out⟩
def nT (before:List Int):List Int->Int
 | []=>0
 | z :: zs=>before.getD z.toNat 0+nT before zs
theorem yU {before:List Int}:∀ {zs:List Int},(∀ z ∈ zs,0<=before.getD z.toNat 0∧before.getD z.toNat 0<=256)->0<=nT before zs∧nT before zs<=256*zs.length
 | [],_=>by simp [nT]
 | z :: zs,h=>by
  have h1:=h z Y;have h2:=yU (zs:=zs) (fun y hy=>h y ao);simp only [nT,List.length_cons];omega
theorem aAn {before:List Int}:∀ {zs:List Int}{s:Int},(∀ z ∈ zs,0<=before.getD z.toNat 0∧before.getD z.toNat 0<=256)->0<=s->s+256*zs.length<=1000000000->dG before s zs=s+nT before zs
 | [],s,_,_,_=>by simp [dG,nT]
 | z :: zs,s,h,h0,h1=>by
  have h2:=h z Y;simp only [List.length_cons] at h1;simp only [dG,nT];rw [IntWalk.wrap64_in _ U,aAn (fun y hy=>h y ao) U U];omega
theorem eW {before:List Int}{ch:Bool}:∀ (zs:List Int)(i:Nat)(m:Int),m<=aW before ch i m zs∧(∀ k,k<zs.length->(ch=true∨0<i+k)->before.getD (zs.getD k 0).toNat 0<=aW before ch i m zs)
 | [],i,m=>⟨by simp [aW],fun k hk=>by simp at hk⟩
 | z :: zs,i,m=>by
  simp only [aW];obtain ⟨h1,h2⟩:=eW (before:=before) (ch:=ch) zs (i+1) (if ch=true∨0<i then (if m<before.getD z.toNat 0 then before.getD z.toNat 0 else m) else m);refine ⟨Int.le_trans ?_ h1,fun k hk hc=>?_⟩
  ·split
   ·split <;> omega
   ·omega
  ·cases k with
   | zero =>
    refine Int.le_trans ?_ h1;rw [if_pos (by simpa using hc)];simp only [List.getD_cons_zero]
    split <;> omega
   | succ k =>
    simp only [List.getD_cons_succ];exact h2 k (by simpa using hk) (by rcases hc with h | h;exact .inl h;exact .inr U)
theorem pJ {before:List Int}{ch:Bool}{N:Int}:∀ (zs:List Int)(i:Nat)(m:Int),m<=N->(∀ z ∈ zs,before.getD z.toNat 0<=N)->aW before ch i m zs<=N
 | [],i,m,h,_=>by simpa [aW] using h
 | z :: zs,i,m,h,hz=>by
  simp only [aW];have h1:=hz z Y;refine pJ zs (i+1) _ ?_ (fun y hy=>hz y ao)
  split
  ·split <;> omega
  ·omega
theorem aAo {t:List GN}{j:Nat}(hj:j<t.length){z:Int}(hz:0<=z∧z<(j:Int)):(aM (t.take j)).getD z.toNat 0=(aM t).getD z.toNat 0:=by
 unfold aM;rw [gJ _ _ _ U];have h:z.toNat<j:=by omega
 simp [List.getD,h]
theorem tQ {t:List GN}{j:Nat}(hj:j<t.length):(aM t).getD j 0=gO (aM (t.take j)) (t.getD j default):=oI gO 0 t hj
structure aT5 (t:List GN)(j:Nat):Prop where
 bd:0<=(aM t).getD j 0∧(aM t).getD j 0<=256
 range:(t.getD j default).kind=1->(aM t).getD j 0=1
 leaf:(t.getD j default).kind=0->(aM t).getD j 0=0
 seq:(t.getD j default).kind=3->(aM t).getD j 0=nT (aM t) (t.getD j default).kids
 choice:(t.getD j default).kind=2->1<=(aM t).getD j 0∧∀ z ∈ (t.getD j default).kids,1+(aM t).getD z.toNat 0<=(aM t).getD j 0
 bind:(t.getD j default).kind=4->(aM t).getD ((t.getD j default).kids.getD 0 0).toNat 0<=(aM t).getD j 0∧∀ k,1<=k->k<(t.getD j default).kids.length ->
  (aM t).getD ((t.getD j default).kids.getD 0 0).toNat 0+(aM t).getD ((t.getD j default).kids.getD k 0).toNat 0<=(aM t).getD j 0
theorem rP {a b:List Int}:∀ {zs:List Int},(∀ z ∈ zs,a.getD z.toNat 0=b.getD z.toNat 0)->nT a zs=nT b zs
 | [],_=>rfl
 | z :: zs,h=>by simp only [nT];rw [h z Y,rP (fun y hy=>h y ao)]
theorem kY {t:List GN}{i:Nat}(h:bD t i):∀ j,j<i->aT5 t j:=by
 intro j
 induction j using Nat.strongRecOn with
 | ind j ih =>
  intro hj;have hjt:j<t.length:=by have:=h.1;omega
  have hc:=h.at_ hj;have hfew:=(fE h hj).1;have hl:=tQ hjt;have hlen:=hc.len;have hn:=hc.node;generalize hx:t.getD j default=x at *;have hk:∀ z ∈ x.kids,(aM (t.take j)).getD z.toNat 0=(aM t).getD z.toNat 0:=fun z hz=>aAo hjt (hn.kids z hz)
  have hb:∀ z ∈ x.kids,0<=(aM (t.take j)).getD z.toNat 0∧(aM (t.take j)).getD z.toNat 0<=256:=fun z hz=>by
   have hz':=hn.kids z hz;rw [hk z hz];exact (ih z.toNat U U).bd
  have hkd:=hn.kind
  have h0:0<=(aM t).getD j 0∧(x.kind=1->(aM t).getD j 0=1)∧(x.kind=0->(aM t).getD j 0=0)∧(x.kind=3->(aM t).getD j 0=nT (aM t) x.kids) ∧
    (x.kind=2->1<=(aM t).getD j 0∧∀ z ∈ x.kids,1+(aM t).getD z.toNat 0<=(aM t).getD j 0) ∧
    (x.kind=4->(aM t).getD (x.kids.getD 0 0).toNat 0<=(aM t).getD j 0∧∀ k,1<=k->k<x.kids.length->(aM t).getD (x.kids.getD 0 0).toNat 0+(aM t).getD (x.kids.getD k 0).toNat 0<=(aM t).getD j 0):=by
   rw [hl];unfold gO
   by_cases k0:x.kind=0
   ·rw [if_pos k0];exact ⟨U,U,fun _=>rfl,U,U,U⟩
   rw [if_neg k0]
   by_cases k1:x.kind=1
   ·rw [if_pos k1];exact ⟨U,fun _=>rfl,U,U,U,U⟩
   rw [if_neg k1]
   by_cases k3:x.kind=3
   ·rw [if_pos k3,aAn hb U U,rP hk]
    have:=yU (before:=aM t) (zs:=x.kids) (fun z hz=>by rw [<- hk z hz];exact hb z hz);exact ⟨U,U,U,fun _=>by omega,U,U⟩
   rw [if_neg k3]
   by_cases k2:x.kind=2
   ·rw [if_pos k2]
    obtain ⟨g1,g2⟩:=eW (before:=aM (t.take j)) (ch:=true) x.kids 0 0;have g3:=pJ (before:=aM (t.take j)) (ch:=true) (N:=256) x.kids 0 0 U (fun z hz=>(hb z hz).2);rw [IntWalk.wrap64_in _ U];refine ⟨U,U,U,U,fun _=>⟨U,fun z hz=>?_⟩,U⟩;obtain ⟨k,hk',e⟩:=List.getElem_of_mem hz;have:=g2 k hk' (.inl rfl);have e2:x.kids.getD k 0=z:=by rw [<- e];simp [hk']
    rw [e2,hk z hz] at this;omega
   rw [if_neg k2];have k4:x.kind=4:=by omega
   have hbd:=hn.bind k4;have hz0:x.kids.getD 0 0 ∈ x.kids:=aF U;obtain ⟨g1,g2⟩:=eW (before:=aM (t.take j)) (ch:=false) x.kids 0 0;have g3:=pJ (before:=aM (t.take j)) (ch:=false) (N:=256) x.kids 0 0 U (fun z hz=>(hb z hz).2);have hb0:=hb _ hz0;rw [IntWalk.wrap64_in _ U];rw [<- hk _ hz0];refine ⟨U,U,U,U,U,fun _=>⟨U,fun k hk1 hk2=>?_⟩⟩;have:=g2 k hk2 (.inr U);rw [hk _ (aF hk2)] at this;omega
  obtain ⟨a0,a1,a2,a3,a4,a5⟩:=h0;exact ⟨⟨a0,hlen⟩,by rw [hx];exact a1,by rw [hx];exact a2,by rw [hx];exact a3,by rw [hx];exact a4,by rw [hx];exact a5⟩
structure GR where
 val:GV
 used:Int
 stop:Int
def bJ:GV:=.mk 0 0 ByteArray.empty []
def bM (r:Int->Int->GR)(name:ByteArray)(at_:Int):Int->List GV->List Int->GR
 | used,acc,[]=>⟨bW name acc,used,-1⟩
 | used,acc,z :: zs=>if (r z (at_+used)).stop=-1 then bM r name at_ (used+(r z (at_+used)).used) (acc ++ [(r z (at_+used)).val]) zs
   else ⟨bJ,used+(r z (at_+used)).used,(r z (at_+used)).stop⟩
def cY (r:Int->Int->GR)(path:List Int)(i:Int)(x:GN)(at_:Int):GR :=
 if x.kind=0 then ⟨x.value,0,-1⟩
 else if x.kind=3 then bM r x.name at_ 0 [] x.kids
 else if x.kind=4 then
  (if (r (x.kids.getD 0 0) at_).stop=-1 then
   ⟨(r (x.kids.getD ((cO x.values (r (x.kids.getD 0 0) at_).val).1+1) 0) (at_+(r (x.kids.getD 0 0) at_).used)).val,
    (r (x.kids.getD 0 0) at_).used+(r (x.kids.getD ((cO x.values (r (x.kids.getD 0 0) at_).val).1+1) 0) (at_+(r (x.kids.getD 0 0) at_).used)).used,
    (r (x.kids.getD ((cO x.values (r (x.kids.getD 0 0) at_).val).1+1) 0) (at_+(r (x.kids.getD 0 0) at_).used)).stop⟩
  else r (x.kids.getD 0 0) at_)
 else if (path.length:Int)<=at_ then ⟨bJ,0,i⟩
 else if path.getD at_.toNat 0<0∨aP x<=path.getD at_.toNat 0 then ⟨bJ,0,-2⟩
 else if x.kind=1 then ⟨.mk 0 (x.lo+path.getD at_.toNat 0) ByteArray.empty [],1,-1⟩
 else ⟨(r (x.kids.getD (path.getD at_.toNat 0).toNat 0) (at_+1)).val,(r (x.kids.getD (path.getD at_.toNat 0).toNat 0) (at_+1)).used+1,(r (x.kids.getD (path.getD at_.toNat 0).toNat 0) (at_+1)).stop⟩
def aR (t:List GN)(path:List Int):Nat->Int->Int->GR
 | 0,_,_=>⟨bJ,0,-1⟩
 | f+1,i,at_=>cY (aR t path f) path i (t.getD i.toNat default) at_
theorem fX {j:Nat}{x:GN}(h:dJ j x):aP x=if x.kind=1 then x.hi - x.lo+1 else (x.kids.length:Int):=by
 have:=cW h.numbers;unfold aP
 split
 ·rw [IntWalk.wrap64_in (x.hi - x.lo) U,IntWalk.wrap64_in _ U]
 ·rfl
theorem mL (a:Act)(d:Nat)(v:Value):(Pt a d v).defers=a.defers:=rfl
theorem iX {ops:Array Oper}{Q:Exit->Act->World->Prop}{a:Act}{w:World}{o1 o2 o3:Oper}{d1 d2 base:Nat}{A:Option Addr}{n c:Nat}{l:List Value}{z:Int}{s:Operand}
  (hown:w.ownsRow base 3 1 (.slice A n c) n l)(hb:base<=w.heap.size)(hn:n<=100000)(h:∀ a' v' w',a'.defers=a.defers->Ev a' (.tmp 4)=v'->w'.ownsRow base 3 1 v' (n+1) (l ++ [.int .i64 z])->Fr (fun k=>some k=(Value.slice A n c).ownBlock) w w'->(v'.ownBlock=(Value.slice A n c).ownBlock∨∃ b,v'.ownBlock=some b∧w.heap.size<=b)->Q .normal a' w')
  (hg1:o1.guard=none:=by exact rfl)(hd1:o1.dst=some d1:=by exact rfl)(hg2:o2.guard=none:=by exact rfl)(hd2:o2.dst=some d2:=by exact rfl)(ho2:o2.op=.call { callee:=.builtin .append,args:=#[s,.tmp d1],argTypes:=#[22,22] }:=by exact rfl)(hg3:o3.guard=none:=by exact rfl)(hd3:o3.dst=some 4:=by exact rfl)(ho3:o3.op=.assign (.tmp d2):=by exact rfl)
  (hsz:d1<a.tmps.size:=by simp [*])(hsz2:d2<a.tmps.size:=by simp [*])(h4:4<a.tmps.size:=by simp [*])(hr1:(execOp (Ev a) o1).run Tryz.prog w=.ok (.value (.slice (some ⟨w.heap.size,0,none⟩) 1 1)) (w.alloc (.cells #[↑z] 3)):=by (simp [execOp,go_sem, *];try rfl))(hs1:Ev (Pt a d1 (.slice (some ⟨w.heap.size,0,none⟩) 1 1)) s=.slice A n c:=by simp [*]):WL ops Q [o1,o2,o3] a w:=by
 refine l_v hg1 hd1 hr1 ?_;have hx1:Ev (Pt a d1 (.slice (some ⟨w.heap.size,0,none⟩) 1 1)) (.tmp d1)=.slice (some ⟨w.heap.size,0,none⟩) 1 1:=by simp [hsz]
 refine la Tryz.underlying22 Tryz.info3 (hown.alloc _) (T:=fun _=>True) (Sl.new w [.int .i64 z] _ 1 1 rfl) U U ab af (fun v' w' ho hf hv=>?_) hg2 hd2 ho2 rfl U hs1 hx1;refine l_v (v:=v') (w1:=w') hg3 hd3 (by simp [execOp,ho3,go_sem,hsz2]) (cJ (h _ v' w' rfl (by simp [h4]) ho ((Fr.of_ext ((Ext.refl w).alloc' _)).trans hf) (hv.elim .inl (fun h=>.inr ⟨_,h,Y⟩))))
noncomputable def R58:=RG Tryz.f58
noncomputable abbrev c58:Code:=.seq (R58 0) (.seq (R58 1) (.seq (R58 2) (.seq (.seq (R58 3) (.block 0 (.loop (.seq (.seq (R58 4) (.cond (.tmp 13) .skip (.exit 0))) (.seq (.block 1 (.seq (R58 6) (.seq (R58 7) (.seq (R58 8) (.cond (.tmp 33) (R58 9) .skip))))) (R58 5)))))) (.seq (.seq (R58 10) (.block 2 (.seq (R58 11) (.cond (.tmp 39) (.seq (R58 12) .ret) (.seq (R58 13) (.cond (.tmp 44) (.seq (R58 14) .ret) (.seq (R58 15) (.cond (.tmp 49) (.seq (R58 16) .ret) (.seq (R58 17) (.cond (.tmp 55) (.seq (R58 18) .ret) .skip)))))))))) (.seq (R58 19) .ret)))))
theorem b58:Tryz.f58.body=some c58:=aa
theorem yX (before:List Int)(x:GN)(na:NA)(P:Nat->Prop)(base:Nat)(vb:Value)(w:World)(hx:NAt w P x na)(hown:w.ownsRow base 3 1 vb before.length (before.map (Value.int .i64)))
  (hbase:base<=w.heap.size)(hlen:before.length<=100000)(_:∀ z ∈ before,I64 z)(hok:dJ before.length x) :
  Calls Tryz.prog 58 #[vb,jJ x na] w (aJd base 3 1 vb (before.length+1) ((before ++ [gO before x]).map (Value.int .i64)) w):=by
 have hkk:=hok.kind;obtain ⟨A,c,rfl,hnc,hcm,hsl⟩:=Sl.of_own hown;unfold maxLen at hcm;refine cI Tryz.func58 b58 rfl Y (fun a Q sz df ea hQ=>?_);have e0:=ea 0 (.slice A before.length c) rfl;have e1:=ea 1 (jJ x na) rfl;obtain ⟨hl,hc⟩:=hx.kids.le;have hE:Ext w (w.alloc (.cells (aL x na).toArray 87)):=(Ext.refl _).alloc' _;have hB:=Blk.new w 87 (aL x na).toArray;refine wp_seq (rW ?_)
 iterate 2 refine lv ?_
 refine lE a [0] 3 ?_;intro a1 u1 e3;generalize w.alloc (.cells (aL x na).toArray 87)=W at *
 replace sz:=u1.sz.trans sz
 replace df:=u1.df.trans df
 replace e0:=u1.get 0 e0
 have b0:=hB.cell' (u:=↑x.kind) 0 rfl;have b7:=hB.cell' (u:=.slice na.kA x.kids.length na.kc) 7 rfl;have hK:=hx.kids.ext hE;have hS:=(hsl (fun _=>True) (fun _ _=>trivial)).keep (aB.of_ext hE) (fun _ h=>h);have hO:=hown.ext_ hE;have hse:=hE.size;refine wp_seq (rW ?_);refine lv ?_;refine lE a1 [0,3] 5 ?_;intro a2 u2 e5
 replace sz:=u2.sz.trans sz
 replace df:=u2.df.trans df
 replace e0:=u2.get 0 e0
 replace e3:=u2.get 3 e3
 refine wp_seq (rW ?_);refine lv ?_;refine lE a2 [0,3,5] 6 ?_;intro a3 u3 e6
 replace sz:=u3.sz.trans sz
 replace df:=u3.df.trans df
 replace e0:=u3.get 0 e0
 replace e3:=u3.get 3 e3
 replace e5:=u3.get 5 e5
 refine wp_seq (wp_seq (rW ?_));refine lv ?_;refine lE a3 [0,3,5,6] 7 ?_;intro a4 u4 e7
 replace sz:=u4.sz.trans sz
 replace df:=u4.df.trans df
 replace e0:=u4.get 0 e0
 replace e3:=u4.get 3 e3
 replace e5:=u4.get 5 e5
 replace e6:=u4.get 6 e6
 refine wp_block (wp_loop (fun a' V=>∃ (k:Nat) (s1 m1:Int),Ag [0,3] a4 a'∧Ev a' (.tmp 7)=↑(k:Int)∧Ev a' (.tmp 5)=↑s1∧Ev a' (.tmp 6)=↑m1∧k<=x.kids.length∧dG before 0 x.kids=dG before s1 (x.kids.drop k)∧aW before (decide (x.kind=2)) 0 0 x.kids=aW before (decide (x.kind=2)) k m1 (x.kids.drop k)∧V=W) (fun a' _=>(x.kids.length - intOf (Ev a' (.tmp 7))).toNat) ⟨0,_,_,.rf,e7,e5,e6,Nat.zero_le _,rfl,rfl,rfl⟩ ?_);clear e5 e6 e7;rintro a5 V ⟨k,s1,m1,u5,e7,e5,e6,hk,hs,hm,rfl⟩
 replace sz:=u5.sz.trans sz
 replace df:=u5.df.trans df
 replace e0:=u5.get 0 e0
 replace e3:=u5.get 3 e3
 have m7:=e7;refine wp_seq (wp_seq (rW ?_))
 iterate 5 refine lv ?_
 refine lE a5 [0,3,5,6,7] 13 ?_;intro a6 u6 e13
 replace sz:=u6.sz.trans sz
 replace df:=u6.df.trans df
 replace e0:=u6.get 0 e0
 replace e3:=u6.get 3 e3
 replace e5:=u6.get 5 e5
 replace e6:=u6.get 6 e6
 replace e7:=u6.get 7 e7
 by_cases hlt:k<x.kids.length
 ·refine wp_cond_true (e13.trans ar) (wp_skip (wp_seq (wp_block (wp_seq (rW ?_)))))
  obtain ⟨b1,o1,e1',-,-,g1⟩:=hK.get hlt;have hD:=aG 0 hlt;obtain ⟨hz1,hz2⟩:=hok.kids _ (aF (d:=0) hlt);rw [hD] at hs hm;clear hD;rw [e1'] at b7;generalize x.kids.getD k 0=z at *;obtain ⟨j,rfl⟩:=Int.eq_ofNat_of_zero_le hz1;have hj:(j:Int)<before.length:=by omega
  obtain ⟨b2,o2,rfl,-,hc2⟩:=hS.2 U;have g2:=cT (k:=j) U hc2;have hki:(k:Int)<x.kids.length:=by omega
  simp only [dG,aW,Int.toNat_natCast,<- IntWalk.i64_left] at hs hm;generalize before.getD j 0=nn at *
  iterate 9 refine lv ?_
  refine lE a6 [0,3,5,6,7] 8 ?_;intro a7 u7 e8
  replace sz:=u7.sz.trans sz
  replace df:=u7.df.trans df
  replace e0:=u7.get 0 e0
  replace e3:=u7.get 3 e3
  replace e5:=u7.get 5 e5
  replace e6:=u7.get 6 e6
  replace e7:=u7.get 7 e7
  refine wp_seq (rW ?_)
  iterate 4 refine lv ?_
  refine lE a7 [0,3,6,7,8] 5 ?_;clear e5;intro a8 u8 e5
  replace sz:=u8.sz.trans sz
  replace df:=u8.df.trans df
  replace e0:=u8.get 0 e0
  replace e3:=u8.get 3 e3
  replace e6:=u8.get 6 e6
  replace e7:=u8.get 7 e7
  replace e8:=u8.get 8 e8
  have hN:∀ (R:Exit->Act->World->Prop),(∀ b,Ag [0,3,5,7] a8 b->Ev b (.tmp 6)=.int .i64 (if decide (x.kind=2)=true∨0<k then (if m1<nn then nn else m1) else m1)->R .normal b V)->Code.wp Tryz.prog (.seq (R58 8) (.cond (.tmp 33) (R58 9) .skip)) R a8 V:=by
   intro R hR
   have h9:∀ a9,Ag [0,3,5,6,7,8] a8 a9->(decide (x.kind=2)=true∨0<k)->Code.wp Tryz.prog (R58 9) R a9 V:=by
    intro a9 u9 hd
    replace sz:=u9.sz.trans sz
    replace df:=u9.df.trans df
    replace e0:=u9.get 0 e0
    replace e3:=u9.get 3 e3
    replace e5:=u9.get 5 e5
    replace e6:=u9.get 6 e6
    replace e7:=u9.get 7 e7
    replace e8:=u9.get 8 e8
    refine rW ?_
    iterate 4 refine lv ?_
    refine lE a9 [0,3,5,7] 6 ?_;intro b u e;exact hR b ((u9.mono rfl).trans u) (e.trans (by rw [if_pos hd]))
   by_cases hk2:x.kind=2
   ·have t2:(x.kind == 2)=true:=aYn hk2
    refine wp_seq (rW ?_)
    iterate 4 refine lv ?_
    iterate 2 refine ln ?_
    refine lv ?_;refine lE a8 [0,3,5,6,7,8] 33 ?_;intro a9 u9 e33;exact wp_cond_true e33 (h9 a9 u9 (.inl (by simp [hk2])))
   ·have t2:(x.kind == 2)=false:=aYm hk2
    refine wp_seq (rW ?_)
    iterate 4 refine lv ?_
    iterate 2 refine ly ?_
    refine lv ?_;refine lE a8 [0,3,5,6,7,8] 33 ?_;intro a9 u9 e33
    by_cases h0:0<k
    ·exact wp_cond_true (e33.trans fc) (h9 a9 u9 (.inr h0))
    ·exact wp_cond_false (e33.trans fc) (wp_skip (hR a9 (u9.mono rfl) ((u9.get 6 e6).trans (by rw [if_neg (by simp [hk2,h0])]))))
  refine hN _ ?_;clear e6 hN;intro a9 u9 e6
  replace sz:=u9.sz.trans sz
  replace df:=u9.df.trans df
  replace e0:=u9.get 0 e0
  replace e3:=u9.get 3 e3
  replace e5:=u9.get 5 e5
  replace e7:=u9.get 7 e7
  refine rW ?_
  iterate 3 refine lv ?_
  refine lE a9 [0,3,5,6] 7 ?_;clear e7;intro b u e7;refine ⟨⟨k+1,_,_,((((u5.trans (u6.mono rfl)).trans (u7.mono rfl)).trans (u8.mono rfl)).trans (u9.mono rfl)).trans (u.mono rfl),e7.trans Y,u.get 5 e5,u.get 6 e6,hlt,hs,hm,rfl⟩,?_⟩;rw [e7,m7];simp only [intOf];omega
 ·refine wp_cond_false (e13.trans ar) (wp_exit (wp_seq (wp_seq (rW ?_))))
  rw [drop_nil U] at hs hm
  replace hs:dG before 0 x.kids=s1:=hs
  replace hm:aW before (decide (x.kind=2)) 0 0 x.kids=m1:=hm
  have hR:∀ (b:Act) (v':Value) (w':World) (z:Int),gO before x=z->b.defers=[]->Ev b (.tmp 4)=v'->w'.ownsRow base 3 1 v' (before.length+1) (before.map (Value.int .i64) ++ [.int .i64 z])->Fr (fun k=>some k=(Value.slice A before.length c).ownBlock) V w'->(v'.ownBlock=(Value.slice A before.length c).ownBlock∨∃ b,v'.ownBlock=some b∧V.heap.size<=b)->Q .ret b w':=by
   intro b v' w' z hz hd he ho hf hv;refine (hQ _ _ v' hd (by simp [results,Tryz.results58,go_sem,evT he];try rfl) ⟨v',rfl,by rw [List.map_append,hz];exact ho,(Fr.of_ext hE).trans hf,hv.elim .inl (fun ⟨b,h1,h2⟩=>.inr ⟨b,h1,U⟩)⟩)
  iterate 2 refine lv ?_
  refine lE a6 [0,3,5,6] 38 ?_;intro a7 u7 e38
  replace sz:=u7.sz.trans sz
  replace df:=u7.df.trans df
  replace e0:=u7.get 0 e0
  replace e3:=u7.get 3 e3
  replace e5:=u7.get 5 e5
  replace e6:=u7.get 6 e6
  refine wp_block (wp_seq (rW ?_))
  iterate 2 refine lv ?_
  refine lE a7 [0,3,5,6,38] 39 ?_;intro a8 u8 e39
  replace sz:=u8.sz.trans sz
  replace df:=u8.df.trans df
  replace e0:=u8.get 0 e0
  replace e3:=u8.get 3 e3
  replace e5:=u8.get 5 e5
  replace e6:=u8.get 6 e6
  replace e38:=u8.get 38 e38
  by_cases k0:x.kind=0
  ·refine wp_cond_true (e39.trans (by simp [k0])) (wp_seq (rW ?_))
   iterate 1 refine lv ?_
   refine iX hO U hlen ?_;intro b v1 w1 hd he ho hf hv;exact wp_ret (hR b v1 w1 _ (by unfold gO;rw [if_pos k0]) ci he ho hf hv)
  refine wp_cond_false (e39.trans (by simp [k0])) (wp_seq (rW ?_))
  iterate 2 refine lv ?_
  refine lE a8 [0,3,5,6,38] 44 ?_;intro a9 u9 e44
  replace sz:=u9.sz.trans sz
  replace df:=u9.df.trans df
  replace e0:=u9.get 0 e0
  replace e3:=u9.get 3 e3
  replace e5:=u9.get 5 e5
  replace e6:=u9.get 6 e6
  replace e38:=u9.get 38 e38
  by_cases k1:x.kind=1
  ·refine wp_cond_true (e44.trans (by simp [k1])) (wp_seq (rW ?_))
   iterate 1 refine lv ?_
   refine iX hO U hlen ?_;intro b v1 w1 hd he ho hf hv;exact wp_ret (hR b v1 w1 _ (by unfold gO;rw [if_neg k0,if_pos k1]) ci he ho hf hv)
  refine wp_cond_false (e44.trans (by simp [k1])) (wp_seq (rW ?_))
  iterate 2 refine lv ?_
  refine lE a9 [0,3,5,6,38] 49 ?_;intro a10 u10 e49
  replace sz:=u10.sz.trans sz
  replace df:=u10.df.trans df
  replace e0:=u10.get 0 e0
  replace e3:=u10.get 3 e3
  replace e5:=u10.get 5 e5
  replace e6:=u10.get 6 e6
  replace e38:=u10.get 38 e38
  by_cases k3:x.kind=3
  ·refine wp_cond_true (e49.trans (by simp [k3])) (wp_seq (rW ?_))
   iterate 2 refine lv ?_
   refine iX hO U hlen ?_;intro b v1 w1 hd he ho hf hv;exact wp_ret (hR b v1 w1 _ (by unfold gO;rw [if_neg k0,if_neg k1,if_pos k3];exact hs) ci he ho hf hv)
  refine wp_cond_false (e49.trans (by simp [k3])) (wp_seq (rW ?_))
  iterate 2 refine lv ?_
  refine lE a10 [0,3,5,6,38] 55 ?_;intro a11 u11 e55
  replace sz:=u11.sz.trans sz
  replace df:=u11.df.trans df
  replace e0:=u11.get 0 e0
  replace e3:=u11.get 3 e3
  replace e5:=u11.get 5 e5
  replace e6:=u11.get 6 e6
  replace e38:=u11.get 38 e38
  by_cases k2:x.kind=2
  ·refine wp_cond_true (e55.trans (by simp [k2])) (wp_seq (rW ?_))
   iterate 3 refine lv ?_
   refine iX hO U hlen ?_;intro b v1 w1 hd he ho hf hv;exact wp_ret (hR b v1 w1 _ (by unfold gO;rw [if_neg k0,if_neg k1,if_neg k3,if_pos k2];rw [show decide (x.kind=2)=true by simp [k2]] at hm;rw [hm,IntWalk.i64_left]) ci he ho hf hv)
  refine wp_cond_false (e55.trans (by simp [k2])) (wp_skip (wp_seq (rW ?_)));have k4:x.kind=4:=by omega
  have hk0:=hok.bind k4;have hk1:0<x.kids.length:=by omega
  obtain ⟨b1,o1,e1',-,-,g1⟩:=hK.get hk1;obtain ⟨hz1,hz2⟩:=hok.kids _ (aF (d:=0) hk1)
  have hsp:gO before x=wrap64 (before.getD (x.kids.getD 0 0).toNat 0+m1):=by
   unfold gO;rw [show decide (x.kind=2)=false by simp [k4]] at hm;rw [if_neg k0,if_neg k1,if_neg k3,if_neg k2,hm]
  rw [e1'] at b7;generalize x.kids.getD 0 0=z at *;obtain ⟨j,rfl⟩:=Int.eq_ofNat_of_zero_le hz1;have hj:(j:Int)<before.length:=by omega
  have hki:(0:Int)<x.kids.length:=U
  obtain ⟨b2,o2,rfl,-,hc2⟩:=hS.2 U;have g2:=cT (k:=j) U hc2;rw [Int.toNat_natCast,<- IntWalk.i64_left] at hsp;simp only [Nat.add_zero] at g1;generalize before.getD j 0=nn at *
  iterate 10 refine lv ?_
  refine iX hO U hlen ?_;intro b v1 w1 hd he ho hf hv;exact wp_ret (hR b v1 w1 _ hsp ci he ho hf hv)
noncomputable def R59:=RG Tryz.f59
noncomputable abbrev c59:Code:=.seq (R59 0) (.seq (R59 1) (.seq (R59 2) (.seq (.seq (R59 3) (.block 0 (.loop (.seq (.seq (R59 4) (.cond (.tmp 13) .skip (.exit 0))) (.seq (.block 1 (.seq (R59 6) (.seq (R59 7) (.seq (R59 8) (.cond (.tmp 33) (R59 9) .skip))))) (R59 5)))))) (.seq (.seq (R59 10) (.block 2 (.seq (R59 11) (.cond (.tmp 39) (.seq (R59 12) .ret) (.seq (R59 13) (.cond (.tmp 47) (.seq (R59 14) .ret) (.seq (R59 15) (.cond (.tmp 52) (.seq (R59 16) .ret) .skip)))))))) (.seq (R59 17) .ret)))))
theorem b59:Tryz.f59.body=some c59:=aa
theorem aDf (before:List Int)(x:GN)(na:NA)(P:Nat->Prop)(base:Nat)(vb:Value)(w:World)(hx:NAt w P x na)(hown:w.ownsRow base 3 1 vb before.length (before.map (Value.int .i64)))
  (hbase:base<=w.heap.size)(hlen:before.length<=100000)(_:∀ z ∈ before,I64 z)(hok:dJ before.length x) :
  Calls Tryz.prog 59 #[vb,jJ x na] w (aJd base 3 1 vb (before.length+1) ((before ++ [jH before x]).map (Value.int .i64)) w):=by
 have hkk:=hok.kind;obtain ⟨A,c,rfl,hnc,hcm,hsl⟩:=Sl.of_own hown;unfold maxLen at hcm;refine cI Tryz.func59 b59 rfl Y (fun a Q sz df ea hQ=>?_);have e0:=ea 0 (.slice A before.length c) rfl;have e1:=ea 1 (jJ x na) rfl;obtain ⟨hl,hc⟩:=hx.kids.le;have hE:Ext w (w.alloc (.cells (aL x na).toArray 87)):=(Ext.refl _).alloc' _;have hB:=Blk.new w 87 (aL x na).toArray;refine wp_seq (rW ?_)
 iterate 2 refine lv ?_
 refine lE a [0] 3 ?_;intro a1 u1 e3;generalize w.alloc (.cells (aL x na).toArray 87)=W at *
 replace sz:=u1.sz.trans sz
 replace df:=u1.df.trans df
 replace e0:=u1.get 0 e0
 have b0:=hB.cell' (u:=↑x.kind) 0 rfl;have b7:=hB.cell' (u:=.slice na.kA x.kids.length na.kc) 7 rfl;have hK:=hx.kids.ext hE;have hS:=(hsl (fun _=>True) (fun _ _=>trivial)).keep (aB.of_ext hE) (fun _ h=>h);have hO:=hown.ext_ hE;have hse:=hE.size;refine wp_seq (rW ?_);refine lv ?_;refine lE a1 [0,3] 5 ?_;intro a2 u2 e5
 replace sz:=u2.sz.trans sz
 replace df:=u2.df.trans df
 replace e0:=u2.get 0 e0
 replace e3:=u2.get 3 e3
 refine wp_seq (rW ?_);refine lv ?_;refine lE a2 [0,3,5] 6 ?_;intro a3 u3 e6
 replace sz:=u3.sz.trans sz
 replace df:=u3.df.trans df
 replace e0:=u3.get 0 e0
 replace e3:=u3.get 3 e3
 replace e5:=u3.get 5 e5
 refine wp_seq (wp_seq (rW ?_));refine lv ?_;refine lE a3 [0,3,5,6] 7 ?_;intro a4 u4 e7
 replace sz:=u4.sz.trans sz
 replace df:=u4.df.trans df
 replace e0:=u4.get 0 e0
 replace e3:=u4.get 3 e3
 replace e5:=u4.get 5 e5
 replace e6:=u4.get 6 e6
 refine wp_block (wp_loop (fun a' V=>∃ (k:Nat) (s1 m1:Int),Ag [0,3] a4 a'∧Ev a' (.tmp 7)=↑(k:Int)∧Ev a' (.tmp 5)=↑s1∧Ev a' (.tmp 6)=↑m1∧k<=x.kids.length∧dG before 1 x.kids=dG before s1 (x.kids.drop k)∧aW before (decide (x.kind=2)) 0 0 x.kids=aW before (decide (x.kind=2)) k m1 (x.kids.drop k)∧V=W) (fun a' _=>(x.kids.length - intOf (Ev a' (.tmp 7))).toNat) ⟨0,_,_,.rf,e7,e5,e6,Nat.zero_le _,rfl,rfl,rfl⟩ ?_);clear e5 e6 e7;rintro a5 V ⟨k,s1,m1,u5,e7,e5,e6,hk,hs,hm,rfl⟩
 replace sz:=u5.sz.trans sz
 replace df:=u5.df.trans df
 replace e0:=u5.get 0 e0
 replace e3:=u5.get 3 e3
 have m7:=e7;refine wp_seq (wp_seq (rW ?_))
 iterate 5 refine lv ?_
 refine lE a5 [0,3,5,6,7] 13 ?_;intro a6 u6 e13
 replace sz:=u6.sz.trans sz
 replace df:=u6.df.trans df
 replace e0:=u6.get 0 e0
 replace e3:=u6.get 3 e3
 replace e5:=u6.get 5 e5
 replace e6:=u6.get 6 e6
 replace e7:=u6.get 7 e7
 by_cases hlt:k<x.kids.length
 ·refine wp_cond_true (e13.trans ar) (wp_skip (wp_seq (wp_block (wp_seq (rW ?_)))))
  obtain ⟨b1,o1,e1',-,-,g1⟩:=hK.get hlt;have hD:=aG 0 hlt;obtain ⟨hz1,hz2⟩:=hok.kids _ (aF (d:=0) hlt);rw [hD] at hs hm;clear hD;rw [e1'] at b7;generalize x.kids.getD k 0=z at *;obtain ⟨j,rfl⟩:=Int.eq_ofNat_of_zero_le hz1;have hj:(j:Int)<before.length:=by omega
  obtain ⟨b2,o2,rfl,-,hc2⟩:=hS.2 U;have g2:=cT (k:=j) U hc2;have hki:(k:Int)<x.kids.length:=by omega
  simp only [dG,aW,Int.toNat_natCast,<- IntWalk.i64_left] at hs hm;generalize before.getD j 0=nn at *
  iterate 9 refine lv ?_
  refine lE a6 [0,3,5,6,7] 8 ?_;intro a7 u7 e8
  replace sz:=u7.sz.trans sz
  replace df:=u7.df.trans df
  replace e0:=u7.get 0 e0
  replace e3:=u7.get 3 e3
  replace e5:=u7.get 5 e5
  replace e6:=u7.get 6 e6
  replace e7:=u7.get 7 e7
  refine wp_seq (rW ?_)
  iterate 4 refine lv ?_
  refine lE a7 [0,3,6,7,8] 5 ?_;clear e5;intro a8 u8 e5
  replace sz:=u8.sz.trans sz
  replace df:=u8.df.trans df
  replace e0:=u8.get 0 e0
  replace e3:=u8.get 3 e3
  replace e6:=u8.get 6 e6
  replace e7:=u8.get 7 e7
  replace e8:=u8.get 8 e8
  have hN:∀ (R:Exit->Act->World->Prop),(∀ b,Ag [0,3,5,7] a8 b->Ev b (.tmp 6)=.int .i64 (if decide (x.kind=2)=true∨0<k then (if m1<nn then nn else m1) else m1)->R .normal b V)->Code.wp Tryz.prog (.seq (R59 8) (.cond (.tmp 33) (R59 9) .skip)) R a8 V:=by
   intro R hR
   have h9:∀ a9,Ag [0,3,5,6,7,8] a8 a9->(decide (x.kind=2)=true∨0<k)->Code.wp Tryz.prog (R59 9) R a9 V:=by
    intro a9 u9 hd
    replace sz:=u9.sz.trans sz
    replace df:=u9.df.trans df
    replace e0:=u9.get 0 e0
    replace e3:=u9.get 3 e3
    replace e5:=u9.get 5 e5
    replace e6:=u9.get 6 e6
    replace e7:=u9.get 7 e7
    replace e8:=u9.get 8 e8
    refine rW ?_
    iterate 4 refine lv ?_
    refine lE a9 [0,3,5,7] 6 ?_;intro b u e;exact hR b ((u9.mono rfl).trans u) (e.trans (by rw [if_pos hd]))
   by_cases hk2:x.kind=2
   ·have t2:(x.kind == 2)=true:=aYn hk2
    refine wp_seq (rW ?_)
    iterate 4 refine lv ?_
    iterate 2 refine ln ?_
    refine lv ?_;refine lE a8 [0,3,5,6,7,8] 33 ?_;intro a9 u9 e33;exact wp_cond_true e33 (h9 a9 u9 (.inl (by simp [hk2])))
   ·have t2:(x.kind == 2)=false:=aYm hk2
    refine wp_seq (rW ?_)
    iterate 4 refine lv ?_
    iterate 2 refine ly ?_
    refine lv ?_;refine lE a8 [0,3,5,6,7,8] 33 ?_;intro a9 u9 e33
    by_cases h0:0<k
    ·exact wp_cond_true (e33.trans fc) (h9 a9 u9 (.inr h0))
    ·exact wp_cond_false (e33.trans fc) (wp_skip (hR a9 (u9.mono rfl) ((u9.get 6 e6).trans (by rw [if_neg (by simp [hk2,h0])]))))
  refine hN _ ?_;clear e6 hN;intro a9 u9 e6
  replace sz:=u9.sz.trans sz
  replace df:=u9.df.trans df
  replace e0:=u9.get 0 e0
  replace e3:=u9.get 3 e3
  replace e5:=u9.get 5 e5
  replace e7:=u9.get 7 e7
  refine rW ?_
  iterate 3 refine lv ?_
  refine lE a9 [0,3,5,6] 7 ?_;clear e7;intro b u e7;refine ⟨⟨k+1,_,_,((((u5.trans (u6.mono rfl)).trans (u7.mono rfl)).trans (u8.mono rfl)).trans (u9.mono rfl)).trans (u.mono rfl),e7.trans Y,u.get 5 e5,u.get 6 e6,hlt,hs,hm,rfl⟩,?_⟩;rw [e7,m7];simp only [intOf];omega
 ·refine wp_cond_false (e13.trans ar) (wp_exit (wp_seq (wp_seq (rW ?_))))
  rw [drop_nil U] at hs hm
  replace hs:dG before 1 x.kids=s1:=hs
  replace hm:aW before (decide (x.kind=2)) 0 0 x.kids=m1:=hm
  have hR:∀ (b:Act) (v':Value) (w':World) (z:Int),jH before x=z->b.defers=[]->Ev b (.tmp 4)=v'->w'.ownsRow base 3 1 v' (before.length+1) (before.map (Value.int .i64) ++ [.int .i64 z])->Fr (fun k=>some k=(Value.slice A before.length c).ownBlock) V w'->(v'.ownBlock=(Value.slice A before.length c).ownBlock∨∃ b,v'.ownBlock=some b∧V.heap.size<=b)->Q .ret b w':=by
   intro b v' w' z hz hd he ho hf hv;refine (hQ _ _ v' hd (by simp [results,Tryz.results59,go_sem,evT he];try rfl) ⟨v',rfl,by rw [List.map_append,hz];exact ho,(Fr.of_ext hE).trans hf,hv.elim .inl (fun ⟨b,h1,h2⟩=>.inr ⟨b,h1,U⟩)⟩)
  iterate 2 refine lv ?_
  refine lE a6 [0,3,5,6] 38 ?_;intro a7 u7 e38
  replace sz:=u7.sz.trans sz
  replace df:=u7.df.trans df
  replace e0:=u7.get 0 e0
  replace e3:=u7.get 3 e3
  replace e5:=u7.get 5 e5
  replace e6:=u7.get 6 e6
  refine wp_block (wp_seq (rW ?_))
  iterate 2 refine lv ?_
  refine lE a7 [0,3,5,6,38] 39 ?_;intro a8 u8 e39
  replace sz:=u8.sz.trans sz
  replace df:=u8.df.trans df
  replace e0:=u8.get 0 e0
  replace e3:=u8.get 3 e3
  replace e5:=u8.get 5 e5
  replace e6:=u8.get 6 e6
  replace e38:=u8.get 38 e38
  by_cases k0:x.kind=0
  ·refine wp_cond_true (e39.trans (by simp [k0])) (wp_seq (rW ?_))
   have b8:=hB.cell' (u:=↑x.value.kind) 8 rfl;have b9:=hB.cell' (u:=↑x.value.n) 9 rfl;have b10:=hB.cell' (u:=.string x.value.s) 10 rfl;have b11:=hB.cell' (u:=.slice na.xA x.value.kids.length na.xc) 11 rfl
   iterate 3 refine lv ?_
   refine lc Tryz.func111 (oY x.value na.xA na.xc P V (hx.value.ext hE)) ?_ (hv:=by simp [*]);rintro e w1 ⟨rfl,x1⟩;refine ⟨_,rfl,?_⟩;have hw1:=x1.size;refine iX (hO.ext_ x1) U hlen ?_;intro b v1 w2 hd he ho hf hv;exact wp_ret (hR b v1 w2 _ (by unfold jH;rw [if_pos k0]) ci he ho ((Fr.of_ext x1).trans hf) (hv.elim .inl (fun ⟨b,h1,h2⟩=>.inr ⟨b,h1,U⟩)))
  refine wp_cond_false (e39.trans (by simp [k0])) (wp_seq (rW ?_))
  iterate 2 refine lv ?_
  refine lE a8 [0,3,5,6,38] 47 ?_;intro a9 u9 e47
  replace sz:=u9.sz.trans sz
  replace df:=u9.df.trans df
  replace e0:=u9.get 0 e0
  replace e3:=u9.get 3 e3
  replace e5:=u9.get 5 e5
  replace e6:=u9.get 6 e6
  replace e38:=u9.get 38 e38
  by_cases k1:x.kind=1
  ·refine wp_cond_true (e47.trans (by simp [k1])) (wp_seq (rW ?_))
   iterate 1 refine lv ?_
   refine iX hO U hlen ?_;intro b v1 w1 hd he ho hf hv;exact wp_ret (hR b v1 w1 _ (by unfold jH;rw [if_neg k0,if_pos k1]) ci he ho hf hv)
  refine wp_cond_false (e47.trans (by simp [k1])) (wp_seq (rW ?_))
  iterate 2 refine lv ?_
  refine lE a9 [0,3,5,6,38] 52 ?_;intro a10 u10 e52
  replace sz:=u10.sz.trans sz
  replace df:=u10.df.trans df
  replace e0:=u10.get 0 e0
  replace e3:=u10.get 3 e3
  replace e5:=u10.get 5 e5
  replace e6:=u10.get 6 e6
  replace e38:=u10.get 38 e38
  by_cases k3:x.kind=3
  ·refine wp_cond_true (e52.trans (by simp [k3])) (wp_seq (rW ?_))
   iterate 2 refine lv ?_
   refine iX hO U hlen ?_;intro b v1 w1 hd he ho hf hv;exact wp_ret (hR b v1 w1 _ (by unfold jH;rw [if_neg k0,if_neg k1,if_pos k3];exact hs) ci he ho hf hv)
  refine wp_cond_false (e52.trans (by simp [k3])) (wp_skip (wp_seq (rW ?_)))
  iterate 2 refine lv ?_
  refine iX hO U hlen ?_;intro b v1 w1 hd he ho hf hv;exact wp_ret (hR b v1 w1 _ (by unfold jH;rw [if_neg k0,if_neg k1,if_neg k3];exact hm) ci he ho hf hv)
end Go.Proofs.YtkoeecdjijfjnaaGreat
