/- Contracts of functions, plain laws. Conditions: none. -/
import Derived.Test.YtkoeecdjijfjnaaGreatC1
set_option maxRecDepth 100000
set_option maxHeartbeats 8000000
namespace Go.Proofs.YtkoeecdjijfjnaaGreat
open Go.RowKit
theorem aB.set {w w':World}{Q:Nat->Prop}(h:aB Q w w'){p:Addr}(u:Value)(hp:¬ Q p.block):aB Q w (w'.setCell p u) :=
 fun b hb hq=>(Below.heap_setCell _ _ _ _ (fun e=>hp (e ▸ hq))).trans (h b hb hq)
theorem aB.of_below {w w':World}{Q:Nat->Prop}{N:Nat}(h:Below N w w')(hQ:∀ b,Q b->b<N):aB Q w w':=fun b _ hq=>h.block b (hQ b hq)
theorem bW.set {w:World}{Q:Nat->Prop}{v:Value}{l:List GV}(h:bW w Q v l){p:Addr}(u:Value)(hp:¬ Q p.block):bW (w.setCell p u) Q v l :=
 h.carry (fun _ _ hq=>Below.heap_setCell _ _ _ _ (fun e=>hp (e ▸ hq))) (fun _ _ h=>h)
structure aCg (x:GN)(a:NA)(w W:World):Prop where
 ext:Ext w W
 size:W.heap.size=w.heap.size+3
 box:Blk W w.heap.size 87 (aE x a).toArray
 res:Blk W (w.heap.size+1) 194 #[.slice none 0 0,.bool false]
 out:Blk W (w.heap.size+2) 194 #[.slice none 0 0,.bool false]
theorem aCg.mk' (x:GN)(a:NA)(w:World):aCg x a w (((w.alloc (.cells (aE x a).toArray 87)).alloc (.cells #[.slice none 0 0,.bool false] 194)).alloc (.cells #[.slice none 0 0,.bool false] 194)) :=
 ⟨(((Ext.refl w).alloc' _).alloc' _).alloc' _,U,((Blk.new w 87 (aE x a).toArray).alloc _).alloc _,(Blk.new' _ _ _ U).alloc _,Blk.new' _ _ _ U⟩
theorem aEn (x:GN)(a:NA)(P:Nat->Prop)(before:List GL)(vb:Value)(w:World)(hx:NAt w P x a)(hk:x.kind=0)(hP:∀ b,P b->b<w.heap.size) :
  Calls Tryz.prog 173 #[fF x a,vb] w (wX P (cH before x) w):=by
 have HX:=aZv hx;have HPP:=aZv hP;have HQ:=aZv (show cH before x=⟨[x.value],false⟩ by unfold cH;rw [if_pos hk]);have t0:(x.kind == 0)=true:=aZx hk;obtain ⟨i0,hi,hz0,hz1,hz2⟩:=info_parts Tryz.info85;have HI:=aZv hi;clear hx hP hk hi;go_enter Tryz.func173,Tryz.ntmps173;go_upto_region 2 with fail;have HW:=aZv (aCg.mk' x a w);generalize hW:(((w.alloc (.cells (aE x a).toArray 87)).alloc (.cells #[.slice none 0 0,.bool false] 194)).alloc (.cells #[.slice none 0 0,.bool false] 194))=W at *;clear hW;have b0:=HW.out.box.cell' (u:=↑x.kind) 0 rfl;have b8:=HW.out.box.cell' (u:=↑x.value.kind) 8 rfl;have b9:=HW.out.box.cell' (u:=↑x.value.n) 9 rfl;have b10:=HW.out.box.cell' (u:=.string x.value.s) 10 rfl;have b11:=HW.out.box.cell' (u:=.slice a.xA x.value.kids.length a.xc) 11 rfl;have o0:=HW.out.out.cell' (u:=.slice none 0 0) 0 rfl;have l2:=HW.out.out.lt;go_wp2_with (at_builtin;go_must (refine aM _ rfl (.tmp 60) (.tmp 63) 83 ac W.heap.size 85 i0 _ 4 56 Tryz.underlying83 HI.out hz0 hz1 hz2 rfl D (.slice none 0 0) 0 [] rfl (aT _ _ _ _) (fun _=>True) (some ⟨W.heap.size,0,none⟩) 1 1 [.int .i64 x.value.kind,.int .i64 x.value.n,.string x.value.s,.slice a.xA x.value.kids.length a.xc] rfl (Sl.new _ _ _ _ _ rfl) af D D U ?_);intro v2 w2 ho2 hbl2;have hx2:Ext W w2:=((Ext.refl W).alloc' _).trans hbl2;have q0:=(HW.out.out.ext hx2).cell' (u:=.slice none 0 0) 0 rfl;have q1:=(HW.out.out.ext hx2).cell' (u:=.bool false) 1 rfl;have p0:=(HW.out.out.ext hx2).frozen 0;have p1:=(HW.out.out.ext hx2).frozen 1;have r0:=(HW.out.res.ext hx2).cell' (u:=.slice none 0 0) 0 rfl;have r1:=(HW.out.res.ext hx2).cell' (u:=.bool false) 1 rfl;have s0:=(HW.out.res.ext hx2).frozen 0;have s1:=(HW.out.res.ext hx2).frozen 1;obtain ⟨A2,c2,e2,-,-,-⟩:=Sl.of_own ho2;subst e2)
 have hsz:=HW.out.size;have q:=(((HW.out.res.ext hx2).far (p:=⟨w.heap.size+1+1,0,none⟩) (by show w.heap.size+1 ≠ w.heap.size+1+1;omega) (.slice A2 (0+1) c2)).set_ 0 (.slice A2 (0+1) c2)).set_ 1 (.bool false);have z0:=q.cell' (u:=.slice A2 1 c2) 0 rfl;have z1:=q.cell' (u:=.bool false) 1 rfl;clear q;have HRES:=aZv (show bW w2 (New P W.heap.size) (.slice A2 1 c2) [x.value] from bW.of_own ho2 (RVs.one (RV.carry (aB.of_ext hx2) (fun _ _ h=>.inl h) (HX.out.value.ext HW.out.ext).rv)) U (fun b hb=>.inr (ho2.block_ge hb)))
 have hn1:∀ b,b=w.heap.size+1∨b=w.heap.size+1+1->¬ New P W.heap.size b:=by
  rintro b hb (h | h)
  ·have:=HPP.out b h;omega
  ·omega
 rw [HQ.out];refine bodyPost_ret (v:=.agg #[.slice A2 1 c2,.bool false]) (by simp [results,Tryz.results173,go_sem,z0,z1]) rfl ⟨A2,c2,rfl,?_,?_⟩
 ·exact (((HRES.out.set (p:=⟨w.heap.size+1+1,0,none⟩) _ (hn1 _ (.inr rfl))).set (p:=⟨w.heap.size+1,0,none⟩) _ (hn1 _ (.inl rfl))).set (p:=⟨w.heap.size+1,1,none⟩) _ (hn1 _ (.inl rfl))).imp (fun b _ h=>h.elim .inl (fun h=>.inr D))
 ·exact (((HW.out.ext.trans' hx2).setCell' (p:=⟨w.heap.size+1+1,0,none⟩) (by show w.heap.size<=w.heap.size+1+1;omega) _).setCell' (p:=⟨w.heap.size+1,0,none⟩) ae _).setCell' (p:=⟨w.heap.size+1,1,none⟩) ae _
theorem oR (lo:Int)(k:Nat):eD lo (k+1)=eD lo k ++ [.mk 0 (lo+k) ByteArray.empty []]:=by
 induction k generalizing lo with
 | zero=>simp [eD]
 | succ k ih =>
  rw [eD,ih (lo+1),eD];simp only [List.cons_append]
  congr 4
  simp;omega
theorem aLo (w:World)(P:Nat->Prop){n:Int}(h:I64 n):RV w P (.mk 0 n ByteArray.empty []) [.int .i64 0,.int .i64 n,.string ByteArray.empty,.slice none 0 0] :=
 RV.mk_iff.2 ⟨aj,h,U,_,rfl,none,0,[],rfl,U,U,⟨rfl,fun h=>absurd h U⟩,rfl⟩
def aJl (lo:Int)(N g:Nat)(P:Nat->Prop)(W:World)(n:Value)(wr:World):Prop :=
 ∃ (k:Nat) (v:Value) (xs:List Value),k<=N∧n=.int .i64 (lo+k)∧Blk wr g 194 #[v,.bool false]∧wr.ownsRow W.heap.size 85 4 v k xs∧RVs wr P (eD lo k) xs∧Fr (fun b=>b=g) W wr
theorem aEm (x:GN)(a:NA)(P:Nat->Prop)(before:List GL)(vb:Value)(w:World)(hx:NAt w P x a)(hk:x.kind=1)(hP:∀ b,P b->b<w.heap.size)(hnum:bJ x=true) :
  Calls Tryz.prog 173 #[fF x a,vb] w (wX P (cH before x) w):=by
 have HX:=aZv hx;have HPP:=aZv hP;have HQ:=aZv (show cH before x=if 1024<=x.hi - x.lo then ⟨[],true⟩ else ⟨eD x.lo (x.hi - x.lo+1).toNat,false⟩ by unfold cH;rw [if_neg D,if_pos hk]);have t0:(x.kind == 0)=false:=aZw D;have t1:(x.kind == 1)=true:=aZx hk;obtain ⟨hn1,hn2,hn3,hn4⟩:=cV hnum;obtain ⟨i0,hi,hz0,hz1,hz2⟩:=info_parts Tryz.info85;have HI:=aZv hi;clear hx hP hk hi hnum;go_enter Tryz.func173,Tryz.ntmps173;go_upto_region 2 with fail;have HW:=aZv (aCg.mk' x a w);generalize hW:(((w.alloc (.cells (aE x a).toArray 87)).alloc (.cells #[.slice none 0 0,.bool false] 194)).alloc (.cells #[.slice none 0 0,.bool false] 194))=W at *;clear hW;have b0:=HW.out.box.cell' (u:=↑x.kind) 0 rfl;have b2:=HW.out.box.cell' (u:=↑x.lo) 2 rfl;have b3:=HW.out.box.cell' (u:=↑x.hi) 3 rfl
 by_cases hbig:1024<=x.hi - x.lo
 ·have td:decide (1024<=x.hi - x.lo)=true:=aZy hbig
  have HQ2:=aZv (HQ.out.trans (if_pos hbig));have r0:=HW.out.res.cell' (u:=.slice none 0 0) 0 rfl;have r1:=HW.out.res.cell' (u:=.bool false) 1 rfl;have s0:=HW.out.res.frozen 0;have s1:=HW.out.res.frozen 1;go_wp2_with fail;have q:=(HW.out.res.set_ 0 (.slice none 0 0)).set_ 1 (.bool true);have z0:=q.cell' (u:=.slice none 0 0) 0 rfl;have z1:=q.cell' (u:=.bool true) 1 rfl;clear q;rw [HQ2.out];refine bodyPost_ret (v:=.agg #[.slice none 0 0,.bool true]) (by simp [results,Tryz.results173,go_sem,z0,z1]) rfl ⟨none,0,rfl,⟨none,0,[],rfl,U,U,⟨rfl,fun h=>absurd h U⟩,rfl⟩,?_⟩;exact (HW.out.ext.setCell' (p:=⟨w.heap.size+1,0,none⟩) ae _).setCell' (p:=⟨w.heap.size+1,1,none⟩) ae _
 ·have td:decide (1024<=x.hi - x.lo)=false:=aZz hbig
  have HQ2:=aZv (HQ.out.trans (if_neg hbig));obtain ⟨N,hN⟩:∃ N:Nat,x.hi - x.lo+1=N:=⟨(x.hi - x.lo+1).toNat,D⟩;have HN:=aZv hN;have hN1:x.hi=x.lo+N - 1:=by omega
  have hN2:N<=1024:=D
  have hN3:1<=N:=D
  have HHI:=aZv hN1;have hhi1:x.lo+N<=x.hi+1:=by omega
  have hhi2:x.hi+1<=x.lo+N:=D
  clear hN hN1;go_wp2_with fail;go_loopw [6] (fun n wr=>aJl x.lo N (w.heap.size+2) P W n wr) (fun n _=>(x.hi+1 - intOf n).toNat)
  case atStart=>exact ⟨0,.slice none 0 0,[],Nat.zero_le _,U,HW.out.out,aT _ _ _ _,rfl,Fr.refl _ _⟩
  case round =>
   obtain ⟨k,v,xs,hk,rfl,hout,hown,hrv,hfr⟩:=hrel;have HOUT:=aZv hout;have HOWN:=aZv hown;have HRV:=aZv hrv;have HFR:=aZv hfr;have o0:=hout.cell' (u:=v) 0 rfl;have o1:=hout.cell' (u:=.bool false) 1 rfl;have p0:=hout.frozen 0;have p1:=hout.frozen 1;have lo2:=hout.lt;have BX:=aZv (HW.out.box.fr hfr D);have c3:=BX.out.cell' (u:=↑x.hi) 3 rfl;have hsz:=hfr.size;have hsw:=HW.out.size;clear hout hown hrv hfr b0 b2 b3
   by_cases hlt:k<N
   ·have tl:decide (x.lo+(k:Int)<=x.hi)=true:=aZy D
    go_wp2_with (at_builtin;go_must (refine aM _ rfl (.tmp 84) (.tmp 87) 83 ac W.heap.size 85 i0 _ 4 56 Tryz.underlying83 HI.out hz0 hz1 hz2 rfl D v _ _ rfl (HOWN.out.alloc _) (fun _=>True) (some ⟨wr.heap.size,0,none⟩) 1 1 [.int .i64 0,.int .i64 (x.lo+k),.string ByteArray.empty,.slice none 0 0] rfl (Sl.new _ _ _ _ _ rfl) af D D aa ?_);intro v2 w2 ho2 hbl2;have hx2:Below W.heap.size wr w2:=((Below.refl _ wr).alloc hsz _).trans hbl2;have q0:=(hx2.cell (p:=⟨w.heap.size+2,0,none⟩) fo).trans o0;have q1:=(hx2.cell (p:=⟨w.heap.size+2,1,none⟩) fo).trans o1;have q2:=(hx2.frozen (p:=⟨w.heap.size+2,0,none⟩) fo).trans p0;obtain ⟨A2,c2,e2,-,-,-⟩:=Sl.of_own ho2;subst e2);go_roundw
    case rel =>
     have hb2:Blk w2 (w.heap.size+2) 194 #[v,.bool false]:=(hx2.block _ D).trans HOUT.out;have hne:∀ b,Value.ownBlock (.slice A2 (k+1) c2)=some b->b ≠ w.heap.size+2:=fun b hb=>by have:=ho2.block_ge hb;omega
     have hP2:∀ b,P b->b<W.heap.size:=fun b hb=>by have:=HPP.out b hb;omega
     have hP3:¬ P (w.heap.size+1+1):=fun h=>by have:=HPP.out _ h;omega
     refine ⟨k+1,.slice A2 (k+1) c2,_,D,aa,hb2.set_ 0 _,ownsRow_setCell_below ho2 (a:=⟨w.heap.size+1+1,0,none⟩) fh _,?_,?_⟩
     ·rw [oR]
      exact RVs.append (RVs.carry ((aB.of_below hx2 hP2).set (p:=⟨w.heap.size+1+1,0,none⟩) _ hP3) (fun _ _ h=>h) HRV.out) (RVs.one (aLo _ _ ak))
     ·exact (HFR.out.trans_new ⟨hx2.os,hx2.tape,hx2.output,hx2.size,fun i hi hm=>hx2.block i D⟩).setCell (p:=⟨w.heap.size+1+1,0,none⟩) (.inl rfl) _
    case measure=>simp [intOf];omega
   ·have tl:decide (x.lo+(k:Int)<=x.hi)=false:=aZz D
    have r0:=(HW.out.res.fr HFR.out D).cell' (u:=.slice none 0 0) 0 rfl;have r1:=(HW.out.res.fr HFR.out D).cell' (u:=.bool false) 1 rfl;have s0:=(HW.out.res.fr HFR.out D).frozen 0;have s1:=(HW.out.res.fr HFR.out D).frozen 1;obtain ⟨A2,c2,e2,-,-,-⟩:=Sl.of_own HOWN.out;subst e2;go_wp2_with fail;have hkN:k=N:=by omega
    have HKN:=aZv hkN;clear hkN;have q:=((HW.out.res.fr HFR.out D).set_ 0 (.slice A2 k c2)).set_ 1 (.bool false);have z0:=q.cell' (u:=.slice A2 k c2) 0 rfl;have z1:=q.cell' (u:=.bool false) 1 rfl;clear q;have HRES:=aZv (show bW wr (New P W.heap.size) (.slice A2 k c2) (eD x.lo k) from bW.of_own (HOWN.out.len_cast (dO _ _).symm rfl) (RVs.carry (fun _ _ _=>rfl) (fun _ _ h=>.inl h) HRV.out) (by rw [dO];omega) (fun b hb=>.inr (HOWN.out.block_ge hb)))
    have hn1:¬ New P W.heap.size (w.heap.size+1):=by
     rintro (h | h)
     ·have:=HPP.out _ h;omega
     ·omega
    have HEQ:=aZv (show cH before x=⟨eD x.lo k,false⟩ by rw [HQ2.out,HKN.out,HN.out];simp);rw [HEQ.out];refine bodyPost_ret (v:=.agg #[.slice A2 k c2,.bool false]) (by simp [results,Tryz.results173,go_sem,z0,z1]) rfl ⟨A2,c2,by rw [dO],?_,?_⟩
    ·rw [dO]
     exact ((HRES.out.set (p:=⟨w.heap.size+1,0,none⟩) _ hn1).set (p:=⟨w.heap.size+1,1,none⟩) _ hn1).imp (fun b _ h=>h.elim .inl (fun h=>.inr D))
    ·refine Fr.new_ext (M:=fun b=>b=w.heap.size+1∨b=w.heap.size+2) ?_ (fun b hb=>by omega)
     exact ((((Fr.of_ext HW.out.ext).trans (HFR.out.mono (fun b hb=>.inr hb))).setCell (p:=⟨w.heap.size+1,0,none⟩) (.inl (.inl rfl)) _).setCell (p:=⟨w.heap.size+1,1,none⟩) (.inl (.inl rfl)) _)
theorem aEl (x:GN)(a:NA)(P:Nat->Prop)(before:List GL)(vb:Value)(w:World)(hx:NAt w P x a)(hk:x.kind=3)(hP:∀ b,P b->b<w.heap.size)(hb:GLs w P vb before)
  (hkids:∀ z ∈ x.kids,0<=z∧z<(before.length:Int))(hlok:∀ z ∈ x.kids,LOK (before.getD z.toNat default))(hkl:x.kids.length<=2000) :
  Calls Tryz.prog 173 #[fF x a,vb] w (wX P (cH before x) w):=by
 have HX:=aZv hx;have HPP:=aZv hP;have HB:=aZv hb;have HK:=aZv hkids;have HL:=aZv hlok;have HQ:=aZv (show cH before x=uW x before by unfold cH;rw [if_neg D,if_neg D,if_pos hk]);have t0:(x.kind == 0)=false:=aZw D;have t1:(x.kind == 1)=false:=aZw D;have t3:(x.kind == 3)=true:=aZx hk;clear hx hP hk hb hkids hlok;go_enter Tryz.func173,Tryz.ntmps173;go_upto_region 2 with fail;have HW:=aZv (aCg.mk' x a w);generalize hW:(((w.alloc (.cells (aE x a).toArray 87)).alloc (.cells #[.slice none 0 0,.bool false] 194)).alloc (.cells #[.slice none 0 0,.bool false] 194))=W at *;clear hW;have BX:=aZv HW.out.box;have x0:=BX.out.cell' (u:=↑x.kind) 0 rfl;have x1:=BX.out.cell' (u:=.string x.name) 1 rfl;have x2:=BX.out.cell' (u:=↑x.lo) 2 rfl;have x3:=BX.out.cell' (u:=↑x.hi) 3 rfl;have x4:=BX.out.cell' (u:=.slice a.wA x.weights.length a.wc) 4 rfl;have x5:=BX.out.cell' (u:=.slice a.lA x.labels.length a.lc) 5 rfl;have x6:=BX.out.cell' (u:=.slice a.vA x.values.length a.vc) 6 rfl;have x7:=BX.out.cell' (u:=.slice a.kA x.kids.length a.kc) 7 rfl;have x8:=BX.out.cell' (u:=↑x.value.kind) 8 rfl;have x9:=BX.out.cell' (u:=↑x.value.n) 9 rfl
 have x10:=BX.out.cell' (u:=.string x.value.s) 10 rfl;have x11:=BX.out.cell' (u:=.slice a.xA x.value.kids.length a.xc) 11 rfl;go_wp2_with fail;refine (sI x a P before vb _ (HX.out.ext HW.out.ext) (HB.out.ext HW.out.ext) HK.out HL.out hkl).mono ?_;rintro e w1 ⟨A,c,rfl,hv,hx1⟩;have HX1:=aZv hx1;have HV:=aZv hv;have r0:=(HW.out.res.ext hx1).cell' (u:=.slice none 0 0) 0 rfl;have r1:=(HW.out.res.ext hx1).cell' (u:=.bool false) 1 rfl;have s0:=(HW.out.res.ext hx1).frozen 0;have s1:=(HW.out.res.ext hx1).frozen 1;have hsz:=HW.out.size;clear hx1 hv x0 x1 x2 x3 x4 x5 x6 x7 x8 x9 x10 x11;generalize uW x before=g at *;obtain ⟨vals,many⟩:=g;go_wp2_with fail;have q:=((HW.out.res.ext HX1.out).set_ 0 (.slice A vals.length c)).set_ 1 (.bool many);have z0:=q.cell' (u:=.slice A vals.length c) 0 rfl;have z1:=q.cell' (u:=.bool many) 1 rfl;clear q;rw [HQ.out]
 have hn1:¬ New P W.heap.size (w.heap.size+1):=by
  rintro (h | h)
  ·have:=HPP.out _ h;omega
  ·omega
 refine bodyPost_ret (v:=.agg #[.slice A vals.length c,.bool many]) (by simp [results,Tryz.results173,go_sem,z0,z1]) rfl ⟨A,c,rfl,?_,?_⟩
 ·exact ((HV.out.set (p:=⟨w.heap.size+1,0,none⟩) _ hn1).set (p:=⟨w.heap.size+1,1,none⟩) _ hn1).imp (fun b _ h=>h.elim .inl (fun h=>.inr D))
 ·exact ((HW.out.ext.trans' HX1.out).setCell' (p:=⟨w.heap.size+1,0,none⟩) ae _).setCell' (p:=⟨w.heap.size+1,1,none⟩) ae _
def aLe (x:GN)(before:List GL)(bind:Bool)(g:Nat)(P:Nat->Prop)(W:World)(i:Value)(wr:World):Prop :=
 ∃ (k:Nat) (out:List GV) (m:Bool) (v:Value) (xs:List Value),k<=x.kids.length∧i=↑k∧Blk wr g 194 #[v,.bool m]∧wr.ownsRow W.heap.size 85 4 v out.length xs∧RVs wr P out xs∧Fr (fun b=>b=g) W wr ∧
  out.length<=1024*k∧iY before bind 0 [] false x.kids=iY before bind k out m (x.kids.drop k)
theorem vX (x:GN)(a:NA)(P:Nat->Prop)(before:List GL)(vb:Value)(w:World)(hx:NAt w P x a)(bind:Bool)(hk:x.kind=if bind then 4 else 2)(hP:∀ b,P b->b<w.heap.size)(hb:GLs w P vb before)
  (hkids:∀ z ∈ x.kids,0<=z∧z<(before.length:Int))(hlok:∀ z ∈ x.kids,LOK (before.getD z.toNat default))(hkl:x.kids.length<=2000) :
  Calls Tryz.prog 173 #[fF x a,vb] w (wX P (cH before x) w):=by
 have HX:=aZv hx;have HPP:=aZv hP;have HB:=aZv hb;have HK:=aZv hkids;have HL:=aZv hlok
 have HQ:=aZv (show cH before x=iY before bind 0 [] false x.kids by
  unfold cH
  cases bind
  ·simp only [Bool.false_eq_true,if_false] at hk
   rw [if_neg D,if_neg D,if_neg D,aZz D]
  ·simp only [if_true] at hk
   rw [if_neg D,if_neg D,if_neg D,aZy D])
 have t0:(x.kind == 0)=false:=aZw fs;have t1:(x.kind == 1)=false:=aZw fs;have t3:(x.kind == 3)=false:=aZw fs;have t4:(x.kind == 4)=bind:=by cases bind <;> simp at hk <;> simp [hk]
 have T4:=aZv t4;obtain ⟨Ab,cb,eb,hb1,hb2⟩:=Lst.form hb;subst eb;obtain ⟨hkl1,hkl2⟩:=hx.kids.le;obtain ⟨i0,hi,hz0,hz1,hz2⟩:=info_parts Tryz.info85;have HI:=aZv hi;clear hx hP hk hb hkids hlok hi t4;go_enter Tryz.func173,Tryz.ntmps173;go_upto_region 2 with fail;have HW:=aZv (aCg.mk' x a w);generalize hW:(((w.alloc (.cells (aE x a).toArray 87)).alloc (.cells #[.slice none 0 0,.bool false] 194)).alloc (.cells #[.slice none 0 0,.bool false] 194))=W at *;clear hW;have b0:=HW.out.box.cell' (u:=↑x.kind) 0 rfl;go_wp2_with fail;go_loopw [7] (fun n wr=>aLe x before bind (w.heap.size+2) P W n wr) (fun n _=>x.kids.length - (intOf n).toNat)
 case atStart=>exact ⟨0,[],false,.slice none 0 0,[],Nat.zero_le _,rfl,HW.out.out,aT _ _ _ _,rfl,Fr.refl _ _,U,rfl⟩
 case round =>
  obtain ⟨k,out,m,v,xs,hk,rfl,hout,hown,hrv,hfr,hol,ht⟩:=hrel;have HT:=aZv ht;have HOUT:=aZv hout;have HOWN:=aZv hown;have HRV:=aZv hrv;have HFR:=aZv hfr;have o0:=hout.cell' (u:=v) 0 rfl;have o1:=hout.cell' (u:=.bool m) 1 rfl;have p0:=hout.frozen 0;have p1:=hout.frozen 1;have lo2:=hout.lt;have hsw:=HW.out.size;have BX:=aZv (HW.out.box.fr hfr D);have c0:=BX.out.cell' (u:=↑x.kind) 0 rfl;have c7:=BX.out.cell' (u:=.slice a.kA x.kids.length a.kc) 7 rfl;have hsz:=hfr.size;have HEW:=aZv (show Ext w wr from Fr.new_ext ((Fr.of_ext HW.out.ext).trans hfr) (fun b hb=>by omega));have HEX:=aZv (show aB P w wr from fun b hb hp=>(hfr.block b D (by have:=HPP.out b hp;omega)).trans (HW.out.ext.block b hb));clear hout hown hrv hfr b0 ht
  by_cases hlt:k<x.kids.length
  ·by_cases hbk:bind=true∧k=0
   ·obtain ⟨hb1,rfl⟩:=hbk
    subst hb1;have t4:(x.kind == 4)=true:=T4.out;have HU:=aZv (show iY before true 0 [] false x.kids=iY before true (0+1) out m (x.kids.drop 1) by rw [HT.out,aF 0 hlt,iY,if_pos ⟨rfl,rfl⟩]);go_wp2_with fail;go_roundw
    case rel=>exact ⟨1,out,m,v,xs,D,rfl,HOUT.out,HOWN.out,HRV.out,HFR.out,D,HU.out⟩
    case measure=>simp [intOf];omega
   ·obtain ⟨b1,o1',e1,-,-,g1⟩:=(HX.out.kids.carry (Q:=P) HEX.out (fun _ _ h=>h)).get hlt
    rw [e1] at c7;clear e1;have hz:=HK.out _ (aD (d:=0) hlt);have HLZ:=aZv (HL.out _ (aD (d:=0) hlt));have HD:=aZv (show iY before bind 0 [] false x.kids=_ from by rw [HT.out,aF 0 hlt,iY,if_neg hbk]);generalize x.kids.getD k 0=z at *;obtain ⟨b2,o2,A2,d2,rfl,-,hv2,g2,g3⟩:=(HB.out.ext HEW.out).get (i:=z.toNat) D;have hfew:=HLZ.out.few;have hvle:=hv2.le;obtain ⟨c2,hs2,hr2⟩:=hv2.slice_parts;have HS2:=aZv hs2;have HR2:=aZv hr2;clear hv2 hs2 hr2;generalize before.getD z.toNat default=l at *;obtain ⟨vals,many⟩:=l;simp only at HD g2 g3 hfew HS2 HR2 hvle;obtain ⟨Av,cv,ev,-,-,-⟩:=Sl.of_own HOWN.out;subst ev
    cases bind
    all_goals
     have t4:=T4.out
     first
      | (have tk:((k:Int) == 0)=false:=aZw (by simp at hbk;omega))
      | skip
     go_wp2_with (at_builtin;go_must (refine aI _ rfl (.tmp 35) (.tmp 37) 83 ac W.heap.size 85 i0 _ 4 56 Tryz.underlying83 HI.out hz0 hz1 hz2 rfl D (.slice Av out.length cv) _ _ rfl (HOWN.out.alloc _) P A2 vals.length d2 c2 rfl (HS2.out.ext ((Ext.refl wr).alloc' _)) HR2.out.oneCell D D aa ?_);intro v3 w3 ho3 hf3 hb3);have hBL:=(Blk.new wr 194 #[.slice A2 vals.length d2,.bool many]).fr hf3 (fun e=>by have:=HOWN.out.block_lt e.symm;omega);have hG2:=(HOUT.out.alloc (.cells #[.slice A2 vals.length d2,.bool many] 194)).fr hf3 (fun e=>by have:=HOWN.out.block_ge e.symm;omega);have hsz3:=hf3.size;simp at hsz3;have hKP:aB P wr w3:=fun b hb hp=>(hf3.block b aa (fun e=>by have:=HOWN.out.block_ge e.symm;have:=HPP.out b hp;omega)).trans (Below.heap_alloc wr _ b hb)
     have HF3:=aZv (show Fr (fun b=>b=w.heap.size+2) W w3 from HFR.out.trans_new ⟨hf3.os,hf3.tape,hf3.output,D,fun i hi hm=>(hf3.block i aa (fun e=>hm (.inr (HOWN.out.block_ge e.symm)))).trans (Below.heap_alloc wr _ i hi)⟩);have HBL:=aZv hBL;have HG2:=aZv hG2;have HKP:=aZv hKP;have HO3:=aZv (ho3.len_cast (show out.length+vals.length=(out ++ vals).length by simp) rfl)
     have HV3:=aZv (show qP w3 (fun _=>True) P v3 (out ++ vals) from by
      obtain ⟨A,c,e,h1,h2,h3⟩:=Sl.of_own HO3.out;unfold maxLen at h2;refine ⟨A,c,_,e,h1,⟨aa,h2⟩,h3 _ (fun _ _=>trivial),?_⟩;exact RVs.append (RVs.carry HKP.out (fun _ _ h=>h) HRV.out) (RVs.carry HKP.out (fun _ _ h=>h) HR2.out))
     clear hBL hG2 hKP hf3 hb3 ho3 o0 o1 p0 p1 c0 c7 g1 g2 g3;refine (mV (out ++ vals) (fun _=>True) P _ _ HV3.out aa).mono ?_;rintro e w4 ⟨v4,ys,rfl,ho4,hr4,hx4⟩;have HX4:=aZv hx4;have HO4:=aZv ho4;have HR4:=aZv hr4;have BL:=HBL.out.ext hx4;have G2:=HG2.out.ext hx4;have l0:=BL.cell' (u:=.slice A2 vals.length d2) 0 rfl;have l1:=BL.cell' (u:=.bool many) 1 rfl;have llt:=BL.lt;have o0:=G2.cell' (u:=.slice Av out.length cv) 0 rfl;have o1:=G2.cell' (u:=.bool m) 1 rfl;have p0:=G2.frozen 0;have p1:=G2.frozen 1;have lo4:=G2.lt;have HSL:=aZv (uT (out ++ vals));obtain ⟨A4,c4,e4,-,-,-⟩:=Sl.of_own ho4;subst e4;clear hx4 ho4 hr4 BL G2;generalize eO (out ++ vals)=so at *;have hsl:so.length<=out.length+vals.length:=by have:=HSL.out;simpa using this
     have HM:=aZv (show ∀ mm,mm=(m || many || decide (1024<so.length))->aLe x before _ (w.heap.size+2) P W (.int .i64 ((k+1:Nat):Int)) ((w4.setCell ⟨w.heap.size+1+1,0,none⟩ (.slice A4 so.length c4)).setCell ⟨w.heap.size+1+1,1,none⟩ (.bool mm)) from by
      intro mm hmm;have hsw3:W.heap.size<=w3.heap.size:=HF3.out.size;have hP3:¬ P (w.heap.size+1+1):=fun h=>by have:=HPP.out _ h;omega
      refine ⟨k+1,so,mm,.slice A4 so.length c4,ys,D,rfl,((HG2.out.ext HX4.out).set_ 0 _).set_ 1 _,?_,?_,?_,D,?_⟩
      ·exact ownsRow_setCell_below (ownsRow_setCell_below (HO4.out.base_le hsw3) (a:=⟨w.heap.size+1+1,0,none⟩) fh _) (a:=⟨w.heap.size+1+1,1,none⟩) fh _
      ·have hk0:aB P w4 w4:=fun _ _ _=>rfl
       exact RVs.carry ((hk0.set (p:=⟨w.heap.size+1+1,0,none⟩) _ hP3).set (p:=⟨w.heap.size+1+1,1,none⟩) _ hP3) (fun _ _ h=>h) HR4.out
      ·exact ((HF3.out.trans (Fr.of_ext HX4.out)).setCell (p:=⟨w.heap.size+1+1,0,none⟩) (.inl rfl) _).setCell (p:=⟨w.heap.size+1+1,1,none⟩) (.inl rfl) _
      ·rw [HD.out,hmm])
     cases m
     ·cases many
      ·by_cases hl:1024<so.length
       ·have tl:decide (1024<(so.length:Int))=true:=aZy D
        have HL1:=aZv hl;clear hl;go_wp2_with fail;go_roundw
        case rel=>exact HM.out true (by have:=HL1.out;simp [this])
        case measure=>simp [intOf];omega
       ·have tl:decide (1024<(so.length:Int))=false:=aZz D
        have HL1:=aZv hl;clear hl;go_wp2_with fail;go_roundw
        case rel=>exact HM.out false (by have:=HL1.out;simp;omega)
        case measure=>simp [intOf];omega
      ·go_wp2_with fail
       go_roundw
       case rel=>exact HM.out true U
       case measure=>simp [intOf];omega
     ·go_wp2_with fail
      go_roundw
      case rel=>exact HM.out true U
      case measure=>simp [intOf];omega
  ·have HR:=aZv (HW.out.res.fr HFR.out D)
   have r0:=HR.out.cell' (u:=.slice none 0 0) 0 rfl;have r1:=HR.out.cell' (u:=.bool false) 1 rfl;have s0:=HR.out.frozen 0;have s1:=HR.out.frozen 1;obtain ⟨Av,cv,ev,-,-,-⟩:=Sl.of_own HOWN.out;subst ev;have HU:=aZv (show cH before x=if m then ⟨[],true⟩ else ⟨out,false⟩ by rw [HQ.out,HT.out,drop_nil D,iY])
   have hn1:¬ New P W.heap.size (w.heap.size+1):=by
    rintro (h | h)
    ·have:=HPP.out _ h;omega
    ·omega
   have HN1:=aZv hn1;clear hn1
   cases m
   ·go_wp2_with fail
    have q:=(HR.out.set_ 0 (.slice Av out.length cv)).set_ 1 (.bool false);have z0:=q.cell' (u:=.slice Av out.length cv) 0 rfl;have z1:=q.cell' (u:=.bool false) 1 rfl;clear q;rw [HU.out];refine bodyPost_ret (v:=.agg #[.slice Av out.length cv,.bool false]) (by simp [results,Tryz.results173,go_sem,z0,z1]) rfl ⟨Av,cv,rfl,?_,?_⟩
    ·have hv:bW wr (New P W.heap.size) (.slice Av out.length cv) out:=bW.of_own HOWN.out (RVs.carry (fun _ _ _=>rfl) (fun _ _ h=>.inl h) HRV.out) D (fun b hb=>.inr (HOWN.out.block_ge hb))
     exact ((hv.set (p:=⟨w.heap.size+1,0,none⟩) _ HN1.out).set (p:=⟨w.heap.size+1,1,none⟩) _ HN1.out).imp (fun b _ h=>h.elim .inl (fun h=>.inr D))
    ·refine Fr.new_ext (M:=fun b=>b=w.heap.size+1∨b=w.heap.size+2) ?_ (fun b hb=>by omega)
     exact ((((Fr.of_ext HW.out.ext).trans (HFR.out.mono (fun b hb=>.inr hb))).setCell (p:=⟨w.heap.size+1,0,none⟩) (.inl (.inl rfl)) _).setCell (p:=⟨w.heap.size+1,1,none⟩) (.inl (.inl rfl)) _)
   ·go_wp2_with fail
    have q:=(HR.out.set_ 0 (.slice none 0 0)).set_ 1 (.bool true);have z0:=q.cell' (u:=.slice none 0 0) 0 rfl;have z1:=q.cell' (u:=.bool true) 1 rfl;clear q;rw [HU.out];refine bodyPost_ret (v:=.agg #[.slice none 0 0,.bool true]) (by simp [results,Tryz.results173,go_sem,z0,z1]) rfl ⟨none,0,rfl,⟨none,0,[],rfl,U,U,⟨rfl,fun h=>absurd h U⟩,rfl⟩,?_⟩;refine Fr.new_ext (M:=fun b=>b=w.heap.size+1∨b=w.heap.size+2) ?_ (fun b hb=>by omega);exact ((((Fr.of_ext HW.out.ext).trans (HFR.out.mono (fun b hb=>.inr hb))).setCell (p:=⟨w.heap.size+1,0,none⟩) (.inl (.inl rfl)) _).setCell (p:=⟨w.heap.size+1,1,none⟩) (.inl (.inl rfl)) _)
structure aLq (before:List GL)(x:GN):Prop where
 kind:0<=x.kind∧x.kind<=4
 kids:∀ z ∈ x.kids,0<=z∧z<(before.length:Int)
 lok:∀ z ∈ x.kids,LOK (before.getD z.toNat default)
 few:x.kids.length<=2000
 num:bJ x=true
theorem aIf (x:GN)(a:NA)(P:Nat->Prop)(before:List GL)(vb:Value)(w:World)(hx:NAt w P x a)(hb:GLs w P vb before)(hok:aLq before x) :
  Calls Tryz.prog 173 #[fF x a,vb] w (wX P (cH before x) w):=by
 have h0:Calls Tryz.prog 173 #[fF x a,vb] w (wX (fun b=>P b∧b<w.heap.size) (cH before x) w):=by
  have hx':NAt w (fun b=>P b∧b<w.heap.size) x a:=hx.carry (fun _ _ _=>rfl) (fun b h1 h2=>⟨h2,h1⟩);have hb':GLs w (fun b=>P b∧b<w.heap.size) vb before:=hb.grow (Ext.refl _) (fun b h1 h2=>⟨h2,h1⟩);have hk:=hok.kind
  by_cases k0:x.kind=0
  ·exact aEn x a _ before vb w hx' k0 (fun b h=>h.2)
  by_cases k1:x.kind=1
  ·exact aEm x a _ before vb w hx' k1 (fun b h=>h.2) hok.num
  by_cases k3:x.kind=3
  ·exact aEl x a _ before vb w hx' k3 (fun b h=>h.2) hb' hok.kids hok.lok hok.few
  by_cases k2:x.kind=2
  ·exact vX x a _ before vb w hx' false (by simpa using k2) (fun b h=>h.2) hb' hok.kids hok.lok hok.few
  ·exact vX x a _ before vb w hx' true aa (fun b h=>h.2) hb' hok.kids hok.lok hok.few
 refine h0.mono ?_;rintro e w' ⟨A,c,h1,h2,h3⟩;exact ⟨A,c,h1,h2.imp (fun b _ h=>h.elim (fun h=>.inl h.1) .inr),h3⟩
theorem Tryz.info194:(Tryz.prog.info? 194).map (fun i=>(i.zero,i.size,i.bytes))=some (some (.agg #[.slice none 0 0,.bool false]),2,32):=Y
def aJj (P:Nat->Prop)(l:List GL)(w:World)(e:Ending)(w':World):Prop:=∃ v,e=.returned v∧GLs w' (New P w.heap.size) v l∧Ext w w'
def aJn (t:List GN)(n:Nat)(P:Nat->Prop)(B:Nat)(W:World)(v i:Value)(wr:World):Prop :=
 ∃ (k:Nat) (xs:List Value),k<=n∧i=↑k∧wr.ownsRow W.heap.size 194 2 v k xs∧RL (RGL wr (Off P B wr v)) (aG (t.take k)) xs∧Ext W wr
theorem mI (t:List GN):(aG t).length=t.length:=by unfold aG;rw [eG];simp
theorem aEk {t:List GN}{n:Nat}(hg:bD t n){k:Nat}(hk:k<n):aLq (aG (t.take k)) (t.getD k default):=by
 have hc:=hg.at_ hk;have hkt:k<t.length:=by have:=hg.1;omega
 refine ⟨hc.node.kind,fun z hz=>?_,fun z hz=>?_,by have:=(eZ hg hk).1;omega,hc.node.numbers⟩
 ·rw [mI,List.length_take]
  have:=hc.node.kids z hz;omega
 ·have hz':=hc.node.kids z hz
  rw [gJ hkt hz'];exact lM hg z.toNat D
theorem aO3 {P:Nat->Prop}{B N:Nat}{wr w1 w4:World}{v v':Value}{ls:List GL}{g:GL}{xs:List Value}{A:Option Addr}{c:Nat}
  (hB:B<=N)(ho:wr.ownsRow N 194 2 v ls.length xs)(hr:RL (RGL wr (Off P B wr v)) ls xs)(h1:Ext wr w1)
  (hg:bW w1 (New (Off P B wr v) wr.heap.size) (.slice A g.vals.length c) g.vals)(hN:N<=wr.heap.size)
  (hf:Fr (fun k=>some k=v.ownBlock) (w1.alloc (.cells #[.slice A g.vals.length c,.bool g.many] 194)) w4)
  (hown:v'.ownBlock=v.ownBlock∨v'.ownBlock=some (w1.alloc (.cells #[.slice A g.vals.length c,.bool g.many] 194)).heap.size) :
  RL (RGL w4 (Off P B w4 v')) (ls ++ [g]) (xs ++ [.slice A g.vals.length c,.bool g.many]):=by
 have hs1:=h1.size;have hs4:=hf.size;simp at hs4;have h14:Fr (fun k=>some k=v.ownBlock) w1 w4:=(Fr.of_ext ((Ext.refl w1).alloc' _)).trans hf;have h04:Fr (fun k=>some k=v.ownBlock) wr w4:=(Fr.of_ext h1).trans h14;have hv:∀ b,v.ownBlock=some b->N<=b∧b<wr.heap.size:=fun b hb=>⟨ho.block_ge hb,ho.block_lt hb⟩
 have hne:∀ b,b<w1.heap.size->some b ≠ v.ownBlock->some b ≠ v'.ownBlock:=by
  intro b hb h;rcases hown with e | e
  ·rw [e];exact h
  ·rw [e];intro e';injection e' with e';simp at e';omega
 refine RL.append (hr.mono (fun l _ cs h=>h.carry (aB.off h04) (fun b hb h=>⟨h.1,D,hne b D h.2.2⟩))) (RL.one ⟨_,rfl,?_⟩)
 have hq:∀ b,New (Off P B wr v) wr.heap.size b->(P b∨B<=b)∧some b ≠ v.ownBlock:=by
  rintro b (h | h)
  ·exact ⟨h.1,h.2.2⟩
  ·exact ⟨.inr D,fun e=>by have:=(hv b e.symm).2;omega⟩
 exact hg.carry (fun b hb h=>h14.block b hb (hq b h).2.symm.symm) (fun b hb h=>⟨(hq b h).1,D,hne b hb (hq b h).2⟩)
theorem aEi (t:List GN)(n:Nat)(P:Nat->Prop)(vn:Value)(w:World)(ht:Nds w P vn t)(hg:bD t n) :
  Calls Tryz.prog 133 #[.agg #[vn],↑n] w (aJj P (aG (t.take n)) w):=by
 have HT:=aZv ht;have HG:=aZv hg;obtain ⟨An,cn,en,hn1,hn2⟩:=ht.form;subst en;have hnt:=hg.1;have hn4:=hg.2.1;clear ht hg;obtain ⟨i0,hi,hz0,hz1,hz2⟩:=info_parts Tryz.info194;have HI:=aZv hi;clear hi;go_enter Tryz.func133,Tryz.ntmps133;go_wp2_with fail;have HE:=aZv (show Ext w (w.alloc (.cells #[.slice An t.length cn] 25)) from (Ext.refl w).alloc' _);have HBX:=aZv (Blk.new w 25 #[.slice An t.length cn]);generalize hW:w.alloc (.cells #[.slice An t.length cn] 25)=W at *;clear hW;go_loopw [5,6] (fun v i wr=>aJn t n P w.heap.size W v i wr) (fun _ i _=>n - (intOf i).toNat)
 case atStart=>exact ⟨0,[],Nat.zero_le _,rfl,aT _ _ _ _,rfl,Ext.refl _⟩
 case round =>
  obtain ⟨k,xs,hk,rfl,hown,hrl,hx⟩:=hrel;have HOWN:=aZv hown;have HRL:=aZv hrl;have HX:=aZv hx;have hsz:=hx.size;have hsw:=HE.out.size;have b0:=(HBX.out.ext hx).cell' (u:=.slice An t.length cn) 0 rfl;clear hown hrl hx;have hll:(aG (t.take k)).length=k:=by rw [mI,List.length_take];omega
  have HLL:=aZv hll;clear hll
  by_cases hlt:k<n
  ·have hkt:k<t.length:=by omega
   obtain ⟨b1,o1,a1,rfl,-,ha1,hc1⟩:=(HT.out.carry (Q:=Off P w.heap.size wr u5) (aB.of_ext (HE.out.trans' HX.out)) (fun b hb h=>⟨.inl h,D,fun e=>by have:=HOWN.out.block_ge e.symm;omega⟩)).get hkt;have HOK:=aZv (aEk HG.out hlt)
   have HSN:=aZv (show aG (t.take (k+1))=aG (t.take k) ++ [cH (aG (t.take k)) (t.getD k default)] by
    unfold aG;rw [aV default hkt,iK])
   have hlt':=hc1.lt;have HA1:=aZv ha1
   have HGL:=aZv (show GLs wr (Off P w.heap.size wr u5) u5 (aG (t.take k)) from
    Lst.of_own (HOWN.out.len_cast HLL.out.symm rfl) HRL.out (by rw [HLL.out];omega) (fun b hb=>HOWN.out.block_lt hb))
   have c0:=hc1.c0;have c1:=hc1.c1;have c2:=hc1.c2;have c3:=hc1.c3;have c4:=hc1.c4;have c5:=hc1.c5;have c6:=hc1.c6;have c7:=hc1.c7;have c8:=hc1.c8;have c9:=hc1.c9;have c10:=hc1.c10;have c11:=hc1.c11;clear hc1 ha1;generalize t.getD k default=x at *;go_wp2_with fail;refine (aIf x a1 _ (aG (t.take k)) u5 _ HA1.out HGL.out HOK.out).mono ?_;rintro e w1 ⟨A2,d2,rfl,hv2,hx2⟩;have HV2:=aZv hv2;have HX2:=aZv hx2;clear hv2 hx2 c0 c1 c2 c3 c4 c5 c6 c7 c8 c9 c10 c11 b0;generalize hgg:cH (aG (t.take k)) x=g at *;clear hgg;go_wp2_with (at_builtin;go_must (refine aI _ rfl (.tmp 12) (.tmp 20) 191 ac W.heap.size 194 i0 _ 2 32 Tryz.underlying191 HI.out hz0 hz1 hz2 rfl D u5 _ _ rfl ((HOWN.out.ext_ HX2.out).alloc _) (fun _=>True) (some ⟨w1.heap.size,0,none⟩) 1 1 [.slice A2 g.vals.length d2,.bool g.many] rfl (Sl.new w1 _ _ _ _ rfl) af D D (by have:=HX2.out.size;simp;omega) ?_);intro v4 w4 ho4 hf4 hb4);go_roundw
   case rel =>
    refine ⟨k+1,_,D,by go_num,ho4,?_,?_⟩
    ·rw [HSN.out]
     exact aO3 hsw (HOWN.out.len_cast HLL.out.symm rfl) HRL.out HX2.out HV2.out hsz hf4 hb4
    ·exact Fr.new_ext (((Fr.of_ext (HX.out.trans' HX2.out)).alloc _).trans hf4) (fun b hb=>HOWN.out.block_ge hb.symm)
   case measure=>simp [intOf];omega
  ·have hkn:k=n:=by omega
   have HKN:=aZv hkn;clear hkn;go_wp2_with fail;go_ret;refine ⟨_,rfl,?_,HE.out.trans' HX.out⟩;rw [<- HKN.out];have h:GLs wr (New P w.heap.size) u5 (aG (t.take k)):=Lst.of_own (HOWN.out.len_cast HLL.out.symm rfl) (HRL.out.mono (fun l _ cs h=>h.carry (fun _ _ _=>rfl) (fun b _ h=>h.1))) (by rw [HLL.out];omega) (fun b hb=>HOWN.out.block_lt hb);exact h
def aT9 (P:Nat->Prop)(g:GL)(w:World)(e:Ending)(w':World):Prop :=
 ∃ A c,e=.returned (.tuple #[.slice A g.vals.length c,.bool (!g.many)])∧bW w' (New P w.heap.size) (.slice A g.vals.length c) g.vals∧Ext w w'
theorem qT (t:List GN)(n:Nat)(P:Nat->Prop)(vn:Value)(w:World)(ht:Nds w P vn t)(hg:bD t (n+1)) :
  Calls Tryz.prog 86 #[.agg #[vn],↑n] w (aT9 P ((aG t).getD n default) w):=by
 have HT:=aZv ht;have HG:=aZv hg;obtain ⟨An,cn,en,hn1,hn2⟩:=ht.form;subst en;have hnt:=hg.1;have hn4:=hg.2.1
 have HTK:=aZv (show (aG (t.take (n+1))).getD n default=(aG t).getD n default by
  unfold aG;rw [gO _ _ _ hnt];simp [List.getD])
 have HLN:=aZv (show (aG (t.take (n+1))).length=n+1 by rw [mI,List.length_take];omega);clear ht hg;go_enter Tryz.func86,Tryz.ntmps86;go_wp2_with fail;refine (aEi t (n+1) P _ _ (HT.out.ext ((Ext.refl w).alloc' _)) HG.out).mono ?_;rintro e w1 ⟨v,rfl,hv,hx1⟩;have HX1:=aZv (((Ext.refl w).alloc' _).trans' hx1);obtain ⟨A,c,ev,h1,h2⟩:=Lst.form hv;subst ev;have hln:n<(aG (t.take (n+1))).length:=by rw [HLN.out];omega
 obtain ⟨b,o,A2,d2,rfl,-,hv2,g2,g3⟩:=hv.get hln;rw [HTK.out] at hv2 g2 g3;have HV2:=aZv hv2;have hn0:(0:Int)<=(n:Int):=by omega
 have hn9:(n:Int)<((aG (t.take (n+1))).length:Int):=D
 clear hv hx1 hv2;generalize (aG (t.take (n+1))).length=L at *;generalize (aG t).getD n default=g at *;obtain ⟨vals,many⟩:=g;simp only at g2 g3;go_wp2_with fail;go_quiet (fail);go_wp2_with fail;go_ret2;refine ⟨A2,d2,rfl,?_,HX1.out.drewN' _⟩;exact (HV2.out.ext ((Ext.refl w1).drewN' _)).imp (fun b _ h=>h.elim .inl (fun h=>.inr (by simp at h;omega)))
theorem aFs (t:List GN)(x:GN)(a:NA)(n:Nat)(P:Nat->Prop)(vn:Value)(w:World)(ht:Nds w P vn t)(hx:NAt w P x a)(hk:0<x.kids.length)(hz:x.kids.getD 0 0=n)(hg:bD t (n+1)) :
  Calls Tryz.prog 60 #[.agg #[vn],fF x a] w (cT (.int .i64 (gV t x)) w):=by
 have HT:=aZv ht;have HG:=aZv hg;have HX:=aZv hx;have HZ:=aZv hz
 have HQ:=aZv (show gV t x=if ((aG t).getD n default).many then 4 else if dH ((aG t).getD n default).vals x.values then 0 else 1 by
  unfold gV;rw [hz];simp)
 obtain ⟨An,cn,en,hn1,hn2⟩:=ht.form;subst en;obtain ⟨hkl1,hkl2⟩:=hx.kids.le;clear ht hg hx hz;go_enter Tryz.func60,Tryz.ntmps60;go_wp2_with fail;have HE:=aZv (show Ext w ((w.alloc (.cells #[.slice An t.length cn] 25)).alloc (.cells (aE x a).toArray 87)) from ((Ext.refl w).alloc' _).alloc' _);have HBT:=aZv ((Blk.new w 25 #[.slice An t.length cn]).alloc (.cells (aE x a).toArray 87));have HBX:=aZv (Blk.new' (w.alloc (.cells #[.slice An t.length cn] 25)) 87 (aE x a).toArray (g:=w.heap.size+1) U);generalize hW:(w.alloc (.cells #[.slice An t.length cn] 25)).alloc (.cells (aE x a).toArray 87)=W at *;clear hW;have b0:=HBT.out.cell' (u:=.slice An t.length cn) 0 rfl;have b7:=HBX.out.cell' (u:=.slice a.kA x.kids.length a.kc) 7 rfl;obtain ⟨b1,o1,e1,-,-,g1⟩:=(HX.out.kids.ext HE.out).get hk;rw [HZ.out,Nat.add_zero] at g1;rw [e1] at b7;clear e1;have hk1:(0:Int)<(x.kids.length:Int):=by omega
 have HVA:=aZv (show ∀ W',Nds W' P (.slice An t.length cn) t->Calls Tryz.prog 86 #[.agg #[.slice An t.length cn],↑n] W' (aT9 P ((aG t).getD n default) W') from fun W' h=>qT t n P _ W' h HG.out);generalize (aG t).getD n default=g at *;obtain ⟨vals,many⟩:=g
 go_region_held3 (fun w'=>w'.cell? ⟨w.heap.size,0,none⟩=some (.slice An t.length cn)∧w'.cell? ⟨w.heap.size+1,7,none⟩=some (.slice (some ⟨b1,o1,none⟩) x.kids.length a.kc)∧w'.cell? ⟨b1,o1,none⟩=some (.int .i64 n))
  (first
   | go_keep
   | (go_split_ands
      exact ⟨aA hx1 ‹_›,aA hx1 ‹_›,aA hx1 ‹_›⟩))
  (first
   | (go_at_call 86;refine (HVA.out _ (HT.out.ext HE.out.drew')).mono ?_;rintro e w1 ⟨A,c,rfl,hv,hx1⟩))
 have HX1:=aZv (((Ext.refl W).drew').trans' hx1);have b6:=(HBX.out.ext HX1.out).cell' (u:=.slice a.vA x.values.length a.vc) 6 rfl;have HV:=aZv hv;clear hv hx1
 cases many
 ·go_wp2_with fail
  refine (kM vals x.values (New P (W.drew).heap.size) P _ _ _ HV.out (HX.out.values.ext (HE.out.trans' HX1.out))).mono ?_;rintro e w2 ⟨rfl,hx2⟩;have HX2:=aZv hx2;clear hx2;generalize dH vals x.values=bb at *
  cases bb
  ·go_wp2_with fail
   go_ret;exact ⟨aL fw,HE.out.trans' (HX1.out.trans' HX2.out)⟩
  ·go_wp2_with fail
   go_ret;exact ⟨aL fw,HE.out.trans' (HX1.out.trans' HX2.out)⟩
 ·go_wp2_with fail
  go_ret;exact ⟨aL fw,HE.out.trans' HX1.out⟩
end Go.Proofs.YtkoeecdjijfjnaaGreat
