/- Contracts of functions. Conditions: none. -/
import Derived.Test.YtkoeecdjijfjnaaGreatD2
set_option maxRecDepth 100000
set_option maxHeartbeats 8000000
namespace Go.Proofs.YtkoeecdjijfjnaaGreat
open Go.RowKit
theorem aIq {w:World}{base:Nat}{e:TypeId}{size:Nat}{A:Option Addr}{n c:Nat}{xs:List Value}(h:w.ownsRow base e size (.slice A n c) n xs):Sl w (fun _=>True) size A n xs:=by
 obtain ⟨A',c',e,_,_,h3⟩:=Sl.of_own h;injection e with e _ _;subst e;exact h3 _ (fun _ _=>trivial)
theorem iW {w w':World}{M:Nat->Prop}{b off:Nat}{u:Value}(hf:Fr M w w')(hb:¬ M b)(h:w.cell? ⟨b,off,none⟩=some u):w'.cell? ⟨b,off,none⟩=some u:=by
 rw [<- h];exact World.cell?_of_block (w:=w) (hf.block b (aQ h) hb)
theorem aDo (t:List GN)(path:List Int)(f i:Nat)(at_:Int)(P:Nat->Prop)(vn vp:Value)(w:World)(hS:mJ t path f)(hif:i<f+1)(hf16:f<14)(hR:∀ (z:Nat)(k:Int),z<f->z<t.length->0<=k->k<=path.length->mK t path z k (aR t path f z k))(hc:qK t i)(hi:i<t.length)(hn:dJ i (t.getD i default))(h0:0<=at_)(h1:at_<=path.length)(_:path.length<=1000000)(hP:∀ b,P b->b<w.heap.size)(ht:Nds w P vn t)(hvp:aU w P vp path)(hk:(t.getD i default).kind=4) :
  Calls Tryz.prog 144 #[.agg #[vn],↑i,vp,↑at_] w (aI9 P (aR t path (f+1) i at_) (6 ^ (f+1)) w):=by
 have HT:=aYl ht;have HPP:=aYl hP;have HN:=aYl hn;have HVP:=aYl hvp;have HQ:=aYl (show aR t path (f+1) i at_=cY (aR t path f) path i (t.getD i default) at_ by simp only [aR,Int.toNat_natCast]);obtain ⟨An,cn,en,hn1,hn2⟩:=ht.form;subst en;obtain ⟨Ap,cp,ep,hp1,hp2⟩:=hvp.form;subst ep;obtain ⟨b1,o1,a1,rfl,-,ha1,hc1⟩:=ht.get hi;have HA:=aYl ha1;have lb1:=hc1.lt;have c0:=hc1.c0;have c1:=hc1.c1;have c2:=hc1.c2;have c3:=hc1.c3;have c4:=hc1.c4;have c5:=hc1.c5;have c6:=hc1.c6;have c7:=hc1.c7;have c8:=hc1.c8;have c9:=hc1.c9;have c10:=hc1.c10;have c11:=hc1.c11;have HK:=aYl hk;have t0:((t.getD i default).kind == 0)=false:=aYm U;have t3:((t.getD i default).kind == 3)=false:=aYm U;have t4:((t.getD i default).kind == 4)=true:=aYn hk;have HC1:=aYl hc.many;have HC2:=aYl hc.vals;clear hc;clear ht hP hc1 ha1 hk hn hvp;generalize t.getD i default=x at *;go_enter Tryz.func144,Tryz.ntmps144;go_upto_region 2 with fail;have HW:=aYl (zM.mk' (.slice (some ⟨b1,o1,none⟩) t.length cn) x a1 w);generalize hW:(((w.alloc (.cells #[.slice (some ⟨b1,o1,none⟩) t.length cn] 25)).alloc (.cells dP 154)).alloc (.cells (aL x a1).toArray 87))=W at *;clear hW;clear c0 c1 c2 c3 c4 c5 c6 c7 c8 c9 c10 c11;have hkp:0<x.kids.length:=by have:=HN.out.bind HK.out;omega
 have hz0:=HN.out.kids _ (aF (d:=0) hkp);obtain ⟨bk,ok,ek,-,-,gk⟩:=(HA.out.kids.ext HW.out.ext).get hkp;rw [Nat.add_zero] at gk;have lbk:=aQ gk
 have HR:=aYl (show aR t path (f+1) i at_=(if (aR t path f (x.kids.getD 0 0) at_).stop=-1 then
   ⟨(aR t path f (x.kids.getD ((cO x.values (aR t path f (x.kids.getD 0 0) at_).val).1+1) 0) (at_+(aR t path f (x.kids.getD 0 0) at_).used)).val,
    (aR t path f (x.kids.getD 0 0) at_).used+(aR t path f (x.kids.getD ((cO x.values (aR t path f (x.kids.getD 0 0) at_).val).1+1) 0) (at_+(aR t path f (x.kids.getD 0 0) at_).used)).used,
    (aR t path f (x.kids.getD ((cO x.values (aR t path f (x.kids.getD 0 0) at_).val).1+1) 0) (at_+(aR t path f (x.kids.getD 0 0) at_).used)).stop⟩
  else aR t path f (x.kids.getD 0 0) at_) by
  rw [HQ.out];unfold cY;rw [if_neg (show ¬ x.kind=0 by have:=HK.out;omega),if_neg (show ¬ x.kind=3 by have:=HK.out;omega),if_pos HK.out])
 have HCM:=aYl (HC1.out HK.out);have HCV:=aYl (HC2.out HK.out);have HZ0:=aYl (show x.kids.getD 0 0=((x.kids.getD 0 0).toNat:Int) by omega);generalize (x.kids.getD 0 0).toNat=zn at *;rw [HZ0.out] at gk hz0;have HR':=aYl HR.out;rw [HZ0.out] at HR';clear HR;have x0:=HW.out.box.cell' (u:=↑x.kind) 0 rfl;have x7:=HW.out.box.cell' (u:=.slice a1.kA x.kids.length a1.kc) 7 rfl;rw [ek] at x7;have y0:=HW.out.tree.cell' (u:=.slice (some ⟨b1,o1,none⟩) t.length cn) 0 rfl;have hsw:w.heap.size+3<=W.heap.size:=by have:=HW.out.size;omega
 have hkl:=HA.out.kids.le;clear ek;go_upto_region 8 with fail;have HSA:=aYl (hS zn (at_) P _ _ ((W.alloc (.cells dP 154)).drew) U U U U (fun b hb=>by have:=HPP.out b hb;simp;omega) ((HT.out.ext HW.out.ext).ext ((Ext.refl _).alloc' _).drew') ((HVP.out.ext HW.out.ext).ext ((Ext.refl _).alloc' _).drew'));have HSB:=aYl (hS zn (at_) P _ _ W.drew U U U U (fun b hb=>by have:=HPP.out b hb;show b<W.heap.size;omega) ((HT.out.ext HW.out.ext).ext (Ext.refl _).drew') ((HVP.out.ext HW.out.ext).ext (Ext.refl _).drew'));have hro:=hR zn (at_) U U U U;generalize hgr:aR t path f (zn:Int) (at_)=ra at *;clear hgr;have hra0:=hro.used0;have hra1:=hro.usedP;have Hra:=aYl hro;clear hro;have hl0:w.heap.size<W.heap.size:=by omega
 have hn0:¬ w.heap.size=W.heap.size:=U
 have hl1:w.heap.size+1+1<W.heap.size:=U
 have hn1:¬ w.heap.size+1+1=W.heap.size:=U
 have hn2:¬ bk=W.heap.size:=U
 go_cut [10] (fun s wx=>kQ P ra (6 ^ f) W s wx)
 case first =>
  go_region_held3 (fun w'=>w'.cell? ⟨w.heap.size,0,none⟩=some (.slice (some ⟨b1,o1,none⟩) t.length cn)∧w'.cell? ⟨w.heap.size+1+1,7,none⟩=some (.slice (some ⟨bk,ok,none⟩) x.kids.length a1.kc)∧w'.cell? ⟨bk,ok,none⟩=some (.int .i64 zn))
   (first
    | (go_split_ands
       with_reducible exact ⟨bH hn0 ‹_›,bH hn1 ‹_›,bH hn2 ‹_›⟩)
    | (go_split_ands
       with_reducible exact ⟨aA hx2 ‹_›,aA hx2 ‹_›,aA hx2 ‹_›⟩)
    | (go_split_ands
       with_reducible exact ⟨bP hq0 ‹_›,bP hq1 ‹_›,bP hq2 ‹_›⟩)
    | (go_split_ands
       with_reducible exact ⟨bC ‹_› _,bC ‹_› _,bC ‹_› _⟩)
    | go_keep)
   (first
    | (go_at_call 144;(with_reducible refine HSB.out.mono ?_);rintro e w2 ⟨A2,d2,sv,m,xs,rfl,hv2,hown2,hm2,hx2⟩;obtain ⟨A3,c3,e3,-,-,-⟩:=Sl.of_own hown2;subst e3;have hs2:=hx2.size;simp at hs2;have hq0:w.heap.size<w2.heap.size:=(by omega);have hq1:w.heap.size+1+1<w2.heap.size:=(by omega);have hq2:bk<w2.heap.size:=(by omega))
    | (go_at_call 144;(with_reducible refine HSA.out.mono ?_);rintro e w2 ⟨A2,d2,sv,m,xs,rfl,hv2,hown2,hm2,hx2⟩;obtain ⟨A3,c3,e3,-,-,-⟩:=Sl.of_own hown2;subst e3;have hs2:=hx2.size;simp at hs2;have BZ:=((Blk.new' W 154 dP (g:=W.heap.size) rfl).drew).ext hx2;have z0:=BZ.cell' (u:=.int .i64 0) 0 rfl;have z1:=BZ.cell' (u:=.int .i64 0) 1 rfl;have z2:=BZ.cell' (u:=.string ⟨#[]⟩) 2 rfl;have z3:=BZ.cell' (u:=.slice none 0 0) 3 rfl;have z4:=BZ.cell' (u:=.int .i64 0) 4 rfl;have z5:=BZ.cell' (u:=.int .i64 0) 5 rfl;have z6:=BZ.cell' (u:=.slice none 0 0) 6 rfl;have fz0:=BZ.frozen 0;have fz1:=BZ.frozen 1;have fz2:=BZ.frozen 2;have fz3:=BZ.frozen 3;have fz4:=BZ.frozen 4;have fz5:=BZ.frozen 5;have fz6:=BZ.frozen 6;clear BZ))
  ·go_wp2_with fail
   go_meet;exact kQ.late (fun b hb=>by have:=HPP.out b hb;omega) hv2 hown2 hm2 ((Ext.refl W).drew'.trans' hx2)
  ·go_wp2_with fail
   go_meet;exact kQ.early (fun b hb=>by have:=HPP.out b hb;omega) hv2 hown2 hm2 (by simp) ((Ext.refl _).drew'.trans' hx2)
 case rest =>
  obtain ⟨wy,gra,Ara,dra,svra,mra,xsra,rfl,rfl,hB,hgra,hv,hown,hmra,hsg,hx2⟩:=hcut;obtain ⟨Bra,cra,e3,-,-,-⟩:=Sl.of_own hown;subst e3;have HBra:=aYl hB;have HVra:=aYl hv;have HOra:=aYl hown;have HSGra:=aYl hsg;have HXra:=aYl hx2;have hglra:=hB.lt;clear hB hv hown hsg hx2;clear x0 x7 y0 gk hn0 hn1 hn2;have k0:=HBra.out.cell' (u:=↑ra.val.kind) 0 rfl;have k1:=HBra.out.cell' (u:=↑ra.val.n) 1 rfl;have k2:=HBra.out.cell' (u:=.string ra.val.s) 2 rfl;have k3:=HBra.out.cell' (u:=.slice Ara ra.val.kids.length dra) 3 rfl;have k4:=HBra.out.cell' (u:=↑ra.used) 4 rfl;have k5:=HBra.out.cell' (u:=↑ra.stop) 5 rfl;have k6:=HBra.out.cell' (u:=.slice Bra mra cra) 6 rfl;have RES:=aYl (HW.out.res.ext HXra.out);have BOX:=aYl (HW.out.box.ext HXra.out);have TREE:=aYl (HW.out.tree.ext HXra.out);have r0:=RES.out.cell' (u:=.int .i64 0) 0 rfl;have f0:=RES.out.frozen 0;have r1:=RES.out.cell' (u:=.int .i64 0) 1 rfl;have f1:=RES.out.frozen 1;have r2:=RES.out.cell' (u:=.string ⟨#[]⟩) 2 rfl;have f2:=RES.out.frozen 2;have r3:=RES.out.cell' (u:=.slice none 0 0) 3 rfl;have f3:=RES.out.frozen 3;have r4:=RES.out.cell' (u:=.int .i64 0) 4 rfl;have f4:=RES.out.frozen 4;have r5:=RES.out.cell' (u:=.int .i64 0) 5 rfl
  have f5:=RES.out.frozen 5;have r6:=RES.out.cell' (u:=.slice none 0 0) 6 rfl;have f6:=RES.out.frozen 6
  by_cases hst:ra.stop=-1
  ·have ts:(ra.stop != -1)=false:=by rw [bne_eq_false_iff_eq];exact hst
   have HR2:=aYl (HR'.out.trans (if_pos hst));have hmem:=Hra.out.mem hst HCM.out;rw [HCV.out] at hmem;have hfm:=jV HN.out.inc hmem;have hbl:=HN.out.bind HK.out;have hfq:(cO x.values ra.val).1+1<x.kids.length:=by omega
   have hval:=HA.out.values.le;have v6:=BOX.out.cell' (u:=.slice a1.vA x.values.length a1.vc) 6 rfl;clear hst hmem hfm hbl;go_wp2_with fail;refine (pA x.values ra.val Ara dra P _ _ _ ((HA.out.values.ext HW.out.ext).ext HXra.out) HVra.out).mono ?_;rintro e w3 ⟨rfl,hx3⟩;generalize cO x.values ra.val=pr at *;obtain ⟨q,bq⟩:=pr;simp only at hfq HR2;have HX3:=aYl hx3;have HX3':=aYl (HW.out.ext.trans' (HXra.out.trans' hx3));have hs3:=hx3.size;have RES3:=aYl (RES.out.ext hx3);have BOX3:=aYl (BOX.out.ext hx3);have TREE3:=aYl (TREE.out.ext hx3);have BRA3:=aYl (HBra.out.ext hx3);clear hx3 v6 k0 k1 k2 k3 k4 k5 k6 r0 r1 r2 r3 r4 r5 r6 f0 f1 f2 f3 f4 f5 f6;obtain ⟨bk',ok',ek',-,-,gk⟩:=(HA.out.kids.ext HX3'.out).get hfq;have hz1:=HN.out.kids _ (aF (d:=0) hfq);have lbk':=aQ gk;have HZ1:=aYl (show x.kids.getD (q+1) 0=((x.kids.getD (q+1) 0).toNat:Int) by omega);generalize (x.kids.getD (q+1) 0).toNat=zq at *;rw [HZ1.out] at gk hz1 HR2;have x7:=BOX3.out.cell' (u:=.slice a1.kA x.kids.length a1.kc) 7 rfl;rw [ek'] at x7;have y0:=TREE3.out.cell' (u:=.slice (some ⟨b1,o1,none⟩) t.length cn) 0 rfl;have k4:=BRA3.out.cell' (u:=↑ra.used) 4 rfl;clear ek';have hq1:(0:Int)<=(q:Int)+1:=by omega
   have hq2:((q:Int)+1).toNat=q+1:=U
   have hq3:(q:Int)+1<(x.kids.length:Int):=U
   have hq4:IntKind.i64.wrap ((q:Int)+1)=(q:Int)+1:=IntWalk.i64_in _ U;have hq5:IntKind.i64.wrap (at_+ra.used)=at_+ra.used:=IntWalk.i64_in _ U;have HQ45:=aYl (And.intro hq4 hq5);clear hq4 hq5 hl0 hl1;go_upto_region 12 with fail;have HSA:=aYl (hS zq (at_+ra.used) P _ _ ((w3.alloc (.cells dP 154)).drew) U U U U (fun b hb=>by have:=HPP.out b hb;simp;omega) ((HT.out.ext HX3'.out).ext ((Ext.refl _).alloc' _).drew') ((HVP.out.ext HX3'.out).ext ((Ext.refl _).alloc' _).drew'));have HSB:=aYl (hS zq (at_+ra.used) P _ _ w3.drew U U U U (fun b hb=>by have:=HPP.out b hb;show b<w3.heap.size;omega) ((HT.out.ext HX3'.out).ext (Ext.refl _).drew') ((HVP.out.ext HX3'.out).ext (Ext.refl _).drew'));have hro:=hR zq (at_+ra.used) U U U U;obtain ⟨hq4,hq5⟩:=HQ45.out;generalize hgr:aR t path f (zq:Int) (at_+ra.used)=rb at *;clear hgr;have hrb0:=hro.used0;have hrb1:=hro.usedP;clear hro;have hl0:w.heap.size<w3.heap.size:=by omega
   have hn0:¬ w.heap.size=w3.heap.size:=U
   have hl1:w.heap.size+1+1<w3.heap.size:=U
   have hn1:¬ w.heap.size+1+1=w3.heap.size:=U
   have hn2:¬ bk'=w3.heap.size:=U
   have hl3:gra<w3.heap.size:=U
   have hn3:¬ gra=w3.heap.size:=U
   go_cut [13] (fun s wx=>kQ P rb (6 ^ f) w3 s wx)
   case first =>
    go_region_held3 (fun w'=>w'.cell? ⟨w.heap.size,0,none⟩=some (.slice (some ⟨b1,o1,none⟩) t.length cn)∧w'.cell? ⟨w.heap.size+1+1,7,none⟩=some (.slice (some ⟨bk',ok',none⟩) x.kids.length a1.kc)∧w'.cell? ⟨bk',ok'+(q+1),none⟩=some (.int .i64 zq)∧w'.cell? ⟨gra,4,none⟩=some (.int .i64 ra.used))
     (first
      | (go_split_ands
         with_reducible exact ⟨bH hn0 ‹_›,bH hn1 ‹_›,bH hn2 ‹_›,bH hn3 ‹_›⟩)
      | (go_split_ands
         with_reducible exact ⟨aA hx2 ‹_›,aA hx2 ‹_›,aA hx2 ‹_›,aA hx2 ‹_›⟩)
      | (go_split_ands
         with_reducible exact ⟨bP hqq0 ‹_›,bP hqq1 ‹_›,bP hqq2 ‹_›,bP hqq3 ‹_›⟩)
      | (go_split_ands
         with_reducible exact ⟨bC ‹_› _,bC ‹_› _,bC ‹_› _,bC ‹_› _⟩)
      | go_keep)
     (first
      | (go_at_call 144;(with_reducible refine HSB.out.mono ?_);rintro e w2 ⟨A2,d2,sv,m,xs,rfl,hv2,hown2,hm2,hx2⟩;obtain ⟨A3,c3,e3,-,-,-⟩:=Sl.of_own hown2;subst e3;have hs2:=hx2.size;simp at hs2;have hqq0:w.heap.size<w2.heap.size:=(by omega);have hqq1:w.heap.size+1+1<w2.heap.size:=(by omega);have hqq2:bk'<w2.heap.size:=(by omega);have hqq3:gra<w2.heap.size:=(by omega))
      | (go_at_call 144;(with_reducible refine HSA.out.mono ?_);rintro e w2 ⟨A2,d2,sv,m,xs,rfl,hv2,hown2,hm2,hx2⟩;obtain ⟨A3,c3,e3,-,-,-⟩:=Sl.of_own hown2;subst e3;have hs2:=hx2.size;simp at hs2;have BZ:=((Blk.new' w3 154 dP (g:=w3.heap.size) rfl).drew).ext hx2;have z0:=BZ.cell' (u:=.int .i64 0) 0 rfl;have z1:=BZ.cell' (u:=.int .i64 0) 1 rfl;have z2:=BZ.cell' (u:=.string ⟨#[]⟩) 2 rfl;have z3:=BZ.cell' (u:=.slice none 0 0) 3 rfl;have z4:=BZ.cell' (u:=.int .i64 0) 4 rfl;have z5:=BZ.cell' (u:=.int .i64 0) 5 rfl;have z6:=BZ.cell' (u:=.slice none 0 0) 6 rfl;have fz0:=BZ.frozen 0;have fz1:=BZ.frozen 1;have fz2:=BZ.frozen 2;have fz3:=BZ.frozen 3;have fz4:=BZ.frozen 4;have fz5:=BZ.frozen 5;have fz6:=BZ.frozen 6;clear BZ))
    ·go_wp2_with fail
     go_meet;exact kQ.late (fun b hb=>by have:=HPP.out b hb;omega) hv2 hown2 hm2 ((Ext.refl w3).drew'.trans' hx2)
    ·go_wp2_with fail
     go_meet;exact kQ.early (fun b hb=>by have:=HPP.out b hb;omega) hv2 hown2 hm2 (by simp) ((Ext.refl _).drew'.trans' hx2)
   case rest =>
    obtain ⟨wz,grb,Arb,drb,svrb,mrb,xsrb,rfl,rfl,hB,hgrb,hv,hown,hmrb,hsg,hx2⟩:=hcut;obtain ⟨Brb,crb,e3,-,-,-⟩:=Sl.of_own hown;subst e3;have HBrb:=aYl hB;have HVrb:=aYl hv;have HOrb:=aYl hown;have HXrb:=aYl hx2;have hglrb:=hB.lt;clear hB hv hown hsg hx2;clear x7 y0 gk k4 hn0 hn1 hn2 hn3 hq1 hq2 hq3 hq4 hq5 hl0 hl1 hl3;have BRA4:=aYl (BRA3.out.ext HXrb.out);have j0:=BRA4.out.cell' (u:=↑ra.used) 4 rfl;have j1:=BRA4.out.cell' (u:=.slice Bra mra cra) 6 rfl;have k0:=HBrb.out.cell' (u:=↑rb.val.kind) 0 rfl;have k1:=HBrb.out.cell' (u:=↑rb.val.n) 1 rfl;have k2:=HBrb.out.cell' (u:=.string rb.val.s) 2 rfl;have k3:=HBrb.out.cell' (u:=.slice Arb rb.val.kids.length drb) 3 rfl;have k4:=HBrb.out.cell' (u:=↑rb.used) 4 rfl;have k5:=HBrb.out.cell' (u:=↑rb.stop) 5 rfl;have k6:=HBrb.out.cell' (u:=.slice Brb mrb crb) 6 rfl;have RES4:=aYl (RES3.out.ext HXrb.out);have hma:=hmra.le hf16;have hmb:=hmrb.le hf16;have HSL:=aYl (aIq HOrb.out);have HOA:=aYl ((HOra.out.ext_ HX3.out).ext_ HXrb.out);have hown_ge:∀ b,(Value.slice Bra mra cra).ownBlock=some b->W.heap.size<=b∧b<wy.heap.size:=fun b hb=>⟨HOra.out.block_ge hb,HOra.out.block_lt hb⟩
    have HOG:=aYl hown_ge;have hma1:¬ some gra=(Value.slice Bra mra cra).ownBlock:=fun e=>HSGra.out e.symm
    have hma2:¬ some grb=(Value.slice Bra mra cra).ownBlock:=fun e=>by have:=HOG.out _ e.symm;omega
    have hma3:¬ some (w.heap.size+1)=(Value.slice Bra mra cra).ownBlock:=fun e=>by have:=HOG.out _ e.symm;omega
    have hn1:¬ gra=w.heap.size+1:=U
    have hn2:¬ grb=w.heap.size+1:=U
    have hws:W.heap.size<=wz.heap.size:=U
    obtain ⟨i3,hi3,hz30,hz31,hz32⟩:=info_parts Tryz.info254;have HI3:=aYl hi3;clear hi3 hown_ge;have hsum:IntKind.i64.wrap (ra.used+rb.used)=ra.used+rb.used:=IntWalk.i64_in _ U;go_upto_region 13 with fail
    go_region_held3 (fun w'=>w'.cell? ⟨gra,4,none⟩=some (.int .i64 ra.used)∧w'.cell? ⟨gra,6,none⟩=some (.slice Bra mra cra)∧w'.cell? ⟨grb,0,none⟩=some (.int .i64 rb.val.kind)∧w'.cell? ⟨grb,1,none⟩=some (.int .i64 rb.val.n)∧w'.cell? ⟨grb,2,none⟩=some (.string rb.val.s)∧w'.cell? ⟨grb,3,none⟩=some (.slice Arb rb.val.kids.length drb)∧w'.cell? ⟨grb,4,none⟩=some (.int .i64 rb.used)∧w'.cell? ⟨grb,5,none⟩=some (.int .i64 rb.stop)∧w'.cell? ⟨grb,6,none⟩=some (.slice Brb mrb crb))
     (first
      | (go_split_ands
         with_reducible exact ⟨bH hn1 ‹_›,bH hn1 ‹_›,bH hn2 ‹_›,bH hn2 ‹_›,bH hn2 ‹_›,bH hn2 ‹_›,bH hn2 ‹_›,bH hn2 ‹_›,bH hn2 ‹_›⟩)
      | (go_split_ands
         with_reducible exact ⟨iW hf5 hma1 ‹_›,iW hf5 hma1 ‹_›,iW hf5 hma2 ‹_›,iW hf5 hma2 ‹_›,iW hf5 hma2 ‹_›,iW hf5 hma2 ‹_›,iW hf5 hma2 ‹_›,iW hf5 hma2 ‹_›,iW hf5 hma2 ‹_›⟩)
      | go_keep)
     (first
      | (refine eG _ (by rfl) (.tmp 80) (.tmp 82) 152 (by rfl) W.heap.size 254 i3 _ 3 24 Tryz.underlying152 HI3.out hz30 hz31 hz32 rfl (by omega) (.slice Bra mra cra) mra xsra (by rfl) (HOA.out.ext_ (Ext.refl _).drew') (fun _=>True) Brb mrb crb xsrb (by rfl) (HSL.out.ext (Ext.refl _).drew') hmrb.2 (by omega) (by omega) (by show W.heap.size<=wz.heap.size;omega) ?_;intro v5 w5 ho5 hf5 hb5;obtain ⟨A5,c5,e5,-,-,-⟩:=Sl.of_own ho5;subst e5;have RES5:=RES4.out.drew.fr hf5 hma3;have r0:=RES5.cell' (u:=.int .i64 0) 0 rfl;have f0:=RES5.frozen 0;have r1:=RES5.cell' (u:=.int .i64 0) 1 rfl;have f1:=RES5.frozen 1;have r2:=RES5.cell' (u:=.string ⟨#[]⟩) 2 rfl;have f2:=RES5.frozen 2;have r3:=RES5.cell' (u:=.slice none 0 0) 3 rfl;have f3:=RES5.frozen 3;have r4:=RES5.cell' (u:=.int .i64 0) 4 rfl;have f4:=RES5.frozen 4;have r5:=RES5.cell' (u:=.int .i64 0) 5 rfl;have f5:=RES5.frozen 5;have r6:=RES5.cell' (u:=.slice none 0 0) 6 rfl;have f6:=RES5.frozen 6;clear RES5))
    clear hsum;go_wp2_with fail;have RES5:=aYl (RES4.out.drew.fr hf5 hma3);have HE5:=aYl (show Ext w w5 from Fr.new_ext ((Fr.of_ext (HX3'.out.trans' HXrb.out).drew').trans hf5) (fun b hb=>by have:=(HOG.out b hb.symm).1;omega))
    have HK5:=aYl (show aB (fun b=>(P b∨w3.heap.size<=b)∧b ≠ grb) wz w5 from by
     rintro b hb ⟨h,_⟩;refine hf5.block b hb (fun e=>?_);have:=HOG.out b e.symm;rcases h with h | h
     ·have:=HPP.out b h;omega
     ·omega)
    have hQ:∀ b,((P b∨w3.heap.size<=b)∧b ≠ grb)->b ≠ w.heap.size+1:=by
     rintro b ⟨h | h,_⟩
     ·have:=HPP.out b h;omega
     ·omega
    have q:=cK RES5.out (↑rb.val.kind) (↑rb.val.n) (.string rb.val.s) (.slice Arb rb.val.kids.length drb) (.int .i64 (ra.used+rb.used)) (↑rb.stop) (.slice A5 (mra+mrb) c5);have HX2:=aYl (cX HE5.out (show w.heap.size<=w.heap.size+1 by omega) (↑rb.val.kind) (↑rb.val.n) (.string rb.val.s) (.slice Arb rb.val.kids.length drb) (.int .i64 (ra.used+rb.used)) (↑rb.stop) (.slice A5 (mra+mrb) c5));have HV:=aYl ((HVrb.out.carry (Q:=fun b=>(P b∨w3.heap.size<=b)∧b ≠ grb) HK5.out (fun _ _ h=>h)).carry (Q:=New P w.heap.size) (dK (g:=w.heap.size+1) (fun h=>hQ _ h rfl) (↑rb.val.kind) (↑rb.val.n) (.string rb.val.s) (.slice Arb rb.val.kids.length drb) (.int .i64 (ra.used+rb.used)) (↑rb.stop) (.slice A5 (mra+mrb) c5)) (fun b hb h=>h.1.elim .inl (fun h=>.inr U)));have HO:=aYl ((fR ho5 (show w.heap.size+1<W.heap.size by omega) (↑rb.val.kind) (↑rb.val.n) (.string rb.val.s) (.slice Arb rb.val.kids.length drb) (.int .i64 (ra.used+rb.used)) (↑rb.stop) (.slice A5 (mra+mrb) c5)).base_le (show w.heap.size<=W.heap.size by omega))
    change bodyPost Tryz.prog Tryz.f144 _ Exit.ret _ (gZ w5 (w.heap.size+1) (↑rb.val.kind) (↑rb.val.n) (.string rb.val.s) (.slice Arb rb.val.kids.length drb) (.int .i64 (ra.used+rb.used)) (↑rb.stop) (.slice A5 (mra+mrb) c5))
    generalize gZ w5 (w.heap.size+1) (↑rb.val.kind) (↑rb.val.n) (.string rb.val.s) (.slice Arb rb.val.kids.length drb) (.int .i64 (ra.used+rb.used)) (↑rb.stop) (.slice A5 (mra+mrb) c5)=W' at *;have q0:=q.cell' (u:=↑rb.val.kind) 0 rfl;have q1:=q.cell' (u:=↑rb.val.n) 1 rfl;have q2:=q.cell' (u:=.string rb.val.s) 2 rfl;have q3:=q.cell' (u:=.slice Arb rb.val.kids.length drb) 3 rfl;have q4:=q.cell' (u:=.int .i64 (ra.used+rb.used)) 4 rfl;have q5:=q.cell' (u:=↑rb.stop) 5 rfl;have q6:=q.cell' (u:=.slice A5 (mra+mrb) c5) 6 rfl;rw [HR2.out];refine bodyPost_ret (v:=.agg (cR ⟨rb.val,ra.used+rb.used,rb.stop⟩ Arb drb (.slice A5 (mra+mrb) c5))) (by simp [results,Tryz.results144,go_sem,q0,q1,q2,q3,q4,q5,q6];try (first | rfl | exact ⟨rfl,rfl,rfl,rfl⟩)) rfl ⟨Arb,drb,.slice A5 (mra+mrb) c5,(mra+mrb),(xsra ++ xsrb),rfl,HV.out,HO.out,?_,HX2.out⟩;exact hmra.add hmrb
  ·have ts:(ra.stop != -1)=true:=bne_iff_ne.2 hst
   have HR2:=aYl (HR'.out.trans (if_neg hst))
   have hQ:∀ b,((P b∨W.heap.size<=b)∧b ≠ gra)->b ≠ w.heap.size+1:=by
    rintro b ⟨h | h,_⟩
    ·have:=HPP.out b h;omega
    ·omega
   clear hst;go_wp2_with fail;have q:=cK RES.out (↑ra.val.kind) (↑ra.val.n) (.string ra.val.s) (.slice Ara ra.val.kids.length dra) (↑ra.used) (↑ra.stop) (.slice Bra mra cra);have HX2:=aYl (cX (HW.out.ext.trans' HXra.out) (show w.heap.size<=w.heap.size+1 by omega) (↑ra.val.kind) (↑ra.val.n) (.string ra.val.s) (.slice Ara ra.val.kids.length dra) (↑ra.used) (↑ra.stop) (.slice Bra mra cra));have HV:=aYl (HVra.out.carry (Q:=New P w.heap.size) (dK (g:=w.heap.size+1) (fun h=>hQ _ h rfl) (↑ra.val.kind) (↑ra.val.n) (.string ra.val.s) (.slice Ara ra.val.kids.length dra) (↑ra.used) (↑ra.stop) (.slice Bra mra cra)) (fun b hb h=>h.1.elim .inl (fun h=>.inr U)));have HO:=aYl ((fR HOra.out (show w.heap.size+1<W.heap.size by omega) (↑ra.val.kind) (↑ra.val.n) (.string ra.val.s) (.slice Ara ra.val.kids.length dra) (↑ra.used) (↑ra.stop) (.slice Bra mra cra)).base_le (show w.heap.size<=W.heap.size by omega))
   change bodyPost Tryz.prog Tryz.f144 _ Exit.ret _ (gZ wy (w.heap.size+1) (↑ra.val.kind) (↑ra.val.n) (.string ra.val.s) (.slice Ara ra.val.kids.length dra) (↑ra.used) (↑ra.stop) (.slice Bra mra cra))
   generalize gZ wy (w.heap.size+1) (↑ra.val.kind) (↑ra.val.n) (.string ra.val.s) (.slice Ara ra.val.kids.length dra) (↑ra.used) (↑ra.stop) (.slice Bra mra cra)=W' at *;have q0:=q.cell' (u:=↑ra.val.kind) 0 rfl;have q1:=q.cell' (u:=↑ra.val.n) 1 rfl;have q2:=q.cell' (u:=.string ra.val.s) 2 rfl;have q3:=q.cell' (u:=.slice Ara ra.val.kids.length dra) 3 rfl;have q4:=q.cell' (u:=↑ra.used) 4 rfl;have q5:=q.cell' (u:=↑ra.stop) 5 rfl;have q6:=q.cell' (u:=.slice Bra mra cra) 6 rfl;rw [HR2.out];refine bodyPost_ret (v:=.agg (cR ra Ara dra (.slice Bra mra cra))) (by simp [results,Tryz.results144,go_sem,q0,q1,q2,q3,q4,q5,q6];try (first | rfl | exact ⟨rfl,rfl,rfl,rfl⟩)) rfl ⟨Ara,dra,.slice Bra mra cra,mra,xsra,rfl,HV.out,HO.out,?_,HX2.out⟩;exact hmra.succ
abbrev aAk (used stop:Int)(sv:Value):Array Value:=#[.int .i64 0,.int .i64 0,.string ⟨#[]⟩,.slice none 0 0,↑used,↑stop,sv]
def aCv (P:Nat->Prop)(B:Nat)(w:World)(sv vv:Value):Nat->Prop:=fun b=>(P b∨B<=b)∧b<w.heap.size∧some b ≠ sv.ownBlock∧some b ≠ vv.ownBlock
structure PSt (P:Nat->Prop)(W:World)(g:Nat)(used:Int)(sv:Value)(m:Nat)(xs:List Value)(vv:Value)(acc:List GV)(ys:List Value)(w:World):Prop where
 gW:g<W.heap.size
 notP:¬ P g
 out:Blk w g 154 (aAk used (-1) sv)
 sp:w.ownsRow W.heap.size 254 3 sv m xs
 one:∀ u ∈ xs,u.oneCell'=true
 vs:w.ownsRow W.heap.size 85 4 vv acc.length ys
 acc:RVs w (aCv P W.heap.size w sv vv) acc ys
 ne:∀ b,sv.ownBlock=some b->vv.ownBlock ≠ some b
 fr:Fr (fun b=>b=g) W w
section
variable {P:Nat->Prop}{W:World}{g:Nat}{used:Int}{sv:Value}{m:Nat}{xs:List Value}{vv:Value}{acc:List GV}{ys:List Value}{w w':World}
theorem PSt.ext (h:PSt P W g used sv m xs vv acc ys w)(hx:Ext w w'):PSt P W g used sv m xs vv acc ys w' :=
 ⟨h.gW,h.notP,h.out.ext hx,h.sp.ext_ hx,h.one,h.vs.ext_ hx,RVs.carry (aB.of_ext hx) (fun b hb h=>⟨h.1,by have:=hx.size;omega,h.2.2⟩) h.acc,h.ne,h.fr.trans (Fr.of_ext hx)⟩
theorem PSt.size (h:PSt P W g used sv m xs vv acc ys w):W.heap.size<=w.heap.size:=h.fr.size
theorem PSt.set_used (h:PSt P W g used sv m xs vv acc ys w)(u:Int):PSt P W g u sv m xs vv acc ys (w.setCell ⟨g,4,none⟩ (↑u)):=by
 have hb:=h.out.set_ 4 (↑u);simp only [List.setIfInBounds_toArray,List.set_cons_zero,List.set_cons_succ] at hb;refine ⟨h.gW,h.notP,hb,ownsRow_setCell_below h.sp (a:=⟨g,4,none⟩) h.gW _,h.one,ownsRow_setCell_below h.vs (a:=⟨g,4,none⟩) h.gW _,?_,h.ne,h.fr.setCell (p:=⟨g,4,none⟩) (.inl rfl) _⟩;refine RVs.carry (aB.set (fun _ _ _=>rfl) (p:=⟨g,4,none⟩) _ ?_) (fun b hb h=>⟨h.1,by simp [World.setCell];exact h.2.1,h.2.2⟩) h.acc;rintro ⟨h1 | h1,_⟩
 ·exact h.notP h1
 ·have:=h.gW;change W.heap.size<=g at h1;omega
theorem PSt.spans (h:PSt P W g used sv m xs vv acc ys w){w2:World}{sv2:Value}{n:Nat}{news:List Value}(ho:w2.ownsRow W.heap.size 254 3 sv2 (m+n) (xs ++ news))(hnew:∀ u ∈ news,u.oneCell'=true)
  (hf:Fr (fun k=>some k=sv.ownBlock) w w2)(hb:sv2.ownBlock=sv.ownBlock∨sv2.ownBlock=some w.heap.size) :
  PSt P W g used sv2 (m+n) (xs ++ news) vv acc ys (w2.setCell ⟨g,6,none⟩ sv2):=by
 have hg:=h.gW;have hsp:∀ b,sv.ownBlock=some b->W.heap.size<=b∧b<w.heap.size:=fun b hb=>⟨h.sp.block_ge hb,h.sp.block_lt hb⟩
 have hb0:=(h.out.fr hf (fun e=>by have:=(hsp g e.symm).1;omega)).set_ 6 sv2;simp only [List.setIfInBounds_toArray,List.set_cons_zero,List.set_cons_succ] at hb0;have hvv:∀ b,vv.ownBlock=some b->¬ some b=sv.ownBlock:=fun b hb e=>h.ne b e.symm hb
 refine ⟨h.gW,h.notP,hb0,ownsRow_setCell_below ho (a:=⟨g,6,none⟩) h.gW _,fun u hu=>(List.mem_append.1 hu).elim (h.one u) (hnew u),ownsRow_setCell_below (wC h.vs hf hvv) (a:=⟨g,6,none⟩) h.gW _,?_,?_,?_⟩
 ·refine RVs.carry (aB.set (fun b hb' hq=>hf.block b hb' (fun e=>hq.2.2.1 e)) (p:=⟨g,6,none⟩) _ ?_) (fun b hb' hq=>⟨hq.1,?_,?_,hq.2.2.2⟩) h.acc
  ·rintro ⟨h1 | h1,_⟩
   ·exact h.notP h1
   ·change W.heap.size<=g at h1;omega
  ·have:=hf.size;simp [World.setCell];omega
  ·rcases hb with e | e
   ·rw [e];exact hq.2.2.1
   ·rw [e];intro e';injection e' with e';omega
 ·intro b hb1 hb2
  rcases hb with e | e
  ·rw [e] at hb1;exact h.ne b hb1 hb2
  ·rw [e] at hb1;injection hb1 with hb1;have:=h.vs.block_lt hb2;omega
 ·refine (h.fr.trans_new (hf.mono (fun b hb=>.inr ?_))).setCell (p:=⟨g,6,none⟩) (.inl rfl) _
  exact (hsp b hb.symm).1
theorem PSt.spans_keep (h:PSt P W g used sv m xs vv acc ys w){w2:World}{sv2:Value}(hf:Fr (fun k=>some k=sv.ownBlock) w w2)(hb:sv2.ownBlock=sv.ownBlock∨sv2.ownBlock=some w.heap.size) :
  aB (aCv P W.heap.size w sv vv) w (w2.setCell ⟨g,6,none⟩ sv2)∧∀ b,b<w.heap.size->aCv P W.heap.size w sv vv b->aCv P W.heap.size (w2.setCell ⟨g,6,none⟩ sv2) sv2 vv b:=by
 have hg:=h.gW;refine ⟨aB.set (fun b hb' hq=>hf.block b hb' (fun e=>hq.2.2.1 e)) (p:=⟨g,6,none⟩) _ ?_,fun b hb' hq=>⟨hq.1,?_,?_,hq.2.2.2⟩⟩
 ·rintro ⟨h1 | h1,_⟩
  ·exact h.notP h1
  ·change W.heap.size<=g at h1;omega
 ·have:=hf.size;simp [World.setCell];omega
 ·rcases hb with e | e
  ·rw [e];exact hq.2.2.1
  ·rw [e];intro e';injection e' with e';omega
theorem PSt.used_keep (h:PSt P W g used sv m xs vv acc ys w)(u:Value) :
  aB (aCv P W.heap.size w sv vv) w (w.setCell ⟨g,4,none⟩ u)∧∀ b,b<w.heap.size->aCv P W.heap.size w sv vv b->aCv P W.heap.size (w.setCell ⟨g,4,none⟩ u) sv vv b:=by
 have hg:=h.gW;refine ⟨aB.set (fun _ _ _=>rfl) (p:=⟨g,4,none⟩) _ ?_,fun b hb' hq=>⟨hq.1,?_,hq.2.2⟩⟩
 ·rintro ⟨h1 | h1,_⟩
  ·exact h.notP h1
  ·change W.heap.size<=g at h1;omega
 ·simp [World.setCell];exact hq.2.1
theorem PSt.kid (h:PSt P W g used sv m xs vv acc ys w){w2:World}{vv2:Value}{y:GV}{A:Option Addr}{c:Nat}(ho:w2.ownsRow W.heap.size 85 4 vv2 (acc.length+1) (ys ++ cellsOf y A c))
  (hv:VAt w (aCv P W.heap.size w sv vv) y A c)(hf:Fr (fun k=>some k=vv.ownBlock) w w2)(hb:vv2.ownBlock=vv.ownBlock∨vv2.ownBlock=some w.heap.size) :
  PSt P W g used sv m xs vv2 (acc ++ [y]) (ys ++ cellsOf y A c) w2:=by
 have hg:=h.gW;have hvs:∀ b,vv.ownBlock=some b->W.heap.size<=b∧b<w.heap.size:=fun b hb=>⟨h.vs.block_ge hb,h.vs.block_lt hb⟩
 have hsv:∀ b,sv.ownBlock=some b->¬ some b=vv.ownBlock:=fun b hb e=>h.ne b hb e.symm
 have hk:aB (aCv P W.heap.size w sv vv) w w2:=fun b hb' hq=>hf.block b hb' (fun e=>hq.2.2.2 e)
 have hQ:∀ b,b<w.heap.size->aCv P W.heap.size w sv vv b->aCv P W.heap.size w2 sv vv2 b:=by
  intro b hb' hq;refine ⟨hq.1,by have:=hf.size;omega,hq.2.2.1,?_⟩;rcases hb with e | e
  ·rw [e];exact hq.2.2.2
  ·rw [e];intro e';injection e' with e';omega
 refine ⟨h.gW,h.notP,h.out.fr hf (fun e=>by have:=(hvs g e.symm).1;omega),wC h.sp hf hsv,h.one,ho.len_cast Y rfl,RVs.append (RVs.carry hk hQ h.acc) (RVs.one (hv.carry hk hQ).rv),?_,?_⟩
 ·intro b hb1 hb2
  rcases hb with e | e
  ·rw [e] at hb2;exact h.ne b hb1 hb2
  ·rw [e] at hb2;injection hb2 with hb2;have:=h.sp.block_lt hb1;omega
 ·exact h.fr.trans_new (hf.mono (fun b hb=>.inr (hvs b hb.symm).1))
end
structure aFw (vn:Value)(x:GN)(a:NA)(w W:World):Prop where
 ext:Ext w W
 size:W.heap.size=w.heap.size+4
 tree:Blk W w.heap.size 25 #[vn]
 box:Blk W (w.heap.size+1) 87 (aL x a).toArray
 res:Blk W (w.heap.size+2) 154 dP
 out:Blk W (w.heap.size+3) 154 (aAk 0 (-1) (.slice none 0 0))
theorem aFw.mk' (vn:Value)(x:GN)(a:NA)(w:World):aFw vn x a w ((((w.alloc (.cells #[vn] 25)).alloc (.cells (aL x a).toArray 87)).alloc (.cells dP 154)).alloc (.cells (aAk 0 (-1) (.slice none 0 0)) 154)) :=
 ⟨((((Ext.refl w).alloc' _).alloc' _).alloc' _).alloc' _,Y,(((Blk.new w 25 #[vn]).alloc _).alloc _).alloc _,((Blk.new' _ _ _ Y).alloc _).alloc _,(Blk.new' _ _ _ Y).alloc _,Blk.new' _ _ _ Y⟩
def aMg (t:List GN)(path:List Int)(f:Nat)(x:GN)(at_:Int)(P:Nat->Prop)(W:World)(g:Nat)(vv i:Value)(wr:World):Prop :=
 ∃ (k:Nat) (used:Int) (acc:List GV) (sv:Value) (m:Nat) (xs ys:List Value),k<=x.kids.length∧i=↑k∧PSt P W g used sv m xs vv acc ys wr∧m<=k*6 ^ f∧acc.length=k∧0<=used∧at_+used<=path.length ∧
  bM (aR t path f) x.name at_ 0 [] x.kids=bM (aR t path f) x.name at_ used acc (x.kids.drop k)
theorem aAa {m k n N:Nat}(h1:m<=k*N)(h2:n+1<=N):m+1+n<=(k+1)*N:=by rw [Nat.add_mul];omega
theorem aMw {m k N:Nat}(h1:m<=k*N)(hk:k<=5)(hN:N<=30517578125):m<=152587890625:=by
 have h2:k*N<=5*30517578125:=Nat.mul_le_mul hk hN;omega
theorem aKz {f:Nat}(hf:f<14):6 ^ f<=30517578125:=by
 have h1:6 ^ f<=6 ^ 13:=Nat.pow_le_pow_right U U;exact Nat.le_trans h1 am
theorem aDd {m k f:Nat}(h1:m<=k*6 ^ f)(hk:k<=5):m+1<=6 ^ (f+1):=by
 have h2:k*6 ^ f<=5*6 ^ f:=Nat.mul_le_mul_right _ hk;have h3:0<6 ^ f:=Nat.pos_of_ne_zero Y;rw [Nat.pow_succ];omega
theorem aDv (t:List GN)(path:List Int)(f i:Nat)(at_:Int)(P:Nat->Prop)(vn vp:Value)(w:World)(x:GN)(a:NA)(hS:mJ t path f)(hR:∀ (z:Nat)(k:Int),z<f->z<t.length->0<=k->k<=path.length->mK t path z k (aR t path f z k))
  (hkids:∀ z ∈ x.kids,0<=z∧z<(i:Int))(hif:i<f+1)(hi:i<t.length)(hfew:x.kids.length<=5)(hf16:f<14)(h0:0<=at_)(h1:at_<=path.length)(hpl:path.length<=1000000)(hP:∀ b,P b->b<w.heap.size)(ht:Nds w P vn t)(hx:NAt w P x a)(hvp:aU w P vp path) :
  Calls Tryz.prog 183 #[.agg #[vn],jJ x a,vp,↑at_] w (aI9 P (bM (aR t path f) x.name at_ 0 [] x.kids) (6 ^ (f+1)) w):=by
 have HT:=aYl ht;have HPP:=aYl hP;have HA:=aYl hx;have HVP:=aYl hvp;have HKI:=aYl hkids;have HPW:=aYl (aKz hf16);obtain ⟨An,cn,en,hn1,hn2⟩:=ht.form;subst en;obtain ⟨Ap,cp,ep,hp1,hp2⟩:=hvp.form;subst ep;have hkl:=hx.kids.le;obtain ⟨i3,hi3,hz30,hz31,hz32⟩:=info_parts Tryz.info254;have HI3:=aYl hi3;obtain ⟨i8,hi8,hz80,hz81,hz82⟩:=info_parts Tryz.info85;have HI8:=aYl hi8;clear ht hP hx hvp hkids hi3 hi8;go_enter Tryz.func183,Tryz.ntmps183;go_upto_region 2 with fail;have HW:=aYl (aFw.mk' (.slice An t.length cn) x a w);generalize hW:((((w.alloc (.cells #[.slice An t.length cn] 25)).alloc (.cells (aL x a).toArray 87)).alloc (.cells dP 154)).alloc (.cells (aAk 0 (-1) (.slice none 0 0)) 154))=W at *;clear hW;have hsw:w.heap.size+4<=W.heap.size:=by have:=HW.out.size;omega
 go_wp2_with fail;go_loopw [10,11] (fun v k wr=>aMg t path f x at_ P W (w.heap.size+3) v k wr) (fun _ k _=>x.kids.length - (intOf k).toNat)
 case atStart =>
  exact ⟨0,0,[],.slice none 0 0,0,[],[],Nat.zero_le _,rfl,⟨U,fun h=>by have:=HPP.out _ h;omega,HW.out.out,aN _ _ _ _,Y,aN _ _ _ _,rfl,fun b h=>by simp [Value.ownBlock] at h,Fr.refl _ _⟩,Y,rfl,Int.le_refl _,U,rfl⟩
 case round =>
  obtain ⟨k,used,acc,sv,m,xs,ys,hk,rfl,hps,hm,hacc,hu0,hu1,hrp⟩:=hrel;have HPS:=aYl hps;have HRP:=aYl hrp;have HM:=aYl hm;have HACC:=aYl hacc;have hmb:=aMw hm U HPW.out;have HWR:=aYl (show Ext w wr from Fr.new_ext ((Fr.of_ext HW.out.ext).trans hps.fr) (fun b hb=>by omega));have hszr:=hps.size;have BOX:=aYl (HW.out.box.fr hps.fr U);have TREE:=aYl (HW.out.tree.fr hps.fr U);have x7:=BOX.out.cell' (u:=.slice a.kA x.kids.length a.kc) 7 rfl;obtain ⟨As,cs,es,-,-,-⟩:=Sl.of_own hps.sp;subst es;have o0:=hps.out.cell' (u:=.int .i64 0) 0 rfl;have o1:=hps.out.cell' (u:=.int .i64 0) 1 rfl;have o2:=hps.out.cell' (u:=.string ⟨#[]⟩) 2 rfl;have o3:=hps.out.cell' (u:=.slice none 0 0) 3 rfl;have o4:=hps.out.cell' (u:=↑used) 4 rfl;have o5:=hps.out.cell' (u:=.int .i64 (-1)) 5 rfl;have o6:=hps.out.cell' (u:=.slice As m cs) 6 rfl;have fo0:=hps.out.frozen 0;have fo1:=hps.out.frozen 1;have fo2:=hps.out.frozen 2;have fo3:=hps.out.frozen 3;have fo4:=hps.out.frozen 4;have fo5:=hps.out.frozen 5;clear hps hrp hm hacc
  by_cases hlt:k<x.kids.length
  ·obtain ⟨bk,ok,ek,-,-,gk⟩:=(HA.out.kids.ext HWR.out).get hlt
   have hz:=HKI.out _ (aF (d:=0) hlt);have lbk:=aQ gk;have HD:=aYl (HRP.out.trans (by rw [aG 0 hlt,bM]));have HZ:=aYl (show x.kids.getD k 0=((x.kids.getD k 0).toNat:Int) by omega);generalize (x.kids.getD k 0).toNat=zn at *;rw [HZ.out] at gk hz HD;rw [ek] at x7;have y0:=TREE.out.cell' (u:=.slice An t.length cn) 0 rfl;clear ek;have hk0:(0:Int)<=(k:Int):=by omega
   have hk1:(k:Int)<(x.kids.length:Int):=U
   have hwrap:IntKind.i64.wrap (at_+used)=at_+used:=IntWalk.i64_in _ U;go_upto_region 6 with fail;have HSA:=aYl (hS zn (at_+used) P _ _ ((wr.alloc (.cells dP 154)).drew) U U U U (fun b hb=>by have:=HPP.out b hb;simp;omega) ((HT.out.ext HWR.out).ext ((Ext.refl _).alloc' _).drew') ((HVP.out.ext HWR.out).ext ((Ext.refl _).alloc' _).drew'));have HSB:=aYl (hS zn (at_+used) P _ _ wr.drew U U U U (fun b hb=>by have:=HPP.out b hb;show b<wr.heap.size;omega) ((HT.out.ext HWR.out).ext (Ext.refl _).drew') ((HVP.out.ext HWR.out).ext (Ext.refl _).drew'));have hro:=hR zn (at_+used) U U U U;generalize hgr:aR t path f (zn:Int) (at_+used)=rb at *;clear hgr;have hrb0:=hro.used0;have hrb1:=hro.usedP;clear hro;have hl0:w.heap.size<wr.heap.size:=by omega
   have hn0:¬ w.heap.size=wr.heap.size:=U
   have hl1:w.heap.size+1<wr.heap.size:=U
   have hn1:¬ w.heap.size+1=wr.heap.size:=U
   have hn2:¬ bk=wr.heap.size:=U
   have hl3:w.heap.size+1+1+1<wr.heap.size:=U
   have hn3:¬ w.heap.size+1+1+1=wr.heap.size:=U
   go_cut [12] (fun s wx=>kQ P rb (6 ^ f) wr s wx)
   case first =>
    go_region_held3 (fun w'=>w'.cell? ⟨w.heap.size,0,none⟩=some (.slice An t.length cn)∧w'.cell? ⟨w.heap.size+1,7,none⟩=some (.slice (some ⟨bk,ok,none⟩) x.kids.length a.kc)∧w'.cell? ⟨bk,ok+k,none⟩=some (.int .i64 zn)∧w'.cell? ⟨w.heap.size+1+1+1,4,none⟩=some (.int .i64 used))
     (first
      | (go_split_ands
         with_reducible exact ⟨bH hn0 ‹_›,bH hn1 ‹_›,bH hn2 ‹_›,bH hn3 ‹_›⟩)
      | (go_split_ands
         with_reducible exact ⟨aA hx2 ‹_›,aA hx2 ‹_›,aA hx2 ‹_›,aA hx2 ‹_›⟩)
      | (go_split_ands
         with_reducible exact ⟨bP hq0 ‹_›,bP hq1 ‹_›,bP hq2 ‹_›,bP hq3 ‹_›⟩)
      | (go_split_ands
         with_reducible exact ⟨bC ‹_› _,bC ‹_› _,bC ‹_› _,bC ‹_› _⟩)
      | go_keep)
     (first
      | (go_at_call 144;(with_reducible refine HSB.out.mono ?_);rintro e w2 ⟨A2,d2,sv,m,xs,rfl,hv2,hown2,hm2,hx2⟩;obtain ⟨A3,c3,e3,-,-,-⟩:=Sl.of_own hown2;subst e3;have hs2:=hx2.size;simp at hs2;have hq0:w.heap.size<w2.heap.size:=(by omega);have hq1:w.heap.size+1<w2.heap.size:=(by omega);have hq2:bk<w2.heap.size:=(by omega);have hq3:w.heap.size+1+1+1<w2.heap.size:=(by omega))
      | (go_at_call 144;(with_reducible refine HSA.out.mono ?_);rintro e w2 ⟨A2,d2,sv,m,xs,rfl,hv2,hown2,hm2,hx2⟩;obtain ⟨A3,c3,e3,-,-,-⟩:=Sl.of_own hown2;subst e3;have hs2:=hx2.size;simp at hs2;have BZ:=((Blk.new' wr 154 dP (g:=wr.heap.size) rfl).drew).ext hx2;have z0:=BZ.cell' (u:=.int .i64 0) 0 rfl;have z1:=BZ.cell' (u:=.int .i64 0) 1 rfl;have z2:=BZ.cell' (u:=.string ⟨#[]⟩) 2 rfl;have z3:=BZ.cell' (u:=.slice none 0 0) 3 rfl;have z4:=BZ.cell' (u:=.int .i64 0) 4 rfl;have z5:=BZ.cell' (u:=.int .i64 0) 5 rfl;have z6:=BZ.cell' (u:=.slice none 0 0) 6 rfl;have fz0:=BZ.frozen 0;have fz1:=BZ.frozen 1;have fz2:=BZ.frozen 2;have fz3:=BZ.frozen 3;have fz4:=BZ.frozen 4;have fz5:=BZ.frozen 5;have fz6:=BZ.frozen 6;clear BZ))
    ·go_wp2_with fail
     go_meet;exact kQ.late (fun b hb=>by have:=HPP.out b hb;omega) hv2 hown2 hm2 ((Ext.refl wr).drew'.trans' hx2)
    ·go_wp2_with fail
     go_meet;exact kQ.early (fun b hb=>by have:=HPP.out b hb;omega) hv2 hown2 hm2 (by simp) ((Ext.refl _).drew'.trans' hx2)
   case rest =>
    obtain ⟨wy,grb,Arb,drb,svrb,mrb,xsrb,rfl,rfl,hB,hgrb,hv,hown,hmrb,hsg,hx2⟩:=hcut;obtain ⟨Brb,crb,e3,-,-,-⟩:=Sl.of_own hown;subst e3;have HBrb:=aYl hB;have HVrb:=aYl hv;have HOrb:=aYl hown;have HSGrb:=aYl hsg;have HXrb:=aYl hx2;have hglrb:=hB.lt;clear hB hv hown hsg hx2;clear hwrap x7 y0 gk hn0 hn1 hn2 hn3 hl0 hl1 hl3;clear o0 o1 o2 o3 o4 o5 o6 fo0 fo1 fo2 fo3 fo4 fo5;have HP0:=aYl (HPS.out.ext HXrb.out);have hmr:=hmrb.le hf16;have hrk:grb<wy.heap.size:=hglrb;have HSPO:=aYl (show ∀ b,(Value.slice As m cs).ownBlock=some b->W.heap.size<=b∧b<wr.heap.size from fun b hb=>⟨HPS.out.sp.block_ge hb,HPS.out.sp.block_lt hb⟩);have HVVO:=aYl (show ∀ b,u10.ownBlock=some b->W.heap.size<=b∧b<wr.heap.size from fun b hb=>⟨HPS.out.vs.block_ge hb,HPS.out.vs.block_lt hb⟩);have HRBV:=aYl (HVrb.out.carry (Q:=aCv P W.heap.size wy (.slice As m cs) u10) (fun _ _ _=>rfl) (fun b hb h=>⟨h.1.elim .inl (fun h=>.inr U),hb,fun e=>by have h2:=HSPO.out b e.symm;rcases h.1 with h | h;(have:=HPP.out b h;omega);omega,fun e=>by have h2:=HVVO.out b e.symm;rcases h.1 with h | h;(have:=HPP.out b h;omega);omega⟩));have o0:=HP0.out.out.cell' (u:=.int .i64 0) 0 rfl;have o1:=HP0.out.out.cell' (u:=.int .i64 0) 1 rfl;have o2:=HP0.out.out.cell' (u:=.string ⟨#[]⟩) 2 rfl
    have o3:=HP0.out.out.cell' (u:=.slice none 0 0) 3 rfl;have o4:=HP0.out.out.cell' (u:=↑used) 4 rfl;have o5:=HP0.out.out.cell' (u:=.int .i64 (-1)) 5 rfl;have o6:=HP0.out.out.cell' (u:=.slice As m cs) 6 rfl;have fo0:=HP0.out.out.frozen 0;have fo1:=HP0.out.out.frozen 1;have fo2:=HP0.out.out.frozen 2;have fo3:=HP0.out.out.frozen 3;have fo4:=HP0.out.out.frozen 4;have fo5:=HP0.out.out.frozen 5;have k0:=HBrb.out.cell' (u:=↑rb.val.kind) 0 rfl;have k1:=HBrb.out.cell' (u:=↑rb.val.n) 1 rfl;have k2:=HBrb.out.cell' (u:=.string rb.val.s) 2 rfl;have k3:=HBrb.out.cell' (u:=.slice Arb rb.val.kids.length drb) 3 rfl;have k4:=HBrb.out.cell' (u:=↑rb.used) 4 rfl;have k5:=HBrb.out.cell' (u:=↑rb.stop) 5 rfl;have k6:=HBrb.out.cell' (u:=.slice Brb mrb crb) 6 rfl;have hgg:¬ grb=w.heap.size+1+1+1:=by omega
    have hwz:W.heap.size<=wy.heap.size:=U
    go_upto_region 8 with (at_builtin;go_must (refine aK _ rfl (.tmp 34) (.tmp 48) 152 al W.heap.size 254 i3 _ 3 24 Tryz.underlying152 HI3.out hz30 hz31 hz32 rfl U (.slice As m cs) m xs rfl (HP0.out.sp.alloc _) (fun _=>True) (some ⟨wy.heap.size,0,none⟩) 1 1 [.int .i64 at_,.int .i64 (at_+used),.int .i64 (at_+used+rb.used)] rfl (Sl.new wy _ _ _ _ rfl) af U U ab ?_);intro v5 w5 ho5 hf5 hb5;obtain ⟨A5,c5,e5,-,-,-⟩:=Sl.of_own ho5;subst e5;have BO5:=(HP0.out.out.alloc (.cells #[↑at_,.int .i64 (at_+used),.int .i64 (at_+used+rb.used)] 254)).fr hf5 (fun e=>by have:=(HSPO.out _ e.symm).1;omega);have p6:=BO5.cell' (u:=.slice As m cs) 6 rfl;have fp6:=BO5.frozen 6;clear BO5);have HP1:=aYl ((HP0.out.ext ((Ext.refl wy).alloc' (.cells #[↑at_,.int .i64 (at_+used),.int .i64 (at_+used+rb.used)] 254))).spans ho5 af hf5 hb5);have hkp:=(HP0.out.ext ((Ext.refl wy).alloc' (.cells #[↑at_,.int .i64 (at_+used),.int .i64 (at_+used+rb.used)] 254))).spans_keep (sv2:=.slice A5 (m+1) c5) hf5 hb5;have HV1:=aYl ((HRBV.out.carry (Q:=aCv P W.heap.size (wy.alloc (.cells #[↑at_,.int .i64 (at_+used),.int .i64 (at_+used+rb.used)] 254)) (.slice As m cs) u10) (aB.of_ext ((Ext.refl wy).alloc' _)) (fun b hb h=>⟨h.1,ab,h.2.2⟩)).carry hkp.1 hkp.2)
    have hng:¬ some grb=(Value.slice As m cs).ownBlock:=fun e=>by have:=HSPO.out _ e.symm;omega
    have BR1:=aYl (((HBrb.out.alloc (.cells #[↑at_,.int .i64 (at_+used),.int .i64 (at_+used+rb.used)] 254)).fr hf5 hng).far (p:=⟨w.heap.size+1+1+1,6,none⟩) hgg (.slice A5 (m+1) c5));have HOB:=aYl (ownsRow_setCell_below (wC (HOrb.out.alloc (.cells #[↑at_,.int .i64 (at_+used),.int .i64 (at_+used+rb.used)] 254)) hf5 (fun b hb e=>by have h1:=HOrb.out.block_ge hb;have h2:=HSPO.out b e.symm;omega)) (a:=⟨w.heap.size+1+1+1,6,none⟩) (by show w.heap.size+1+1+1<wr.heap.size;omega) (.slice A5 (m+1) c5))
    have HOW1:=aYl (show ∀ b,(Value.slice A5 (m+1) c5).ownBlock=some b->b ≠ grb from by
     intro b hb e;subst e;rcases hb5 with h | h
     ·exact hng (by rw [<- h];exact hb.symm)
     ·rw [hb] at h;injection h with h;simp at h;omega)
    have hs5:=hf5.size;simp at hs5;have hsz1:wy.heap.size<=(w5.setCell ⟨w.heap.size+1+1+1,6,none⟩ (.slice A5 (m+1) c5)).heap.size:=by simp [World.setCell];omega
    clear hkp hng ho5 hf5 hb5 p6 fp6 hs5;clear o0 o1 o2 o3 o4 o5 o6 fo0 fo1 fo2 fo3 fo4 fo5;clear k0 k1 k2 k3 k4 k5 k6;generalize hw6:w5.setCell ⟨w.heap.size+1+1+1,6,none⟩ (.slice A5 (m+1) c5)=w6 at *;clear hw6;have o0:=HP1.out.out.cell' (u:=.int .i64 0) 0 rfl;have o1:=HP1.out.out.cell' (u:=.int .i64 0) 1 rfl;have o2:=HP1.out.out.cell' (u:=.string ⟨#[]⟩) 2 rfl;have o3:=HP1.out.out.cell' (u:=.slice none 0 0) 3 rfl;have o4:=HP1.out.out.cell' (u:=↑used) 4 rfl;have o5:=HP1.out.out.cell' (u:=.int .i64 (-1)) 5 rfl;have o6:=HP1.out.out.cell' (u:=.slice A5 (m+1) c5) 6 rfl;have fo0:=HP1.out.out.frozen 0;have fo1:=HP1.out.out.frozen 1;have fo2:=HP1.out.out.frozen 2;have fo3:=HP1.out.out.frozen 3;have fo4:=HP1.out.out.frozen 4;have fo5:=HP1.out.out.frozen 5;have k0:=BR1.out.cell' (u:=↑rb.val.kind) 0 rfl;have k1:=BR1.out.cell' (u:=↑rb.val.n) 1 rfl;have k2:=BR1.out.cell' (u:=.string rb.val.s) 2 rfl;have k3:=BR1.out.cell' (u:=.slice Arb rb.val.kids.length drb) 3 rfl;have k4:=BR1.out.cell' (u:=↑rb.used) 4 rfl;have k5:=BR1.out.cell' (u:=↑rb.stop) 5 rfl;have k6:=BR1.out.cell' (u:=.slice Brb mrb crb) 6 rfl;go_upto_region 9 with (at_builtin;go_must (refine aK _ rfl (.tmp 52) (.tmp 54) 152 al W.heap.size 254 i3 _ 3 24 Tryz.underlying152 HI3.out hz30 hz31 hz32 rfl U (.slice A5 (m+1) c5) _ _ rfl HP1.out.sp (fun _=>True) Brb mrb crb xsrb rfl (aIq HOB.out) hmrb.2 U U U ?_);intro v7 w7 ho7 hf7 hb7;obtain ⟨A7,c7,e7,-,-,-⟩:=Sl.of_own ho7;subst e7;have BO7:=HP1.out.out.fr hf7 (fun e=>by have:=HP1.out.sp.block_ge e.symm;omega);have p6:=BO7.cell' (u:=.slice A5 (m+1) c5) 6 rfl;have fp6:=BO7.frozen 6;clear BO7)
    have HP2:=aYl (HP1.out.spans ho7 hmrb.2 hf7 hb7);have hkp:=HP1.out.spans_keep (sv2:=.slice A7 (m+1+mrb) c7) hf7 hb7;have HV2:=aYl (HV1.out.carry hkp.1 hkp.2);have BR2:=aYl ((BR1.out.fr hf7 (fun e=>HOW1.out _ e.symm rfl)).far (p:=⟨w.heap.size+1+1+1,6,none⟩) hgg (.slice A7 (m+1+mrb) c7));have hs7:=hf7.size;have hsz2:w6.heap.size<=(w7.setCell ⟨w.heap.size+1+1+1,6,none⟩ (.slice A7 (m+1+mrb) c7)).heap.size:=by simp [World.setCell];omega
    clear hkp ho7 hf7 hb7 p6 fp6 hs7;clear o0 o1 o2 o3 o4 o5 o6 fo0 fo1 fo2 fo3 fo4 fo5;clear k0 k1 k2 k3 k4 k5 k6;generalize hw8:w7.setCell ⟨w.heap.size+1+1+1,6,none⟩ (.slice A7 (m+1+mrb) c7)=w8 at *;clear hw8;have o0:=HP2.out.out.cell' (u:=.int .i64 0) 0 rfl;have o1:=HP2.out.out.cell' (u:=.int .i64 0) 1 rfl;have o2:=HP2.out.out.cell' (u:=.string ⟨#[]⟩) 2 rfl;have o3:=HP2.out.out.cell' (u:=.slice none 0 0) 3 rfl;have o4:=HP2.out.out.cell' (u:=↑used) 4 rfl;have o5:=HP2.out.out.cell' (u:=.int .i64 (-1)) 5 rfl;have o6:=HP2.out.out.cell' (u:=.slice A7 (m+1+mrb) c7) 6 rfl;have fo0:=HP2.out.out.frozen 0;have fo1:=HP2.out.out.frozen 1;have fo2:=HP2.out.out.frozen 2;have fo3:=HP2.out.out.frozen 3;have fo4:=HP2.out.out.frozen 4;have fo5:=HP2.out.out.frozen 5;have k0:=BR2.out.cell' (u:=↑rb.val.kind) 0 rfl;have k1:=BR2.out.cell' (u:=↑rb.val.n) 1 rfl;have k2:=BR2.out.cell' (u:=.string rb.val.s) 2 rfl;have k3:=BR2.out.cell' (u:=.slice Arb rb.val.kids.length drb) 3 rfl;have k4:=BR2.out.cell' (u:=↑rb.used) 4 rfl;have k5:=BR2.out.cell' (u:=↑rb.stop) 5 rfl;have k6:=BR2.out.cell' (u:=.slice Brb mrb crb) 6 rfl;go_upto_region 10 with fail;have HP3:=aYl (HP2.out.set_used (used+rb.used))
    have hkp:=HP2.out.used_keep (.int .i64 (used+rb.used));have HV3:=aYl (HV2.out.carry hkp.1 hkp.2);have BR3:=aYl (BR2.out.far (p:=⟨w.heap.size+1+1+1,4,none⟩) hgg (.int .i64 (used+rb.used)));have hsz3:w8.heap.size<=(w8.setCell ⟨w.heap.size+1+1+1,4,none⟩ (.int .i64 (used+rb.used))).heap.size:=by simp [World.setCell]
    clear hkp;clear o0 o1 o2 o3 o4 o5 o6 fo0 fo1 fo2 fo3 fo4 fo5;clear k0 k1 k2 k3 k4 k5 k6;generalize hw9:w8.setCell ⟨w.heap.size+1+1+1,4,none⟩ (.int .i64 (used+rb.used))=w9 at *;clear hw9;have k0:=BR3.out.cell' (u:=↑rb.val.kind) 0 rfl;have k1:=BR3.out.cell' (u:=↑rb.val.n) 1 rfl;have k2:=BR3.out.cell' (u:=.string rb.val.s) 2 rfl;have k3:=BR3.out.cell' (u:=.slice Arb rb.val.kids.length drb) 3 rfl;have k4:=BR3.out.cell' (u:=↑rb.used) 4 rfl;have k5:=BR3.out.cell' (u:=↑rb.stop) 5 rfl;have k6:=BR3.out.cell' (u:=.slice Brb mrb crb) 6 rfl;go_upto_region 11 with (at_builtin;go_must (refine aK _ rfl (.tmp 63) (.tmp 66) 83 al W.heap.size 85 i8 _ 4 56 Tryz.underlying83 HI8.out hz80 hz81 hz82 rfl U u10 _ _ rfl (HP3.out.vs.alloc _) (fun _=>True) (some ⟨w9.heap.size,0,none⟩) 1 1 [.int .i64 rb.val.kind,.int .i64 rb.val.n,.string rb.val.s,.slice Arb rb.val.kids.length drb] rfl (Sl.new w9 _ _ _ _ rfl) af (by have:=HACC.out;omega) (by have:=HACC.out;omega) ab ?_);intro v11 w11 ho11 hf11 hb11);have HP4:=aYl ((HP3.out.ext ((Ext.refl w9).alloc' (.cells #[↑rb.val.kind,↑rb.val.n,.string rb.val.s,.slice Arb rb.val.kids.length drb] 85))).kid (y:=rb.val) (A:=Arb) (c:=drb) ho11 (HV3.out.carry (aB.of_ext ((Ext.refl w9).alloc' _)) (fun b hb h=>⟨h.1,ab,h.2.2⟩)) hf11 hb11)
    have BR4:=aYl ((BR3.out.alloc (.cells #[↑rb.val.kind,↑rb.val.n,.string rb.val.s,.slice Arb rb.val.kids.length drb] 85)).fr hf11 (fun e=>by have:=HVVO.out _ e.symm;omega));clear ho11 hf11 hb11;clear k0 k1 k2 k3 k4 k5 k6;have k5:=BR4.out.cell' (u:=↑rb.stop) 5 rfl
    by_cases hst:rb.stop=-1
    ·have ts:(rb.stop != -1)=false:=by rw [bne_eq_false_iff_eq];exact hst
     have HST:=aYl hst;clear hst;go_wp2_with fail;go_roundw
     case rel =>
      have hd:=HD.out;rw [if_pos HST.out] at hd;exact ⟨k+1,used+rb.used,acc ++ [rb.val],.slice A7 (m+1+mrb) c7,m+1+mrb,_,_,U,by go_num,HP4.out,aAa HM.out hmrb.1,by simp [HACC.out],U,U,hd⟩
     case measure=>simp [intOf];omega
    ·have ts:(rb.stop != -1)=true:=bne_iff_ne.2 hst
     have HR2:=aYl (HD.out.trans (if_neg hst));clear hst;have o0:=HP4.out.out.cell' (u:=.int .i64 0) 0 rfl;have o1:=HP4.out.out.cell' (u:=.int .i64 0) 1 rfl;have o2:=HP4.out.out.cell' (u:=.string ⟨#[]⟩) 2 rfl;have o3:=HP4.out.out.cell' (u:=.slice none 0 0) 3 rfl;have o4:=HP4.out.out.cell' (u:=.int .i64 (used+rb.used)) 4 rfl;have o5:=HP4.out.out.cell' (u:=.int .i64 (-1)) 5 rfl;have o6:=HP4.out.out.cell' (u:=.slice A7 (m+1+mrb) c7) 6 rfl;have fo0:=HP4.out.out.frozen 0;have fo1:=HP4.out.out.frozen 1;have fo2:=HP4.out.out.frozen 2;have fo3:=HP4.out.out.frozen 3;have fo4:=HP4.out.out.frozen 4;have fo5:=HP4.out.out.frozen 5;have RES4:=aYl (HW.out.res.fr HP4.out.fr U);have r0:=RES4.out.cell' (u:=.int .i64 0) 0 rfl;have f0:=RES4.out.frozen 0;have r1:=RES4.out.cell' (u:=.int .i64 0) 1 rfl;have f1:=RES4.out.frozen 1;have r2:=RES4.out.cell' (u:=.string ⟨#[]⟩) 2 rfl;have f2:=RES4.out.frozen 2;have r3:=RES4.out.cell' (u:=.slice none 0 0) 3 rfl;have f3:=RES4.out.frozen 3;have r4:=RES4.out.cell' (u:=.int .i64 0) 4 rfl;have f4:=RES4.out.frozen 4;have r5:=RES4.out.cell' (u:=.int .i64 0) 5 rfl;have f5:=RES4.out.frozen 5;have r6:=RES4.out.cell' (u:=.slice none 0 0) 6 rfl;have f6:=RES4.out.frozen 6
     go_wp2_with fail;have RES5:=aYl (RES4.out.far (p:=⟨w.heap.size+1+1+1,5,none⟩) az (↑rb.stop));have HE4:=aYl ((show Ext w w11 from Fr.new_ext ((Fr.of_ext HW.out.ext).trans HP4.out.fr) (fun b hb=>by omega)).setCell' (p:=⟨w.heap.size+1+1+1,5,none⟩) cd (↑rb.stop));have q:=cK RES5.out (.int .i64 0) (.int .i64 0) (.string ⟨#[]⟩) (.slice none 0 0) (.int .i64 (used+rb.used)) (↑rb.stop) (.slice A7 (m+1+mrb) c7);have HX2:=aYl (cX HE4.out (show w.heap.size<=w.heap.size+1+1 by omega) (.int .i64 0) (.int .i64 0) (.string ⟨#[]⟩) (.slice none 0 0) (.int .i64 (used+rb.used)) (↑rb.stop) (.slice A7 (m+1+mrb) c7));have HO:=aYl ((fR (ownsRow_setCell_below HP4.out.sp (a:=⟨w.heap.size+1+1+1,5,none⟩) ce (↑rb.stop)) (show w.heap.size+1+1<W.heap.size by omega) (.int .i64 0) (.int .i64 0) (.string ⟨#[]⟩) (.slice none 0 0) (.int .i64 (used+rb.used)) (↑rb.stop) (.slice A7 (m+1+mrb) c7)).base_le (show w.heap.size<=W.heap.size by omega))
     change bodyPost Tryz.prog Tryz.f183 _ Exit.ret _ (gZ (w11.setCell ⟨w.heap.size+1+1+1,5,none⟩ (↑rb.stop)) (w.heap.size+1+1) (.int .i64 0) (.int .i64 0) (.string ⟨#[]⟩) (.slice none 0 0) (.int .i64 (used+rb.used)) (↑rb.stop) (.slice A7 (m+1+mrb) c7))
     generalize gZ (w11.setCell ⟨w.heap.size+1+1+1,5,none⟩ (↑rb.stop)) (w.heap.size+1+1) (.int .i64 0) (.int .i64 0) (.string ⟨#[]⟩) (.slice none 0 0) (.int .i64 (used+rb.used)) (↑rb.stop) (.slice A7 (m+1+mrb) c7)=W' at *;have q0:=q.cell' (u:=.int .i64 0) 0 rfl;have q1:=q.cell' (u:=.int .i64 0) 1 rfl;have q2:=q.cell' (u:=.string ⟨#[]⟩) 2 rfl;have q3:=q.cell' (u:=.slice none 0 0) 3 rfl;have q4:=q.cell' (u:=.int .i64 (used+rb.used)) 4 rfl;have q5:=q.cell' (u:=↑rb.stop) 5 rfl;have q6:=q.cell' (u:=.slice A7 (m+1+mrb) c7) 6 rfl;rw [HR2.out];refine bodyPost_ret (v:=.agg (cR ⟨bJ,used+rb.used,rb.stop⟩ none 0 (.slice A7 (m+1+mrb) c7))) (by simp [results,Tryz.results183,go_sem,q0,q1,q2,q3,q4,q5,q6];try (first | rfl | exact ⟨rfl,rfl,rfl,rfl⟩)) rfl ⟨none,0,.slice A7 (m+1+mrb) c7,(m+1+mrb),_,rfl,VAt.zero _ _,HO.out,?_,HX2.out⟩;exact ⟨aDd (aAa HM.out hmrb.1) U,HP4.out.one⟩
  ·have HEND:=aYl (show bM (aR t path f) x.name at_ 0 [] x.kids=⟨bW x.name acc,used,-1⟩ by rw [HRP.out,drop_nil U,bM])
   have HVS:=aYl HPS.out.vs;obtain ⟨A10,c10,e10,-,-,-⟩:=Sl.of_own HVS.out;subst e10;have HVL:=aYl (show bV wr (fun b=>P b∨W.heap.size<=b) (.slice A10 acc.length c10) acc from bV.of_own HVS.out (RVs.carry (fun _ _ _=>rfl) (fun b _ h=>h.1) HPS.out.acc) (by have:=HACC.out;omega) (fun b hb=>.inr (HVS.out.block_ge hb)));have HVA:=aYl (VAt.made HA.out.name HVL.out);have x0:=BOX.out.cell' (u:=↑x.kind) 0 rfl;have x1:=BOX.out.cell' (u:=.string x.name) 1 rfl;have x2:=BOX.out.cell' (u:=↑x.lo) 2 rfl;have x3:=BOX.out.cell' (u:=↑x.hi) 3 rfl;have x4:=BOX.out.cell' (u:=.slice a.wA x.weights.length a.wc) 4 rfl;have x5:=BOX.out.cell' (u:=.slice a.lA x.labels.length a.lc) 5 rfl;have x6:=BOX.out.cell' (u:=.slice a.vA x.values.length a.vc) 6 rfl;have x8:=BOX.out.cell' (u:=↑x.value.kind) 8 rfl;have x9:=BOX.out.cell' (u:=↑x.value.n) 9 rfl;have x10:=BOX.out.cell' (u:=.string x.value.s) 10 rfl;have x11:=BOX.out.cell' (u:=.slice a.xA x.value.kids.length a.xc) 11 rfl;clear o0 o1 o2 o3 o4 o5 o6 fo0 fo1 fo2 fo3 fo4 fo5;go_wp2_with fail;refine (oZ x a acc A10 c10 _).mono ?_;rintro e w1 ⟨rfl,hx1⟩;have HP1:=aYl (HPS.out.ext hx1);have HV1:=aYl (HVA.out.carry (Q:=fun b=>P b∨W.heap.size<=b) (aB.of_ext hx1) (fun _ _ h=>h))
   have RES1:=aYl (HW.out.res.fr HP1.out.fr U);clear hx1 x0 x1 x2 x3 x4 x5 x6 x7 x8 x9 x10 x11;have o0:=HP1.out.out.cell' (u:=.int .i64 0) 0 rfl;have o1:=HP1.out.out.cell' (u:=.int .i64 0) 1 rfl;have o2:=HP1.out.out.cell' (u:=.string ⟨#[]⟩) 2 rfl;have o3:=HP1.out.out.cell' (u:=.slice none 0 0) 3 rfl;have o4:=HP1.out.out.cell' (u:=↑used) 4 rfl;have o5:=HP1.out.out.cell' (u:=.int .i64 (-1)) 5 rfl;have o6:=HP1.out.out.cell' (u:=.slice As m cs) 6 rfl;have fo0:=HP1.out.out.frozen 0;have fo1:=HP1.out.out.frozen 1;have fo2:=HP1.out.out.frozen 2;have fo3:=HP1.out.out.frozen 3;have fo4:=HP1.out.out.frozen 4;have fo5:=HP1.out.out.frozen 5;have r0:=RES1.out.cell' (u:=.int .i64 0) 0 rfl;have f0:=RES1.out.frozen 0;have r1:=RES1.out.cell' (u:=.int .i64 0) 1 rfl;have f1:=RES1.out.frozen 1;have r2:=RES1.out.cell' (u:=.string ⟨#[]⟩) 2 rfl;have f2:=RES1.out.frozen 2;have r3:=RES1.out.cell' (u:=.slice none 0 0) 3 rfl;have f3:=RES1.out.frozen 3;have r4:=RES1.out.cell' (u:=.int .i64 0) 4 rfl;have f4:=RES1.out.frozen 4;have r5:=RES1.out.cell' (u:=.int .i64 0) 5 rfl;have f5:=RES1.out.frozen 5;have r6:=RES1.out.cell' (u:=.slice none 0 0) 6 rfl;have f6:=RES1.out.frozen 6;generalize bW x.name acc=mv at *
   have hsz1:=HP1.out.size;go_wp2_with fail
   have HQN:∀ b,(P b∨W.heap.size<=b)->b ≠ w.heap.size+1+1+1∧b ≠ w.heap.size+1+1:=by
    rintro b (h | h)
    ·have:=HPP.out b h;omega
    ·omega
   have RES5:=aYl ((((RES1.out.far (p:=⟨w.heap.size+1+1+1,0,none⟩) az (↑mv.kind)).far (p:=⟨w.heap.size+1+1+1,1,none⟩) az (↑mv.n)).far (p:=⟨w.heap.size+1+1+1,2,none⟩) az (.string mv.s)).far (p:=⟨w.heap.size+1+1+1,3,none⟩) az (.slice A10 mv.kids.length c10));have HE4:=aYl (((((show Ext w w1 from Fr.new_ext ((Fr.of_ext HW.out.ext).trans HP1.out.fr) (fun b hb=>by omega)).setCell' (p:=⟨w.heap.size+1+1+1,0,none⟩) cd (↑mv.kind)).setCell' (p:=⟨w.heap.size+1+1+1,1,none⟩) cd (↑mv.n)).setCell' (p:=⟨w.heap.size+1+1+1,2,none⟩) cd (.string mv.s)).setCell' (p:=⟨w.heap.size+1+1+1,3,none⟩) cd (.slice A10 mv.kids.length c10));have HO5:=aYl (ownsRow_setCell_below (ownsRow_setCell_below (ownsRow_setCell_below (ownsRow_setCell_below HP1.out.sp (a:=⟨w.heap.size+1+1+1,0,none⟩) ce (↑mv.kind)) (a:=⟨w.heap.size+1+1+1,1,none⟩) ce (↑mv.n)) (a:=⟨w.heap.size+1+1+1,2,none⟩) ce (.string mv.s)) (a:=⟨w.heap.size+1+1+1,3,none⟩) ce (.slice A10 mv.kids.length c10))
   have hk5:aB (fun b=>P b∨W.heap.size<=b) w1 w1:=fun _ _ _=>rfl
   have HV5:=aYl (HV1.out.carry (Q:=fun b=>P b∨W.heap.size<=b) ((((hk5.set (p:=⟨w.heap.size+1+1+1,0,none⟩) (↑mv.kind) (fun h=>(HQN _ h).1 rfl)).set (p:=⟨w.heap.size+1+1+1,1,none⟩) (↑mv.n) (fun h=>(HQN _ h).1 rfl)).set (p:=⟨w.heap.size+1+1+1,2,none⟩) (.string mv.s) (fun h=>(HQN _ h).1 rfl)).set (p:=⟨w.heap.size+1+1+1,3,none⟩) (.slice A10 mv.kids.length c10) (fun h=>(HQN _ h).1 rfl)) (fun _ _ h=>h));have q:=cK RES5.out (↑mv.kind) (↑mv.n) (.string mv.s) (.slice A10 mv.kids.length c10) (↑used) (.int .i64 (-1)) (.slice As m cs);have HX2:=aYl (cX HE4.out (show w.heap.size<=w.heap.size+1+1 by omega) (↑mv.kind) (↑mv.n) (.string mv.s) (.slice A10 mv.kids.length c10) (↑used) (.int .i64 (-1)) (.slice As m cs));have HV:=aYl (HV5.out.carry (Q:=New P w.heap.size) (dK (g:=w.heap.size+1+1) (fun h=>(HQN _ h).2 rfl) (↑mv.kind) (↑mv.n) (.string mv.s) (.slice A10 mv.kids.length c10) (↑used) (.int .i64 (-1)) (.slice As m cs)) (fun b hb h=>h.elim .inl (fun h=>.inr U)));have HO:=aYl ((fR HO5.out (show w.heap.size+1+1<W.heap.size by omega) (↑mv.kind) (↑mv.n) (.string mv.s) (.slice A10 mv.kids.length c10) (↑used) (.int .i64 (-1)) (.slice As m cs)).base_le (show w.heap.size<=W.heap.size by omega))
   change bodyPost Tryz.prog Tryz.f183 _ Exit.ret _ (gZ ((((w1.setCell ⟨w.heap.size+1+1+1,0,none⟩ (↑mv.kind)).setCell ⟨w.heap.size+1+1+1,1,none⟩ (↑mv.n)).setCell ⟨w.heap.size+1+1+1,2,none⟩ (.string mv.s)).setCell ⟨w.heap.size+1+1+1,3,none⟩ (.slice A10 mv.kids.length c10)) (w.heap.size+1+1) (↑mv.kind) (↑mv.n) (.string mv.s) (.slice A10 mv.kids.length c10) (↑used) (.int .i64 (-1)) (.slice As m cs))
   generalize gZ ((((w1.setCell ⟨w.heap.size+1+1+1,0,none⟩ (↑mv.kind)).setCell ⟨w.heap.size+1+1+1,1,none⟩ (↑mv.n)).setCell ⟨w.heap.size+1+1+1,2,none⟩ (.string mv.s)).setCell ⟨w.heap.size+1+1+1,3,none⟩ (.slice A10 mv.kids.length c10)) (w.heap.size+1+1) (↑mv.kind) (↑mv.n) (.string mv.s) (.slice A10 mv.kids.length c10) (↑used) (.int .i64 (-1)) (.slice As m cs)=W' at *;have q0:=q.cell' (u:=↑mv.kind) 0 rfl;have q1:=q.cell' (u:=↑mv.n) 1 rfl;have q2:=q.cell' (u:=.string mv.s) 2 rfl;have q3:=q.cell' (u:=.slice A10 mv.kids.length c10) 3 rfl;have q4:=q.cell' (u:=↑used) 4 rfl;have q5:=q.cell' (u:=.int .i64 (-1)) 5 rfl;have q6:=q.cell' (u:=.slice As m cs) 6 rfl;rw [HEND.out];refine bodyPost_ret (v:=.agg (cR ⟨mv,used,-1⟩ A10 c10 (.slice As m cs))) (by simp [results,Tryz.results183,go_sem,q0,q1,q2,q3,q4,q5,q6];try (first | rfl | exact ⟨rfl,rfl,rfl,rfl⟩)) rfl ⟨A10,c10,.slice As m cs,m,_,rfl,HV.out,HO.out,?_,HX2.out⟩;exact ⟨aDd HM.out U,HP1.out.one⟩
end Go.Proofs.YtkoeecdjijfjnaaGreat
