/- Contracts of functions, plain laws. Conditions: none. -/
import Derived.Test.YtkoeecdjijfjnaaGreatD2
set_option maxRecDepth 100000
set_option maxHeartbeats 8000000
namespace Go.Proofs.YtkoeecdjijfjnaaGreat
open Go.RowKit
theorem aJc {w:World}{base:Nat}{e:TypeId}{size:Nat}{A:Option Addr}{n c:Nat}{xs:List Value}(h:w.ownsRow base e size (.slice A n c) n xs):Sl w (fun _=>True) size A n xs:=by
 obtain ⟨A',c',e,_,_,h3⟩:=Sl.of_own h;injection e with e _ _;subst e;exact h3 _ (fun _ _=>trivial)
theorem eP {w w':World}{M:Nat->Prop}{b off:Nat}{u:Value}(hf:Fr M w w')(hb:¬ M b)(h:w.cell? ⟨b,off,none⟩=some u):w'.cell? ⟨b,off,none⟩=some u:=by
 rw [<- h];exact World.cell?_of_block (w:=w) (hf.block b (aP h) hb)
theorem aC6 (t:List GN)(path:List Int)(f i:Nat)(at_:Int)(P:Nat->Prop)(vn vp:Value)(w:World)(hS:mL t path f)(hif:i<f+1)(hf16:f<16)(hR:∀ (z:Nat)(k:Int),z<f->z<t.length->0<=k->k<=path.length->mN t path z k (aW t path f z k))(hc:qR t i)(hi:i<t.length)(hn:dP i (t.getD i default))(h0:0<=at_)(h1:at_<=path.length)(_:path.length<=1000000)(hP:∀ b,P b->b<w.heap.size)(ht:Nds w P vn t)(hvp:bT w P vp path)(hk:(t.getD i default).kind=4) :
  Calls Tryz.prog 144 #[.agg #[vn],.int .i64 i,vp,.int .i64 at_] w (aJw P (aW t path (f+1) i at_) (5 ^ (f+1)) w):=by
 have HT:=aV4 ht;have HPP:=aV4 hP;have HN:=aV4 hn;have HVP:=aV4 hvp;have HQ:=aV4 (show aW t path (f+1) i at_=dA (aW t path f) path i (t.getD i default) at_ by simp only [aW,Int.toNat_natCast]);obtain ⟨An,cn,en,hn1,hn2⟩:=ht.form;subst en;obtain ⟨Ap,cp,ep,hp1,hp2⟩:=hvp.form;subst ep;obtain ⟨b1,o1,a1,rfl,-,ha1,hc1⟩:=ht.get hi;have HA:=aV4 ha1;have lb1:=hc1.lt;have c0:=hc1.c0;have c1:=hc1.c1;have c2:=hc1.c2;have c3:=hc1.c3;have c4:=hc1.c4;have c5:=hc1.c5;have c6:=hc1.c6;have c7:=hc1.c7;have c8:=hc1.c8;have c9:=hc1.c9;have c10:=hc1.c10;have c11:=hc1.c11;have HK:=aV4 hk;have t0:((t.getD i default).kind == 0)=false:=aV5 (by omega);have t1:((t.getD i default).kind == 1)=false:=aV5 (by omega);have t3:((t.getD i default).kind == 3)=false:=aV5 (by omega);have t4:((t.getD i default).kind == 4)=true:=aV6 hk;have HC1:=aV4 hc.many;have HC2:=aV4 hc.vals;clear hc;clear ht hP hc1 ha1 hk hn hvp;generalize t.getD i default=x at *;have HOPT:=aV4 (eR HN.out);go_enter Tryz.func144,Tryz.ntmps144;go_upto_region 2 with fail;have HW:=aV4 (yR.mk' (.slice (some ⟨b1,o1,none⟩) t.length cn) x a1 w);generalize hW:(((w.alloc (.cells #[.slice (some ⟨b1,o1,none⟩) t.length cn] 25)).alloc (.cells dV 154)).alloc (.cells (aE x a1).toArray 87))=W at *
 clear hW;clear c0 c1 c2 c3 c4 c5 c6 c7 c8 c9 c10 c11;have hkp:0<x.kids.length:=by have:=HN.out.bind HK.out;omega
 have hz0:=HN.out.kids _ (aG (d:=0) hkp);obtain ⟨bk,ok,ek,-,-,gk⟩:=(HA.out.kids.ext HW.out.ext).get hkp;rw [Nat.add_zero] at gk;have lbk:=aP gk;have EK:=aV4 ek
 have HR:=aV4 (show aW t path (f+1) i at_=(if (aW t path f (x.kids.getD 0 0) at_).stop=-1 then
   ⟨(aW t path f (x.kids.getD ((cR x.values (aW t path f (x.kids.getD 0 0) at_).val).1+1) 0) (at_+(aW t path f (x.kids.getD 0 0) at_).used)).val,
    (aW t path f (x.kids.getD 0 0) at_).used+(aW t path f (x.kids.getD ((cR x.values (aW t path f (x.kids.getD 0 0) at_).val).1+1) 0) (at_+(aW t path f (x.kids.getD 0 0) at_).used)).used,
    (aW t path f (x.kids.getD ((cR x.values (aW t path f (x.kids.getD 0 0) at_).val).1+1) 0) (at_+(aW t path f (x.kids.getD 0 0) at_).used)).stop⟩
  else aW t path f (x.kids.getD 0 0) at_) by
  rw [HQ.out];unfold dA;rw [if_neg (show ¬ x.kind=0 by have:=HK.out;omega),if_neg (show ¬ x.kind=3 by have:=HK.out;omega),if_pos HK.out])
 have HCM:=aV4 (HC1.out HK.out);have HCV:=aV4 (HC2.out HK.out);have HZ0:=aV4 (show x.kids.getD 0 0=((x.kids.getD 0 0).toNat:Int) by omega);generalize (x.kids.getD 0 0).toNat=zn at *;rw [HZ0.out] at gk hz0;have HR':=aV4 HR.out;rw [HZ0.out] at HR';clear HR;have x0:=HW.out.box.cell' (u:=.int .i64 x.kind) 0 rfl;have x7:=HW.out.box.cell' (u:=.slice a1.kA x.kids.length a1.kc) 7 rfl;rw [ek] at x7;have y0:=HW.out.tree.cell' (u:=.slice (some ⟨b1,o1,none⟩) t.length cn) 0 rfl;have hsw:w.heap.size+3<=W.heap.size:=by have:=HW.out.size;omega
 have hkl:=HA.out.kids.le;have hk1:(0:Int)<(x.kids.length:Int):=by omega
 clear ek;go_upto_region 8 with fail;have HSA:=aV4 (hS zn (at_) P _ _ ((W.alloc (.cells dV 154)).drew) (by omega) (by omega) (by omega) (by omega) (fun b hb=>by have:=HPP.out b hb;simp;omega) ((HT.out.ext HW.out.ext).ext ((Ext.refl _).alloc' _).drew') ((HVP.out.ext HW.out.ext).ext ((Ext.refl _).alloc' _).drew'));have HSB:=aV4 (hS zn (at_) P _ _ W.drew (by omega) (by omega) (by omega) (by omega) (fun b hb=>by have:=HPP.out b hb;show b<W.heap.size;omega) ((HT.out.ext HW.out.ext).ext (Ext.refl _).drew') ((HVP.out.ext HW.out.ext).ext (Ext.refl _).drew'));have hro:=hR zn (at_) (by omega) (by omega) (by omega) (by omega);generalize hgr:aW t path f (zn:Int) (at_)=ra at *;clear hgr;have hra0:=hro.used0;have hra1:=hro.usedP;have Hra:=aV4 hro;clear hro;have hl0:w.heap.size<W.heap.size:=by omega
 have hn0:¬ w.heap.size=W.heap.size:=by omega
 have hl1:w.heap.size+1+1<W.heap.size:=by omega
 have hn1:¬ w.heap.size+1+1=W.heap.size:=by omega
 have hl2:bk<W.heap.size:=by omega
 have hn2:¬ bk=W.heap.size:=by omega
 go_cut [10] (fun s wx=>kY P ra (5 ^ f) W s wx)
 case first =>
  go_region_held3 (fun w'=>w'.cell? ⟨w.heap.size,0,none⟩=some (.slice (some ⟨b1,o1,none⟩) t.length cn)∧w'.cell? ⟨w.heap.size+1+1,7,none⟩=some (.slice (some ⟨bk,ok,none⟩) x.kids.length a1.kc)∧w'.cell? ⟨bk,ok,none⟩=some (.int .i64 zn))
   (first
    | (go_split_ands
       with_reducible exact ⟨bN hn0 ‹_›,bN hn1 ‹_›,bN hn2 ‹_›⟩)
    | (go_split_ands
       with_reducible exact ⟨aB hx2 ‹_›,aB hx2 ‹_›,aB hx2 ‹_›⟩)
    | (go_split_ands
       with_reducible exact ⟨bU hq0 ‹_›,bU hq1 ‹_›,bU hq2 ‹_›⟩)
    | (go_split_ands
       with_reducible exact ⟨bL ‹_› _,bL ‹_› _,bL ‹_› _⟩)
    | go_keep)
   (first
    | (go_at_call 144;(with_reducible refine HSB.out.mono ?_);rintro e w2 ⟨A2,d2,sv,m,xs,rfl,hv2,hown2,hm2,hx2⟩;obtain ⟨A3,c3,e3,-,-,-⟩:=Sl.of_own hown2;subst e3;have hs2:=hx2.size;simp at hs2;have hq0:w.heap.size<w2.heap.size:=(by omega);have hq1:w.heap.size+1+1<w2.heap.size:=(by omega);have hq2:bk<w2.heap.size:=(by omega))
    | (go_at_call 144;(with_reducible refine HSA.out.mono ?_);rintro e w2 ⟨A2,d2,sv,m,xs,rfl,hv2,hown2,hm2,hx2⟩;obtain ⟨A3,c3,e3,-,-,-⟩:=Sl.of_own hown2;subst e3;have hs2:=hx2.size;simp at hs2;have BZ:=((Blk.new' W 154 dV (g:=W.heap.size) rfl).drew).ext hx2;have z0:=BZ.cell' (u:=.int .i64 0) 0 rfl;have z1:=BZ.cell' (u:=.int .i64 0) 1 rfl;have z2:=BZ.cell' (u:=.string ⟨#[]⟩) 2 rfl;have z3:=BZ.cell' (u:=.slice none 0 0) 3 rfl;have z4:=BZ.cell' (u:=.int .i64 0) 4 rfl;have z5:=BZ.cell' (u:=.int .i64 0) 5 rfl;have z6:=BZ.cell' (u:=.slice none 0 0) 6 rfl;have fz0:=BZ.frozen 0;have fz1:=BZ.frozen 1;have fz2:=BZ.frozen 2;have fz3:=BZ.frozen 3;have fz4:=BZ.frozen 4;have fz5:=BZ.frozen 5;have fz6:=BZ.frozen 6;clear BZ))
  ·go_wp2_with fail
   go_meet;exact kY.late (fun b hb=>by have:=HPP.out b hb;omega) hv2 hown2 hm2 ((Ext.refl W).drew'.trans' hx2)
  ·go_wp2_with fail
   go_meet;exact kY.early (fun b hb=>by have:=HPP.out b hb;omega) hv2 hown2 hm2 (by simp) ((Ext.refl _).drew'.trans' hx2)
 case rest =>
  obtain ⟨wy,gra,Ara,dra,svra,mra,xsra,rfl,rfl,hB,hgra,hv,hown,hmra,hsg,hx2⟩:=hcut;obtain ⟨Bra,cra,e3,-,-,-⟩:=Sl.of_own hown;subst e3;have HBra:=aV4 hB;have HVra:=aV4 hv;have HOra:=aV4 hown;have HSGra:=aV4 hsg;have HXra:=aV4 hx2;have hglra:=hB.lt;have hszra:=hx2.size;clear hB hv hown hsg hx2;clear x0 x7 y0 gk hn0 hn1 hn2;have k0:=HBra.out.cell' (u:=.int .i64 ra.val.kind) 0 rfl;have k1:=HBra.out.cell' (u:=.int .i64 ra.val.n) 1 rfl;have k2:=HBra.out.cell' (u:=.string ra.val.s) 2 rfl;have k3:=HBra.out.cell' (u:=.slice Ara ra.val.kids.length dra) 3 rfl;have k4:=HBra.out.cell' (u:=.int .i64 ra.used) 4 rfl;have k5:=HBra.out.cell' (u:=.int .i64 ra.stop) 5 rfl;have k6:=HBra.out.cell' (u:=.slice Bra mra cra) 6 rfl;have RES:=aV4 (HW.out.res.ext HXra.out);have BOX:=aV4 (HW.out.box.ext HXra.out);have TREE:=aV4 (HW.out.tree.ext HXra.out);have r0:=RES.out.cell' (u:=.int .i64 0) 0 rfl;have f0:=RES.out.frozen 0;have r1:=RES.out.cell' (u:=.int .i64 0) 1 rfl;have f1:=RES.out.frozen 1;have r2:=RES.out.cell' (u:=.string ⟨#[]⟩) 2 rfl;have f2:=RES.out.frozen 2;have r3:=RES.out.cell' (u:=.slice none 0 0) 3 rfl;have f3:=RES.out.frozen 3;have r4:=RES.out.cell' (u:=.int .i64 0) 4 rfl;have f4:=RES.out.frozen 4
  have r5:=RES.out.cell' (u:=.int .i64 0) 5 rfl;have f5:=RES.out.frozen 5;have r6:=RES.out.cell' (u:=.slice none 0 0) 6 rfl;have f6:=RES.out.frozen 6
  by_cases hst:ra.stop=-1
  ·have ts:(ra.stop != -1)=false:=by rw [bne_eq_false_iff_eq];exact hst
   have HR2:=aV4 (HR'.out.trans (if_pos hst));have hmem:=Hra.out.mem hst HCM.out;rw [HCV.out] at hmem;have hfm:=kD HN.out.inc hmem;have hbl:=HN.out.bind HK.out;have hfq:(cR x.values ra.val).1+1<x.kids.length:=by omega
   have hval:=HA.out.values.le;have v6:=BOX.out.cell' (u:=.slice a1.vA x.values.length a1.vc) 6 rfl;clear hst hmem hfm hbl;go_wp2_with fail;refine (pF x.values ra.val Ara dra P _ _ _ ((HA.out.values.ext HW.out.ext).ext HXra.out) HVra.out).mono ?_;rintro e w3 ⟨rfl,hx3⟩;generalize cR x.values ra.val=pr at *;obtain ⟨q,bq⟩:=pr;simp only at hfq HR2;have HX3:=aV4 hx3;have HX3':=aV4 (HW.out.ext.trans' (HXra.out.trans' hx3));have hs3:=hx3.size;have RES3:=aV4 (RES.out.ext hx3);have BOX3:=aV4 (BOX.out.ext hx3);have TREE3:=aV4 (TREE.out.ext hx3);have BRA3:=aV4 (HBra.out.ext hx3);clear hx3 v6 k0 k1 k2 k3 k4 k5 k6 r0 r1 r2 r3 r4 r5 r6 f0 f1 f2 f3 f4 f5 f6;obtain ⟨bk',ok',ek',-,-,gk⟩:=(HA.out.kids.ext HX3'.out).get hfq;have hz1:=HN.out.kids _ (aG (d:=0) hfq);have lbk':=aP gk;have HZ1:=aV4 (show x.kids.getD (q+1) 0=((x.kids.getD (q+1) 0).toNat:Int) by omega);generalize (x.kids.getD (q+1) 0).toNat=zq at *;rw [HZ1.out] at gk hz1 HR2;have x7:=BOX3.out.cell' (u:=.slice a1.kA x.kids.length a1.kc) 7 rfl;rw [ek'] at x7;have y0:=TREE3.out.cell' (u:=.slice (some ⟨b1,o1,none⟩) t.length cn) 0 rfl;have k4:=BRA3.out.cell' (u:=.int .i64 ra.used) 4 rfl;clear ek';have hq1:(0:Int)<=(q:Int)+1:=by omega
   have hq2:((q:Int)+1).toNat=q+1:=by omega
   have hq3:(q:Int)+1<(x.kids.length:Int):=by omega
   have hq4:IntKind.i64.wrap ((q:Int)+1)=(q:Int)+1:=IntWalk.i64_in _ (by omega);have hq5:IntKind.i64.wrap (at_+ra.used)=at_+ra.used:=IntWalk.i64_in _ (by omega);have HQ45:=aV4 (And.intro hq4 hq5);clear hq4 hq5 hl0 hl1 hl2;go_upto_region 12 with fail;have HSA:=aV4 (hS zq (at_+ra.used) P _ _ ((w3.alloc (.cells dV 154)).drew) (by omega) (by omega) (by omega) (by omega) (fun b hb=>by have:=HPP.out b hb;simp;omega) ((HT.out.ext HX3'.out).ext ((Ext.refl _).alloc' _).drew') ((HVP.out.ext HX3'.out).ext ((Ext.refl _).alloc' _).drew'));have HSB:=aV4 (hS zq (at_+ra.used) P _ _ w3.drew (by omega) (by omega) (by omega) (by omega) (fun b hb=>by have:=HPP.out b hb;show b<w3.heap.size;omega) ((HT.out.ext HX3'.out).ext (Ext.refl _).drew') ((HVP.out.ext HX3'.out).ext (Ext.refl _).drew'));have hro:=hR zq (at_+ra.used) (by omega) (by omega) (by omega) (by omega);obtain ⟨hq4,hq5⟩:=HQ45.out;generalize hgr:aW t path f (zq:Int) (at_+ra.used)=rb at *;clear hgr;have hrb0:=hro.used0;have hrb1:=hro.usedP;have Hrb:=aV4 hro;clear hro;have hl0:w.heap.size<w3.heap.size:=by omega
   have hn0:¬ w.heap.size=w3.heap.size:=by omega
   have hl1:w.heap.size+1+1<w3.heap.size:=by omega
   have hn1:¬ w.heap.size+1+1=w3.heap.size:=by omega
   have hl2:bk'<w3.heap.size:=by omega
   have hn2:¬ bk'=w3.heap.size:=by omega
   have hl3:gra<w3.heap.size:=by omega
   have hn3:¬ gra=w3.heap.size:=by omega
   go_cut [13] (fun s wx=>kY P rb (5 ^ f) w3 s wx)
   case first =>
    go_region_held3 (fun w'=>w'.cell? ⟨w.heap.size,0,none⟩=some (.slice (some ⟨b1,o1,none⟩) t.length cn)∧w'.cell? ⟨w.heap.size+1+1,7,none⟩=some (.slice (some ⟨bk',ok',none⟩) x.kids.length a1.kc)∧w'.cell? ⟨bk',ok'+(q+1),none⟩=some (.int .i64 zq)∧w'.cell? ⟨gra,4,none⟩=some (.int .i64 ra.used))
     (first
      | (go_split_ands
         with_reducible exact ⟨bN hn0 ‹_›,bN hn1 ‹_›,bN hn2 ‹_›,bN hn3 ‹_›⟩)
      | (go_split_ands
         with_reducible exact ⟨aB hx2 ‹_›,aB hx2 ‹_›,aB hx2 ‹_›,aB hx2 ‹_›⟩)
      | (go_split_ands
         with_reducible exact ⟨bU hqq0 ‹_›,bU hqq1 ‹_›,bU hqq2 ‹_›,bU hqq3 ‹_›⟩)
      | (go_split_ands
         with_reducible exact ⟨bL ‹_› _,bL ‹_› _,bL ‹_› _,bL ‹_› _⟩)
      | go_keep)
     (first
      | (go_at_call 144;(with_reducible refine HSB.out.mono ?_);rintro e w2 ⟨A2,d2,sv,m,xs,rfl,hv2,hown2,hm2,hx2⟩;obtain ⟨A3,c3,e3,-,-,-⟩:=Sl.of_own hown2;subst e3;have hs2:=hx2.size;simp at hs2;have hqq0:w.heap.size<w2.heap.size:=(by omega);have hqq1:w.heap.size+1+1<w2.heap.size:=(by omega);have hqq2:bk'<w2.heap.size:=(by omega);have hqq3:gra<w2.heap.size:=(by omega))
      | (go_at_call 144;(with_reducible refine HSA.out.mono ?_);rintro e w2 ⟨A2,d2,sv,m,xs,rfl,hv2,hown2,hm2,hx2⟩;obtain ⟨A3,c3,e3,-,-,-⟩:=Sl.of_own hown2;subst e3;have hs2:=hx2.size;simp at hs2;have BZ:=((Blk.new' w3 154 dV (g:=w3.heap.size) rfl).drew).ext hx2;have z0:=BZ.cell' (u:=.int .i64 0) 0 rfl;have z1:=BZ.cell' (u:=.int .i64 0) 1 rfl;have z2:=BZ.cell' (u:=.string ⟨#[]⟩) 2 rfl;have z3:=BZ.cell' (u:=.slice none 0 0) 3 rfl;have z4:=BZ.cell' (u:=.int .i64 0) 4 rfl;have z5:=BZ.cell' (u:=.int .i64 0) 5 rfl;have z6:=BZ.cell' (u:=.slice none 0 0) 6 rfl;have fz0:=BZ.frozen 0;have fz1:=BZ.frozen 1;have fz2:=BZ.frozen 2;have fz3:=BZ.frozen 3;have fz4:=BZ.frozen 4;have fz5:=BZ.frozen 5;have fz6:=BZ.frozen 6;clear BZ))
    ·go_wp2_with fail
     go_meet;exact kY.late (fun b hb=>by have:=HPP.out b hb;omega) hv2 hown2 hm2 ((Ext.refl w3).drew'.trans' hx2)
    ·go_wp2_with fail
     go_meet;exact kY.early (fun b hb=>by have:=HPP.out b hb;omega) hv2 hown2 hm2 (by simp) ((Ext.refl _).drew'.trans' hx2)
   case rest =>
    obtain ⟨wz,grb,Arb,drb,svrb,mrb,xsrb,rfl,rfl,hB,hgrb,hv,hown,hmrb,hsg,hx2⟩:=hcut;obtain ⟨Brb,crb,e3,-,-,-⟩:=Sl.of_own hown;subst e3;have HBrb:=aV4 hB;have HVrb:=aV4 hv;have HOrb:=aV4 hown;have HSGrb:=aV4 hsg;have HXrb:=aV4 hx2;have hglrb:=hB.lt;have hszrb:=hx2.size;clear hB hv hown hsg hx2;clear x7 y0 gk k4 hn0 hn1 hn2 hn3 hq1 hq2 hq3 hq4 hq5 hl0 hl1 hl2 hl3;have BRA4:=aV4 (BRA3.out.ext HXrb.out);have j0:=BRA4.out.cell' (u:=.int .i64 ra.used) 4 rfl;have j1:=BRA4.out.cell' (u:=.slice Bra mra cra) 6 rfl;have k0:=HBrb.out.cell' (u:=.int .i64 rb.val.kind) 0 rfl;have k1:=HBrb.out.cell' (u:=.int .i64 rb.val.n) 1 rfl;have k2:=HBrb.out.cell' (u:=.string rb.val.s) 2 rfl;have k3:=HBrb.out.cell' (u:=.slice Arb rb.val.kids.length drb) 3 rfl;have k4:=HBrb.out.cell' (u:=.int .i64 rb.used) 4 rfl;have k5:=HBrb.out.cell' (u:=.int .i64 rb.stop) 5 rfl;have k6:=HBrb.out.cell' (u:=.slice Brb mrb crb) 6 rfl;have RES4:=aV4 (RES3.out.ext HXrb.out);have hma:=hmra.le hf16;have hmb:=hmrb.le hf16;have HSL:=aV4 (aJc HOrb.out);have HOA:=aV4 ((HOra.out.ext_ HX3.out).ext_ HXrb.out);have hown_ge:∀ b,(Value.slice Bra mra cra).ownBlock=some b->W.heap.size<=b∧b<wy.heap.size:=fun b hb=>⟨HOra.out.block_ge hb,HOra.out.block_lt hb⟩
    have HOG:=aV4 hown_ge;have hma1:¬ some gra=(Value.slice Bra mra cra).ownBlock:=fun e=>HSGra.out e.symm
    have hma2:¬ some grb=(Value.slice Bra mra cra).ownBlock:=fun e=>by have:=HOG.out _ e.symm;omega
    have hma3:¬ some (w.heap.size+1)=(Value.slice Bra mra cra).ownBlock:=fun e=>by have:=HOG.out _ e.symm;omega
    have hn1:¬ gra=w.heap.size+1:=by omega
    have hn2:¬ grb=w.heap.size+1:=by omega
    have hws:W.heap.size<=wz.heap.size:=by omega
    obtain ⟨i3,hi3,hz30,hz31,hz32⟩:=info_parts Tryz.info254;have HI3:=aV4 hi3;clear hi3 hown_ge;have hsum:IntKind.i64.wrap (ra.used+rb.used)=ra.used+rb.used:=IntWalk.i64_in _ (by omega);go_upto_region 13 with fail
    go_region_held3 (fun w'=>w'.cell? ⟨gra,4,none⟩=some (.int .i64 ra.used)∧w'.cell? ⟨gra,6,none⟩=some (.slice Bra mra cra)∧w'.cell? ⟨grb,0,none⟩=some (.int .i64 rb.val.kind)∧w'.cell? ⟨grb,1,none⟩=some (.int .i64 rb.val.n)∧w'.cell? ⟨grb,2,none⟩=some (.string rb.val.s)∧w'.cell? ⟨grb,3,none⟩=some (.slice Arb rb.val.kids.length drb)∧w'.cell? ⟨grb,4,none⟩=some (.int .i64 rb.used)∧w'.cell? ⟨grb,5,none⟩=some (.int .i64 rb.stop)∧w'.cell? ⟨grb,6,none⟩=some (.slice Brb mrb crb))
     (first
      | (go_split_ands
         with_reducible exact ⟨bN hn1 ‹_›,bN hn1 ‹_›,bN hn2 ‹_›,bN hn2 ‹_›,bN hn2 ‹_›,bN hn2 ‹_›,bN hn2 ‹_›,bN hn2 ‹_›,bN hn2 ‹_›⟩)
      | (go_split_ands
         with_reducible exact ⟨eP hf5 hma1 ‹_›,eP hf5 hma1 ‹_›,eP hf5 hma2 ‹_›,eP hf5 hma2 ‹_›,eP hf5 hma2 ‹_›,eP hf5 hma2 ‹_›,eP hf5 hma2 ‹_›,eP hf5 hma2 ‹_›,eP hf5 hma2 ‹_›⟩)
      | go_keep)
     (first
      | (refine dQ _ (by rfl) (.tmp 80) (.tmp 82) 152 (by rfl) W.heap.size 254 i3 _ 3 24 Tryz.underlying152 HI3.out hz30 hz31 hz32 rfl (by omega) (.slice Bra mra cra) mra xsra (by rfl) (HOA.out.ext_ (Ext.refl _).drew') (fun _=>True) Brb mrb crb xsrb (by rfl) (HSL.out.ext (Ext.refl _).drew') hmrb.2 (by omega) (by omega) (by show W.heap.size<=wz.heap.size;omega) ?_;intro v5 w5 ho5 hf5 hb5;obtain ⟨A5,c5,e5,-,-,-⟩:=Sl.of_own ho5;subst e5;have RES5:=RES4.out.drew.fr hf5 hma3;have r0:=RES5.cell' (u:=.int .i64 0) 0 rfl;have f0:=RES5.frozen 0;have r1:=RES5.cell' (u:=.int .i64 0) 1 rfl;have f1:=RES5.frozen 1;have r2:=RES5.cell' (u:=.string ⟨#[]⟩) 2 rfl;have f2:=RES5.frozen 2;have r3:=RES5.cell' (u:=.slice none 0 0) 3 rfl;have f3:=RES5.frozen 3;have r4:=RES5.cell' (u:=.int .i64 0) 4 rfl;have f4:=RES5.frozen 4;have r5:=RES5.cell' (u:=.int .i64 0) 5 rfl;have f5:=RES5.frozen 5;have r6:=RES5.cell' (u:=.slice none 0 0) 6 rfl;have f6:=RES5.frozen 6;clear RES5))
    clear hsum;go_wp2_with fail;have RES5:=aV4 (RES4.out.drew.fr hf5 hma3);have HE5:=aV4 (show Ext w w5 from Fr.new_ext ((Fr.of_ext (HX3'.out.trans' HXrb.out).drew').trans hf5) (fun b hb=>by have:=(HOG.out b hb.symm).1;omega))
    have HK5:=aV4 (show aD (fun b=>(P b∨w3.heap.size<=b)∧b ≠ grb) wz w5 from by
     rintro b hb ⟨h,_⟩;refine hf5.block b hb (fun e=>?_);have:=HOG.out b e.symm;rcases h with h | h
     ·have:=HPP.out b h;omega
     ·omega)
    have hQ:∀ b,((P b∨w3.heap.size<=b)∧b ≠ grb)->b ≠ w.heap.size+1:=by
     rintro b ⟨h | h,_⟩
     ·have:=HPP.out b h;omega
     ·omega
    have q:=cP RES5.out (.int .i64 rb.val.kind) (.int .i64 rb.val.n) (.string rb.val.s) (.slice Arb rb.val.kids.length drb) (.int .i64 (ra.used+rb.used)) (.int .i64 rb.stop) (.slice A5 (mra+mrb) c5);have HX2:=aV4 (cZ HE5.out (show w.heap.size<=w.heap.size+1 by omega) (.int .i64 rb.val.kind) (.int .i64 rb.val.n) (.string rb.val.s) (.slice Arb rb.val.kids.length drb) (.int .i64 (ra.used+rb.used)) (.int .i64 rb.stop) (.slice A5 (mra+mrb) c5));have HV:=aV4 ((HVrb.out.carry (Q:=fun b=>(P b∨w3.heap.size<=b)∧b ≠ grb) HK5.out (fun _ _ h=>h)).carry (Q:=New P w.heap.size) (dR (g:=w.heap.size+1) (fun h=>hQ _ h rfl) (.int .i64 rb.val.kind) (.int .i64 rb.val.n) (.string rb.val.s) (.slice Arb rb.val.kids.length drb) (.int .i64 (ra.used+rb.used)) (.int .i64 rb.stop) (.slice A5 (mra+mrb) c5)) (fun b hb h=>h.1.elim .inl (fun h=>.inr (by omega))));have HO:=aV4 ((gE ho5 (show w.heap.size+1<W.heap.size by omega) (.int .i64 rb.val.kind) (.int .i64 rb.val.n) (.string rb.val.s) (.slice Arb rb.val.kids.length drb) (.int .i64 (ra.used+rb.used)) (.int .i64 rb.stop) (.slice A5 (mra+mrb) c5)).base_le (show w.heap.size<=W.heap.size by omega))
    change bodyPost Tryz.prog Tryz.f144 _ Exit.ret _ (iH w5 (w.heap.size+1) (.int .i64 rb.val.kind) (.int .i64 rb.val.n) (.string rb.val.s) (.slice Arb rb.val.kids.length drb) (.int .i64 (ra.used+rb.used)) (.int .i64 rb.stop) (.slice A5 (mra+mrb) c5))
    generalize iH w5 (w.heap.size+1) (.int .i64 rb.val.kind) (.int .i64 rb.val.n) (.string rb.val.s) (.slice Arb rb.val.kids.length drb) (.int .i64 (ra.used+rb.used)) (.int .i64 rb.stop) (.slice A5 (mra+mrb) c5)=W' at *;have q0:=q.cell' (u:=.int .i64 rb.val.kind) 0 rfl;have q1:=q.cell' (u:=.int .i64 rb.val.n) 1 rfl;have q2:=q.cell' (u:=.string rb.val.s) 2 rfl;have q3:=q.cell' (u:=.slice Arb rb.val.kids.length drb) 3 rfl;have q4:=q.cell' (u:=.int .i64 (ra.used+rb.used)) 4 rfl;have q5:=q.cell' (u:=.int .i64 rb.stop) 5 rfl;have q6:=q.cell' (u:=.slice A5 (mra+mrb) c5) 6 rfl;rw [HR2.out];refine bodyPost_ret (v:=.agg (cX ⟨rb.val,ra.used+rb.used,rb.stop⟩ Arb drb (.slice A5 (mra+mrb) c5))) (by simp [results,Tryz.results144,go_sem,q0,q1,q2,q3,q4,q5,q6];try (first | rfl | exact ⟨rfl,rfl,rfl,rfl⟩)) rfl ⟨Arb,drb,.slice A5 (mra+mrb) c5,(mra+mrb),(xsra ++ xsrb),rfl,HV.out,HO.out,?_,HX2.out⟩;exact hmra.add hmrb
  ·have ts:(ra.stop != -1)=true:=bne_iff_ne.2 hst
   have HR2:=aV4 (HR'.out.trans (if_neg hst))
   have hQ:∀ b,((P b∨W.heap.size<=b)∧b ≠ gra)->b ≠ w.heap.size+1:=by
    rintro b ⟨h | h,_⟩
    ·have:=HPP.out b h;omega
    ·omega
   clear hst;go_wp2_with fail;have q:=cP RES.out (.int .i64 ra.val.kind) (.int .i64 ra.val.n) (.string ra.val.s) (.slice Ara ra.val.kids.length dra) (.int .i64 ra.used) (.int .i64 ra.stop) (.slice Bra mra cra);have HX2:=aV4 (cZ (HW.out.ext.trans' HXra.out) (show w.heap.size<=w.heap.size+1 by omega) (.int .i64 ra.val.kind) (.int .i64 ra.val.n) (.string ra.val.s) (.slice Ara ra.val.kids.length dra) (.int .i64 ra.used) (.int .i64 ra.stop) (.slice Bra mra cra));have HV:=aV4 (HVra.out.carry (Q:=New P w.heap.size) (dR (g:=w.heap.size+1) (fun h=>hQ _ h rfl) (.int .i64 ra.val.kind) (.int .i64 ra.val.n) (.string ra.val.s) (.slice Ara ra.val.kids.length dra) (.int .i64 ra.used) (.int .i64 ra.stop) (.slice Bra mra cra)) (fun b hb h=>h.1.elim .inl (fun h=>.inr (by omega))));have HO:=aV4 ((gE HOra.out (show w.heap.size+1<W.heap.size by omega) (.int .i64 ra.val.kind) (.int .i64 ra.val.n) (.string ra.val.s) (.slice Ara ra.val.kids.length dra) (.int .i64 ra.used) (.int .i64 ra.stop) (.slice Bra mra cra)).base_le (show w.heap.size<=W.heap.size by omega))
   change bodyPost Tryz.prog Tryz.f144 _ Exit.ret _ (iH wy (w.heap.size+1) (.int .i64 ra.val.kind) (.int .i64 ra.val.n) (.string ra.val.s) (.slice Ara ra.val.kids.length dra) (.int .i64 ra.used) (.int .i64 ra.stop) (.slice Bra mra cra))
   generalize iH wy (w.heap.size+1) (.int .i64 ra.val.kind) (.int .i64 ra.val.n) (.string ra.val.s) (.slice Ara ra.val.kids.length dra) (.int .i64 ra.used) (.int .i64 ra.stop) (.slice Bra mra cra)=W' at *;have q0:=q.cell' (u:=.int .i64 ra.val.kind) 0 rfl;have q1:=q.cell' (u:=.int .i64 ra.val.n) 1 rfl;have q2:=q.cell' (u:=.string ra.val.s) 2 rfl;have q3:=q.cell' (u:=.slice Ara ra.val.kids.length dra) 3 rfl;have q4:=q.cell' (u:=.int .i64 ra.used) 4 rfl;have q5:=q.cell' (u:=.int .i64 ra.stop) 5 rfl;have q6:=q.cell' (u:=.slice Bra mra cra) 6 rfl;rw [HR2.out];refine bodyPost_ret (v:=.agg (cX ra Ara dra (.slice Bra mra cra))) (by simp [results,Tryz.results144,go_sem,q0,q1,q2,q3,q4,q5,q6];try (first | rfl | exact ⟨rfl,rfl,rfl,rfl⟩)) rfl ⟨Ara,dra,.slice Bra mra cra,mra,xsra,rfl,HV.out,HO.out,?_,HX2.out⟩;exact hmra.succ
abbrev zL (used stop:Int)(sv:Value):Array Value:=#[.int .i64 0,.int .i64 0,.string ⟨#[]⟩,.slice none 0 0,.int .i64 used,.int .i64 stop,sv]
def aB6 (P:Nat->Prop)(B:Nat)(w:World)(sv vv:Value):Nat->Prop:=fun b=>(P b∨B<=b)∧b<w.heap.size∧some b ≠ sv.ownBlock∧some b ≠ vv.ownBlock
structure PSt (P:Nat->Prop)(W:World)(g:Nat)(used:Int)(sv:Value)(m:Nat)(xs:List Value)(vv:Value)(acc:List GV)(ys:List Value)(w:World):Prop where
 gW:g<W.heap.size
 notP:¬ P g
 out:Blk w g 154 (zL used (-1) sv)
 sp:w.ownsRow W.heap.size 254 3 sv m xs
 one:∀ u ∈ xs,u.oneCell'=true
 vs:w.ownsRow W.heap.size 85 4 vv acc.length ys
 acc:RVs w (aB6 P W.heap.size w sv vv) acc ys
 ne:∀ b,sv.ownBlock=some b->vv.ownBlock ≠ some b
 fr:Fr (fun b=>b=g) W w
section
variable {P:Nat->Prop}{W:World}{g:Nat}{used:Int}{sv:Value}{m:Nat}{xs:List Value}{vv:Value}{acc:List GV}{ys:List Value}{w w':World}
theorem PSt.ext (h:PSt P W g used sv m xs vv acc ys w)(hx:Ext w w'):PSt P W g used sv m xs vv acc ys w' :=
 ⟨h.gW,h.notP,h.out.ext hx,h.sp.ext_ hx,h.one,h.vs.ext_ hx,RVs.carry (aD.of_ext hx) (fun b hb h=>⟨h.1,by have:=hx.size;omega,h.2.2⟩) h.acc,h.ne,h.fr.trans (Fr.of_ext hx)⟩
theorem PSt.size (h:PSt P W g used sv m xs vv acc ys w):W.heap.size<=w.heap.size:=h.fr.size
theorem PSt.set_used (h:PSt P W g used sv m xs vv acc ys w)(u:Int):PSt P W g u sv m xs vv acc ys (w.setCell ⟨g,4,none⟩ (.int .i64 u)):=by
 have hb:=h.out.set_ 4 (.int .i64 u);simp only [List.setIfInBounds_toArray,List.set_cons_zero,List.set_cons_succ] at hb;refine ⟨h.gW,h.notP,hb,ownsRow_setCell_below h.sp (a:=⟨g,4,none⟩) h.gW _,h.one,ownsRow_setCell_below h.vs (a:=⟨g,4,none⟩) h.gW _,?_,h.ne,h.fr.setCell (p:=⟨g,4,none⟩) (.inl rfl) _⟩;refine RVs.carry (aD.set (fun _ _ _=>rfl) (p:=⟨g,4,none⟩) _ ?_) (fun b hb h=>⟨h.1,by simp [World.setCell];exact h.2.1,h.2.2⟩) h.acc;rintro ⟨h1 | h1,_⟩
 ·exact h.notP h1
 ·have:=h.gW;change W.heap.size<=g at h1;omega
theorem PSt.spans (h:PSt P W g used sv m xs vv acc ys w){w2:World}{sv2:Value}{n:Nat}{news:List Value}(ho:w2.ownsRow W.heap.size 254 3 sv2 (m+n) (xs ++ news))(hnew:∀ u ∈ news,u.oneCell'=true)
  (hf:Fr (fun k=>some k=sv.ownBlock) w w2)(hb:sv2.ownBlock=sv.ownBlock∨sv2.ownBlock=some w.heap.size) :
  PSt P W g used sv2 (m+n) (xs ++ news) vv acc ys (w2.setCell ⟨g,6,none⟩ sv2):=by
 have hg:=h.gW;have hsp:∀ b,sv.ownBlock=some b->W.heap.size<=b∧b<w.heap.size:=fun b hb=>⟨h.sp.block_ge hb,h.sp.block_lt hb⟩
 have hb0:=(h.out.fr hf (fun e=>by have:=(hsp g e.symm).1;omega)).set_ 6 sv2;simp only [List.setIfInBounds_toArray,List.set_cons_zero,List.set_cons_succ] at hb0;have hvv:∀ b,vv.ownBlock=some b->¬ some b=sv.ownBlock:=fun b hb e=>h.ne b e.symm hb
 refine ⟨h.gW,h.notP,hb0,ownsRow_setCell_below ho (a:=⟨g,6,none⟩) h.gW _,fun u hu=>(List.mem_append.1 hu).elim (h.one u) (hnew u),ownsRow_setCell_below (iM h.vs hf hvv) (a:=⟨g,6,none⟩) h.gW _,?_,?_,?_⟩
 ·refine RVs.carry (aD.set (fun b hb' hq=>hf.block b hb' (fun e=>hq.2.2.1 e)) (p:=⟨g,6,none⟩) _ ?_) (fun b hb' hq=>⟨hq.1,?_,?_,hq.2.2.2⟩) h.acc
  ·rintro ⟨h1 | h1,_⟩
   ·exact h.notP h1
   ·change W.heap.size<=g at h1;omega
  ·have:=hf.size;simp [World.setCell];omega
  ·rcases hb with e | e
   ·rw [e];exact hq.2.2.1
   ·rw [e];intro e';injection e' with e';omega
 ·intro b hb1 hb2
  rcases hb with e | e
  ·rw [e] at hb1;exact h.ne b hb1 hb2
  ·rw [e] at hb1;injection hb1 with hb1;have:=h.vs.block_lt hb2;omega
 ·refine (h.fr.trans_new (hf.mono (fun b hb=>.inr ?_))).setCell (p:=⟨g,6,none⟩) (.inl rfl) _
  exact (hsp b hb.symm).1
theorem PSt.spans_keep (h:PSt P W g used sv m xs vv acc ys w){w2:World}{sv2:Value}(hf:Fr (fun k=>some k=sv.ownBlock) w w2)(hb:sv2.ownBlock=sv.ownBlock∨sv2.ownBlock=some w.heap.size) :
  aD (aB6 P W.heap.size w sv vv) w (w2.setCell ⟨g,6,none⟩ sv2)∧∀ b,b<w.heap.size->aB6 P W.heap.size w sv vv b->aB6 P W.heap.size (w2.setCell ⟨g,6,none⟩ sv2) sv2 vv b:=by
 have hg:=h.gW;refine ⟨aD.set (fun b hb' hq=>hf.block b hb' (fun e=>hq.2.2.1 e)) (p:=⟨g,6,none⟩) _ ?_,fun b hb' hq=>⟨hq.1,?_,?_,hq.2.2.2⟩⟩
 ·rintro ⟨h1 | h1,_⟩
  ·exact h.notP h1
  ·change W.heap.size<=g at h1;omega
 ·have:=hf.size;simp [World.setCell];omega
 ·rcases hb with e | e
  ·rw [e];exact hq.2.2.1
  ·rw [e];intro e';injection e' with e';omega
theorem PSt.used_keep (h:PSt P W g used sv m xs vv acc ys w)(u:Value) :
  aD (aB6 P W.heap.size w sv vv) w (w.setCell ⟨g,4,none⟩ u)∧∀ b,b<w.heap.size->aB6 P W.heap.size w sv vv b->aB6 P W.heap.size (w.setCell ⟨g,4,none⟩ u) sv vv b:=by
 have hg:=h.gW;refine ⟨aD.set (fun _ _ _=>rfl) (p:=⟨g,4,none⟩) _ ?_,fun b hb' hq=>⟨hq.1,?_,hq.2.2⟩⟩
 ·rintro ⟨h1 | h1,_⟩
  ·exact h.notP h1
  ·change W.heap.size<=g at h1;omega
 ·simp [World.setCell];exact hq.2.1
theorem PSt.kid (h:PSt P W g used sv m xs vv acc ys w){w2:World}{vv2:Value}{y:GV}{A:Option Addr}{c:Nat}(ho:w2.ownsRow W.heap.size 85 4 vv2 (acc.length+1) (ys ++ cellsOf y A c))
  (hv:VAt w (aB6 P W.heap.size w sv vv) y A c)(hf:Fr (fun k=>some k=vv.ownBlock) w w2)(hb:vv2.ownBlock=vv.ownBlock∨vv2.ownBlock=some w.heap.size) :
  PSt P W g used sv m xs vv2 (acc ++ [y]) (ys ++ cellsOf y A c) w2:=by
 have hg:=h.gW;have hvs:∀ b,vv.ownBlock=some b->W.heap.size<=b∧b<w.heap.size:=fun b hb=>⟨h.vs.block_ge hb,h.vs.block_lt hb⟩
 have hsv:∀ b,sv.ownBlock=some b->¬ some b=vv.ownBlock:=fun b hb e=>h.ne b hb e.symm
 have hk:aD (aB6 P W.heap.size w sv vv) w w2:=fun b hb' hq=>hf.block b hb' (fun e=>hq.2.2.2 e)
 have hQ:∀ b,b<w.heap.size->aB6 P W.heap.size w sv vv b->aB6 P W.heap.size w2 sv vv2 b:=by
  intro b hb' hq;refine ⟨hq.1,by have:=hf.size;omega,hq.2.2.1,?_⟩;rcases hb with e | e
  ·rw [e];exact hq.2.2.2
  ·rw [e];intro e';injection e' with e';omega
 refine ⟨h.gW,h.notP,h.out.fr hf (fun e=>by have:=(hvs g e.symm).1;omega),iM h.sp hf hsv,h.one,ho.len_cast (by simp) rfl,RVs.append (RVs.carry hk hQ h.acc) (RVs.one (hv.carry hk hQ).rv),?_,?_⟩
 ·intro b hb1 hb2
  rcases hb with e | e
  ·rw [e] at hb2;exact h.ne b hb1 hb2
  ·rw [e] at hb2;injection hb2 with hb2;have:=h.sp.block_lt hb1;omega
 ·exact h.fr.trans_new (hf.mono (fun b hb=>.inr (hvs b hb.symm).1))
end
end Go.Proofs.YtkoeecdjijfjnaaGreat
