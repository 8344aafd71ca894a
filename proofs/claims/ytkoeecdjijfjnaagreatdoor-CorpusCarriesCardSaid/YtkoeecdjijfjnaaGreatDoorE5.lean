/- Contracts and laws. Conditions: none. -/
import Derived.Test.YtkoeecdjijfjnaaGreatDoorE2
set_option linter.all false
set_option maxRecDepth 100000
set_option maxHeartbeats 8000000
namespace Go.Proofs.YtkoeecdjijfjnaaGreatDoor
open Go.RowKit
structure SA where
 s:Nat
 k:Nat
 l:Nat
 m:Nat
 X:Nat->Prop
def SA.M (g:SA):Nat->Prop:=fun b=>b=g.k∨b=g.l∨b=g.m
def SA.Q (g:SA):Nat->Prop:=fun b=>¬ g.M b∧¬ g.X b
structure rT (t:List GN)(vn:Value)(g:SA)(kn:List Bool)(ls:List Value)(ms:List Bool)(w:World):Prop where
 hk:g.s ≠ g.k
 hl:g.s ≠ g.l
 hm:g.s ≠ g.m
 kl:g.k ≠ g.l
 km:g.k ≠ g.m
 lm:g.l ≠ g.m
 klen:kn.length=t
 llen:ls.length=t
 mlen:ms.length=t
 box:Blk w g.s 157 #[vn,.slice (qp g.k) t t,.slice (qp g.l) t t,.slice (qp g.m) t t]
 known:Blk w g.k 4 (kn.map Value.bool).toArray
 lists:Blk w g.l 56 ls.toArray
 many:Blk w g.m 4 (ms.map Value.bool).toArray
 xlt:∀ b,g.X b->b<w
 nodes:Nds w g.Q vn t
 sl:∀ v ∈ ls,∃ A n c,v=.slice A n c
 fine:∀ j,j<t.length->kn.getD j false=true->bZ w g.Q (ls.getD j default) ((aE t).getD j default).vals∧ms.getD j false=((aE t).getD j default).many
def bV (t:List GN)(vn:Value)(g:SA)(w:World):Prop:=∃ kn ls ms,rT t vn g kn ls ms w
def iY (t:List GN)(vn:Value)(g:SA)(r:GL)(w:World)(e:Ending)(w':World):Prop :=
 ∃ A c,e=.returned (.tuple #[.slice A r.vals c,(!r.many)])∧bZ w' g.Q (.slice A r.vals c) r.vals∧Fr g.M w w'∧bV t vn g w'
def wV (t:List GN)(vn:Value)(f:Nat):Prop:=∀ (g:SA)(i:Nat)(w:World),i<f->aO t (i+1)->bV t vn g w->qg 128 #[qp g.s,↑i] w (iY t vn g ((aE t).getD i default) w)
def oa (t:List GN)(vn:Value)(f:Nat):Prop:=∀ (g:SA)(i:Nat)(w:World),i<f->aO t (i+1)->bV t vn g w->qg 102 #[qp g.s,↑i] w (iY t vn g ((aE t).getD i default) w)
section
variable {t:List GN}{vn:Value}{g:SA}{kn:List Bool}{ls:List Value}{ms:List Bool}{w w':World}
theorem rT.ext (h:rT t vn g kn ls ms w)(hx:Ext w w'):rT t vn g kn ls ms w' :=
 ⟨h.hk,h.hl,h.hm,h.kl,h.km,h.lm,h.klen,h.llen,h.mlen,h.box.ext hx,h.known.ext hx,h.lists.ext hx,h.many.ext hx,fun b hb=>ac (h.xlt b hb) hx.size,h.nodes.ext hx,h.sl,fun j hj hk=>⟨(h.fine j hj hk).1.ext hx,(h.fine j hj hk).2⟩⟩
theorem bV.ext (h:bV t vn g w)(hx:Ext w w'):bV t vn g w':=by
 obtain ⟨kn,ls,ms,h⟩:=h;exact ⟨kn,ls,ms,h.ext hx⟩
theorem bV.more (h:bV t vn g w){g':Nat}(hg:w<=g'){w':World}(hx:Ext w w')(hl:g'<w'):bV t vn ⟨g.s,g.k,g.l,g.m,fun b=>g.X b∨b=g'⟩ w':=by
 obtain ⟨kn,ls,ms,h0⟩:=h;have h:=h0.ext hx;have hQ:∀ b,b<w.heap.size->g.Q b->(SA.mk g.s g.k g.l g.m (fun b=>g.X b∨b=g')).Q b:=fun b hb h=>⟨h.1,fun hx=>hx.elim h.2 (fun e=>by omega)⟩
 exact ⟨kn,ls,ms,h.hk,h.hl,h.hm,h.kl,h.km,h.lm,h.klen,h.llen,h.mlen,h.box,h.known,h.lists,h.many,fun b hb=>hb.elim (h.xlt b) (fun e=>by omega),h0.nodes.carry (aB.of_ext hx) hQ,h.sl,fun j hj hk=>⟨(h0.fine j hj hk).1.carry (aB.of_ext hx) hQ,(h.fine j hj hk).2⟩⟩
theorem bV.less {X:Nat->Prop}(h:bV t vn ⟨g.s,g.k,g.l,g.m,X⟩ w)(hX:∀ b,g.X b->X b):bV t vn g w:=by
 obtain ⟨kn,ls,ms,h⟩:=h;have hQ:∀ b,(SA.mk g.s g.k g.l g.m X).Q b->g.Q b:=fun b h=>⟨h.1,fun hx=>h.2 (hX b hx)⟩
 exact ⟨kn,ls,ms,h.hk,h.hl,h.hm,h.kl,h.km,h.lm,h.klen,h.llen,h.mlen,h.box,h.known,h.lists,h.many,fun b hb=>h.xlt b (hX b hb),h.nodes.keep (fun _ _ _=>rfl) hQ,h.sl,fun j hj hk=>⟨(h.fine j hj hk).1.keep (fun _ _ _=>rfl) hQ,(h.fine j hj hk).2⟩⟩
theorem bV.setX (h:bV t vn g w){p:Addr}(hp:g.X p.block)(hs:p.block ≠ g.s)(hM:¬ g.M p.block)(u:Value):bV t vn g (w.setCell p u):=by
 obtain ⟨kn,ls,ms,h⟩:=h;have hk:aB g.Q w (w.setCell p u):=aB.set (fun _ _ _=>rfl) u (fun h=>h.2 hp)
 exact ⟨kn,ls,ms,h.hk,h.hl,h.hm,h.kl,h.km,h.lm,h.klen,h.llen,h.mlen,h.box.far hs.symm u,h.known.far (fun e=>hM (.inl e.symm)) u,h.lists.far (fun e=>hM (.inr (.inl e.symm))) u,h.many.far (fun e=>hM (.inr (.inr e.symm))) u,fun b hb=>by simp only [World.setCell,Array.size_modify];exact h.xlt b hb,
  h.nodes.carry hk (fun _ _ h=>h),h.sl,fun j hj hkj=>⟨(h.fine j hj hkj).1.carry hk (fun _ _ h=>h),(h.fine j hj hkj).2⟩⟩
theorem rT.learn (h:rT t vn g kn ls ms w){i:Nat}(hi:i<t){A:Option Addr}{c:Nat}(hv:bZ w g.Q (.slice A ((aE t).getD i default).vals.length c) ((aE t).getD i default).vals) :
  rT t vn g (kn.set i true) (ls.set i (.slice A ((aE t).getD i default).vals.length c)) (ms.set i ((aE t).getD i default).many)
   (((w.setCell (qt g.k i) true).setCell (qt g.l i) (.slice A ((aE t).getD i default).vals.length c)).setCell (qt g.m i) (.bool ((aE t).getD i default).many)):=by
 have hk0:aB g.Q w w:=fun _ _ _=>rfl
 have hkp:aB g.Q w (((w.setCell (qt g.k i) true).setCell (qt g.l i) (.slice A ((aE t).getD i default).vals.length c)).setCell (qt g.m i) (.bool ((aE t).getD i default).many)) :=
  ((hk0.set (p:=qt g.k i) _ (fun h=>h.1 (.inl rfl))).set (p:=qt g.l i) _ (fun h=>h.1 (.inr (.inl rfl)))).set (p:=qt g.m i) _ (fun h=>h.1 (.inr (.inr rfl)))
 refine ⟨h.hk,h.hl,h.hm,h.kl,h.km,h.lm,by simp [h.klen],by simp [h.llen],by simp [h.mlen],((h.box.far (p:=qt g.k i) h.hk _).far (p:=qt g.l i) h.hl _).far (p:=qt g.m i) h.hm _,?_,?_,?_,fun b hb=>by simp only [World.setCell,Array.size_modify];exact h.xlt b hb,h.nodes.carry hkp (fun _ _ h=>h),?_,?_⟩
 ·have h1:=((h.known.set_ i true).far (p:=qt g.l i) h.kl (.slice A ((aE t).getD i default).vals.length c)).far (p:=qt g.m i) h.km (.bool ((aE t).getD i default).many)
  simp only [List.setIfInBounds_toArray] at h1;rw [List.map_set];exact h1
 ·have h1:=((h.lists.far (p:=qt g.k i) h.kl.symm true).set_ i (.slice A ((aE t).getD i default).vals.length c)).far (p:=qt g.m i) h.lm (.bool ((aE t).getD i default).many)
  simp only [List.setIfInBounds_toArray] at h1;exact h1
 ·have h1:=((h.many.far (p:=qt g.k i) h.km.symm true).far (p:=qt g.l i) h.lm.symm (.slice A ((aE t).getD i default).vals.length c)).set_ i (.bool ((aE t).getD i default).many)
  simp only [List.setIfInBounds_toArray] at h1;rw [List.map_set];exact h1
 ·intro v hv'
  rcases List.mem_or_eq_of_mem_set hv' with hv' | rfl
  ·exact h.sl v hv'
  ·exact ⟨_,_,_,rfl⟩
 ·intro j hj hkj
  by_cases e:i=j
  ·subst e
   refine ⟨?_,?_⟩
   ·have e2:(ls.set i (.slice A ((aE t).getD i default).vals.length c)).getD i default=.slice A ((aE t).getD i default).vals.length c:=by simp [List.getD,h.llen,hi]
    rw [e2];exact hv.carry hkp (fun _ _ h=>h)
   ·simp [List.getD,h.mlen,hi]
  ·have e1:(kn.set i true).getD j false=kn.getD j false:=by simp [List.getD,List.getElem?_set,e]
   have e2:(ls.set i (.slice A ((aE t).getD i default).vals.length c)).getD j default=ls.getD j default:=by simp [List.getD,List.getElem?_set,e]
   have e3:(ms.set i ((aE t).getD i default).many).getD j false=ms.getD j false:=by simp [List.getD,List.getElem?_set,e]
   rw [e1] at hkj;rw [e2,e3];exact ⟨(h.fine j hj hkj).1.carry hkp (fun _ _ h=>h),(h.fine j hj hkj).2⟩
end
theorem fZ {w:World}{p:Addr}{b off:Nat}{u x:Value}(hne:¬ b=p.block)(h:qc w b off u):(w.setCell p x).cell? (qt b off)=some u:=by
 rw [<- h];exact World.cell?_of_block (w:=w) (Below.heap_setCell _ _ _ _ hne)
theorem eC {w:World}{p:Addr}{b off:Nat}{u x:Value}(hne:¬ b=p.block)(h:qc w.drew b off u):(w.setCell p x).drew.cell? (qt b off)=some u:=fZ (w:=w) hne h
theorem vh (t:List GN)(vn:Value)(f:Nat)(hF:wV t vn f):oa t vn f:=by
 intro g i w hif hg hs;have HG:=aYf hg;have hit:i<t:=by have:=hg.1;omega
 obtain ⟨kn,ls,ms,h⟩:=hs;have H:=aYf h;have b1:=h.box.cell' (u:=.slice (qp g.k) t t) 1 rfl;have b2:=h.box.cell' (u:=.slice (qp g.l) t t) 2 rfl;have b3:=h.box.cell' (u:=.slice (qp g.m) t t) 3 rfl;have k0:=h.known.cell' (u:=(kn.getD i false)) i (by simp [h.klen,hit]);have hii:(i:Int)<(t:Int):=by omega
 have hi0:(0:Int)<=(i:Int):=I;have HFI:=aYf (h.fine i hit);have HLS:=aYf (show w.cell? (qt g.l i)=some (ls.getD i default) from h.lists.cell' i (by simp [h.llen,hit]));have HMS:=aYf (show w.cell? (qt g.m i)=some ↑(ms.getD i false) from h.many.cell' i (by simp [h.mlen,hit]));clear hg h;generalize hkk:kn.getD i false=bk at *;clear hkk;cases bk
 ·go_enter Tryz.func102,Tryz.ntmps102
  go_wp2_with fail;refine (hF g i w hif HG.out ⟨kn,ls,ms,H.out⟩).mono ?_;rintro e w1 ⟨A,c,rfl,hv,hfr,kn1,ls1,ms1,h1⟩;have HV:=aYf hv;have HFR:=aYf hfr;have H1:=aYf h1;clear b1 b2 b3 k0;have b1:=h1.box.cell' (u:=.slice (qp g.k) t t) 1 rfl;have b2:=h1.box.cell' (u:=.slice (qp g.l) t t) 2 rfl;have b3:=h1.box.cell' (u:=.slice (qp g.m) t t) 3 rfl;have k0:=h1.known.cell' (u:=(kn1.getD i false)) i (by simp [h1.klen,hit]);have l0:=h1.lists.cell' (u:=ls1.getD i default) i (by simp [h1.llen,hit]);have m0:=h1.many.cell' (u:=(ms1.getD i false)) i (by simp [h1.mlen,hit]);have fk:=h1.known.frozen i;have fl:=h1.lists.frozen i;have fm:=h1.many.frozen i;have n1:¬ g.s=g.k:=h1.hk;have n2:¬ g.s=g.l:=h1.hl;have n3:¬ g.s=g.m:=h1.hm;have n7:¬ g.l=g.k:=fun e=>h1.kl e.symm
  have n8:¬ g.m=g.k:=fun e=>h1.km e.symm
  have n9:¬ g.m=g.l:=fun e=>h1.lm e.symm
  have HLN:=aYf (H1.out.learn hit hv);clear hv hfr h1;generalize kn1.getD i false=z1 at *;generalize ls1.getD i default=z2 at *;generalize ms1.getD i false=z3 at *;generalize (aE t).getD i default=r at *;obtain ⟨vals,many⟩:=r;go_upto_region 3 with fail
  go_region_held3 (fun w'=>qc w' g.s 1 (.slice (qp g.k) t t)∧qc w' g.s 2 (.slice (qp g.l) t t)∧qc w' g.s 3 (.slice (qp g.m) t t))
   (first
    | (go_split_ands
       with_reducible exact ⟨eC n1 ‹_›,eC n1 ‹_›,eC n1 ‹_›⟩)
    | (go_split_ands
       with_reducible exact ⟨eC n2 ‹_›,eC n2 ‹_›,eC n2 ‹_›⟩)
    | (go_split_ands
       with_reducible exact ⟨eC n3 ‹_›,eC n3 ‹_›,eC n3 ‹_›⟩)
    | go_keep)
   (first
    | fail)
  go_upto_region 4 with fail;have HL2:=aYf (HLN.out.ext (aq _).drew');have HF2:=aYf (((((au g.M w1).setCell (p:=qt g.k i) (.inl (.inl rfl)) true).setCell (p:=qt g.l i) (.inl (.inr (.inl rfl))) (.slice A vals c)).setCell (p:=qt g.m i) (.inl (.inr (.inr rfl))) many)).drew
  have HV2:=aYf (show bZ ((((w1.setCell (qt g.k i) true).setCell (qt g.l i) (.slice A vals c)).setCell (qt g.m i) many).drew) g.Q (.slice A vals c) vals from
   (((HV.out.set (p:=qt g.k i) _ (fun h=>h.1 (.inl rfl))).set (p:=qt g.l i) _ (fun h=>h.1 (.inr (.inl rfl)))).set (p:=qt g.m i) _ (fun h=>h.1 (.inr (.inr rfl)))).ext (aq _).drew')
  clear b1 b2 b3 k0 l0 m0 fk fl fm n1 n2 n3 n7 n8 n9 HLN;generalize hw2:(((w1.setCell (qt g.k i) true).setCell (qt g.l i) (.slice A vals c)).setCell (qt g.m i) many).drew=w2 at *;clear hw2;have b2:=HL2.out.box.cell' (u:=.slice (qp g.l) t t) 2 rfl;have b3:=HL2.out.box.cell' (u:=.slice (qp g.m) t t) 3 rfl;have l0:=HL2.out.lists.cell' (u:=.slice A vals c) i (by have:=H1.out.llen;simp [this,hit]);have m0:=HL2.out.many.cell' (u:=many) i (by have:=H1.out.mlen;simp [this,hit]);go_wp2_with fail;go_quiet (fail);go_wp2_with fail;go_ret2;exact ⟨A,c,rfl,HV2.out.ext ((aq _).drewN' _),(HFR.out.trans HF2.out).drewN _,⟨_,_,_,HL2.out.ext ((aq _).drewN' _)⟩⟩
 ·obtain ⟨hv,hm⟩:=HFI.out rfl
  have l0:=HLS.out;have m0:=HMS.out;obtain ⟨A,c,ev,-,-⟩:=hv.form;rw [ev] at l0 hv;rw [hm] at m0;have HV:=aYf hv;clear hv hm ev;generalize (aE t).getD i default=r at *;obtain ⟨vals,many⟩:=r;simp only at l0 m0;go_enter Tryz.func102,Tryz.ntmps102;go_wp2_with fail;go_quiet (fail);go_wp2_with fail;go_ret2;exact ⟨A,c,rfl,HV.out.ext ((aq _).drewN' _),ar ((aq _).drewN' _),⟨kn,ls,ms,H.out.ext ((aq _).drewN' _)⟩⟩
def zS (ls:List GL):List GV->List Int->GL
 | out,[]=>⟨out,false⟩
 | out,z :: zs=>if (ls.getD z.toNat default).many=true then ⟨[],true⟩
   else if 1024<(dS out (ls.getD z.toNat default).vals).length then ⟨[],true⟩ else zS ls (dS out (ls.getD z.toNat default).vals) zs
theorem bV.lt {t:List GN}{vn:Value}{g:SA}{w:World}(h:bV t vn g w){b:Nat}(hb:g.M b):b<w:=by
 obtain ⟨kn,ls,ms,h⟩:=h;rcases hb with rfl | rfl | rfl
 ·exact h.known.lt
 ·exact h.lists.lt
 ·exact h.many.lt
theorem bV.newQ {t:List GN}{vn:Value}{g:SA}{w:World}(h:bV t vn g w){b:Nat}(hb:w<=b):g.Q b :=
 ⟨fun hm=>by have:=h.lt hm;omega,fun hx=>by obtain ⟨kn,ls,ms,h⟩:=h;have:=h.xlt b hx;omega⟩
def IG (t:List GN)(vn:Value)(g:SA)(ks:List Int)(w:World)(v i:Value)(wr:World):Prop :=
 ∃ (k:Nat) (out:List GV),k<=ks∧i=↑k∧bZ wr g.Q v out∧Inc out∧out.length<=1024∧Fr g.M w wr∧bV t vn g wr∧zS (aE t) [] ks=zS (aE t) out (ks.drop k)
theorem iY.none_ {t:List GN}{vn:Value}{g:SA}{w w':World}(hf:Fr g.M w w')(hs:bV t vn g w'):iY t vn g ⟨[],true⟩ w (.returned (.tuple #[qn,false])) w' :=
 ⟨none,0,rfl,bZ.nil_any _ _ _ _ I,hf,hs⟩
theorem xM (t:List GN)(vn:Value)(g:SA)(f n:Nat)(hO:oa t vn f)(ks:List Int)(vk:Value)(w:World)(hk:bL w g.Q vk ks)(hks:∀ z ∈ ks,0<=z∧z<(n:Int))(hnf:n<=f)(hg:aO t n)(hs:bV t vn g w) :
  qg 141 #[qp g.s,vk] w (iY t vn g (zS (aE t) [] ks) w):=by
 have HK:=aYf hk;have HKS:=aYf hks;have HG:=aYf hg;have HS:=aYf hs;obtain ⟨Ak,ck,ek,hk1,hk2⟩:=hk.form;subst ek;clear hk hks hg hs;go_enter Tryz.func141,Tryz.ntmps141;go_wp2_with fail;go_loopw [6,13] (fun v i wr=>IG t vn g ks w v i wr) (fun _ i _=>ks.length - (intOf i).toNat)
 case atStart=>exact ⟨0,[],af _,rfl,bZ.nil_any _ _ _ _ I,Inc.nil,U,au _ _,HS.out,rfl⟩
 case round =>
  obtain ⟨k,out,hk,rfl,hv,hinc,hlen,hfr,hs,hu⟩:=hrel;have HV:=aYf hv;have HINC:=aYf hinc;have HFR:=aYf hfr;have HSR:=aYf hs;have HU:=aYf hu;obtain ⟨A6,c6,e6,h61,h62⟩:=hv.form;subst e6;have HKR:=aYf (HK.out.keep (Q:=g.Q) (aB.of_fr hfr (fun b h=>h.1)) (fun _ h=>h));clear hv hinc hfr hs hu;by_cases hlt:k<ks
  ·obtain ⟨b1,o1,rfl,-,-,g1⟩:=HKR.out.get hlt
   have hz:=HKS.out _ (aC (d:=0) hlt);have HD:=aYf (HU.out.trans (by rw [aJ 0 hlt,zS]));generalize ks.getD k 0=z at *;obtain ⟨zn,rfl⟩:∃ zn:Nat,z=zn:=⟨z.toNat,I⟩;have HLOK:=aYf (mJ HG.out zn I);have hgz:=HG.out.mono (j:=zn+1) I;have HOZ:=aYf (hO g zn wr I hgz HSR.out);simp only [Int.toNat_natCast] at HD;clear hgz;generalize (aE t).getD zn default=r at *;obtain ⟨vals,many⟩:=r;go_wp2_with fail;refine HOZ.out.mono ?_;rintro e w1 ⟨A2,d2,rfl,hv2,hf2,hs2⟩;have HV2:=aYf hv2;have HF2:=aYf (HFR.out.trans hf2);have HS2:=aYf hs2;have HVO:=aYf (HV.out.keep (Q:=g.Q) (aB.of_fr hf2 (fun b h=>h.1)) (fun _ h=>h));clear hv2 hf2 hs2 g1;cases many
   ·have hfew:=HLOK.out.few
    simp only at hfew;go_wp2_with fail;refine (Kt out vals (fun b=>g.Q b∧b<w1) _ _ _ (HVO.out.imp (fun b hb h=>⟨h,hb⟩)) (HV2.out.imp (fun b hb h=>⟨h,hb⟩)) I I (fun b h=>h.2)).mono ?_;rintro e w2 ⟨A3,d3,rfl,hv3,hx3⟩;have HV3:=aYf (hv3.imp (Q:=g.Q) (fun b hb h=>h.elim (fun h=>h.1) (fun h=>HS2.out.newQ h)));have HX3:=aYf hx3;have HI3:=aYf (iU out vals HINC.out HLOK.out.inc);clear hv3 hx3;generalize dS out vals=mo at *;have hmo:mo<=d3∧(mo.length<=17592186044416∧d3<=9223372036854775807):=HV3.out.le;by_cases hbig:1024<mo.length
    ·have tb:decide (1024<(mo:Int))=true:=aYi I
     have HE:=aYf (show zS (aE t) [] ks=⟨[],true⟩ from HD.out.trans (by simp [hbig]));clear hbig;go_wp2_with fail;go_ret2;rw [HE.out];exact iY.none_ (HF2.out.trans (ar HX3.out)) (HS2.out.ext HX3.out)
    ·have tb:decide (1024<(mo:Int))=false:=aYj I
     have HE:=aYf (show zS (aE t) [] ks=zS (aE t) mo (ks.drop (k+1)) from HD.out.trans (by simp [hbig]));have hb2:mo.length<=1024:=by omega
     clear hbig;go_wp2_with fail;go_roundw
     case rel=>exact ⟨k+1,mo,I,by go_num,HV3.out,HI3.out,I,HF2.out.trans (ar HX3.out),HS2.out.ext HX3.out,HE.out⟩
     case measure=>simp [intOf];omega
   ·have HE:=aYf (show zS (aE t) [] ks=⟨[],true⟩ from HD.out.trans U)
    go_wp2_with fail;go_ret2;rw [HE.out];exact iY.none_ HF2.out HS2.out
  ·have HE:=aYf (show zS (aE t) [] ks=⟨out,false⟩ by rw [HU.out,drop_nil I,zS])
   go_wp2_with fail;go_ret2;rw [HE.out];exact ⟨A6,c6,rfl,HV.out,HFR.out,HSR.out⟩
def bM (lss:List (List GV)):List (List GV):=lss.foldl eZ [[]]
theorem jB (lss:List (List GV))(l:List GV):bM (lss ++ [l])=eZ (bM lss) l:=by simp [bM]
theorem KB (rows:List (List GV))(l:List GV)(k:Nat)(hk:k<rows*l):(eZ rows l).getD k []=rows.getD (k / l.length) [] ++ [l.getD (k % l.length) default]:=by
 have hl:0<l.length:=by
  rcases Nat.eq_zero_or_pos l.length with h | h
  ·rw [h] at hk;simp at hk
  ·exact h
 induction rows generalizing k with
 | nil=>simp at hk
 | cons r rs ih =>
  unfold eZ;rw [List.flatMap_cons];by_cases hlt:k<l
  ·have e1:k / l.length=0:=Nat.div_eq_of_lt hlt
   have e2:k % l.length=k:=Nat.mod_eq_of_lt hlt;rw [e1,e2];simp [List.getD,List.getElem?_append,hlt]
  ·have hge:l<=k:=by omega
   have h1:=ih (k - l) (by simp only [ai,Nat.add_mul,Nat.one_mul] at hk;omega)
   have e1:k / l.length=(k - l) / l.length+1:=by
    rw [Nat.div_eq k l,if_pos ⟨hl,hge⟩]
   have e2:k % l.length=(k - l) % l.length:=by rw [Nat.mod_eq_sub_mod hge]
   rw [e1,e2,List.getD_cons_succ,<- h1];simp only [List.getD,eZ];rw [List.getElem?_append_right bh];simp
def sK (ls:List GL)(x:GN):GL :=
 match bU ls [[]] x.kids with
 | none=>⟨[],true⟩
 | some rows=>⟨rows.map (cB x.name),false⟩
structure zQ (w:World)(Q:Nat->Prop)(cells:List Value)(lss:List (List GV))(k:Nat):Prop where
 at_:∀ j,j<k->∃ A c,cells[j]?=some (.slice A (lss.getD j []) c)∧bZ w Q (.slice A (lss.getD j []) c) (lss.getD j [])
theorem zQ.keep {w w':World}{Q:Nat->Prop}{cells:List Value}{lss:List (List GV)}{k:Nat}(h:zQ w Q cells lss k)(hk:aB Q w w'):zQ w' Q cells lss k :=
 ⟨fun j hj=>by obtain ⟨A,c,h1,h2⟩:=h.at_ j hj;exact ⟨A,c,h1,h2.carry hk (fun _ _ h=>h)⟩⟩
theorem zQ.put {w:World}{Q:Nat->Prop}{cells:List Value}{lss:List (List GV)}(h:zQ w Q cells lss lss){l:List GV}{A:Option Addr}{c:Nat}(hv:bZ w Q (.slice A l c) l)(hlt:lss.length<cells) :
  zQ w Q (cells.set lss (.slice A l c)) (lss ++ [l]) (lss+1):=by
 refine ⟨fun j hj=>?_⟩;by_cases e:j=lss.length
 ·subst e
  have e1:(lss ++ [l]).getD lss []=l:=U;rw [e1];exact ⟨A,c,ff,hv⟩
 ·have e1:(lss ++ [l]).getD j []=lss.getD j []:=by simp [List.getD,List.getElem?_append,show j<lss by omega]
  rw [e1];obtain ⟨A',c',h1,h2⟩:=h.at_ j I;exact ⟨A',c',by rw [List.getElem?_set_ne (fun h=>e h.symm)];exact h1,h2⟩
theorem gF (z:Value)(n:Nat):madeCells #[z] n=(List.replicate n z).toArray:=by rw [<- toList_madeCells_one]
theorem sH {lss:List (List GV)}:∀ (acc:List (List GV)),1<=acc.length->(∀ l ∈ lss,1<=l.length)->1<=(lss.foldl eZ acc).length:=by
 induction lss with
 | nil=>intro acc h _;exact h
 | cons l ls ih =>
  intro acc h hl;refine ih _ ?_ (fun y hy=>hl y dh);rw [gR];exact Nat.mul_pos h (hl l U)
def GH (t:List GN)(vn:Value)(g g':SA)(x:GN)(gL:Nat)(w:World)(tot i:Value)(wr:World):Prop :=
 ∃ (k:Nat) (lss:List (List GV)) (cells:List Value),k<=x.kids∧i=↑k∧tot=.int .i64 (bM lss).length∧lss=k∧(bM lss).length<=1024∧cells.length=x.kids∧Blk wr gL 56 cells.toArray∧zQ wr g'.Q cells lss k ∧
  (∀ l ∈ lss,l.length<=1024∧1<=l.length)∧Fr g.M w wr∧bV t vn g' wr∧(∀ v ∈ cells,∃ A n c,v=.slice A n c)∧bU (aE t) [[]] x.kids=bU (aE t) (bM lss) (x.kids.drop k)
def D3 (P:Nat->Prop)(name:ByteArray)(rows:List (List GV))(w0:World)(v i:Value)(wr:World):Prop :=
 ∃ (k:Nat) (xs:List Value),k<=rows∧i=↑k∧wr.ownsRow w0 58 4 v k xs∧RVs wr (Off P w0 wr v) ((rows.take k).map (cB name)) xs∧Ext w0 wr
def AR (P:Nat->Prop)(lss:List (List GV))(row:List GV)(gK:Nat)(n:Nat)(w0:World)(kk i:Value)(wr:World):Prop :=
 ∃ (r k:Nat) (ii:Int) (tail:List GV) (cs:List Value),r<=n∧i=↑ii∧ii+1=r∧kk=↑k∧Blk wr gK 58 cs.toArray∧cs=n*4∧RVs wr P tail (cs.drop (r*4))∧row=(bM (lss.take r)).getD k [] ++ tail∧(k<(bM (lss.take r))∧k<=1024)∧tail.length+r=n∧Fr (fun b=>b=gK) w0 wr
theorem oJ {lss:List (List GV)}{q:Nat}(h:q<lss):bM (lss.take (q+1))=eZ (bM (lss.take q)) (lss.getD q []):=by
 rw [aW [] h,jB]
theorem sG {lss:List (List GV)}:∀ (acc:List (List GV))(m:Nat),(∀ r ∈ acc,r.length=m)->∀ r ∈ lss.foldl eZ acc,r.length=m+lss:=by
 induction lss with
 | nil=>intro acc m h r hr;simpa using h r hr
 | cons l ls ih =>
  intro acc m h r hr;have:=ih (eZ acc l) (m+1) (fun q hq=>by obtain ⟨q',hq',v,_,rfl⟩:=jY.1 hq;simp [h q' hq']) r hr;simp only [ai];omega
theorem EK {w:World}{g:Nat}{t:TypeId}{cs:List Value}(h:Blk w g t cs.toArray)(q:Nat)(u0 u1 u2 u3:Value)(hq:q*4+4<=cs) :
  Blk ((((w.setCell (qt g (q*4)) u0).setCell (qt g (q*4+1)) u1).setCell (qt g (q*4+2)) u2).setCell (qt g (q*4+3)) u3) g t (cs.take (q*4) ++ [u0,u1,u2,u3] ++ cs.drop (q*4+4)).toArray:=by
 have h1:=(((h.set_ (q*4) u0).set_ (q*4+1) u1).set_ (q*4+2) u2).set_ (q*4+3) u3;simp only [List.setIfInBounds_toArray] at h1
 have e:((((cs.set (q*4) u0).set (q*4+1) u1).set (q*4+2) u2).set (q*4+3) u3)=cs.take (q*4) ++ [u0,u1,u2,u3] ++ cs.drop (q*4+4):=by
  apply List.ext_getElem?;intro j;simp only [List.getElem?_set,List.length_set,List.getElem?_append,ak,aa,List.getElem?_take,List.getElem?_drop,ai,List.length_nil];have hm:min (q*4) cs.length=q*4:=by omega
  rw [hm];by_cases j0:j<q*4
  ·simp [j0,show ¬ q*4+3=j by omega,show ¬ q*4+2=j by omega,show ¬ q*4+1=j by omega,show ¬ q*4=j by omega,show j<q*4+4 by omega]
  by_cases j1:j<q*4+4
  ·have hc:j=q*4∨j=q*4+1∨j=q*4+2∨j=q*4+3:=by omega
   rcases hc with rfl | rfl | rfl | rfl
   ·simp [show q*4<cs by omega]
   ·simp [show q*4+1<cs by omega]
    intro h;omega
   ·simp [show q*4+2<cs by omega]
    intro h;omega
   ·simp [show q*4+3<cs by omega]
    intro h;omega
  ·simp [j0,j1,show ¬ q*4+3=j by omega,show ¬ q*4+2=j by omega,show ¬ q*4+1=j by omega,show ¬ q*4=j by omega]
   congr 1
   omega
 rw [e] at h1;exact h1
theorem Kv {a b:Nat}(h:a<=1024):wrap64 ((a:Int) / (b:Int))=((a / b:Nat):Int):=by
 have h1:=Nat.div_le_self a b;rw [<- Int.natCast_ediv];generalize a / b=c at *;exact IntWalk.wrap64_in _ I
theorem Ef {P:Nat->Prop}{lss:List (List GV)}{row:List GV}{gK n q k':Nat}{w0 wr:World}{cs:List Value}{tail:List GV}{v:GV}{A4:Option Addr}{d4:Nat}(hBK:Blk wr gK 58 cs.toArray)(hcs:cs=n*4)(htl:RVs wr P tail (cs.drop ((q+1)*4)))
  (hrow:row=(bM (lss.take q)).getD k' [] ++ (v :: tail))(hk2:k'<(bM (lss.take q)))(hk3:k'<=1024)(htr:tail.length+(q+1)=n)(hfr:Fr (fun b=>b=gK) w0 wr)(hv:VAt wr P v A4 d4)(hP:¬ P gK) :
  AR P lss row gK n w0 (↑(k':Int)) (.int .i64 ((q:Int) - 1)) ((((wr.setCell (qt gK (q*4)) (↑v.kind)).setCell (qt gK (q*4+1)) (↑v.n)).setCell (qt gK (q*4+2)) v.s).setCell (qt gK (q*4+3)) (.slice A4 v.kids d4)).drew:=by
 have hq4:q*4+4<=cs:=by rw [hcs];omega
 have hb4:=(EK hBK q (↑v.kind) (↑v.n) v.s (.slice A4 v.kids d4) hq4).drew;have hl4:(cs.take (q*4))=q*4:=by rw [ak];omega
 have hdr:(cs.take (q*4) ++ [Value.int .i64 v.kind,Value.int .i64 v.n,Value.string v.s,Value.slice A4 v.kids d4] ++ cs.drop (q*4+4)).drop (q*4)=cellsOf v A4 d4 ++ cs.drop ((q+1)*4):=by
  rw [ah,List.drop_left' hl4,show q*4+4=(q+1)*4 by omega];rfl
 have hk0:aB P wr wr:=fun _ _ _=>rfl
 have hkp:=(((hk0.set (p:=qt gK (q*4)) (↑v.kind) hP).set (p:=qt gK (q*4+1)) (↑v.n) hP).set (p:=qt gK (q*4+2)) v.s hP).set (p:=qt gK (q*4+3)) (.slice A4 v.kids d4) hP
 have hlen4:(cs.take (q*4) ++ [Value.int .i64 v.kind,Value.int .i64 v.n,Value.string v.s,Value.slice A4 v.kids d4] ++ cs.drop (q*4+4)).length=n*4:=by
  rw [aa,aa,hl4,am];simp only [ai,List.length_nil];omega
 refine ⟨q,k',(q:Int) - 1,v :: tail,_,I,rfl,I,rfl,hb4,hlen4,?_,hrow,⟨hk2,hk3⟩,bh,((((hfr.setCell (p:=qt gK (q*4)) (.inl rfl) (↑v.kind)).setCell (p:=qt gK (q*4+1)) (.inl rfl) (↑v.n)).setCell (p:=qt gK (q*4+2)) (.inl rfl) v.s).setCell (p:=qt gK (q*4+3)) (.inl rfl) (.slice A4 v.kids d4)).drew⟩;rw [hdr];show RVs _ _ ([v] ++ tail) _;exact RVs.append (RVs.one ((hv.carry hkp (fun _ _ h=>h)).ext (aq _).drew').rv) (RVs.keep (aB.of_ext (aq _).drew') (fun _ h=>h) (RVs.carry hkp (fun _ _ h=>h) htl))
theorem pN {w:World}{P Q:Nat->Prop}{g n:Nat}{cs:List Value}{row:List GV}(hB:Blk w g 58 cs.toArray)(hr:RVs w P row cs)(hl:row=n)(hn:n<=17592186044416)(hg:Q g)(hPQ:∀ b,P b->Q b):bZ w Q (.slice (qp g) row n) row :=
 ⟨some ↑(qp g),n,cs,rfl,I,I,⟨hr.len,fun _=>⟨g,0,rfl,hg,fun j u hu=>by rw [Nat.zero_add,hB.cell];simpa using hu⟩⟩,RVs.keep (fun _ _ _=>rfl) hPQ hr⟩
theorem yM {P:Nat->Prop}{B:Nat}{wq w5 w6:World}{v v':Value}{done:List GV}{mv:GV}{xs:List Value}{A:Option Addr}{c k:Nat}(ho:wq.ownsRow B 58 4 v k xs)(hr:RVs wq (Off P B wq v) done xs)(h5:Ext wq w5)
  (hv:VAt w5 (fun b=>(P b∨B<=b)∧some b ≠ v.ownBlock) mv A c)(hf:Fr (fun k=>some k=v.ownBlock) (w5.alloc (qk (qh mv A c) 58)) w6)
  (hb:v'.ownBlock=v.ownBlock∨v'.ownBlock=some (w5.alloc (qk (qh mv A c) 58)).heap.size):RVs w6 (Off P B w6 v') (done ++ [mv]) (xs ++ cellsOf mv A c):=by
 have hs5:=h5.size;have hs6:=hf.size;simp at hs6;have h56:Fr (fun k=>some k=v.ownBlock) w5 w6:=(ar ((aq w5).alloc' _)).trans hf;have hq6:Fr (fun k=>some k=v.ownBlock) wq w6:=(ar h5).trans h56
 have hne:∀ b,b<w5.heap.size->some b ≠ v.ownBlock->some b ≠ v'.ownBlock:=by
  intro b hb' h;rcases hb with e | e
  ·rw [e];exact h
  ·rw [e];intro e';injection e' with e';simp at e';omega
 refine RVs.append (RVs.carry (aB.off hq6) (fun b hb' h=>⟨h.1,I,hne b I h.2.2⟩) hr) (RVs.one (hv.carry (fun b hb' h=>h56.block b hb' (fun e=>h.2 e)) (fun b hb' h=>⟨h.1,I,hne b hb' h.2⟩)).rv)
theorem EZ (t:List GN)(vn:Value)(g:SA)(f n:Nat)(hO:oa t vn f)(x:GN)(a:NA)(b o:Nat)(w:World)(hx:NAt w g.Q x a)(hnc:aR w b o x a)(hbQ:g.Q b)(hks:∀ z ∈ x.kids,0<=z∧z<(n:Int))(hnf:n<=f)(hkl:x.kids.length<=2000)(hg:aO t n)(hs:bV t vn g w) :
  qg 142 #[qp g.s,qt b o] w (iY t vn g (sK (aE t) x) w):=by
 have HX:=aYf hx;have HKS:=aYf hks;have HG:=aYf hg;have HS:=aYf hs;have HNC:=aYf hnc;have HBQ:=aYf hbQ;have c7:=hnc.c7;have hki:=hx.kids;have lb:=hnc.lt;obtain ⟨hk1,hk2⟩:=hx.kids.le;obtain ⟨i0,hi,hz0,hz1,hz2⟩:=info_parts Tryz.info58;have HI:=aYf hi;obtain ⟨i1,hi',hz0',hz1',hz2'⟩:=info_parts Tryz.info56
 have hmk:∀ W:World,(Instr.makeSlice 155 (.int .i64 (x.kids:Int)) (.int .i64 (x.kids:Int))).run Tryz.prog W=.ok (.slice (qp W) x.kids x.kids) (W.alloc (qk (madeCells (Value.slice none 0 0).cells (x.kids*1)) 56)):=by
  intro W;have h:=run_make (P:=Tryz.prog) W 155 56 i1 _ Tryz.underlying155 hi' hz0' .i64 .i64 (x.kids:Int) (x.kids:Int) I (Int.le_refl _) (by rw [hz2'];omega) I;rw [hz1'] at h;rw [h];rfl
 clear hx hks hg hs hnc hbQ hi hi';generalize a.kA=Ak at *;generalize a.kc=kc at *;have HKI:=aYf hki;clear hki;go_enter Tryz.func142,Tryz.ntmps142;go_wp2_with fail;have HE:=aYf (show Ext w (w.alloc (qk (madeCells #[qn] x.kids) 56)) from (aq w).alloc' _);have HBL:=aYf (aw w 56 (madeCells #[qn] x.kids));have HS':=aYf (HS.out.more (ab _) HE.out U);generalize hW:w.alloc (qk (madeCells #[qn] x.kids) 56)=W at *;clear hW hmk;obtain ⟨g',hg'⟩:∃ g',g'=SA.mk g.s g.k g.l g.m (fun b=>g.X b∨b=w):=⟨_,rfl⟩;rw [<- hg'] at HS';have HGM:=aYf (show g'.M=g.M by rw [hg'];rfl);have HGS:=aYf (show g'.s=g.s by rw [hg']);have HGQ:=aYf (show ∀ b,g'.Q b->g.Q b∧b ≠ w from fun b h=>by subst hg';exact ⟨⟨h.1,fun hx=>h.2 (.inl hx)⟩,fun e=>h.2 (.inr e)⟩);have HGX:=aYf (show g'.X w.heap.size by subst hg';exact .inr rfl);have HLESS:=aYf (show ∀ W',bV t vn g' W'->bV t vn g W' from fun W' h=>by subst hg';exact h.less (fun b hb=>.inl hb));have HGL:=aYf (show ¬ g.M w.heap.size from fun h=>by have:=HS.out.lt h;omega);have HNS:=aYf (show w ≠ g.s from fun e=>by obtain ⟨_,_,_,h⟩:=HS.out;have:=h.box.lt;omega);clear hg';go_loopw [7,27] (fun tot i wr=>GH t vn g g' x w w tot i wr) (fun _ i _=>x.kids.length - (intOf i).toNat)
 case atStart =>
  refine ⟨0,[],List.replicate x.kids qn,af _,rfl,rfl,rfl,by simp [bM],U,by rw [<- gF];exact HBL.out,⟨fun j hj=>by omega⟩,U,ar HE.out,HS'.out,?_,rfl⟩;intro v hv;rw [List.eq_of_mem_replicate hv];exact ⟨_,_,_,rfl⟩
 case round =>
  obtain ⟨k,lss,cells,hk,rfl,rfl,hlk,hrl,hcl,hB,hat,hls,hfr,hs,hsl,hsq⟩:=hrel;have HLK:=aYf hlk;have HCL:=aYf hcl;have HB:=aYf hB;have HAT:=aYf hat;have HLS:=aYf hls;have HFR:=aYf hfr;have HSR:=aYf hs;have HSL:=aYf hsl;have HSQ:=aYf hsq;have HKR:=aYf (HKI.out.keep (Q:=g.Q) (aB.of_fr hfr (fun b h=>h.1)) (fun _ h=>h));have hszr:=hfr.size;clear hlk hcl hB hat hls hfr hs hsl hsq;by_cases hlt:k<x.kids
  ·obtain ⟨b1,o1,rfl,-,-,g1⟩:=HKR.out.get hlt
   have hz:=HKS.out _ (aC (d:=0) hlt);have HD:=aYf (HSQ.out.trans (by rw [aJ 0 hlt,bU]));generalize x.kids.getD k 0=z at *;obtain ⟨zn,rfl⟩:∃ zn:Nat,z=zn:=⟨z.toNat,I⟩;have HLOK:=aYf (mJ HG.out zn I);have hgz:=HG.out.mono (j:=zn+1) I;have HOZ:=aYf (hO g' zn wr I hgz HSR.out);rw [HGS.out] at HOZ;simp only [Int.toNat_natCast] at HD;clear hgz;generalize (aE t).getD zn default=r at *;obtain ⟨vals,many⟩:=r;go_wp2_with fail;refine HOZ.out.mono ?_;rintro e w1 ⟨A2,d2,rfl,hv2,hf2,hs2⟩;rw [HGM.out] at hf2;have HV2:=aYf hv2;have HF2:=aYf (HFR.out.trans hf2);have HS2:=aYf hs2;have HB2:=aYf (HB.out.fr hf2 HGL.out);have HAT2:=aYf (HAT.out.keep (aB.of_fr hf2 (fun b h=>(HGQ.out b h).1.1)));clear hv2 hf2 hs2 g1;have hfew:=HLOK.out.few;simp only at hfew;cases many
   ·have hnn:=HLOK.out.some_ rfl
    have hpos:1<=vals.length:=List.length_pos_iff.2 hnn;clear hnn;by_cases hp:1024<(bM lss).length*vals.length
    ·have tp:decide (1024<wrap64 (((bM lss):Int)*(vals:Int)))=true:=by rw [mG hrl hfew];exact aYi I
     have HE2:=aYf (show sK (aE t) x=⟨[],true⟩ by unfold sK;rw [HD.out,if_pos (.inr hp)]);clear hp;go_wp2_with fail;go_ret2;rw [HE2.out];exact iY.none_ HF2.out (HLESS.out _ HS2.out)
    ·have tp:decide (1024<wrap64 (((bM lss):Int)*(vals:Int)))=false:=by rw [mG hrl hfew];exact aYj I
     have HE2:=aYf (show bU (aE t) [[]] x.kids=bU (aE t) (bM (lss ++ [vals])) (x.kids.drop (k+1)) by rw [HD.out,if_neg bh,jB]);have HMW:=aYf (show wrap64 (((bM lss):Int)*(vals:Int))=((bM (lss ++ [vals])):Int) by rw [mG hrl hfew,jB,gR]);have hr2:(bM (lss ++ [vals])).length<=1024:=by rw [jB,gR];omega
     clear hp;obtain ⟨An,nn,cn,en⟩:∃ A n c,cells.getD k default=Value.slice A n c:=HSL.out _ (aC (by rw [HCL.out];exact hlt));have l0:=HB2.out.cell' (u:=cells.getD k default) k (by have:=HCL.out;simp [this,hlt]);rw [en] at l0;have fl:=HB2.out.frozen k;have hk0:(0:Int)<=(k:Int):=by omega
     go_wp2_with fail;go_roundw
     case rel =>
      have hkl2:lss.length<cells:=by rw [HLK.out,HCL.out];exact hlt
      have hQL:¬ g'.Q w.heap.size:=fun h=>(HGQ.out _ h).2 rfl
      have hkp:aB g'.Q w1 (w1.setCell (qt w k) (.slice A2 vals d2)):=aB.set (fun _ _ _=>rfl) (p:=qt w k) _ hQL;have hB3:=HB2.out.set_ k (.slice A2 vals d2);simp only [List.setIfInBounds_toArray] at hB3;have hat2:=HAT2.out;rw [<- HLK.out] at hat2 hkp hB3;have hput:=(hat2.put HV2.out hkl2).keep hkp;rw [HLK.out] at hput hB3;refine ⟨k+1,lss ++ [vals],cells.set k (.slice A2 vals d2),I,by go_num,by rw [HMW.out],by simp [HLK.out],hr2,by simp [HCL.out],hB3,hput,?_,HF2.out.trans_new (Fr.setCell (au _ _) (p:=qt w k) (.inl (.inr (ab _))) _),?_,?_,HE2.out⟩
      ·intro l hl
       rcases ap.1 hl with hl | hl
       ·exact HLS.out l hl
       ·rw [List.mem_singleton.1 hl];exact ⟨hfew,hpos⟩
      ·exact HS2.out.setX (p:=qt w k) HGX.out (by rw [HGS.out];exact HNS.out) (by rw [HGM.out];exact HGL.out) _
      ·intro v hv
       rcases List.mem_or_eq_of_mem_set hv with hv | rfl
       ·exact HSL.out v hv
       ·exact ⟨_,_,_,rfl⟩
     case measure=>simp [intOf];omega
   ·have HE2:=aYf (show sK (aE t) x=⟨[],true⟩ by unfold sK;rw [HD.out,if_pos (.inl rfl)])
    go_wp2_with fail;go_ret2;rw [HE2.out];exact iY.none_ HF2.out (HLESS.out _ HS2.out)
  ·have hkn:k=x.kids:=by omega
   have HLN:=aYf (show lss.length=x.kids by rw [HLK.out,hkn]);have HRES:=aYf (show sK (aE t) x=⟨(bM lss).map (cB x.name),false⟩ by unfold sK;rw [HSQ.out,drop_nil I,bU]);have hrp:1<=(bM lss).length:=sH [[]] U (fun l hl=>(HLS.out l hl).2)
   have HATN:=aYf (show zQ wr (fun b=>g'.Q b∧b<wr) cells lss x.kids.length from ⟨fun j hj=>by
    obtain ⟨A,c,h1,h2⟩:=HAT.out.at_ j I;exact ⟨A,c,h1,h2.imp (fun b hb h=>⟨h,hb⟩)⟩⟩)
   have HMEM:=aYf (show ∀ r ∈ bM lss,r.length=x.kids from fun r hr=>by have:=sG [[]] 0 U r hr;have:=HLN.out;omega);have HNC2:=aYf (HNC.out.keep (P:=g.Q) HBQ.out (aB.of_fr HFR.out (fun b h=>h.1)));have HNM:=aYf HX.out.name
   have hmk2:∀ W:World,(Instr.makeSlice 56 qz (.int .i64 ((bM lss):Int))).run Tryz.prog W=.ok (.slice (qp W) 0 (bM lss)) (W.alloc (qk (madeCells (Value.agg #[qz,qz,.string ByteArray.empty,qn]).cells ((bM lss)*4)) 58)):=by
    intro W;have h:=run_make (P:=Tryz.prog) W 56 58 i0 _ Tryz.underlying56 HI.out hz0 .i64 .i64 0 ((bM lss):Int) (Int.le_refl _) I fp I;rw [hz1] at h;rw [h];rfl
   have hmk3:∀ W:World,(Instr.makeSlice 56 (.int .i64 (x.kids:Int)) (.int .i64 (x.kids:Int))).run Tryz.prog W=.ok (.slice (qp W) x.kids x.kids) (W.alloc (qk (madeCells (Value.agg #[qz,qz,.string ByteArray.empty,qn]).cells (x.kids*4)) 58)):=by
    intro W;have h:=run_make (P:=Tryz.prog) W 56 58 i0 _ Tryz.underlying56 HI.out hz0 .i64 .i64 (x.kids:Int) (x.kids:Int) I (Int.le_refl _) fp I;rw [hz1] at h;rw [h];rfl
   have HMK3:=aYf hmk3;clear hmk3 hkn;go_wp2_with fail;have HOW:=aYf (World.ownsRow_made (base:=wr.heap.size) (e:=58) (size:=4) wr (madeCells #[qz,qz,.string ByteArray.empty,qn] ((bM lss)*4)) (bM lss) (ab _) du (size_madeCells _ _));have HE2:=aYf (show Ext wr (wr.alloc (qk (madeCells #[qz,qz,.string ByteArray.empty,qn] ((bM lss)*4)) 58)) from (aq wr).alloc' _);generalize hW2:wr.alloc (qk (madeCells #[qz,qz,.string ByteArray.empty,qn] ((bM lss)*4)) 58)=W2 at *;clear hW2 hmk2;obtain ⟨wo,rfl⟩:∃ wo:World,wo=wr:=⟨_,rfl⟩;have hgl0:=HB.out.lt;go_loopw [12,54] (fun v i wz=>D3 (fun b=>g'.Q b∧b<wo.heap.size) x.name (bM lss) wo v i wz) (fun _ i _=>(bM lss).length - (intOf i).toNat)
   case atStart=>exact ⟨0,[],af _,rfl,HOW.out,rfl,HE2.out⟩
   case round =>
    obtain ⟨k2,xs,hk2',rfl,hown,hrv,hx2⟩:=hrel;have HOWN:=aYf hown;have HRV:=aYf hrv;have HX2:=aYf hx2;obtain ⟨A12,c12,e12,-,-,-⟩:=Sl.of_own hown;subst e12;have hszz:=hx2.size;clear hown hrv hx2;by_cases hlt2:k2<(bM lss)
    ·have hmk3:=HMK3.out
     go_wp2_with fail;clear hmk3;obtain ⟨wq,rfl⟩:∃ wq:World,wq=wr:=⟨_,rfl⟩;have HEK:=aYf (show Ext wq (wq.alloc (qk (madeCells #[qz,qz,.string ByteArray.empty,qn] (x.kids*4)) 58)) from (aq wq).alloc' _);have HBK:=aYf (aw wq 58 (madeCells #[qz,qz,.string ByteArray.empty,qn] (x.kids*4)));have hszk:wq.heap.size<(wq.alloc (qk (madeCells #[qz,qz,.string ByteArray.empty,qn] (x.kids*4)) 58)):=by simp
     generalize hWk:wq.alloc (qk (madeCells #[qz,qz,.string ByteArray.empty,qn] (x.kids*4)) 58)=Wk at *;clear hWk;have HROW:=aYf (HMEM.out _ (aC (d:=[]) hlt2));have HTK:=aYf (show ((bM lss).take (k2+1)).map (cB x.name)=((bM lss).take k2).map (cB x.name) ++ [cB x.name ((bM lss).getD k2 [])] by rw [aW [] hlt2,List.map_append];rfl);have HR0:=aYf (show (bM lss).getD k2 []=(bM (lss.take x.kids)).getD k2 [] ++ [] by rw [List.append_nil,an (by have:=HLN.out;omega)]);have HR1:=aYf (show k2<(bM (lss.take x.kids)) by rw [an (by have:=HLN.out;omega)];exact hlt2);generalize (bM lss).getD k2 []=row at *;go_loopw [13,15] (fun kk i wy=>AR (fun b=>g'.Q b∧b<wo) lss row wq x.kids Wk kk i wy) (fun _ i _=>(intOf i+1).toNat)
     case atStart =>
      refine ⟨x.kids.length,k2,(x.kids:Int) - 1,[],(madeCells #[qz,qz,.string ByteArray.empty,qn] (x.kids*4)).toList,ab _,rfl,I,rfl,HBK.out,by simp [size_madeCells],?_,HR0.out,⟨HR1.out,I⟩,U,au _ _⟩;rw [List.drop_eq_nil_of_le (by simp [size_madeCells])];rfl
     case round =>
      obtain ⟨r,kk,ii,tail,cs,hr,rfl,hii,rfl,hBK,hcs,htl,hrow,⟨hkk,hkb⟩,htr,hfr3⟩:=hrel;have HBK3:=aYf hBK;have HCS:=aYf hcs;have HTL:=aYf htl;have HROW3:=aYf hrow;have HFR3:=aYf hfr3;have HTR:=aYf htr;have hsz3:=hfr3.size;have HEW:=aYf (show Ext wo wr from Fr.new_ext ((ar (HX2.out.trans' HEK.out)).trans hfr3) (fun b hb=>by omega));clear hBK hcs htl hrow hfr3 htr;rcases r with _ | q
      ·obtain rfl:ii=-1:=by omega
       clear hii;have hk1:kk=0:=by simp [bM] at hkk;omega
       have HRT:=aYf (show row=tail by rw [HROW3.out,hk1];simp [bM]);have htl:=HTL.out;rw [<- HRT.out,Nat.zero_mul,List.drop_zero] at htl;have hown_lt:∀ b,(Value.slice A12 k2 c12).ownBlock=some b->wo<=b∧b<wq:=fun b hb=>⟨HOWN.out.block_ge hb,HOWN.out.block_lt hb⟩
       have HOL:=aYf hown_lt;have HEQ:=aYf (show Ext wq wr from Fr.new_ext ((ar HEK.out).trans HFR3.out) (fun b hb=>by omega));have HVR:=aYf (pN (Q:=fun b=>((g'.Q b∧b<wo)∨wo<=b)∧some b ≠ (Value.slice A12 k2 c12).ownBlock) HBK3.out htl HROW.out I ⟨.inr I,fun e=>by have:=hown_lt _ e.symm;omega⟩ (fun b h=>⟨.inl h,fun e=>by have h3:=hown_lt _ e.symm;have:=h.2;omega⟩));have HVM:=aYf (VAt.made HNM.out HVR.out);have HMC:=aYf (iD x a b o row (qp wq) x.kids wr (HNC2.out.ext HEW.out));rw [HROW.out] at HMC;clear hkk hk1 htl hown_lt;go_wp2_with fail;refine HMC.out.mono ?_;rintro e w5 ⟨rfl,hx5⟩;have HX5:=aYf (HEQ.out.trans' hx5);have HVM5:=aYf (HVM.out.ext hx5);have hs5:=hx5.size;clear hx5;generalize cB x.name row=mv at *;go_wp2_with (at_builtin;go_must (refine aS _ rfl (.tmp 90) (.tmp 94) 56 dd wo 58 i0 _ 4 56 Tryz.underlying56 HI.out hz0 hz1 hz2 rfl I (.slice A12 k2 c12) _ _ rfl ((HOWN.out.ext_ HX5.out).alloc _) (fun _=>True) (qp w5) 1 1 [mv.kind,mv.n,mv.s,.slice (qp wq) mv.kids x.kids] rfl (Sl.new w5 _ _ _ _ rfl) ci I I bh ?_);intro v6 w6 ho6 hf6 hb6);go_roundw
       case rel =>
        refine ⟨k2+1,_,I,by go_num,ho6,?_,?_⟩
        ·rw [HTK.out]
         exact yM HOWN.out HRV.out HX5.out HVM5.out hf6 hb6
        ·exact Fr.new_ext (((ar (HX2.out.trans' HX5.out)).alloc _).trans hf6) (fun b hb=>(HOL.out b hb.symm).1)
       case measure=>simp [intOf];omega
      ·obtain rfl:ii=(q:Int):=by omega
       clear hii;have hql:q<lss:=by have:=HLN.out;omega
       have HSUC:=aYf (oJ hql);have hll:=HLS.out _ (aC (d:=[]) hql);obtain ⟨Al,cl',hce,hvl⟩:=HATN.out.at_ q I;have HVL:=aYf (hvl.ext HEW.out);have gl0:=(HB.out.ext HEW.out).cell' (u:=.slice Al (lss.getD q []) cl') q (by simpa using hce);have HKK:=aYf (show kk<(bM (lss.take q))*(lss.getD q []).length by rw [<- gR,<- HSUC.out];exact hkk);clear hce hvl hkk;generalize lss.getD q []=l at *;have hmod:kk % l.length<l:=Nat.mod_lt _ I;obtain ⟨bl,ol,A4,d4,rfl,-,hvv,g0,g1,g2,g3⟩:=HVL.out.get hmod;have HVV:=aYf hvv;have HGD:=aYf (show row=(bM (lss.take q)).getD (kk / l.length) [] ++ (l.getD (kk % l.length) default :: tail) by rw [HROW3.out,HSUC.out,KB _ _ _ HKK.out];simp);have HKD:=aYf (show kk / l.length<(bM (lss.take q)) from Nat.div_lt_of_lt_mul (by rw [Nat.mul_comm];exact HKK.out));clear hvv;generalize l.getD (kk % l.length) default=v at *;have hcl:=HCS.out;have z0:=HBK3.out.cell' (u:=cs.getD (q*4) default) (q*4) (by simp [show q*4<cs by omega]);have z1:=HBK3.out.cell' (u:=cs.getD (q*4+1) default) (q*4+1) (by simp [show q*4+1<cs by omega]);have z2:=HBK3.out.cell' (u:=cs.getD (q*4+2) default) (q*4+2) (by simp [show q*4+2<cs by omega]);have z3:=HBK3.out.cell' (u:=cs.getD (q*4+3) default) (q*4+3) (by simp [show q*4+3<cs by omega]);have y0:=HBK3.out.frozen (q*4);have y1:=HBK3.out.frozen (q*4+1);have y2:=HBK3.out.frozen (q*4+2);have y3:=HBK3.out.frozen (q*4+3);clear hcl;have hq0:(0:Int)<=(q:Int):=by omega
       have hq1:(q:Int)<(x.kids:Int):=I;have hle:¬ l=[]:=fun e=>by rw [e] at hll;simp at hll
       have hm0:(0:Int)<=Int.tmod (kk:Int) (l:Int):=by rw [<- Int.ofNat_tmod];omega
       have hm1:Int.tmod (kk:Int) (l:Int)<(l:Int):=by rw [<- Int.ofNat_tmod];omega
       have hmt:(Int.tmod (kk:Int) (l:Int)).toNat=kk % l.length:=by rw [<- Int.ofNat_tmod];rfl
       go_upto_region 22 with fail;go_still_tail 16,av;clear hmt;go_wp2_with fail;go_roundw
       case rel =>
        rw [Kv hkb];exact Ef HBK3.out HCS.out HTL.out HGD.out HKD.out (ae (Nat.div_le_self _ _) hkb) HTR.out HFR3.out HVV.out (fun h=>by have:=h.2;omega)
       case measure=>simp [intOf];try omega
    ·have HTR:=aYf (show (bM lss).take k2=bM lss from an I)
     have hkr:k2=(bM lss):=I;have HKR2:=aYf hkr;clear hkr;go_wp2_with fail;go_ret2;rw [HRES.out];have ho:=HOWN.out;have hr:=HRV.out;rw [HTR.out] at hr;have hmk:((bM lss).map (cB x.name))=k2:=by rw [List.length_map,HKR2.out]
     refine ⟨A12,c12,by rw [hmk];rfl,?_,?_,?_⟩
     ·rw [hmk]
      refine bZ.of_own (ho.len_cast hmk.symm rfl) (RVs.carry (fun _ _ _=>rfl) (fun b hb h=>?_) hr) (by rw [hmk];omega) (fun b hb=>HS.out.newQ (by have:=ho.block_ge hb;omega));rcases h.1 with h1 | h1
      ·exact (HGQ.out b h1.1).1
      ·exact HS.out.newQ I
     ·exact HFR.out.trans (ar HX2.out)
     ·exact HLESS.out _ (HSR.out.ext HX2.out)
