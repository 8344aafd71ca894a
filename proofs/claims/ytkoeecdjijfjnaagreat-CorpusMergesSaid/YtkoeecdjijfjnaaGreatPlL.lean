/- Contracts of functions, plain laws. Conditions: none. -/
import Derived.Test.YtkoeecdjijfjnaaGreatPlH
set_option maxRecDepth 100000
set_option maxHeartbeats 8000000
namespace Go.Proofs.YtkoeecdjijfjnaaGreat
open Go.RowKit
theorem tN (x y:GV)(A B:Option Addr)(c d:Nat)(P Q:Nat->Prop)(w:World)(hx:VAt w P x A c)(hy:VAt w Q y B d) :
  Calls Tryz.prog 139 #[dS x A c,dS y B d] w (cT (.bool (decide (cE x y=0))) w):=by
 have HX:=aZv hx;have HY:=aZv hy;clear hx hy;go_enter Tryz.func139,Tryz.ntmps139;go_wp2_with fail;refine (bB x y A B c d P Q _ (HX.out.ext (((Ext.refl _).alloc' _).alloc' _)) (HY.out.ext (((Ext.refl _).alloc' _).alloc' _))).mono ?_;rintro e w1 ⟨rfl,hx1⟩;have HX1:=aZv ((((Ext.refl w).alloc' _).alloc' _).trans' hx1);clear hx1;generalize cE x y=z at *;go_wp2_with fail
 all_goals
  go_ret;exact ⟨aC (by rw [Bool.eq_iff_iff];simp_all),HX1.out⟩
theorem tM (a b:List GV)(P Q:Nat->Prop)(va vb:Value)(w:World)(ha:bW w P va a)(hb:bW w Q vb b) :
  Calls Tryz.prog 138 #[va,vb,.func (.func 139) #[] #[]] w (cT (.bool (dH a b)) w):=by
 have HA:=aZv ha;have HB:=aZv hb;have HS:=aZv (show dH a b=(decide (a.length=b.length) && (a.zip b).all (fun p=>decide (cE p.1 p.2=0))) from rfl);obtain ⟨A,c,e,h1,h2⟩:=ha.form;obtain ⟨A',c',e',h1',h2'⟩:=hb.form;subst e e';clear ha hb
 by_cases hl:a.length=b.length
 ·have HS2:=aZv (show dH a b=((a.drop 0).zip (b.drop 0)).all (fun p=>decide (cE p.1 p.2=0)) by rw [HS.out,aZy hl];rfl)
  have hl1:a.length<=b.length:=D
  have hl2:b.length<=a.length:=D
  have hne:((a.length:Int) != (b.length:Int))=false:=by rw [bne_eq_false_iff_eq];omega
  clear hl;go_enter Tryz.func138,Tryz.ntmps138;go_wp2_with fail;go_loopw [17] (fun i wr=>aAx a b w i wr) (fun i _=>a.length - (intOf i).toNat)
  case atStart=>exact ⟨0,Nat.zero_le _,rfl,Ext.refl _,HS2.out⟩
  case round =>
   obtain ⟨k,hk,rfl,hx,ht⟩:=hrel;have HT:=aZv ht;have HX:=aZv hx;clear ht hx
   by_cases hlt:k<a.length
   ·have hlt':k<b.length:=by omega
    have HD:=aZv (show dH a b=(decide (cE (a.getD k default) (b.getD k default)=0) && ((a.drop (k+1)).zip (b.drop (k+1))).all (fun p=>decide (cE p.1 p.2=0))) by
     rw [HT.out,aF default hlt,aF default hlt']
     rfl)
    obtain ⟨b1,o1,c1,A1,d1,e1,-,-,-,hv1,g10,g11,g12,g13⟩:=(HA.out.ext HX.out).at_ hlt;obtain ⟨b2,o2,c2,A2,d2,e2,-,-,-,hv2,g20,g21,g22,g23⟩:=(HB.out.ext HX.out).at_ hlt'
    cases e1
    cases e2
    have q1:=aN g10;have q2:=aN g20;have HV1:=aZv hv1;have HV2:=aZv hv2;clear hv1 hv2;generalize a.getD k default=x at *;generalize b.getD k default=y at *;go_wp2_with fail;refine (tN x y A1 A2 d1 d2 P Q _ (HV1.out.ext (((Ext.refl _).alloc' _).alloc' _)) (HV2.out.ext (((Ext.refl _).alloc' _).alloc' _))).mono ?_;rintro e w1 ⟨rfl,hx1⟩;have HX1:=aZv (HX.out.trans' ((((Ext.refl _).alloc' _).alloc' _).trans' hx1));clear hx1
    by_cases hz:cE x y=0
    ·have HZ:=aZv hz
     have tz:decide (cE x y=0)=true:=aZy hz;clear hz;generalize decide (cE x y=0)=bz at *;subst tz;go_wp2_with fail;go_roundw
     case rel=>exact ⟨k+1,D,by go_num,HX1.out,by rw [HD.out];rfl⟩
     case measure=>simp [intOf];omega
    ·have HZ:=aZv hz
     have tz:decide (cE x y=0)=false:=aZz hz;clear hz;generalize decide (cE x y=0)=bz at *;subst tz;go_wp2_with fail;go_ret;exact ⟨aC (by rw [HD.out];rfl),HX1.out⟩
   ·go_wp2_with fail
    go_ret;exact ⟨aC (by rw [HT.out,drop_nil (l:=a) D];rfl),HX.out⟩
 ·have hne:((a.length:Int) != (b.length:Int))=true:=bne_iff_ne.2 D
  have HL:=aZv hl;clear hl;go_enter Tryz.func138,Tryz.ntmps138;go_wp2_with fail;go_ret;exact ⟨aC (by rw [HS.out,aZz HL.out];rfl),Ext.refl _⟩
theorem bA {w w':World}{M:Nat->Prop}(hf:Fr M w w'){b off:Nat}{u:Value}(hb:¬ M b)(h:w.cell? ⟨b,off,none⟩=some u):w'.cell? ⟨b,off,none⟩=some u:=by
 rw [<- h];exact World.cell?_of_block (w:=w) (hf.block b (aN h) hb)
theorem kJ {w w':World}{M:Nat->Prop}(hf:Fr M w.drew w'){b off:Nat}{u:Value}(hb:¬ M b)(h:w.cell? ⟨b,off,none⟩=some u):w'.cell? ⟨b,off,none⟩=some u:=bA (w:=w.drew) hf hb h
def mZ (t:List GN)(x:GN):Int:=if x.kind=4 then gV t x else 0
def aJk (t:List GN)(vn:Value)(g:SA)(r:Int)(w:World)(e:Ending)(w':World):Prop:=e=.returned (↑r)∧Fr g.M w w'∧bS t vn g w'
theorem aFq (t:List GN)(vn:Value)(g:SA)(gc b o i:Nat)(x:GN)(a:NA)(w:World)(hx:NAt w g.Q x a)(hn:bX w b o x a)(hb:g.Q b)(hc3:w.cell? ⟨gc,3,none⟩=some (.pointer (some ⟨g.s,0,none⟩)))(hgc:¬ g.M gc)(hs:bS t vn g w)
  (hok:dL i x)(hg:bD t i) :
  Calls Tryz.prog 93 #[.pointer (some ⟨gc,0,none⟩),.pointer (some ⟨b,o,none⟩)] w (aJk t vn g (mZ t x) w):=by
 have c0:=hn.c0;have c7:=hn.c7;have lb:=hn.lt;have HN:=aZv hn;have HX:=aZv hx;have HS:=aZv hs;have HB:=aZv hb;have HGC:=aZv hgc;obtain ⟨hkl1,hkl2⟩:=hx.kids.le
 by_cases hk:x.kind=4
 ·have t4:(x.kind != 4)=false:=by rw [bne_eq_false_iff_eq];exact hk
  have t4a:4<=x.kind:=D
  have t4b:x.kind<=4:=D
  have hk0:0<x.kids.length:=by have:=hok.bind hk;omega
  have hz:=hok.kids _ (aD (d:=0) hk0);obtain ⟨n,hn0⟩:∃ n:Nat,x.kids.getD 0 0=(n:Int):=⟨(x.kids.getD 0 0).toNat,D⟩
  have HQ:=aZv (show mZ t x=if ((aG t).getD n default).many then 4 else if dH ((aG t).getD n default).vals x.values then 0 else 1 by
   unfold mZ;rw [if_pos hk];unfold gV;rw [hn0];simp)
  obtain ⟨b1,o1,e1,hb1,-,g1⟩:=hx.kids.get hk0;rw [hn0,Nat.add_zero] at g1;rw [e1] at c7;have HB1:=aZv hb1;have hk1:(0:Int)<(x.kids.length:Int):=by omega
  have HOF:=aZv (show ∀ W,bS t vn g W->Calls Tryz.prog 137 #[.pointer (some ⟨g.s,0,none⟩),↑n] W (iL t vn g ((aG t).getD n default) W) from fun W h=>aS1 t vn g n W (hg.mono D) h);generalize (aG t).getD n default=gg at *;obtain ⟨vals,many⟩:=gg;clear hx hn hs hb hgc hok hg hz hn0 hb1 e1 hk;go_enter Tryz.func93,Tryz.ntmps93;go_wp2_with fail
  go_region_held3 (fun w'=>w'.cell? ⟨gc,3,none⟩=some (.pointer (some ⟨g.s,0,none⟩))∧w'.cell? ⟨b,o+7,none⟩=some (.slice (some ⟨b1,o1,none⟩) x.kids.length a.kc)∧w'.cell? ⟨b1,o1,none⟩=some (.int .i64 n))
   (first
    | go_keep
    | (go_split_ands
       exact ⟨kJ hfr HGC.out ‹_›,kJ hfr HB.out.1 ‹_›,kJ hfr HB1.out.1 ‹_›⟩)
    | (go_split_ands
       exact ⟨bA hfr HGC.out ‹_›,bA hfr HB.out.1 ‹_›,bA hfr HB1.out.1 ‹_›⟩))
   (first
    | (go_at_call 137;refine (HOF.out _ (HS.out.ext (Ext.refl _).drew')).mono ?_;rintro e w1 ⟨A,c,rfl,hv,hfr,hs1⟩))
  have HFR:=aZv ((Fr.refl g.M w).drew.trans hfr);have HV:=aZv hv;have HS1:=aZv hs1;have d6:=bA HFR.out HB.out.1 HN.out.c6;have HVL:=aZv (HX.out.values.carry (aB.of_fr HFR.out (fun b h=>h.1)) (fun _ _ h=>h));clear hv hfr hs1
  cases many
  ·go_wp2_with fail
   refine (tM vals x.values g.Q g.Q _ _ _ HV.out HVL.out).mono ?_;rintro e w2 ⟨rfl,hx2⟩;have HX2:=aZv hx2;clear hx2;generalize dH vals x.values=bb at *
   cases bb
   ·go_wp2_with fail
    go_ret;exact ⟨aL fw,HFR.out.trans (Fr.of_ext HX2.out),HS1.out.ext HX2.out⟩
   ·go_wp2_with fail
    go_ret;exact ⟨aL fw,HFR.out.trans (Fr.of_ext HX2.out),HS1.out.ext HX2.out⟩
  ·go_wp2_with fail
   go_ret;exact ⟨aL fw,HFR.out,HS1.out⟩
 ·have t4:(x.kind != 4)=true:=bne_iff_ne.2 hk
  have HQ:=aZv (show mZ t x=0 by unfold mZ;rw [if_neg hk]);clear hx hn hs hb hgc hok hg;go_enter Tryz.func93,Tryz.ntmps93;go_wp2_with fail;go_ret;exact ⟨aL HQ.out.symm,Fr.refl _ _,HS.out⟩
theorem kS {a b:List Int}:∀ {zs:List Int}{s:Int},(∀ z ∈ zs,a.getD z.toNat 0=b.getD z.toNat 0)->bV a s zs=bV b s zs
 | [],_,_=>rfl
 | z :: zs,s,h=>by simp only [bV];rw [h z U,kS (fun y hy=>h y ap)]
theorem fR {a b:List Int}{ch:Bool}:∀ {zs:List Int}{i:Nat}{m:Int},(∀ z ∈ zs,a.getD z.toNat 0=b.getD z.toNat 0)->aK a ch i m zs=aK b ch i m zs
 | [],_,_,_=>rfl
 | z :: zs,i,m,h=>by simp only [aK];rw [h z U,fR (fun y hy=>h y ap)]
theorem aBv {a b:List Int}{j:Nat}{x:GN}(hn:dL j x)(h:∀ z ∈ x.kids,a.getD z.toNat 0=b.getD z.toNat 0):fN a x=fN b x:=by
 unfold fN;rw [kS h,fR h,fR h]
 by_cases k4:x.kind=4
 ·have:=hn.bind k4
  rw [h _ (aD (d:=0) D)]
 ·have hk:=hn.kind
  by_cases h0:x.kind=0
  ·simp [h0]
  ·by_cases h1:x.kind=1
   ·simp [h1]
   ·by_cases h3:x.kind=3
    ·simp [h3]
    ·simp [show x.kind=2 by omega]
theorem xR {a b:List Int}{x:GN}(h:∀ z ∈ x.kids,a.getD z.toNat 0=b.getD z.toNat 0):fX a x=fX b x:=by
 unfold fX;rw [kS h,fR h,fR h]
theorem uQ {a b:List Int}{k i:Nat}(h:a.take k=b.take k)(hi:i<k):a.getD i 0=b.getD i 0:=by
 have:(a.take k)[i]?=(b.take k)[i]?:=by rw [h]
 simp only [List.getElem?_take,hi,if_true] at this;simp [List.getD,this]
section
variable {t:List GN}{k:Nat}{ls zs:List Int}
theorem xO (hk:k<t.length)(hn:dL k (t.getD k default))(hl:ls.take k=(aP t).take k):fN ls (t.getD k default)=(aP t).getD k 0:=by
 rw [tA hk]
 exact aBv hn (fun z hz=>by
  have hz':=hn.kids z hz;rw [zW hk hz'];exact uQ hl D)
theorem zA (hg:bD t k)(hs:qQ t)(hk:k<t.length)(hn:dL k (t.getD k default))(hl:zs.take k=(bO t).take k) :
  fX zs (t.getD k default)=(bO t).getD k 0∨((t.getD k default).kind=4∧(t.getD k default).values=[]∧fX zs (t.getD k default)=1∧(bO t).getD k 0=0):=by
 have e:fX zs (t.getD k default)=fX (bO (t.take k)) (t.getD k default):=xR (fun z hz=>by
  have hz':=hn.kids z hz;rw [jI hk hz'];exact uQ hl D)
 rw [e,lD hk];exact oJ hn (fun z h1 h2=>by rw [jI hk ⟨h1,h2⟩];exact (sD hg hs z.toNat D).1)
theorem aOv {i:Int}{x:GN}(h:(cK x && dB i x)=false):gY i x=1:=by rw [qZ,if_pos h]
theorem yA {i:Int}{x:GN}(h:(cK x && dB i x)=true):gY i x=if gI x=0 then (if bJ x then 0 else 5) else gI x:=by rw [qZ,if_neg (by rw [h];decide)]
theorem aAs (h:(cK (t.getD k default) && dB k (t.getD k default))=false):cS t k=1:=by
 unfold cS;rw [aOv h]
 rfl
theorem aFo (h:(cK (t.getD k default) && dB k (t.getD k default))=true)(hp:¬ gI (t.getD k default)=0):cS t k=gI (t.getD k default):=by
 unfold cS;rw [yA h,if_neg hp,if_neg hp]
theorem aPg (h:(cK (t.getD k default) && dB k (t.getD k default))=true)(hp:gI (t.getD k default)=0)(hn:bJ (t.getD k default)=false):cS t k=5:=by
 unfold cS;rw [yA h,if_pos hp,hn]
 rfl
theorem aJd (h:(cK (t.getD k default) && dB k (t.getD k default))=true)(hp:gI (t.getD k default)=0)(hn:bJ (t.getD k default)=true):dL k (t.getD k default):=by
 rw [<- jX,yA h,if_pos hp,if_pos hn]
theorem aJc (hg:bD t k)(hs:qQ t)(hk:k<t.length)(hn:dL k (t.getD k default))(hl:ls.take k=(aP t).take k)(hz:zs.take k=(bO t).take k) :
  cS t k=if (decide (fN ls (t.getD k default)<=256) && decide (fX zs (t.getD k default)<=1024))=false then 4 else mZ t (t.getD k default):=by
 unfold cS;rw [if_pos (jX.2 hn),xO hk hn hl]
 have hc:(256<(aP t).getD k 0∨1024<(bO t).getD k 0) ↔ (decide ((aP t).getD k 0<=256) && decide (fX zs (t.getD k default)<=1024))=false:=by
  rw [Bool.and_eq_false_iff,decide_eq_false_iff_not,decide_eq_false_iff_not];rcases zA hg hs hk hn hz with h | ⟨_,_,h1,h2⟩
  ·rw [h];omega
  ·rw [h1,h2];omega
 by_cases h:(256<(aP t).getD k 0∨1024<(bO t).getD k 0)
 ·rw [if_pos h,if_pos (hc.1 h)]
 ·rw [if_neg h,if_neg (fun h'=>h (hc.2 h'))]
  rfl
theorem aAr (hg:bD t k)(hk:k<t.length)(hc:cS t k=0):bD t (k+1):=⟨D,hg.2.1,fun j hj=>by
 rcases Nat.lt_or_eq_of_le (Nat.le_of_lt_succ hj) with h | h
 ·exact hg.2.2 j h
 ·rw [h];exact hc⟩
theorem zD {a b:List Int}{i:Nat}{v:Int}(h:a.take i=b.take i)(ha:i<a.length)(hb:i<b.length)(hv:v=b.getD i 0):(a.set i v).take (i+1)=b.take (i+1):=by
 rw [aV 0 hb,<- hv,List.take_succ_eq_append_getElem (by simpa using ha),List.take_set_of_le (Nat.le_refl _),h];simp
theorem aAq (hg:bD t k)(hk:k<t.length)(hc:cS t k=0)(hl:ls.take k=(aP t).take k)(hll:ls.length=t.length):(ls.set k (fN ls (t.getD k default))).take (k+1)=(aP t).take (k+1):=by
 refine zD hl D (by unfold aP;rw [eG];simpa using hk) ?_;exact xO hk (lS.1 hc).node hl
theorem aFn (hg:bD t k)(hs:qQ t)(hk:k<t.length)(hc:cS t k=0)(hl:zs.take k=(bO t).take k)(hll:zs.length=t.length):(zs.set k (fX zs (t.getD k default))).take (k+1)=(bO t).take (k+1):=by
 refine zD hl D (by unfold bO;rw [eG];simpa using hk) ?_;rcases zA hg hs hk (lS.1 hc).node hl with h | ⟨h4,hv,_⟩
 ·exact h
 ·have:=(eZ (aAr hg hk hc) (Nat.lt_succ_self k)).2.2 h4
  rw [hv] at this;simp at this
theorem qU (hk:k<t.length)(h:bY t=cY t k (t.length - k)):bY t=if cS t k=0 then cY t (k+1) (t.length - (k+1)) else cS t k:=by
 have e:t.length - k=(t.length - (k+1))+1:=D
 rw [h,e]
 rfl
theorem iA (hk:k<t.length)(h:bY t=cY t k (t.length - k)){r:Int}(hc:cS t k=r)(hr:¬ r=0):bY t=r:=by
 rw [qU hk h,if_neg (by rw [hc];exact hr),hc]
end
theorem aCz {a:List Int}(ha:∀ x ∈ a,I64 x)(x:GN):I64 (fX a x):=by
 have h1:I64 1:=ak
 unfold fX
 split
 ·exact sK _
 ·split
  ·exact jM _ _ _ h1
  ·split
   ·exact jY _ ha _ _ _ _ h1
   ·split
    ·exact jY _ ha _ _ _ _ h1
    ·exact h1
theorem nR {a:List Int}(ha:∀ x ∈ a,I64 x)(x:GN):I64 (fN a x):=by
 have h0:I64 0:=ak
 have h1:I64 1:=ak
 unfold fN
 split
 ·exact h0
 ·split
  ·exact h1
  ·split
   ·exact jM _ _ _ h0
   ·split
    ·exact nL _
    ·exact nL _
theorem oL {a:List Int}(ha:∀ x ∈ a,I64 x){i:Nat}{v:Int}(hv:I64 v):∀ x ∈ a.set i v,I64 x:=fun x hx=>by
 rcases List.mem_or_eq_of_mem_set hx with h | h
 ·exact ha x h
 ·rw [h];exact hv
end Go.Proofs.YtkoeecdjijfjnaaGreat
