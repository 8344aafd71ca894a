/- Contracts of functions, plain laws. Conditions: none. -/
import Derived.Test.YtkoeecdjijfjnaaGreatPlH
set_option maxRecDepth 100000
set_option maxHeartbeats 8000000
namespace Go.Proofs.YtkoeecdjijfjnaaGreat
open Go.RowKit
theorem uJ (x y:GV)(A B:Option Addr)(c d:Nat)(P Q:Nat->Prop)(w:World)(hx:VAt w P x A c)(hy:VAt w Q y B d) :
  Calls Tryz.prog 139 #[eI x A c,eI y B d] w (dC (.bool (decide (cO x y=0))) w):=by
 have HX:=aV4 hx;have HY:=aV4 hy;clear hx hy;go_enter Tryz.func139,Tryz.ntmps139;go_wp2_with fail;refine (bQ x y A B c d P Q _ (HX.out.ext (((Ext.refl _).alloc' _).alloc' _)) (HY.out.ext (((Ext.refl _).alloc' _).alloc' _))).mono ?_;rintro e w1 ⟨rfl,hx1⟩;have HX1:=aV4 ((((Ext.refl w).alloc' _).alloc' _).trans' hx1);clear hx1;generalize cO x y=z at *;go_wp2_with fail
 all_goals
  go_ret;exact ⟨aF (by rw [Bool.eq_iff_iff];simp_all),HX1.out⟩
theorem uI (a b:List GV)(P Q:Nat->Prop)(va vb:Value)(w:World)(ha:cB w P va a)(hb:cB w Q vb b) :
  Calls Tryz.prog 138 #[va,vb,.func (.func 139) #[] #[]] w (dC (.bool (eG a b)) w):=by
 have HA:=aV4 ha;have HB:=aV4 hb;have HS:=aV4 (show eG a b=(decide (a.length=b.length) && (a.zip b).all (fun p=>decide (cO p.1 p.2=0))) from rfl);obtain ⟨A,c,e,h1,h2⟩:=ha.form;obtain ⟨A',c',e',h1',h2'⟩:=hb.form;subst e e';clear ha hb
 by_cases hl:a.length=b.length
 ·have HS2:=aV4 (show eG a b=((a.drop 0).zip (b.drop 0)).all (fun p=>decide (cO p.1 p.2=0)) by rw [HS.out,aV7 hl];rfl)
  have hl1:a.length<=b.length:=by omega
  have hl2:b.length<=a.length:=by omega
  have hne:((a.length:Int) != (b.length:Int))=false:=by rw [bne_eq_false_iff_eq];omega
  clear hl;go_enter Tryz.func138,Tryz.ntmps138;go_wp2_with fail;go_loopw [17] (fun i wr=>aAl a b w i wr) (fun i _=>a.length - (intOf i).toNat)
  case atStart=>exact ⟨0,Nat.zero_le _,rfl,Ext.refl _,HS2.out⟩
  case round =>
   obtain ⟨k,hk,rfl,hx,ht⟩:=hrel;have HT:=aV4 ht;have HX:=aV4 hx;clear ht hx
   by_cases hlt:k<a.length
   ·have hlt':k<b.length:=by omega
    have HD:=aV4 (show eG a b=(decide (cO (a.getD k default) (b.getD k default)=0) && ((a.drop (k+1)).zip (b.drop (k+1))).all (fun p=>decide (cO p.1 p.2=0))) by
     rw [HT.out,aH default hlt,aH default hlt']
     rfl)
    obtain ⟨b1,o1,c1,A1,d1,e1,-,-,-,hv1,g10,g11,g12,g13⟩:=(HA.out.ext HX.out).at_ hlt;obtain ⟨b2,o2,c2,A2,d2,e2,-,-,-,hv2,g20,g21,g22,g23⟩:=(HB.out.ext HX.out).at_ hlt'
    cases e1
    cases e2
    have q1:=aP g10;have q2:=aP g20;have HV1:=aV4 hv1;have HV2:=aV4 hv2;clear hv1 hv2;generalize a.getD k default=x at *;generalize b.getD k default=y at *;go_wp2_with fail;refine (uJ x y A1 A2 d1 d2 P Q _ (HV1.out.ext (((Ext.refl _).alloc' _).alloc' _)) (HV2.out.ext (((Ext.refl _).alloc' _).alloc' _))).mono ?_;rintro e w1 ⟨rfl,hx1⟩;have HX1:=aV4 (HX.out.trans' ((((Ext.refl _).alloc' _).alloc' _).trans' hx1));clear hx1
    by_cases hz:cO x y=0
    ·have HZ:=aV4 hz
     have tz:decide (cO x y=0)=true:=aV7 hz;clear hz;generalize decide (cO x y=0)=bz at *;subst tz;go_wp2_with fail;go_roundw
     case rel=>exact ⟨k+1,by omega,by go_num,HX1.out,by rw [HD.out];rfl⟩
     case measure=>simp [intOf];omega
    ·have HZ:=aV4 hz
     have tz:decide (cO x y=0)=false:=aV8 hz;clear hz;generalize decide (cO x y=0)=bz at *;subst tz;go_wp2_with fail;go_ret;exact ⟨aF (by rw [HD.out];rfl),HX1.out⟩
   ·go_wp2_with fail
    go_ret;exact ⟨aF (by rw [HT.out,drop_nil (l:=a) (by omega)];rfl),HX.out⟩
 ·have hne:((a.length:Int) != (b.length:Int))=true:=bne_iff_ne.2 (by omega)
  have HL:=aV4 hl;clear hl;go_enter Tryz.func138,Tryz.ntmps138;go_wp2_with fail;go_ret;exact ⟨aF (by rw [HS.out,aV8 HL.out];rfl),Ext.refl _⟩
theorem bG {w w':World}{M:Nat->Prop}(hf:Fr M w w'){b off:Nat}{u:Value}(hb:¬ M b)(h:w.cell? ⟨b,off,none⟩=some u):w'.cell? ⟨b,off,none⟩=some u:=by
 rw [<- h];exact World.cell?_of_block (w:=w) (hf.block b (aP h) hb)
theorem kX {w w':World}{M:Nat->Prop}(hf:Fr M w.drew w'){b off:Nat}{u:Value}(hb:¬ M b)(h:w.cell? ⟨b,off,none⟩=some u):w'.cell? ⟨b,off,none⟩=some u:=bG (w:=w.drew) hf hb h
def nN (t:List GN)(x:GN):Int:=if x.kind=4 then iD t x else 0
def aIn (t:List GN)(vn:Value)(g:SA)(r:Int)(w:World)(e:Ending)(w':World):Prop:=e=.returned (.int .i64 r)∧Fr g.M w w'∧bV t vn g w'
theorem aE8 (t:List GN)(vn:Value)(g:SA)(gc b o i:Nat)(x:GN)(a:NA)(w:World)(hx:NAt w g.Q x a)(hn:cC w b o x a)(hb:g.Q b)(hc3:w.cell? ⟨gc,3,none⟩=some (.pointer (some ⟨g.s,0,none⟩)))(hgc:¬ g.M gc)(hs:bV t vn g w)
  (hok:dP i x)(hg:bJ t i) :
  Calls Tryz.prog 93 #[.pointer (some ⟨gc,0,none⟩),.pointer (some ⟨b,o,none⟩)] w (aIn t vn g (nN t x) w):=by
 have c0:=hn.c0;have c7:=hn.c7;have lb:=hn.lt;have HN:=aV4 hn;have HX:=aV4 hx;have HS:=aV4 hs;have HB:=aV4 hb;have HGC:=aV4 hgc;obtain ⟨hkl1,hkl2⟩:=hx.kids.le
 by_cases hk:x.kind=4
 ·have t4:(x.kind != 4)=false:=by rw [bne_eq_false_iff_eq];exact hk
  have t4a:4<=x.kind:=by omega
  have t4b:x.kind<=4:=by omega
  have hk0:0<x.kids.length:=by have:=hok.bind hk;omega
  have hz:=hok.kids _ (aG (d:=0) hk0);obtain ⟨n,hn0⟩:∃ n:Nat,x.kids.getD 0 0=(n:Int):=⟨(x.kids.getD 0 0).toNat,by omega⟩
  have HQ:=aV4 (show nN t x=if ((aI t).getD n default).many then 4 else if eG ((aI t).getD n default).vals x.values then 0 else 1 by
   unfold nN;rw [if_pos hk];unfold iD;rw [hn0];simp)
  obtain ⟨b1,o1,e1,hb1,-,g1⟩:=hx.kids.get hk0;rw [hn0,Nat.add_zero] at g1;rw [e1] at c7;have HB1:=aV4 hb1;have hk1:(0:Int)<(x.kids.length:Int):=by omega
  have HOF:=aV4 (show ∀ W,bV t vn g W->Calls Tryz.prog 137 #[.pointer (some ⟨g.s,0,none⟩),.int .i64 n] W (iS t vn g ((aI t).getD n default) W) from fun W h=>aRf t vn g n W (hg.mono (by omega)) h);generalize (aI t).getD n default=gg at *;obtain ⟨vals,many⟩:=gg;clear hx hn hs hb hgc hok hg hz hn0 hb1 e1 hk;go_enter Tryz.func93,Tryz.ntmps93;go_wp2_with fail
  go_region_held3 (fun w'=>w'.cell? ⟨gc,3,none⟩=some (.pointer (some ⟨g.s,0,none⟩))∧w'.cell? ⟨b,o+7,none⟩=some (.slice (some ⟨b1,o1,none⟩) x.kids.length a.kc)∧w'.cell? ⟨b1,o1,none⟩=some (.int .i64 n))
   (first
    | go_keep
    | (go_split_ands
       exact ⟨kX hfr HGC.out ‹_›,kX hfr HB.out.1 ‹_›,kX hfr HB1.out.1 ‹_›⟩)
    | (go_split_ands
       exact ⟨bG hfr HGC.out ‹_›,bG hfr HB.out.1 ‹_›,bG hfr HB1.out.1 ‹_›⟩))
   (first
    | (go_at_call 137;refine (HOF.out _ (HS.out.ext (Ext.refl _).drew')).mono ?_;rintro e w1 ⟨A,c,rfl,hv,hfr,hs1⟩))
  have HFR:=aV4 ((Fr.refl g.M w).drew.trans hfr);have HV:=aV4 hv;have HS1:=aV4 hs1;have d6:=bG HFR.out HB.out.1 HN.out.c6;have HVL:=aV4 (HX.out.values.carry (aD.of_fr HFR.out (fun b h=>h.1)) (fun _ _ h=>h));clear hv hfr hs1
  cases many
  ·go_wp2_with fail
   refine (uI vals x.values g.Q g.Q _ _ _ HV.out HVL.out).mono ?_;rintro e w2 ⟨rfl,hx2⟩;have HX2:=aV4 hx2;clear hx2;generalize eG vals x.values=bb at *
   cases bb
   ·go_wp2_with fail
    go_ret;exact ⟨aM (by rw [HQ.out];rfl),HFR.out.trans (Fr.of_ext HX2.out),HS1.out.ext HX2.out⟩
   ·go_wp2_with fail
    go_ret;exact ⟨aM (by rw [HQ.out];rfl),HFR.out.trans (Fr.of_ext HX2.out),HS1.out.ext HX2.out⟩
  ·go_wp2_with fail
   go_ret;exact ⟨aM (by rw [HQ.out];rfl),HFR.out,HS1.out⟩
 ·have t4:(x.kind != 4)=true:=bne_iff_ne.2 hk
  have HQ:=aV4 (show nN t x=0 by unfold nN;rw [if_neg hk]);clear hx hn hs hb hgc hok hg;go_enter Tryz.func93,Tryz.ntmps93;go_wp2_with fail;go_ret;exact ⟨aM HQ.out.symm,Fr.refl _ _,HS.out⟩
theorem lH {a b:List Int}:∀ {zs:List Int}{s:Int},(∀ z ∈ zs,a.getD z.toNat 0=b.getD z.toNat 0)->bZ a s zs=bZ b s zs
 | [],_,_=>rfl
 | z :: zs,s,h=>by simp only [bZ];rw [h z (by simp),lH (fun y hy=>h y (by simp [hy]))]
theorem fU {a b:List Int}{ch:Bool}:∀ {zs:List Int}{i:Nat}{m:Int},(∀ z ∈ zs,a.getD z.toNat 0=b.getD z.toNat 0)->aL a ch i m zs=aL b ch i m zs
 | [],_,_,_=>rfl
 | z :: zs,i,m,h=>by simp only [aL];rw [h z (by simp),fU (fun y hy=>h y (by simp [hy]))]
theorem aBm {a b:List Int}{j:Nat}{x:GN}(hn:dP j x)(h:∀ z ∈ x.kids,a.getD z.toNat 0=b.getD z.toNat 0):fQ a x=fQ b x:=by
 unfold fQ;rw [lH h,fU h,fU h]
 by_cases k4:x.kind=4
 ·have:=hn.bind k4
  rw [h _ (aG (d:=0) (by omega))]
 ·have hk:=hn.kind
  by_cases h0:x.kind=0
  ·simp [h0]
  ·by_cases h1:x.kind=1
   ·simp [h1]
   ·by_cases h3:x.kind=3
    ·simp [h3]
    ·simp [show x.kind=2 by omega]
theorem xR {a b:List Int}{x:GN}(h:∀ z ∈ x.kids,a.getD z.toNat 0=b.getD z.toNat 0):fZ a x=fZ b x:=by
 unfold fZ;rw [lH h,fU h,fU h]
theorem vL {a b:List Int}{k i:Nat}(h:a.take k=b.take k)(hi:i<k):a.getD i 0=b.getD i 0:=by
 have:(a.take k)[i]?=(b.take k)[i]?:=by rw [h]
 simp only [List.getElem?_take,hi,if_true] at this;simp [List.getD,this]
section
variable {t:List GN}{k:Nat}{ls zs:List Int}
theorem xO (hk:k<t.length)(hn:dP k (t.getD k default))(hl:ls.take k=(aT t).take k):fQ ls (t.getD k default)=(aT t).getD k 0:=by
 rw [tW hk]
 exact aBm hn (fun z hz=>by
  have hz':=hn.kids z hz;rw [zO hk hz'];exact vL hl (by omega))
theorem yZ (hg:bJ t k)(hs:oA t)(hk:k<t.length)(hn:dP k (t.getD k default))(hl:zs.take k=(bP t).take k) :
  fZ zs (t.getD k default)=(bP t).getD k 0∨((t.getD k default).kind=4∧(t.getD k default).values=[]∧fZ zs (t.getD k default)=1∧(bP t).getD k 0=0):=by
 have e:fZ zs (t.getD k default)=fZ (bP (t.take k)) (t.getD k default):=xR (fun z hz=>by
  have hz':=hn.kids z hz;rw [jU hk hz'];exact vL hl (by omega))
 rw [e,lR hk];exact oZ hn (fun z h1 h2=>by rw [jU hk ⟨h1,h2⟩];exact (sY hg hs z.toNat (by omega)).1)
theorem aNh {i:Int}{x:GN}(h:(cQ x && dG i x)=false):iF i x=1:=by rw [rU,if_pos h]
theorem xX {i:Int}{x:GN}(h:(cQ x && dG i x)=true):iF i x=if gU x=0 then (if bM x then 0 else 5) else gU x:=by rw [rU,if_neg (by rw [h];decide)]
theorem aAg (h:(cQ (t.getD k default) && dG k (t.getD k default))=false):cV t k=1:=by
 unfold cV;rw [aNh h]
 rfl
theorem aE6 (h:(cQ (t.getD k default) && dG k (t.getD k default))=true)(hp:¬ gU (t.getD k default)=0):cV t k=gU (t.getD k default):=by
 unfold cV;rw [xX h,if_neg hp,if_neg hp]
theorem aN2 (h:(cQ (t.getD k default) && dG k (t.getD k default))=true)(hp:gU (t.getD k default)=0)(hn:bM (t.getD k default)=false):cV t k=5:=by
 unfold cV;rw [xX h,if_pos hp,hn]
 rfl
theorem aIh (h:(cQ (t.getD k default) && dG k (t.getD k default))=true)(hp:gU (t.getD k default)=0)(hn:bM (t.getD k default)=true):dP k (t.getD k default):=by
 rw [<- kM,xX h,if_pos hp,if_pos hn]
theorem aIg (hg:bJ t k)(hs:oA t)(hk:k<t.length)(hn:dP k (t.getD k default))(hl:ls.take k=(aT t).take k)(hz:zs.take k=(bP t).take k) :
  cV t k=if (decide (fQ ls (t.getD k default)<=256) && decide (fZ zs (t.getD k default)<=1024))=false then 4 else nN t (t.getD k default):=by
 unfold cV;rw [if_pos (kM.2 hn),xO hk hn hl]
 have hc:(256<(aT t).getD k 0∨1024<(bP t).getD k 0) ↔ (decide ((aT t).getD k 0<=256) && decide (fZ zs (t.getD k default)<=1024))=false:=by
  rw [Bool.and_eq_false_iff,decide_eq_false_iff_not,decide_eq_false_iff_not];rcases yZ hg hs hk hn hz with h | ⟨_,_,h1,h2⟩
  ·rw [h];omega
  ·rw [h1,h2];omega
 by_cases h:(256<(aT t).getD k 0∨1024<(bP t).getD k 0)
 ·rw [if_pos h,if_pos (hc.1 h)]
 ·rw [if_neg h,if_neg (fun h'=>h (hc.2 h'))]
  rfl
theorem aAf (hg:bJ t k)(hk:k<t.length)(hc:cV t k=0):bJ t (k+1):=⟨by omega,hg.2.1,fun j hj=>by
 rcases Nat.lt_or_eq_of_le (Nat.le_of_lt_succ hj) with h | h
 ·exact hg.2.2 j h
 ·rw [h];exact hc⟩
theorem zC {a b:List Int}{i:Nat}{v:Int}(h:a.take i=b.take i)(ha:i<a.length)(hb:i<b.length)(hv:v=b.getD i 0):(a.set i v).take (i+1)=b.take (i+1):=by
 rw [aZ 0 hb,<- hv,List.take_succ_eq_append_getElem (by simpa using ha),List.take_set_of_le (Nat.le_refl _),h];simp
theorem aAe (_:bJ t k)(hk:k<t.length)(hc:cV t k=0)(hl:ls.take k=(aT t).take k)(hll:ls.length=t.length):(ls.set k (fQ ls (t.getD k default))).take (k+1)=(aT t).take (k+1):=by
 refine zC hl (by omega) (by unfold aT;rw [eM];simpa using hk) ?_;exact xO hk (mI.1 hc).node hl
theorem aE5 (hg:bJ t k)(hs:oA t)(hk:k<t.length)(hc:cV t k=0)(hl:zs.take k=(bP t).take k)(hll:zs.length=t.length):(zs.set k (fZ zs (t.getD k default))).take (k+1)=(bP t).take (k+1):=by
 refine zC hl (by omega) (by unfold bP;rw [eM];simpa using hk) ?_;rcases yZ hg hs hk (mI.1 hc).node hl with h | ⟨h4,hv,_⟩
 ·exact h
 ·have:=(fE (aAf hg hk hc) (Nat.lt_succ_self k)).2.2 h4
  rw [hv] at this;simp at this
theorem rP (hk:k<t.length)(h:bW t=dB t k (t.length - k)):bW t=if cV t k=0 then dB t (k+1) (t.length - (k+1)) else cV t k:=by
 have e:t.length - k=(t.length - (k+1))+1:=by omega
 rw [h,e]
 rfl
theorem iI (hk:k<t.length)(h:bW t=dB t k (t.length - k)){r:Int}(hc:cV t k=r)(hr:¬ r=0):bW t=r:=by
 rw [rP hk h,if_neg (by rw [hc];exact hr),hc]
end
theorem aCx {a:List Int}(ha:∀ x ∈ a,I64 x)(x:GN):I64 (fZ a x):=by
 have h1:I64 1:=by unfold I64;omega
 unfold fZ
 split
 ·exact tG _
 ·split
  ·exact kB _ _ _ h1
  ·split
   ·exact kN _ ha _ _ _ _ h1
   ·split
    ·exact kN _ ha _ _ _ _ h1
    ·exact h1
theorem oI {a:List Int}(_:∀ x ∈ a,I64 x)(x:GN):I64 (fQ a x):=by
 have h0:I64 0:=by unfold I64;omega
 have h1:I64 1:=by unfold I64;omega
 unfold fQ
 split
 ·exact h0
 ·split
  ·exact h1
  ·split
   ·exact kB _ _ _ h0
   ·split
    ·exact oD _
    ·exact oD _
theorem pB {a:List Int}(ha:∀ x ∈ a,I64 x){i:Nat}{v:Int}(hv:I64 v):∀ x ∈ a.set i v,I64 x:=fun x hx=>by
 rcases List.mem_or_eq_of_mem_set hx with h | h
 ·exact ha x h
 ·rw [h];exact hv
end Go.Proofs.YtkoeecdjijfjnaaGreat
