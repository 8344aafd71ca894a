/- Contracts and laws. Conditions: none. -/
import Derived.BigGuardPart
import Derived.Test.YtkoeecdjijfjnaaGreatDoorPlL
import Derived.Test.YtkoeecdjijfjnaaGreatDoorG3
import Derived.Test.YtkoeecdjijfjnaaGreatDoorH1
set_option linter.all false
set_option maxRecDepth 100000
set_option maxHeartbeats 8000000
namespace Go.Proofs.YtkoeecdjijfjnaaGreatDoor
open Go.RowKit
theorem Ex (x:GN)(a:NA)(b o:Nat)(w:World)(hn:aR w b o x a)(hk:x.kind=0) :
  qg 69 #[qt b o] w (dE (cT x) w):=by
 have HS:=aYf (show cT x=(decide (0<=x.kind) && decide (x.kind<=4) && (decide (x.kind=0) || decide (cS x.value cX=0)) && (decide (x.kind=1) || (decide (x.lo=0) && decide (x.hi=0))) &&
 (decide (x.kind=2) || (decide (x.weights.length=0) && decide (x.labels.length=0))) && (decide (x.kind=3) || bF x.name) && (decide (x.kind=4) || decide (x.values.length=0)) &&
 ((!decide (x.kind=0) && !decide (x.kind=1)) || decide (x.kids.length=0))) from rfl)
 have c0:=hn.c0;have c1:=hn.c1;have c2:=hn.c2;have c3:=hn.c3;have c4:=hn.c4;have c5:=hn.c5;have c6:=hn.c6;have c7:=hn.c7;clear hn;generalize cT x=cb at *;generalize x.weights.length=nw at *;generalize x.labels.length=nl at *;generalize x.values.length=nv at *;generalize x.kids.length=nk at *;generalize x.kind=k at *;generalize x.lo=lo at *;generalize x.hi=hi at *;generalize x.name=nm at *;subst hk;go_enter Tryz.func69,Tryz.ntmps69;go_upto_region 2 with fail;simp only [List.append];go_wp2_with fail
 all_goals
  go_ret;refine ⟨aD ?_,aq _⟩;rw [HS.out];clear HS c0 c1 c2 c3 c4 c5 c6 c7;rw [Bool.eq_iff_iff]
  simp_all [bF]
  try omega
theorem CR (x:GN)(a:NA)(b o:Nat)(w:World)(hn:aR w b o x a)(hk:x.kind<0) :
  qg 69 #[qt b o] w (dE (cT x) w):=by
 have HS:=aYf (show cT x=(decide (0<=x.kind) && decide (x.kind<=4) && (decide (x.kind=0) || decide (cS x.value cX=0)) && (decide (x.kind=1) || (decide (x.lo=0) && decide (x.hi=0))) &&
 (decide (x.kind=2) || (decide (x.weights.length=0) && decide (x.labels.length=0))) && (decide (x.kind=3) || bF x.name) && (decide (x.kind=4) || decide (x.values.length=0)) &&
 ((!decide (x.kind=0) && !decide (x.kind=1)) || decide (x.kids.length=0))) from rfl)
 have c0:=hn.c0;clear hn;generalize cT x=cb at *;generalize x.weights.length=nw at *;generalize x.labels.length=nl at *;generalize x.values.length=nv at *;generalize x.kids.length=nk at *;generalize x.kind=k at *;generalize x.lo=lo at *;generalize x.hi=hi at *;generalize x.name=nm at *;go_enter Tryz.func69,Tryz.ntmps69;go_upto_region 2 with fail;simp only [List.append];go_wp2_with fail
 all_goals (try exact absurd ‹0<=k› I)
 all_goals
  refine bodyPost_ret (v:=false) (by simp [results,Tryz.results69,go_sem]) rfl ⟨aD ?_,aq _⟩;rw [HS.out];clear HS c0;rw [Bool.eq_iff_iff]
  simp_all [bF]
  try omega
theorem GO (x:GN)(a:NA)(b o:Nat)(w:World)(hn:aR w b o x a)(hk:4<x.kind) :
  qg 69 #[qt b o] w (dE (cT x) w):=by
 have HS:=aYf (show cT x=(decide (0<=x.kind) && decide (x.kind<=4) && (decide (x.kind=0) || decide (cS x.value cX=0)) && (decide (x.kind=1) || (decide (x.lo=0) && decide (x.hi=0))) &&
 (decide (x.kind=2) || (decide (x.weights.length=0) && decide (x.labels.length=0))) && (decide (x.kind=3) || bF x.name) && (decide (x.kind=4) || decide (x.values.length=0)) &&
 ((!decide (x.kind=0) && !decide (x.kind=1)) || decide (x.kids.length=0))) from rfl)
 have c0:=hn.c0;clear hn;generalize cT x=cb at *;generalize x.weights.length=nw at *;generalize x.labels.length=nl at *;generalize x.values.length=nv at *;generalize x.kids.length=nk at *;generalize x.kind=k at *;generalize x.lo=lo at *;generalize x.hi=hi at *;generalize x.name=nm at *;go_enter Tryz.func69,Tryz.ntmps69;go_upto_region 2 with fail;simp only [List.append];go_wp2_with fail
 all_goals (try exact absurd ‹k<=4› I)
 all_goals
  refine bodyPost_ret (v:=false) (by simp [results,Tryz.results69,go_sem]) rfl ⟨aD ?_,aq _⟩;rw [HS.out];clear HS c0;rw [Bool.eq_iff_iff]
  simp_all [bF]
  try omega
theorem Jg (x:GN)(a:NA)(b o:Nat)(P:Nat->Prop)(w:World)(hn:aR w b o x a)(hx:NAt w P x a)(hk:x.kind=1) :
  qg 69 #[qt b o] w (dE (cT x) w):=by
 have HS:=aYf (show cT x=(decide (0<=x.kind) && decide (x.kind<=4) && (decide (x.kind=0) || decide (cS x.value cX=0)) && (decide (x.kind=1) || (decide (x.lo=0) && decide (x.hi=0))) &&
 (decide (x.kind=2) || (decide (x.weights.length=0) && decide (x.labels.length=0))) && (decide (x.kind=3) || bF x.name) && (decide (x.kind=4) || decide (x.values.length=0)) &&
 ((!decide (x.kind=0) && !decide (x.kind=1)) || decide (x.kids.length=0))) from rfl)
 have HC:=aYf (bT x.value cX a.xA none a.xc 0 P P w hx.value (VAt.zero _ _))
 have HN:=aYf (show ∀ w',Ext w w'->qc w' b (o+1) x.name∧qc w' b (o+2) x.lo∧qc w' b (o+3) x.hi∧qc w' b (o+4) (.slice a.wA x.weights a.wc) ∧
  qc w' b (o+5) (.slice a.lA x.labels a.lc)∧qc w' b (o+6) (.slice a.vA x.values a.vc)∧w'.cell? (qt b (o+7))=some (.slice a.kA x.kids a.kc) from fun w' h=>⟨(hn.ext h).c1,(hn.ext h).c2,(hn.ext h).c3,(hn.ext h).c4,(hn.ext h).c5,(hn.ext h).c6,(hn.ext h).c7⟩)
 have c0:=hn.c0;have c8:=hn.c8;have c9:=hn.c9;have c10:=hn.c10;have c11:=hn.c11;clear hn hx;generalize cT x=cb at *;generalize x.weights.length=nw at *;generalize x.labels.length=nl at *;generalize x.values.length=nv at *;generalize x.kids.length=nk at *;generalize x.kind=k at *;generalize x.lo=lo at *;generalize x.hi=hi at *;generalize x.name=nm at *;subst hk;go_enter Tryz.func69,Tryz.ntmps69;go_upto_region 2 with fail;simp only [List.append];go_wp2_with fail;refine HC.out.mono ?_;rintro e w1 ⟨rfl,hx1⟩;have HX1:=aYf hx1;obtain ⟨c1,c2,c3,c4,c5,c6,c7⟩:=HN.out w1 hx1;clear hx1 c0 c8 c9 c10 c11;generalize cS x.value cX=cz at *;go_wp2_with fail
 all_goals
  go_ret;refine ⟨aD ?_,HX1.out⟩;rw [HS.out];clear HS HC HN HX1 c1 c2 c3 c4 c5 c6 c7;rw [Bool.eq_iff_iff]
  simp_all [bF]
  try omega
theorem LY (x:GN)(a:NA)(b o:Nat)(P:Nat->Prop)(w:World)(hn:aR w b o x a)(hx:NAt w P x a)(hk:x.kind=2) :
  qg 69 #[qt b o] w (dE (cT x) w):=by
 have HS:=aYf (show cT x=(decide (0<=x.kind) && decide (x.kind<=4) && (decide (x.kind=0) || decide (cS x.value cX=0)) && (decide (x.kind=1) || (decide (x.lo=0) && decide (x.hi=0))) &&
 (decide (x.kind=2) || (decide (x.weights.length=0) && decide (x.labels.length=0))) && (decide (x.kind=3) || bF x.name) && (decide (x.kind=4) || decide (x.values.length=0)) &&
 ((!decide (x.kind=0) && !decide (x.kind=1)) || decide (x.kids.length=0))) from rfl)
 have HC:=aYf (bT x.value cX a.xA none a.xc 0 P P w hx.value (VAt.zero _ _))
 have HN:=aYf (show ∀ w',Ext w w'->qc w' b (o+1) x.name∧qc w' b (o+2) x.lo∧qc w' b (o+3) x.hi∧qc w' b (o+4) (.slice a.wA x.weights a.wc) ∧
  qc w' b (o+5) (.slice a.lA x.labels a.lc)∧qc w' b (o+6) (.slice a.vA x.values a.vc)∧w'.cell? (qt b (o+7))=some (.slice a.kA x.kids a.kc) from fun w' h=>⟨(hn.ext h).c1,(hn.ext h).c2,(hn.ext h).c3,(hn.ext h).c4,(hn.ext h).c5,(hn.ext h).c6,(hn.ext h).c7⟩)
 have c0:=hn.c0;have c8:=hn.c8;have c9:=hn.c9;have c10:=hn.c10;have c11:=hn.c11;clear hn hx;generalize cT x=cb at *;generalize x.weights.length=nw at *;generalize x.labels.length=nl at *;generalize x.values.length=nv at *;generalize x.kids.length=nk at *;generalize x.kind=k at *;generalize x.lo=lo at *;generalize x.hi=hi at *;generalize x.name=nm at *;subst hk;go_enter Tryz.func69,Tryz.ntmps69;go_upto_region 2 with fail;simp only [List.append];go_wp2_with fail;refine HC.out.mono ?_;rintro e w1 ⟨rfl,hx1⟩;have HX1:=aYf hx1;obtain ⟨c1,c2,c3,c4,c5,c6,c7⟩:=HN.out w1 hx1;clear hx1 c0 c8 c9 c10 c11;generalize cS x.value cX=cz at *;go_wp2_with fail
 all_goals
  go_ret;refine ⟨aD ?_,HX1.out⟩;rw [HS.out];clear HS HC HN HX1 c1 c2 c3 c4 c5 c6 c7;rw [Bool.eq_iff_iff]
  simp_all [bF]
  try omega
theorem IF (x:GN)(a:NA)(b o:Nat)(P:Nat->Prop)(w:World)(hn:aR w b o x a)(hx:NAt w P x a)(hk:x.kind=3) :
  qg 69 #[qt b o] w (dE (cT x) w):=by
 have HS:=aYf (show cT x=(decide (0<=x.kind) && decide (x.kind<=4) && (decide (x.kind=0) || decide (cS x.value cX=0)) && (decide (x.kind=1) || (decide (x.lo=0) && decide (x.hi=0))) &&
 (decide (x.kind=2) || (decide (x.weights.length=0) && decide (x.labels.length=0))) && (decide (x.kind=3) || bF x.name) && (decide (x.kind=4) || decide (x.values.length=0)) &&
 ((!decide (x.kind=0) && !decide (x.kind=1)) || decide (x.kids.length=0))) from rfl)
 have HC:=aYf (bT x.value cX a.xA none a.xc 0 P P w hx.value (VAt.zero _ _))
 have HN:=aYf (show ∀ w',Ext w w'->qc w' b (o+1) x.name∧qc w' b (o+2) x.lo∧qc w' b (o+3) x.hi∧qc w' b (o+4) (.slice a.wA x.weights a.wc) ∧
  qc w' b (o+5) (.slice a.lA x.labels a.lc)∧qc w' b (o+6) (.slice a.vA x.values a.vc)∧w'.cell? (qt b (o+7))=some (.slice a.kA x.kids a.kc) from fun w' h=>⟨(hn.ext h).c1,(hn.ext h).c2,(hn.ext h).c3,(hn.ext h).c4,(hn.ext h).c5,(hn.ext h).c6,(hn.ext h).c7⟩)
 have c0:=hn.c0;have c8:=hn.c8;have c9:=hn.c9;have c10:=hn.c10;have c11:=hn.c11;clear hn hx;generalize cT x=cb at *;generalize x.weights.length=nw at *;generalize x.labels.length=nl at *;generalize x.values.length=nv at *;generalize x.kids.length=nk at *;generalize x.kind=k at *;generalize x.lo=lo at *;generalize x.hi=hi at *;generalize x.name=nm at *;subst hk;go_enter Tryz.func69,Tryz.ntmps69;go_upto_region 2 with fail;simp only [List.append];go_wp2_with fail;refine HC.out.mono ?_;rintro e w1 ⟨rfl,hx1⟩;have HX1:=aYf hx1;obtain ⟨c1,c2,c3,c4,c5,c6,c7⟩:=HN.out w1 hx1;clear hx1 c0 c8 c9 c10 c11;generalize cS x.value cX=cz at *;go_wp2_with fail
 all_goals
  go_ret;refine ⟨aD ?_,HX1.out⟩;rw [HS.out];clear HS HC HN HX1 c1 c2 c3 c4 c5 c6 c7;rw [Bool.eq_iff_iff]
  simp_all [bF]
  try omega
theorem Fy (x:GN)(a:NA)(b o:Nat)(P:Nat->Prop)(w:World)(hn:aR w b o x a)(hx:NAt w P x a)(hk:x.kind=4) :
  qg 69 #[qt b o] w (dE (cT x) w):=by
 have HS:=aYf (show cT x=(decide (0<=x.kind) && decide (x.kind<=4) && (decide (x.kind=0) || decide (cS x.value cX=0)) && (decide (x.kind=1) || (decide (x.lo=0) && decide (x.hi=0))) &&
 (decide (x.kind=2) || (decide (x.weights.length=0) && decide (x.labels.length=0))) && (decide (x.kind=3) || bF x.name) && (decide (x.kind=4) || decide (x.values.length=0)) &&
 ((!decide (x.kind=0) && !decide (x.kind=1)) || decide (x.kids.length=0))) from rfl)
 have HC:=aYf (bT x.value cX a.xA none a.xc 0 P P w hx.value (VAt.zero _ _))
 have HN:=aYf (show ∀ w',Ext w w'->qc w' b (o+1) x.name∧qc w' b (o+2) x.lo∧qc w' b (o+3) x.hi∧qc w' b (o+4) (.slice a.wA x.weights a.wc) ∧
  qc w' b (o+5) (.slice a.lA x.labels a.lc)∧qc w' b (o+6) (.slice a.vA x.values a.vc)∧w'.cell? (qt b (o+7))=some (.slice a.kA x.kids a.kc) from fun w' h=>⟨(hn.ext h).c1,(hn.ext h).c2,(hn.ext h).c3,(hn.ext h).c4,(hn.ext h).c5,(hn.ext h).c6,(hn.ext h).c7⟩)
 have c0:=hn.c0;have c8:=hn.c8;have c9:=hn.c9;have c10:=hn.c10;have c11:=hn.c11;clear hn hx;generalize cT x=cb at *;generalize x.weights.length=nw at *;generalize x.labels.length=nl at *;generalize x.values.length=nv at *;generalize x.kids.length=nk at *;generalize x.kind=k at *;generalize x.lo=lo at *;generalize x.hi=hi at *;generalize x.name=nm at *;subst hk;go_enter Tryz.func69,Tryz.ntmps69;go_upto_region 2 with fail;simp only [List.append];go_wp2_with fail;refine HC.out.mono ?_;rintro e w1 ⟨rfl,hx1⟩;have HX1:=aYf hx1;obtain ⟨c1,c2,c3,c4,c5,c6,c7⟩:=HN.out w1 hx1;clear hx1 c0 c8 c9 c10 c11;generalize cS x.value cX=cz at *;go_wp2_with fail
 all_goals
  go_ret;refine ⟨aD ?_,HX1.out⟩;rw [HS.out];clear HS HC HN HX1 c1 c2 c3 c4 c5 c6 c7;rw [Bool.eq_iff_iff]
  simp_all [bF]
  try omega
theorem L8 (x:GN)(a:NA)(b o:Nat)(P:Nat->Prop)(w:World)(hn:aR w b o x a)(hx:NAt w P x a) :
  qg 69 #[qt b o] w (dE (cT x) w):=by
 by_cases h:x.kind<0
 ·exact CR x a b o w hn h
 by_cases h':4<x.kind
 ·exact GO x a b o w hn h'
 have hc:x.kind=0∨x.kind=1∨x.kind=2∨x.kind=3∨x.kind=4:=I;rcases hc with hk | hk | hk | hk | hk
 ·exact Ex x a b o w hn hk
 ·exact Jg x a b o P w hn hx hk
 ·exact LY x a b o P w hn hx hk
 ·exact IF x a b o P w hn hx hk
 ·exact Fy x a b o P w hn hx hk
def FX (i:Nat)(x:GN)(W:World)(k:Value)(wr:World):Prop:=∃ j:Nat,j<=x.kids.length∧k=↑j∧W=wr∧dI i x=((x.kids.drop j).all (fun z=>!fmK i z) && pT x)
def H0 (x:GN)(W:World)(k:Value)(wr:World):Prop:=∃ j:Nat,1<=j∧j<=x.values.length+1∧k=↑j∧Ext W wr∧qM x.values=qM (x.values.drop (j - 1))
theorem C8 (t:List GN)(i:Nat)(P:Nat->Prop)(gc:Nat)(vn:Value)(w:World)(hP:∀ b,P b->b<w)(ht:Nds w P vn t)(hi:i<t)(h0:qc w gc 0 vn)(hil:i<=100000) :
  qg 70 #[qp gc,↑i] w (dE (dI i (t.getD i default)) w):=by
 obtain ⟨An,cn,en,hn1,hn2⟩:=ht.form;subst en;obtain ⟨b,off,a,rfl,hPb,hx,hn⟩:=ht.get hi;generalize hg:t.getD i default=x at *;clear hg;have HP:=aYf hP;have HX:=aYf hx;have HS:=aYf (show dI i x=(x.kids.all (fun z=>!fmK i z) && pT x) from rfl)
 have HK:=aYf (show pT x=(if x.kind=2 then decide (1<=x.kids.length) && decide (x.kids.length<=256) && decide (x.weights.length=x.kids) && (decide (x.labels.length=0) || decide (x.labels.length=x.kids))
  else if x.kind=3 then (if bF x.name then decide (x.kids.length<=256) else decide (x.kids.length<=16) && decide (eW (.mk 3 0 x.name [])=0))
  else if x.kind=4 then qM x.values && decide (x.kids.length=x.values+1) else true) from rfl)
 obtain ⟨hkl,hkc⟩:=hx.kids.le;obtain ⟨hvl,hvc⟩:=hx.values.le;have hlo:(i:Int)<(t:Int):=by omega
 have c0:=hn.c0;have c1:=hn.c1;have c4:=hn.c4;have c5:=hn.c5;have c6:=hn.c6;have c7:=hn.c7;have HKI:=aYf hx.kids;clear hx hn ht hP;generalize a.kA=Ak at *;generalize a.kc=kc at *;go_enter Tryz.func70,Tryz.ntmps70;go_wp2_with fail;go_loopw [26] (fun k wr=>FX i x w k wr) (fun k _=>x.kids.length - (intOf k).toNat)
 case atStart=>exact ⟨0,af _,rfl,rfl,HS.out⟩
 case round =>
  obtain ⟨j,hj,rfl,rfl,hT⟩:=hrel;have HT:=aYf hT;clear hT;by_cases hlt:j<x.kids
  ·obtain ⟨b1,o1,rfl,-,-,g1⟩:=HKI.out.get hlt
   have HD:=aYf (show dI i x=(!fmK i (x.kids.getD j 0) && (x.kids.drop (j+1)).all (fun z=>!fmK i z) && pT x) by rw [HT.out,aJ 0 hlt];rfl);generalize x.kids.getD j 0=z at *;by_cases hz1:z<0
   ·have HF:=aYf (show fmK i z=true by unfold fmK;rw [aYi hz1];rfl)
    have tz1:decide (z<0)=true:=aYi hz1;go_wp2_with fail;go_ret;exact ⟨aD ju,aq _⟩
   ·have tz1:decide (z<0)=false:=aYj hz1
    by_cases hz2:(i:Int)<=z
    ·have HF:=aYf (show fmK i z=true by unfold fmK;rw [aYi hz2];simp)
     go_wp2_with fail;go_ret;exact ⟨aD ju,aq _⟩
    ·have HF:=aYf (show fmK i z=false by unfold fmK;rw [aYj hz2,aYj hz1];rfl)
     go_wp2_with fail;go_roundw
     case rel=>exact ⟨j+1,I,by go_num,rfl,ju⟩
     case measure=>simp [intOf];omega
  ·have HU:=aYf (show dI i x=pT x by rw [HT.out,drop_nil I];rfl)
   clear HT HKI;by_cases k2:x.kind=2
   ·have HR:=aYf (show dI i x=(decide (1<=x.kids.length) && decide (x.kids.length<=256) && decide (x.weights.length=x.kids) && (decide (x.labels.length=0) || decide (x.labels.length=x.kids))) by rw [HU.out,HK.out,if_pos k2])
    have t2:(x.kind == 2)=true:=aYh k2;clear k2;generalize x.weights.length=nw at *;generalize x.labels.length=nl at *;generalize x.kids.length=nk at *;go_wp2_with fail
    all_goals
     go_ret;refine ⟨aD ?_,aq _⟩;rw [HR.out];clear HR HU HK HS HX c0 c1 c4 c5 c6 c7 h0;rw [Bool.eq_iff_iff]
     simp_all
     try omega
   ·have t2:(x.kind == 2)=false:=aYg k2
    by_cases k3:x.kind=3
    ·have t3:(x.kind == 3)=true:=aYh k3
     have HR:=aYf (show dI i x=(if bF x.name then decide (x.kids.length<=256) else decide (x.kids.length<=16) && decide (eW (.mk 3 0 x.name [])=0)) by rw [HU.out,HK.out,if_neg k2,if_pos k3]);clear k2 k3;by_cases he:x.name.toList=[]
     ·have he1:x.name.toList.isEmpty=true:=by simp [he]
      have HE:=aYf (iF he);go_wp2_with fail
      all_goals
       go_ret;refine ⟨aD ?_,aq _⟩;rw [HR.out,HE.out];simp;try omega
     ·have he1:x.name.toList.isEmpty=false:=by simpa using he
      have HE:=aYf (iG he);by_cases hk16:x.kids.length<=16
      ·have t16:decide ((x.kids:Int)<=16)=true:=aYi I
       have hnm:=HX.out.name;go_wp2_with fail;refine (gN (.mk 3 0 x.name []) none 0 P _ HP.out ⟨jm,by unfold I64;simp [GV.n],hnm,dm,dm,⟨none,0,[],rfl,dm,dm,⟨dm,fun h=>by simp [GV.kids] at h⟩,by simp [GV.kids,RVs]⟩⟩).mono ?_;rintro e w1 ⟨rfl,hx1⟩;have HX1:=aYf hx1;clear hx1;generalize eW (.mk 3 0 x.name [])=vv at *;go_wp2_with fail
       all_goals
        go_ret;refine ⟨aD ?_,HX1.out⟩;rw [HR.out,HE.out];clear HR HU HK HS HX HP c0 c1 c4 c5 c6 c7 h0
        simp_all
        try rfl
      ·have t16:decide ((x.kids:Int)<=16)=false:=aYj I
       go_wp2_with fail
       all_goals
        go_ret;refine ⟨aD ?_,aq _⟩;rw [HR.out,HE.out];clear HR HU HK HS HX HP c0 c1 c4 c5 c6 c7 h0
        simp_all
        try omega
    ·have t3:(x.kind == 3)=false:=aYg k3
     by_cases k4:x.kind=4
     ·have t4:(x.kind == 4)=true:=aYh k4
      have HR:=aYf (show dI i x=(qM x.values && decide (x.kids.length=x.values+1)) by rw [HU.out,HK.out,if_neg k2,if_neg k3,if_pos k4]);have HVL:=aYf HX.out.values;clear k2 k3 k4 c1 c4 c5;generalize a.vA=Av at *;generalize a.vc=vc at *;go_wp2_with fail;go_loopw [9] (fun k wr=>H0 x w k wr) (fun k _=>x.values.length+1 - (intOf k).toNat)
      case atStart=>exact ⟨1,I,I,rfl,aq _,U⟩
      case round =>
       obtain ⟨j,hj1,hj2,rfl,hxr,ht⟩:=hrel;have HT:=aYf ht;have HXR:=aYf hxr;have hr6:=aA hxr c6;clear ht hxr;by_cases hlt':j<x.values
       ·obtain ⟨q,rfl⟩:∃ q,j=q+1:=⟨j - 1,I⟩
        have hq:q<x.values.length:=I;obtain ⟨v1,o1,A1,d1,e1,-,hv1,g10,g11,g12,g13⟩:=(HVL.out.ext HXR.out).get hq;obtain ⟨v2,o2,A2,d2,e2,-,hv2,g20,g21,g22,g23⟩:=(HVL.out.ext HXR.out).get hlt';subst e1;injection e2 with e2;injection e2 with e21 e22;subst e21 e22
        have HD:=aYf (show qM x.values=(decide (cS (x.values.getD q default) (x.values.getD (q+1) default)<0) && qM (x.values.drop (q+1))) by
         rw [HT.out,Nat.add_sub_cancel,aJ default hq,aJ default hlt'];rfl)
        have HV1:=aYf hv1;have HV2:=aYf hv2;clear hv1 hv2;generalize x.values.getD q default=y1 at *;generalize x.values.getD (q+1) default=y2 at *;go_upto_region 20 with fail;have hq1:(0:Int)<=(q:Int)+1:=by omega
        have hq2:((q:Int)+1).toNat=q+1:=I;have hq3:IntKind.i64.wrap ((q:Int)+1 - 1)=(q:Int):=by rw [IntWalk.i64_in _ I];omega
        have hq4:IntKind.i64.wrap (q:Int)=(q:Int):=IntWalk.i64_in _ I;go_still_tail 15,av;clear hq1 hq2 hq3 hq4;go_wp2_with fail;refine (bT y1 y2 A1 A2 d1 d2 P P _ (HV1.out.ext (aq _).drew') (HV2.out.ext (aq _).drew')).mono ?_;rintro e w2 ⟨rfl,hx2⟩;have HX2:=aYf (HXR.out.trans' ((aq _).drew'.trans' hx2));clear hx2;by_cases hz:cS y1 y2<0
        ·have tz:decide (0<=cS y1 y2)=false:=aYj I
         have HZ:=aYf hz;go_wp2_with fail;go_roundw
         case rel=>exact ⟨q+2,I,I,by go_num,HX2.out,ji⟩
         case measure=>simp [intOf];omega
        ·have tz:decide (0<=cS y1 y2)=true:=aYi I
         have HZ:=aYf hz;go_wp2_with fail;go_ret;exact ⟨aD (by rw [HR.out,HD.out,aYj (show ¬ cS y1 y2<0 by have:=HZ.out;omega)];simp),HX2.out⟩
       ·have HZ:=aYf (show qM x.values=true by rw [HT.out];exact nM iw)
        go_wp2_with fail
        all_goals
         go_ret;refine ⟨aD ?_,HXR.out⟩;rw [HR.out,HZ.out,Bool.eq_iff_iff];simp;try omega
     ·have t4:(x.kind == 4)=false:=aYg k4
      have HR:=aYf (show dI i x=true by rw [HU.out,HK.out,if_neg k2,if_neg k3,if_neg k4]);go_wp2_with fail;go_ret;exact ⟨aD HR.out.symm,aq _⟩
def nB (l:List Int):Array Value:=(l.map (Value.int .i64)).toArray
theorem iE {l:List Int}{i:Nat}(h:i<l):(nB l)[i]?=some (.int .i64 (l.getD i 0)):=by simp [nB,h]
theorem vR (l:List Int)(i:Nat)(v:Int):(nB l).setIfInBounds i (↑v)=nB (l.set i v):=by simp [nB,List.map_set]
theorem bL.of_blk {w:World}{g:Nat}{l:List Int}(h:Blk w g 3 (nB l))(hI:∀ x ∈ l,I64 x)(hl:l.length<=17592186044416):bL w (fun b=>b=g) (.slice (qp g) l l) l :=
 ⟨_,_,rfl,ab _,⟨hl,I⟩,hI,U,fun _=>⟨g,0,rfl,rfl,fun j u hu=>by rw [Nat.zero_add];exact h.cell' j (by simpa [nB] using hu)⟩⟩
def Cl (gl gz:Nat)(ls zs:List Int)(i:Nat)(l z:Int)(w:World)(e:Ending)(w':World):Prop :=
 e=.returned (decide (l<=256) && decide (z<=1024))∧Blk w' gl 3 (nB (ls.set i l))∧Blk w' gz 3 (nB (zs.set i z))∧Fr (fun b=>b=gl∨b=gz) w w'
def Da (zs:List Int)(x:GN)(W:World)(s k:Value)(wr:World):Prop:=∃ (j:Nat)(s1:Int),j<=x.kids∧k=↑j∧s=↑s1∧W=wr∧dO zs 1 x.kids=dO zs s1 (x.kids.drop j)
def zz (zs:List Int)(x:GN)(ch:Bool)(W:World)(s k:Value)(wr:World):Prop:=∃ (j:Nat)(s1:Int),j<=x.kids∧k=↑j∧s=↑s1∧W=wr∧bA zs ch 0 1 x.kids=bA zs ch j s1 (x.kids.drop j)
theorem jU {gl gz:Nat}{ls zs:List Int}{i:Nat}{l z:Int}{w W w2:World}(n3:gl ≠ gz)(hf:Fr (fun b=>b=gl∨b=gz) w W)(hb1:Blk W gl 3 (nB (ls.set i l)))(hb2:Blk W gz 3 (nB zs))(hx:Ext W w2){r:Bool}(hr:r=(decide (l<=256) && decide (z<=1024))) :
  Cl gl gz ls zs i l z w (.returned r) (w2.setCell (qt gz i) (↑z)):=by
 subst hr;refine ⟨rfl,(hb1.ext hx).far (p:=qt gz i) n3 _,?_,(hf.trans (ar hx)).setCell (p:=qt gz i) (.inl (.inr rfl)) _⟩;have:=(hb2.ext hx).set_ i (↑z);rw [vR] at this;exact this
theorem Ed (t:List GN)(i:Nat)(P:Nat->Prop)(gc gl gz gs:Nat)(vn:Value)(ls zs:List Int)(w:World)(hP:∀ b,P b->b<w∧b ≠ gl∧b ≠ gz)(ht:Nds w P vn t)(hi:i<t)
  (hc:Blk w gc 138 #[vn,.slice (qp gl) t t,.slice (qp gz) t t,qp gs])
  (hl:Blk w gl 3 (nB ls))(hz:Blk w gz 3 (nB zs))(hll:ls.length=t)(hzl:zs.length=t)(hI:∀ x ∈ ls,I64 x)(hZ:∀ x ∈ zs,I64 x)(n1:gc ≠ gl)(n2:gc ≠ gz)(n3:gl ≠ gz)
  (hok:cR i (t.getD i default))(hlen:t.length<=100000) :
  qg 73 #[qp gc,↑i] w (Cl gl gz ls zs i (gZ ls (t.getD i default)) (gA zs (t.getD i default)) w):=by
 obtain ⟨An,cn,en,hn1,hn2⟩:=ht.form;subst en;obtain ⟨b,off,a,rfl,hPb,hx,hn⟩:=ht.get hi;generalize hg:t.getD i default=x at *;clear hg;have HP:=aYf hP;have HX:=aYf hx;have HN:=aYf hn;have HC:=aYf hc;have HL:=aYf hl;have HZ:=aYf hz;have HLL:=aYf hll;have HZL:=aYf hzl;have HZI:=aYf hZ;have HPB:=aYf hPb;have HOK:=aYf (show cR ls x from ⟨hok.kind,hok.unused,fun z hz=>by have:=hok.kids z hz;omega,hok.choice,hok.seq,hok.bind,hok.inc,hok.valid,hok.numbers⟩);have HKI:=aYf hok.kids;have HSZ:=aYf (show gA zs x=if x.kind=0 then rsz x.value else if x.kind=3 then dO zs 1 x.kids else if x.kind=2 then bA zs true 0 1 x.kids else if x.kind=4 then bA zs false 0 1 x.kids else 1 from rfl);have N1:=aYf n1;have N2:=aYf n2;have N3:=aYf n3
 have HPL:=aYf (show ∀ W,Blk W gl 3 (nB ls)->aR W b (off+i*12) x a->NAt W P x a->Calls Tryz.prog 61 #[qt b (off+i*12),.slice (qp gl) t t] W fun e w'=>e=.returned (.int .i64 (gZ ls x))∧W=w' from fun W h1 h2 h3=>by
  have h4:=bL.of_blk h1 hI I;rw [hll] at h4;exact lC ls x a b (off+i*12) P _ _ W h2 h3 h4 HOK.out)
 obtain ⟨hkl,hkc⟩:=hx.kids.le;have hlo:(i:Int)<(t:Int):=by omega
 have k0:=hc.cell' (u:=.slice (qt b off) t cn) 0 rfl;have k1:=hc.cell' (u:=.slice (qp gl) t t) 1 rfl;have g1:=hl.cell' i (iE (l:=ls) I);have f1:=hl.frozen i;have m1:¬ gc=gl:=n1;clear hx hn ht hP hc hl hz hll hzl hI hZ n1 n2 n3 hok hPb;generalize ls.getD i 0=z0 at *;generalize gZ ls x=lr at *;go_enter Tryz.func73,Tryz.ntmps73;go_upto_region 2 with fail
 go_region_held3 (fun w'=>qc w' gc 1 (.slice (qp gl) t t))
  (first
   | exact fZ (w:=w) m1 k1
   | exact k1
   | go_keep)
  (first
   | (go_at_call 61;refine (HPL.out _ (HL.out.ext (aq _).drew') (HN.out.ext (aq _).drew') (HX.out.ext (aq _).drew')).mono ?_;rintro e w' ⟨rfl,rfl⟩))
 go_upto_region 3 with fail;have HWF:=aYf (((au (fun b=>b=gl∨b=gz) w).setCell (p:=qt gl i) (.inl (.inl rfl)) (↑lr)).drew)
 have HWL:=aYf (show Blk (w.setCell (qt gl i) (↑lr)).drew gl 3 (nB (ls.set i lr)) by
  have h:=(HL.out.set_ i (↑lr)).drew;rw [vR] at h;exact h)
 have HWZ:=aYf ((HZ.out.far (p:=qt gl i) (fun e=>N3.out e.symm) (↑lr)).drew);have HWC:=aYf ((HC.out.far (p:=qt gl i) N1.out (↑lr)).drew);have hkeep:aB P w (w.setCell (qt gl i) (↑lr)).drew:=aB.set (fun _ _ _=>rfl) _ (fun h=>(HP.out _ h).2.1 rfl);have HWX:=aYf (HX.out.carry hkeep (fun _ _ h=>h));have HWN:=aYf (HN.out.keep HPB.out hkeep);have HWP:=aYf (show ∀ b,P b->b<(w.setCell (qt gl i) (↑lr)).drew.heap.size from fun b hb=>ac (HP.out b hb).1 HWF.out.size);clear hkeep k0 k1 g1 f1 m1 HPL;generalize (w.setCell (qt gl i) (↑lr)).drew=W at *;have hzl:=HZL.out;have hll:=HLL.out
 have HT:=aYf (show ∀ w2,Ext W w2->qc w2 gc 1 (.slice (qp gl) t t)∧qc w2 gc 2 (.slice (qp gz) t t)∧qc w2 gl i lr ∧
   qc w2 gz i (.int .i64 (zs.getD i 0))∧w2.frozen? (qt gz i)=false from fun w2 h=>⟨(HWC.out.ext h).cell' 1 rfl,(HWC.out.ext h).cell' 2 rfl,(HWL.out.ext h).cell' i (by rw [iE bh];simp [List.getD,hll,hi]),(HWZ.out.ext h).cell' i (iE I),(HWZ.out.ext h).frozen i⟩)
 clear hzl hll;generalize zs.getD i 0=z1 at *;have c0:=HWN.out.c0;have c7:=HWN.out.c7;have c8:=HWN.out.c8;have c9:=HWN.out.c9;have c10:=HWN.out.c10;have c11:=HWN.out.c11;have q2:=(HT.out W (aq _)).2.1;have m3:¬ gl=gz:=N3.out;have m3':¬ gc=gz:=N2.out;have HKV:=aYf HWX.out.kids;have HGZ:=aYf (bL.of_blk HWZ.out HZI.out jd);by_cases k0:x.kind=0
 ·have t0:(x.kind == 0)=true:=aYh k0
  have HS2:=aYf (show gA zs x=rsz x.value by rw [HSZ.out,if_pos k0]);have HVS:=aYf (sB x.value a.xA a.xc P W HWP.out HWX.out.value);rw [KR] at HVS;generalize rsz x.value=sz at *;clear k0 c7 HSZ;go_wp2_with fail;refine HVS.out.mono ?_;rintro e w2 ⟨rfl,hx2⟩;have HX2:=aYf hx2;clear hx2 c0 c8 c9 c10 c11 q2;obtain ⟨e1,e2,e3,e4,e5⟩:=HT.out _ HX2.out;go_wp2_with fail
  all_goals
   go_ret;rw [HS2.out];exact jU N3.out HWF.out HWL.out HWZ.out HX2.out d8
 have t0:(x.kind == 0)=false:=aYg k0;clear c8 c9 c10 c11;by_cases k3:x.kind=3
 ·have t3:(x.kind == 3)=true:=aYh k3
  have HS2:=aYf (show gA zs x=dO zs 1 x.kids by rw [HSZ.out,if_neg k0,if_pos k3]);clear k0 k3 HSZ;generalize a.kA=Ak at *;generalize a.kc=kc at *;go_wp2_with fail;go_loopw [6,47] (fun s k wr=>Da zs x W s k wr) (fun _ k _=>x.kids.length - (intOf k).toNat)
  case atStart=>exact ⟨0,1,af _,rfl,rfl,rfl,rfl⟩
  case round =>
   obtain ⟨j,s1,hj,rfl,rfl,rfl,hT⟩:=hrel;have HTT:=aYf hT;clear hT;by_cases hlt:j<x.kids
   ·obtain ⟨b1,o1,rfl,-,-,g1⟩:=HKV.out.get hlt
    have hz:=HKI.out _ (aC (d:=0) hlt);have HD:=aYf (HTT.out.trans (by rw [aJ 0 hlt,dO]));generalize x.kids.getD j 0=z at *;obtain ⟨b2,o2,eb,-,-,g2⟩:=HGZ.out.get (i:=z.toNat) jd;injection eb with eb;injection eb with eb1 eb2;subst eb1 eb2;rw [Nat.zero_add] at g2;have hz2:z<(t:Int):=by omega
    generalize zs.getD z.toNat 0=y at *;go_wp2_with fail;go_roundw
    case rel=>exact ⟨j+1,_,I,by go_num,rfl,rfl,HD.out⟩
    case measure=>simp [intOf];omega
   ·have HD:=aYf (show dO zs 1 x.kids=s1 by rw [HTT.out,drop_nil I,dO])
    obtain ⟨e1,e2,e3,e4,e5⟩:=HT.out _ (aq _);go_wp2_with fail
    all_goals
     go_ret;rw [HS2.out,HD.out];exact jU N3.out HWF.out HWL.out HWZ.out (aq _) d8
 have t3:(x.kind == 3)=false:=aYg k3;by_cases k2:x.kind=2
 ·have t2:(x.kind == 2)=true:=aYh k2
  have HS2:=aYf (show gA zs x=bA zs true 0 1 x.kids by rw [HSZ.out,if_neg k0,if_neg k3,if_pos k2]);clear k0 k3 k2 HSZ;generalize a.kA=Ak at *;generalize a.kc=kc at *;go_wp2_with fail;go_loopw [6,69] (fun s k wr=>zz zs x true W s k wr) (fun _ k _=>x.kids.length - (intOf k).toNat)
  case atStart=>exact ⟨0,1,af _,rfl,rfl,rfl,rfl⟩
  case round =>
   obtain ⟨j,s1,hj,rfl,rfl,rfl,hT⟩:=hrel;have HTT:=aYf hT;clear hT;by_cases hlt:j<x.kids
   ·obtain ⟨b1,o1,rfl,-,-,g1⟩:=HKV.out.get hlt
    have hz:=HKI.out _ (aC (d:=0) hlt);have HD:=aYf (show bA zs true 0 1 x.kids=bA zs true (j+1) (if true=true∨0<j then (if s1<zs.getD (x.kids.getD j 0).toNat 0 then zs.getD (x.kids.getD j 0).toNat 0 else s1) else s1) (x.kids.drop (j+1)) by rw [HTT.out,aJ 0 hlt,bA]);generalize x.kids.getD j 0=z at *;obtain ⟨b2,o2,eb,-,-,g2⟩:=HGZ.out.get (i:=z.toNat) jd;injection eb with eb;injection eb with eb1 eb2;subst eb1 eb2;rw [Nat.zero_add] at g2;have hz2:z<(t:Int):=by omega
    generalize zs.getD z.toNat 0=y at *;by_cases hk0:0<j
    ·have tk:decide (0<(j:Int))=true:=aYi I
     go_wp2_with fail
     all_goals
      go_roundw
      case rel=>exact ⟨j+1,_,I,by go_num,rfl,rfl,eh⟩
      case measure=>simp [intOf];omega
    ·have tk:decide (0<(j:Int))=false:=aYj I
     go_wp2_with fail
     all_goals
      go_roundw
      case rel=>exact ⟨j+1,_,I,by go_num,rfl,rfl,by rw [HD.out,if_pos (.inl rfl)];try (first | rw [if_pos dz] | rw [if_neg I])⟩
      case measure=>simp [intOf];omega
   ·have HD:=aYf (show bA zs true 0 1 x.kids=s1 by rw [HTT.out,drop_nil I,bA])
    obtain ⟨e1,e2,e3,e4,e5⟩:=HT.out _ (aq _);go_wp2_with fail
    all_goals
     go_ret;rw [HS2.out,HD.out];exact jU N3.out HWF.out HWL.out HWZ.out (aq _) d8
 have t2:(x.kind == 2)=false:=aYg k2;by_cases k4:x.kind=4
 ·have t4:(x.kind == 4)=true:=aYh k4
  have HS2:=aYf (show gA zs x=bA zs false 0 1 x.kids by rw [HSZ.out,if_neg k0,if_neg k3,if_neg k2,if_pos k4]);clear k0 k3 k2 k4 HSZ;generalize a.kA=Ak at *;generalize a.kc=kc at *;go_wp2_with fail;go_loopw [6,69] (fun s k wr=>zz zs x false W s k wr) (fun _ k _=>x.kids.length - (intOf k).toNat)
  case atStart=>exact ⟨0,1,af _,rfl,rfl,rfl,rfl⟩
  case round =>
   obtain ⟨j,s1,hj,rfl,rfl,rfl,hT⟩:=hrel;have HTT:=aYf hT;clear hT;by_cases hlt:j<x.kids
   ·obtain ⟨b1,o1,rfl,-,-,g1⟩:=HKV.out.get hlt
    have hz:=HKI.out _ (aC (d:=0) hlt);have HD:=aYf (show bA zs false 0 1 x.kids=bA zs false (j+1) (if false=true∨0<j then (if s1<zs.getD (x.kids.getD j 0).toNat 0 then zs.getD (x.kids.getD j 0).toNat 0 else s1) else s1) (x.kids.drop (j+1)) by rw [HTT.out,aJ 0 hlt,bA]);generalize x.kids.getD j 0=z at *;obtain ⟨b2,o2,eb,-,-,g2⟩:=HGZ.out.get (i:=z.toNat) jd;injection eb with eb;injection eb with eb1 eb2;subst eb1 eb2;rw [Nat.zero_add] at g2;have hz2:z<(t:Int):=by omega
    generalize zs.getD z.toNat 0=y at *;by_cases hk0:0<j
    ·have tk:decide (0<(j:Int))=true:=aYi I
     go_wp2_with fail
     all_goals
      go_roundw
      case rel=>exact ⟨j+1,_,I,by go_num,rfl,rfl,eh⟩
      case measure=>simp [intOf];omega
    ·have tk:decide (0<(j:Int))=false:=aYj I
     go_wp2_with fail
     all_goals
      go_roundw
      case rel=>exact ⟨j+1,_,I,by go_num,rfl,rfl,by rw [HD.out,if_neg bh]⟩
      case measure=>simp [intOf];omega
   ·have HD:=aYf (show bA zs false 0 1 x.kids=s1 by rw [HTT.out,drop_nil I,bA])
    obtain ⟨e1,e2,e3,e4,e5⟩:=HT.out _ (aq _);go_wp2_with fail
    all_goals
     go_ret;rw [HS2.out,HD.out];exact jU N3.out HWF.out HWL.out HWZ.out (aq _) d8
 have t4:(x.kind == 4)=false:=aYg k4;have HS2:=aYf (show gA zs x=1 by rw [HSZ.out,if_neg k0,if_neg k3,if_neg k2,if_neg k4]);clear k0 k3 k2 k4 HSZ;obtain ⟨e1,e2,e3,e4,e5⟩:=HT.out _ (aq _);go_wp2_with fail
 all_goals
  go_ret;rw [HS2.out];exact jU N3.out HWF.out HWL.out HWZ.out (aq _) d8
theorem bV.moreAll {t:List GN}{vn:Value}{g:SA}{w w':World}(h:bV t vn g w)(hx:Ext w w'):bV t vn ⟨g.s,g.k,g.l,g.m,fun b=>g.X b∨(w<=b∧b<w')⟩ w':=by
 obtain ⟨kn,ls,ms,h0⟩:=h;have h:=h0.ext hx;have hQ:∀ b,b<w.heap.size->g.Q b->(SA.mk g.s g.k g.l g.m (fun b=>g.X b∨(w<=b∧b<w'))).Q b:=fun b hb h=>⟨h.1,fun hx=>hx.elim h.2 (fun e=>by omega)⟩
 exact ⟨kn,ls,ms,h.hk,h.hl,h.hm,h.kl,h.km,h.lm,h.klen,h.llen,h.mlen,h.box,h.known,h.lists,h.many,fun b hb=>hb.elim (h.xlt b) (fun e=>e.2),h0.nodes.carry (aB.of_ext hx) hQ,h.sl,fun j hj hk=>⟨(h0.fine j hj hk).1.carry (aB.of_ext hx) hQ,(h.fine j hj hk).2⟩⟩
structure oQ (t:List GN)(vn:Value)(gc gl gz:Nat)(g:SA)(ls zs:List Int)(B:Nat)(w:World):Prop where
 box:Blk w gc 138 #[vn,.slice (qp gl) t t,.slice (qp gz) t t,qp g.s]
 lens:Blk w gl 3 (nB ls)
 sizes:Blk w gz 3 (nB zs)
 sets:bV t vn g w
 xl:g.X gl
 xz:g.X gz
 n1:gc ≠ gl
 n2:gc ≠ gz
 n3:gl ≠ gz
 sl:gl ≠ g.s
 sz:gz ≠ g.s
 ml:¬ g.M gl
 mz:¬ g.M gz
 mc:¬ g.M gc
 bl:B<=gl
 bz:B<=gz
 bm:∀ b,g.M b->B<=b
 llen:ls.length=t
 zlen:zs.length=t
def ya (t:List GN)(vn:Value)(w:World)(s:Value)(wx:World):Prop :=
 ∃ gc gl gz g,s=↑(qp gc)∧oQ t vn gc gl gz g (List.replicate t 0) (List.replicate t 0) w wx∧Ext w wx
theorem iP {t:List GN}{vn:Value}{w w1 wx:World}{gc gl gz:Nat}{g:SA}{mc:Array Value}(hmc:mc=madeCells #[qz] t)(hs:bV t vn g w1)(hx1:Ext w1 wx)(hx:Ext w wx)
  (hb:Blk wx gc 138 #[vn,.slice (qp gl) t t,.slice (qp gz) t t,qp g.s])
  (hl:Blk wx gl 3 mc)(hz:Blk wx gz 3 mc)(h1:g.X gl∨(w1<=gl∧gl<wx))(h2:g.X gz∨(w1<=gz∧gz<wx))
  (n1:gc ≠ gl)(n2:gc ≠ gz)(n3:gl ≠ gz)(sl:gl ≠ g.s)(sz:gz ≠ g.s)(ml:gl ≠ g.k∧gl ≠ g.l∧gl ≠ g.m)(mz:gz ≠ g.k∧gz ≠ g.l∧gz ≠ g.m)(mc:gc ≠ g.k∧gc ≠ g.l∧gc ≠ g.m)(bl:w<=gl)(bz:w<=gz)(bm:w<=g.k∧w<=g.l∧w<=g.m) :
  ya t vn w (qp gc) wx:=by
 have e:madeCells #[qz] t.length=nB (List.replicate t 0):=by rw [gF];simp [nB]
 rw [hmc,e] at hl hz;refine ⟨gc,gl,gz,⟨g.s,g.k,g.l,g.m,fun b=>g.X b∨(w1<=b∧b<wx)⟩,rfl,⟨hb,hl,hz,hs.moreAll hx1,h1,h2,n1,n2,n3,sl,sz,?_,?_,?_,bl,bz,?_,U,U⟩,hx⟩
 ·exact fun h=>h.elim ml.1 (fun h=>h.elim ml.2.1 ml.2.2)
 ·exact fun h=>h.elim mz.1 (fun h=>h.elim mz.2.1 mz.2.2)
 ·exact fun h=>h.elim mc.1 (fun h=>h.elim mc.2.1 mc.2.2)
 ·rintro b (h | h | h)
  ·exact h ▸ bm.1
  ·exact h ▸ bm.2.1
  ·exact h ▸ bm.2.2
theorem bV.fr {t:List GN}{vn:Value}{g:SA}{w w':World}{M:Nat->Prop}(h:bV t vn g w)(hf:Fr M w w')(h1:∀ b,M b->g.X b)(h2:¬ M g.s)(h3:∀ b,M b->¬ g.M b):bV t vn g w':=by
 obtain ⟨kn,ls,ms,h⟩:=h;have hk:aB g.Q w w':=aB.of_fr hf (fun b hq hm=>hq.2 (h1 b hm))
 exact ⟨kn,ls,ms,h.hk,h.hl,h.hm,h.kl,h.km,h.lm,h.klen,h.llen,h.mlen,h.box.fr hf h2,h.known.fr hf (fun hm=>h3 _ hm (.inl rfl)),h.lists.fr hf (fun hm=>h3 _ hm (.inr (.inl rfl))),h.many.fr hf (fun hm=>h3 _ hm (.inr (.inr rfl))),fun b hb=>ac (h.xlt b hb) hf.size,
  h.nodes.carry hk (fun _ _ h=>h),h.sl,fun j hj hkj=>⟨(h.fine j hj hkj).1.carry hk (fun _ _ h=>h),(h.fine j hj hkj).2⟩⟩
theorem bV.nodes {t:List GN}{vn:Value}{g:SA}{w:World}(h:bV t vn g w):Nds w g.Q vn t:=by
 obtain ⟨kn,ls,ms,h⟩:=h;exact h.nodes
theorem oQ.ext {t:List GN}{vn:Value}{gc gl gz:Nat}{g:SA}{ls zs:List Int}{B:Nat}{w w':World}(h:oQ t vn gc gl gz g ls zs B w)(hx:Ext w w'):oQ t vn gc gl gz g ls zs B w' :=
 ⟨h.box.ext hx,h.lens.ext hx,h.sizes.ext hx,h.sets.ext hx,h.xl,h.xz,h.n1,h.n2,h.n3,h.sl,h.sz,h.ml,h.mz,h.mc,h.bl,h.bz,h.bm,h.llen,h.zlen⟩
theorem oQ.small {t:List GN}{vn:Value}{gc gl gz:Nat}{g:SA}{ls zs ls' zs':List Int}{B:Nat}{w w':World}(h:oQ t vn gc gl gz g ls zs B w)(hf:Fr (fun b=>b=gl∨b=gz) w w')(h1:Blk w' gl 3 (nB ls'))(h2:Blk w' gz 3 (nB zs'))(e1:ls'.length=ls)(e2:zs'.length=zs):oQ t vn gc gl gz g ls' zs' B w' :=
 ⟨h.box.fr hf (fun hm=>hm.elim h.n1 h.n2),h1,h2,h.sets.fr hf (fun b hb=>hb.elim (fun e=>e ▸ h.xl) (fun e=>e ▸ h.xz)) (fun hm=>hm.elim (fun e=>h.sl e.symm) (fun e=>h.sz e.symm)) (fun b hb=>hb.elim (fun e=>e ▸ h.ml) (fun e=>e ▸ h.mz)),h.xl,h.xz,h.n1,h.n2,h.n3,h.sl,h.sz,h.ml,h.mz,h.mc,h.bl,h.bz,h.bm,e1.trans h.llen,e2.trans h.zlen⟩
theorem oQ.cases_ {t:List GN}{vn:Value}{gc gl gz:Nat}{g:SA}{ls zs:List Int}{B:Nat}{w w':World}(h:oQ t vn gc gl gz g ls zs B w)(hf:Fr g.M w w')(hs:bV t vn g w'):oQ t vn gc gl gz g ls zs B w' :=
 ⟨h.box.fr hf h.mc,h.lens.fr hf h.ml,h.sizes.fr hf h.mz,hs,h.xl,h.xz,h.n1,h.n2,h.n3,h.sl,h.sz,h.ml,h.mz,h.mc,h.bl,h.bz,h.bm,h.llen,h.zlen⟩
def zv (t:List GN)(vn:Value)(gc gl gz:Nat)(g:SA)(W:World)(i:Value)(wr:World):Prop :=
 ∃ (k:Nat) (ls zs:List Int),k<=t∧i=↑k∧oQ t vn gc gl gz g ls zs W wr∧Ext W wr∧ls.take k=(aI t).take k∧zs.take k=(bS t).take k∧aO t k∧(∀ x ∈ ls,I64 x)∧(∀ x ∈ zs,I64 x)∧bE t=dD t k (t.length - k)
theorem LR {t:List GN}{vn:Value}{gc gl gz:Nat}{g:SA}{W w5 w6 wr:World}{k:Nat}{ls zs:List Int}{x:GN}(hx:x=t.getD k default)(hk:k<t)(hA:oQ t vn gc gl gz g ls zs W wr)(hE:Ext W wr)(hL:ls.take k=(aI t).take k)(hZ:zs.take k=(bS t).take k)(hG:aO t k)(hI:∀ x ∈ ls,I64 x)(hJ:∀ x ∈ zs,I64 x)
  (hV:bE t=dD t k (t.length - k))(hs:iX t){w4:World}(h4:Ext wr w4)(h5:Fr (fun b=>b=gl∨b=gz) w4 w5)(hl:Blk w5 gl 3 (nB (ls.set k (gZ ls x))))(hz:Blk w5 gz 3 (nB (zs.set k (gA zs x))))(h6:Fr g.M w5 w6)(hS:bV t vn g w6)(hc:cY t k=0) :
  zv t vn gc gl gz g W (.int .i64 ((k:Int)+1)) w6:=by
 subst hx;refine ⟨k+1,_,_,I,U,((hA.ext h4).small h5 hl hz U U).cases_ h6 hS,?_,B9 hG hk hc hL hA.llen,Iz hG hs hk hc hZ hA.zlen,yn hG hk hc,pU hI (oZ hI _),pU hJ (Gh hJ _),?_⟩
 ·have f1:Fr (fun b=>W.heap.size<=b) wr w6:=((ar h4).trans (h5.mono (fun b hb=>hb.elim (fun e=>e ▸ hA.bl) (fun e=>e ▸ hA.bz)))).trans (h6.mono hA.bm)
  exact ((ar hE).trans f1).new_ext (fun b hb=>hb)
 ·rw [sV hk hV,if_pos hc]
theorem gE (t:List GN)(P:Nat->Prop)(vn:Value)(w:World)(hP:∀ b,P b->b<w)(ht:Nds w P vn t)(hsm:iX t):qg 45 #[.agg #[vn]] w (dE (.int .i64 (bE t)) w):=by
 have HP:=aYf hP;have HT:=aYf ht;have HSM:=aYf hsm;obtain ⟨An,cn,en,hn1,hn2⟩:=ht.form;subst en;clear ht hP hsm;by_cases hbig:4096<t.length
 ·have HV:=aYf (show bE t=4 by unfold bE;rw [if_pos hbig])
  go_enter Tryz.func45,Tryz.ntmps45;go_wp2_with fail;go_ret;exact ⟨aK HV.out.symm,(aq _).alloc' _⟩
 ·obtain ⟨i3,hi3,hz0,hz1,hz2⟩:=info_parts Tryz.info3
  have hmk:∀ W:World,(Instr.makeSlice 22 (↑(t:Int)) (↑(t:Int))).run Tryz.prog W=.ok (.slice (qp W) t t) (W.alloc (qk (madeCells #[qz] t) 3)):=by
   intro W;have h:=run_make (P:=Tryz.prog) W 22 3 i3 _ Tryz.underlying22 hi3 hz0 .i64 .i64 (t:Int) (t:Int) I (Int.le_refl _) fp I;rw [hz1,Nat.mul_one] at h;rw [h];rfl
  clear hi3 hz0 hz1 hz2 i3;obtain ⟨mc,hmc⟩:∃ mc,mc=madeCells #[qz] t.length:=⟨_,rfl⟩;rw [<- hmc] at hmk;have HMC:=aYf hmc;clear hmc;go_enter Tryz.func45,Tryz.ntmps45;go_upto_region 3 with fail;have HB0:=aYf (aw w 25 #[.slice An t cn]);have HE0:=aYf ((aq w).alloc' (qk #[.slice An t cn] 25));have hW0s:(w.alloc (qk #[.slice An t cn] 25)).heap.size=w.heap.size+1:=by simp
  have HWS:=aYf hW0s;clear hW0s;generalize w.alloc (qk #[.slice An t cn] 25)=W at *;have b0:=HB0.out.cell' (u:=.slice An t cn) 0 rfl
  have HNS:=aYf (show ∀ W',Ext w W'->qg 60 #[.agg #[.slice An t cn]] W' (mq t (.slice An t cn) (fun b=>w.heap.size<=b∧b<W'.heap.size) W') from fun W' h =>
   qF t P _ _ W' (HT.out.ext h) (fun b hb hx=>by have:=HP.out b hb;omega) (fun b hb=>hb.2) I)
  go_cut [3] (fun s wx=>ya t (.slice An t cn) W s wx)
  case first =>
   go_region_held3 (fun w'=>qc w' w 0 (.slice An t cn))
    (first
     | go_keep
     | exact aA hxn ‹_›
     | exact aA (hxn.alloc' _) ‹_›)
    (first
     | (go_at_call 60;refine (HNS.out _ (by first | exact HE0.out.drew' | exact (HE0.out.alloc' _).drew' | exact ((HE0.out.alloc' _).alloc' _).drew')).mono ?_;rintro e wn ⟨g,rfl,hgX,hgs,hxn,l1,l2,l3,l4⟩))
   all_goals (go_wp2_with fail)
   all_goals (go_meet)
   all_goals
    have hws:=HWS.out;have hsz:=hxn.size;obtain ⟨kn,lk,mk,hA⟩:=id hgs;have a1:=hA.box.lt;have a2:=hA.known.lt;have a3:=hA.lists.lt;have a4:=hA.many.lt;have hMC:=HMC.out;clear hA HNS HT HP HSM hmk b0;simp at hsz l1 l2 l3 l4
   all_goals first
    | exact iP (gl:=W.heap.size) (gz:=W.heap.size+1) (gc:=wn.heap.size) hMC hgs ((aq wn).alloc' _) ((((((aq W).alloc' _).alloc' _).drew').trans' hxn).alloc' _) (az wn 138 _ (g:=wn.heap.size) U) ((((az W 3 mc (g:=W.heap.size) U).alloc _).drew.ext hxn).alloc _) (((az (W.alloc _) 3 mc (g:=W.heap.size+1) U).drew.ext hxn).alloc _) (.inl fq) (.inl fq) I I I I I I I I I I I
    | exact iP (gl:=W.heap.size+1) (gz:=W.heap.size) (gc:=wn.heap.size) hMC hgs ((aq wn).alloc' _) ((((((aq W).alloc' _).alloc' _).drew').trans' hxn).alloc' _) (az wn 138 _ (g:=wn.heap.size) U) (((az (W.alloc _) 3 mc (g:=W.heap.size+1) U).drew.ext hxn).alloc _) ((((az W 3 mc (g:=W.heap.size) U).alloc _).drew.ext hxn).alloc _) (.inl fq) (.inl fq) I I I I I I I I I I I
    | exact iP (gl:=W.heap.size) (gz:=wn.heap.size) (gc:=wn.heap.size+1) hMC hgs (((aq wn).alloc' _).alloc' _) ((((((aq W).alloc' _).drew').trans' hxn).alloc' _).alloc' _) (az (wn.alloc _) 138 _ (g:=wn.heap.size+1) U) ((((az W 3 mc (g:=W.heap.size) U).drew.ext hxn).alloc _).alloc _) ((az wn 3 mc (g:=wn.heap.size) U).alloc _) (.inl fq) (.inr ⟨I,ed⟩) I I I I I I I I I I I
    | exact iP (gl:=wn.heap.size) (gz:=W.heap.size) (gc:=wn.heap.size+1) hMC hgs (((aq wn).alloc' _).alloc' _) ((((((aq W).alloc' _).drew').trans' hxn).alloc' _).alloc' _) (az (wn.alloc _) 138 _ (g:=wn.heap.size+1) U) ((az wn 3 mc (g:=wn.heap.size) U).alloc _) ((((az W 3 mc (g:=W.heap.size) U).drew.ext hxn).alloc _).alloc _) (.inr ⟨I,ed⟩) (.inl fq) I I I I I I I I I I I
    | exact iP (gl:=wn.heap.size) (gz:=wn.heap.size+1) (gc:=wn.heap.size+1+1) hMC hgs ((((aq wn).alloc' _).alloc' _).alloc' _) ((((((aq W).drew').trans' hxn).alloc' _).alloc' _).alloc' _) (az ((wn.alloc _).alloc _) 138 _ (g:=wn.heap.size+1+1) U) (((az wn 3 mc (g:=wn.heap.size) U).alloc _).alloc _) ((az (wn.alloc _) 3 mc (g:=wn.heap.size+1) U).alloc _) (.inr ⟨I,ed⟩) (.inr ⟨I,ed⟩) I I I I I I I I I I I
    | exact iP (gl:=wn.heap.size+1) (gz:=wn.heap.size) (gc:=wn.heap.size+1+1) hMC hgs ((((aq wn).alloc' _).alloc' _).alloc' _) ((((((aq W).drew').trans' hxn).alloc' _).alloc' _).alloc' _) (az ((wn.alloc _).alloc _) 138 _ (g:=wn.heap.size+1+1) U) ((az (wn.alloc _) 3 mc (g:=wn.heap.size+1) U).alloc _) (((az wn 3 mc (g:=wn.heap.size) U).alloc _).alloc _) (.inr ⟨I,ed⟩) (.inr ⟨I,ed⟩) I I I I I I I I I I I
  case rest =>
   obtain ⟨gc,gl,gz,g,rfl,hA,hx⟩:=hcut;have HA:=aYf hA;have HX:=aYf hx;have hG0:aO t 0:=⟨I,I,fun j hj=>by omega⟩;have HV0:=aYf (show bE t=dD t 0 (t.length - 0) by unfold bE;rw [if_neg hbig];rfl);have HB1:=aYf (HB0.out.ext hx);have b1:=HB1.out.cell' (u:=.slice An t cn) 0 rfl;have HG0:=aYf hG0;clear hA hx hG0 hmk b0 HNS HB0;go_wp2_with fail;go_loopw [29] (fun i wr=>zv t (.slice An t cn) gc gl gz g W i wr) (fun i _=>t.length - (intOf i).toNat)
   case atStart=>exact ⟨0,_,_,af _,rfl,HA.out,HX.out,rfl,rfl,HG0.out,em,em,HV0.out⟩
   case round =>
    obtain ⟨k,ls,zs,hk,rfl,hA,hE,hL,hZ,hG,hI,hJ,hV⟩:=hrel;have HA1:=aYf hA;have HE1:=aYf hE;have HL:=aYf hL;have HZ:=aYf hZ;have HG:=aYf hG;have HI:=aYf hI;have HJ:=aYf hJ;have HV:=aYf hV;by_cases hlt:k<t
    ·have hkk:(k:Int)<(t:Int):=by omega
     have hND:Nds wr (fun b=>g.Q b∧b<wr) (.slice An t cn) t:=hA.sets.nodes.carry (fun _ _ _=>rfl) (fun b hb h=>⟨h,hb⟩);have HND:=aYf hND;have hsz:W.heap.size<=wr:=hE.size
     have b2:qc wr w 0 (.slice An t cn):=(HB1.out.cell' (u:=.slice An t cn) 0 rfl) ▸ by
      have hwl:w.heap.size<W:=by have:=HWS.out;omega
      rw [hE.cell (p:=qp w) hwl,HX.out.cell (p:=qp w) hwl]
     obtain ⟨b,off,a,rfl,hQb,hx,hn⟩:=hND.get hlt;have HXX:=aYf hx;have HN:=aYf hn;have HQB:=aYf hQb;obtain ⟨x,hxd⟩:∃ x,x=t.getD k default:=⟨_,rfl⟩;have HXD:=aYf hxd;rw [<- hxd] at HXX HN;have h41:=HA1.out.box.cell' (u:=.slice (qt b off) t cn) 0 rfl;have HC0:=aYf h41;clear hA hE hL hZ hG hI hJ hV hx hn hQb hND hxd h41 b1;go_wp2_with fail;refine (L8 x a b (off+k*12) _ _ HN.out HXX.out).mono ?_;rintro e w1 ⟨rfl,hx1⟩;have HX1:=aYf hx1;clear hx1;obtain ⟨cb,hcb⟩:∃ cb,cb=cT x:=⟨_,rfl⟩;rw [<- hcb];have HCB:=aYf hcb;clear hcb;cases cb
     ·have HF:=aYf (iO hlt HV.out (ua (t:=t) (k:=k) (by rw [<- HXD.out,<- HCB.out];rfl)) dx)
      go_wp2_with fail;go_ret;exact ⟨aK HF.out.symm,HE0.out.trans' (HE1.out.trans' HX1.out)⟩
     ·go_wp2_with fail
      refine (C8 t k (fun b=>g.Q b∧b<wr) gc _ w1 (fun b hb=>ac hb.2 HX1.out.size) (HND.out.ext HX1.out) hlt (aA HX1.out HC0.out) I).mono ?_;rintro e w2 ⟨rfl,hx2⟩;have HX2:=aYf (HX1.out.trans' hx2);clear hx2;rw [<- HXD.out];obtain ⟨sb,hsb⟩:∃ sb,sb=dI k x:=⟨_,rfl⟩;rw [<- hsb];have HSB:=aYf hsb;clear hsb;cases sb
      ·have HF:=aYf (iO hlt HV.out (ua (t:=t) (k:=k) (by rw [<- HXD.out,<- HCB.out,<- HSB.out];rfl)) dx)
       go_wp2_with fail;go_ret;exact ⟨aK HF.out.symm,HE0.out.trans' (HE1.out.trans' HX2.out)⟩
      ·have HCS:=aYf (show (cT (t.getD k default) && dI k (t.getD k default))=true by rw [<- HXD.out,<- HCB.out,<- HSB.out];rfl)
       go_wp2_with fail;refine (uJ x a b (off+k*12) (fun b=>g.Q b∧b<wr) w2 (fun b hb=>ac hb.2 HX2.out.size) (HN.out.ext HX2.out) (HXX.out.ext HX2.out)).mono ?_;rintro e w3 ⟨rfl,hx3⟩;have HX3:=aYf (HX2.out.trans' hx3);clear hx3;obtain ⟨pz,hpz⟩:∃ pz,pz=gT x:=⟨_,rfl⟩;rw [<- hpz];have HPZ:=aYf hpz;clear hpz;by_cases hp0:pz=0
       ·subst hp0
        go_wp2_with fail;refine (LW x a b (off+k*12) (fun b=>g.Q b∧b<wr) w3 (HN.out.ext HX3.out) (HXX.out.ext HX3.out)).mono ?_;rintro e w4 ⟨rfl,hx4⟩;have HX4:=aYf (HX3.out.trans' hx4);clear hx4;obtain ⟨nb,hnb⟩:∃ nb,nb=bQ x:=⟨_,rfl⟩;rw [<- hnb];have HNB:=aYf hnb;clear hnb;cases nb
        ·have HF:=aYf (iO hlt HV.out (Hf (t:=t) (k:=k) HCS.out (by rw [<- HXD.out,<- HPZ.out]) (by rw [<- HXD.out,<- HNB.out])) dx)
         go_wp2_with fail;go_ret;exact ⟨aK HF.out.symm,HE0.out.trans' (HE1.out.trans' HX4.out)⟩
        ·have HNO:=aYf (EG (t:=t) (k:=k) HCS.out (by rw [<- HXD.out,<- HPZ.out]) (by rw [<- HXD.out,<- HNB.out]))
         have HCK:=aYf (Hn HG.out HSM.out hlt HNO.out HL.out HZ.out);have HA4:=aYf (HA1.out.ext HX4.out);go_wp2_with fail;refine (Ed t k (fun b=>g.Q b∧b<wr) gc gl gz g.s _ ls zs w4 (fun b hb=>⟨ac hb.2 HX4.out.size,fun e=>hb.1.2 (e ▸ HA1.out.xl),fun e=>hb.1.2 (e ▸ HA1.out.xz)⟩) (HND.out.ext HX4.out) hlt HA4.out.box HA4.out.lens HA4.out.sizes HA4.out.llen HA4.out.zlen HI.out HJ.out HA4.out.n1 HA4.out.n2 HA4.out.n3 HNO.out I).mono ?_;rintro e w5 ⟨rfl,hbl,hbz,hf5⟩;rw [<- HXD.out] at hbl hbz ⊢;rw [<- HXD.out] at HCK;have HBL:=aYf hbl;have HBZ:=aYf hbz;have HF5:=aYf hf5;have HA5:=aYf (HA4.out.small hf5 hbl hbz U U);have HE5:=aYf (show Ext W w5 from ((ar (HE1.out.trans' HX4.out)).trans (hf5.mono (fun b hb=>hb.elim (fun e=>e ▸ HA1.out.bl) (fun e=>e ▸ HA1.out.bz)))).new_ext (fun b hb=>hb));have hkeep:aB (fun b=>g.Q b∧b<wr) w4 w5:=aB.of_fr hf5 (fun b hb hm=>hm.elim (fun e=>hb.1.2 (e ▸ HA1.out.xl)) (fun e=>hb.1.2 (e ▸ HA1.out.xz)));have HX5:=aYf ((HXX.out.ext HX4.out).carry (Q:=g.Q) hkeep (fun b _ h=>h.1));have HN5:=aYf ((HN.out.ext HX4.out).keep (P:=fun b=>g.Q b∧b<wr) HQB.out hkeep);clear hbl hbz hf5 hkeep;obtain ⟨mb,hmb⟩:∃ mb,mb=(decide (gZ ls x<=256) && decide (gA zs x<=1024)):=⟨_,rfl⟩;rw [<- hmb];have HMB:=aYf hmb;clear hmb;cases mb
         ·have HF:=aYf (iO hlt HV.out (show cY t k=4 by rw [HCK.out,<- HMB.out];rfl) dx)
          go_wp2_with fail;go_ret;exact ⟨aK HF.out.symm,HE0.out.trans' HE5.out⟩
         ·have HCK2:=aYf (show cY t k=oE t x by rw [HCK.out,<- HMB.out];rfl)
          go_wp2_with fail;refine (KF t _ g gc b (off+k*12) k x a w5 HX5.out HN5.out HQB.out.1 (HA5.out.box.cell' 3 rfl) HA5.out.mc HA5.out.sets (HXD.out ▸ HNO.out) HG.out).mono ?_;rintro e w6 ⟨rfl,hf6,hs6⟩;have HF6:=aYf hf6;have HS6:=aYf hs6;clear hf6 hs6;obtain ⟨cz,hcz⟩:∃ cz,cz=oE t x:=⟨_,rfl⟩;rw [<- hcz];have HCZ:=aYf hcz;clear hcz;by_cases hc0:cz=0
          ·subst hc0
           go_wp2_with fail;go_roundw
           case rel=>exact LR HXD.out hlt HA1.out HE1.out HL.out HZ.out HG.out HI.out HJ.out HV.out HSM.out HX4.out HF5.out HBL.out HBZ.out HF6.out HS6.out (by rw [HCK2.out,<- HCZ.out])
           case measure=>simp [intOf];omega
          ·have HF:=aYf (iO hlt HV.out (show cY t k=cz by rw [HCK2.out,HCZ.out]) hc0)
           have tc:(cz != 0)=true:=bne_iff_ne.2 hc0;go_wp2_with fail;go_ret;exact ⟨aK HF.out.symm,HE0.out.trans' (((ar HE5.out).trans (HF6.out.mono HA1.out.bm)).new_ext (fun b hb=>hb))⟩
       ·have HF:=aYf (iO hlt HV.out (Hc (t:=t) (k:=k) HCS.out (by rw [<- HXD.out,<- HPZ.out];exact hp0)) (by rw [<- HXD.out,<- HPZ.out];exact hp0))
        have tp:(pz != 0)=true:=bne_iff_ne.2 hp0;go_wp2_with fail;go_ret;exact ⟨aK (by rw [HF.out,<- HXD.out,<- HPZ.out]),HE0.out.trans' (HE1.out.trans' HX3.out)⟩
    ·have HF:=aYf (show bE t=0 by rw [HV.out,show t.length - k=0 by omega];rfl)
     clear hA hE hL hZ hG hI hJ hV;go_wp2_with fail;go_ret;exact ⟨aK HF.out.symm,HE0.out.trans' HE1.out⟩
theorem Az (a b c d:Value):∀ n:Nat,(madeCells #[a,b,c,d] (n*4)).toList=(List.replicate n [a,b,c,d]).flatten
 | 0=>by simp [madeCells]
 | n+1=>by
  have ih:=Az a b c d n;unfold madeCells at ih ⊢;simp only [Array.toList_map,Array.toList_range] at ih ⊢;rw [show (n+1)*4=n*4+1+1+1+1 by omega,List.range_succ,List.range_succ,List.range_succ,List.range_succ,List.replicate_succ',List.flatten_append,<- ih];have e0:(n*4) % 4=0:=by omega
  have e1:(n*4+1) % 4=1:=I;have e2:(n*4+1+1) % 4=2:=I;have e3:(n*4+1+1+1) % 4=3:=I;simp [e0,e1,e2,e3]
theorem ti (w:World)(P:Nat->Prop):∀ n:Nat,RVs w P (List.replicate n default) (List.replicate n [Value.int .i64 0,qz,.string ByteArray.empty,qn]).flatten
 | 0=>by simp [RVs]
 | n+1=>by
  simp only [List.replicate_succ,List.flatten_cons,RVs];exact ⟨_,_,rfl,(VAt.zero (w:=w) P).rv,ti w P n⟩
theorem RVs.set {w:World}{P:Nat->Prop}{l:List GV}{cs us:List Value}(h:RVs w P l cs){k:Nat}(hk:k<l){v:GV}(hv:RV w P v us):RVs w P (l.set k v) (cs.take (k*4) ++ us ++ cs.drop (k*4+us.length)):=by
 have hl:=hv.len;rw [hl,show k*4+4=(k+1)*4 by omega,List.set_eq_take_append_cons_drop,if_pos hk,ah];refine RVs.append (h.take k) ?_;show RVs w P ([v] ++ l.drop (k+1)) _;exact RVs.append (RVs.one hv) (h.drop (k+1))
theorem fK (w:World)(p:Addr):w.drew.cell? p=w.cell? p:=rfl
theorem fY {w:World}{g o b off:Nat}{u u0 u1 u2 u3:Value}(hne:¬ b=g)(h:qc w b off u):((((w.setCell (qt g o) u0).setCell (qt g (o+1)) u1).setCell (qt g (o+2)) u2).setCell (qt g (o+3)) u3).cell? (qt b off)=some u :=
 fZ (p:=qt g (o+3)) hne (fZ (p:=qt g (o+2)) hne (fZ (p:=qt g (o+1)) hne (fZ (p:=qt g o) hne h)))
theorem eB {w:World}{g o b off:Nat}{u u0 u1 u2 u3:Value}(hne:¬ b=g)(h:qc w b off u):((((w.setCell (qt g o) u0).setCell (qt g (o+1)) u1).setCell (qt g (o+2)) u2).setCell (qt g (o+3)) u3).drew.cell? (qt b off)=some u:=by rw [fK];exact fY hne h
theorem kT {w:World}{g o o':Nat}{u x:Value}(hne:¬ o'=o)(h:qc w g o' u):(w.setCell (qt g o) x).cell? (qt g o')=some u:=by
 rw [<- h];exact World.cell?_setCell_other _ _ _ _ (fun e=>hne (by injection e with _ e;exact e.symm))
theorem kU {w:World}{g k z:Nat}{u u0 u1 u2 u3:Value}(hne:¬ z=k){o:Nat}(h:qc w g o u)(i:Nat)(hi:i<4)(ho:o=z*4+i):((((w.setCell (qt g (k*4)) u0).setCell (qt g (k*4+1)) u1).setCell (qt g (k*4+2)) u2).setCell (qt g (k*4+3)) u3).drew.cell? (qt g o)=some u:=by
 rw [fK];exact kT I (kT I (kT I (kT I h)))
structure dY (t:List GN)(vn:Value)(gw gs gl gf:Nat)(P:Nat->Prop)(w:World):Prop where
 box:Blk w gw 118 #[qp gs,.slice (qp gl) t t,.slice (qp gf) t t]
 sets:qc w gs 0 vn
 lens:Blk w gl 3 (nB (aI t))
 fixed:bZ w P (.slice (qp gf) t t) (oM t)
 nodes:Nds w P vn t
 pw:P gw
 ps:P gs
 pl:P gl
theorem dY.carry {t:List GN}{vn:Value}{gw gs gl gf:Nat}{P Q:Nat->Prop}{w w':World}(h:dY t vn gw gs gl gf P w)(hk:aB P w w')(hPQ:∀ b,b<w.heap.size->P b->Q b):dY t vn gw gs gl gf Q w' :=
 ⟨(hk _ h.box.lt h.pw).trans h.box,by rw [<- h.sets];exact World.cell?_of_block (w:=w) (hk _ (bB h.sets) h.ps),(hk _ h.lens.lt h.pl).trans h.lens,h.fixed.carry hk hPQ,h.nodes.carry hk hPQ,hPQ _ h.box.lt h.pw,hPQ _ (bB h.sets) h.ps,hPQ _ h.lens.lt h.pl⟩
structure WN (t:List GN)(vn:Value)(P:Nat->Prop)(W0:World)(gw gs gl gf:Nat)(ls:List Int)(l:List GV)(w:World):Prop where
 box:Blk w gw 118 #[qp gs,.slice (qp gl) t t,.slice (qp gf) t t]
 sets:qc w gs 0 vn
 lens:Blk w gl 3 (nB ls)
 fix:∃ cs,Blk w gf 58 cs.toArray∧RVs w (fun b=>(P b∨W0<=b)∧b ≠ gl∧b ≠ gf) l cs
 nodes:Nds w P vn t
 n1:gw ≠ gl
 n2:gw ≠ gf
 n3:gl ≠ gf
 n4:gs ≠ gl
 n5:gs ≠ gf
 bw:W0<=gw
 bs:W0<=gs
 bl:W0<=gl
 bf:W0<=gf
 llen:ls.length=t
 flen:l.length=t
 ext:Ext W0 w
section
variable {t:List GN}{vn:Value}{P:Nat->Prop}{W0:World}{gw gs gl gf:Nat}{ls:List Int}{l:List GV}{w w':World}
theorem WN.ext_ (h:WN t vn P W0 gw gs gl gf ls l w)(hx:Ext w w'):WN t vn P W0 gw gs gl gf ls l w':=by
 obtain ⟨cs,h1,h2⟩:=h.fix;exact ⟨h.box.ext hx,aA hx h.sets,h.lens.ext hx,⟨cs,h1.ext hx,RVs.keep (aB.of_ext hx) (fun _ h=>h) h2⟩,h.nodes.ext hx,h.n1,h.n2,h.n3,h.n4,h.n5,h.bw,h.bs,h.bl,h.bf,h.llen,h.flen,h.ext.trans' hx⟩
theorem WN.setLen (h:WN t vn P W0 gw gs gl gf ls l w)(hP:∀ b,P b->b<W0)(k:Nat)(v:Int):WN t vn P W0 gw gs gl gf (ls.set k v) l (w.setCell (qt gl k) (↑v)):=by
 obtain ⟨cs,h1,h2⟩:=h.fix;have hb:=h.bl;have hl:=h.lens.set_ k (↑v);rw [vR] at hl
 exact ⟨h.box.far (p:=qt gl k) h.n1 _,fZ h.n4 h.sets,hl,⟨cs,h1.far (p:=qt gl k) h.n3.symm _,RVs.carry (aB.set (p:=qt gl k) (fun _ _ _=>rfl) _ (fun hq=>hq.2.1 rfl)) (fun _ _ h=>h) h2⟩,
  h.nodes.carry (aB.set (p:=qt gl k) (fun _ _ _=>rfl) _ (fun hq=>by have:=hP _ hq;simp at this;omega)) (fun _ _ h=>h),h.n1,h.n2,h.n3,h.n4,h.n5,h.bw,h.bs,h.bl,h.bf,by simp [h.llen],h.flen,((ar (M:=fun _=>False) h.ext).setCell (p:=qt gl k) (.inr hb) _).ext⟩
theorem WN.setFix (h:WN t vn P W0 gw gs gl gf ls l w)(hP:∀ b,P b->b<W0){k:Nat}(hk:k<t){v:GV}{us:List Value}(hv:RV w (fun b=>(P b∨W0<=b)∧b ≠ gl∧b ≠ gf) v us):WN t vn P W0 gw gs gl gf ls (l.set k v) (w.setCells gf (k*4) us):=by
 obtain ⟨cs,h1,h2⟩:=h.fix;have hb:=h.bf;have hcl:=h2.len;have hfl:=h.flen;have hus:=hv.len;have hkf:¬ (fun b=>(P b∨W0<=b)∧b ≠ gl∧b ≠ gf) gf:=fun hq=>hq.2.2 rfl
 have hkp:¬ P gf:=fun hq=>by have:=hP _ hq;omega
 have hs:aB (fun b=>b=gs) w (w.setCells gf (k*4) us):=aB.setCells (fun e=>h.n5 e.symm) us (k*4) (fun _ _ _=>rfl)
 exact ⟨h.box.farCells h.n2 us _,by rw [<- h.sets];exact World.cell?_of_block (w:=w) (hs _ (bB h.sets) rfl),h.lens.farCells h.n3 us _,
  ⟨_,aF us (k*4) h1 I,RVs.carry (aB.setCells hkf us (k*4) (fun _ _ _=>rfl)) (fun _ _ h=>h) (h2.set I hv)⟩,
  h.nodes.carry (aB.setCells hkp us (k*4) (fun _ _ _=>rfl)) (fun _ _ h=>h),h.n1,h.n2,h.n3,h.n4,h.n5,h.bw,h.bs,h.bl,h.bf,h.llen,by simp [h.flen],((ar (M:=fun _=>False) h.ext).setCells us (k*4) (.inr hb)).ext⟩
theorem WN.frNew (h:WN t vn P W0 gw gs gl gf ls l w)(hf:Fr (fun b=>b=w.heap.size) w w'):WN t vn P W0 gw gs gl gf ls l w':=by
 exact h.ext_ (hf.new_ext (fun b e=>by omega))
theorem WN.getFix (h:WN t vn P W0 gw gs gl gf ls l w){j:Nat}(hj:j<t):∃ A c,VAt w (fun b=>(P b∨W0<=b)∧b ≠ gl∧b ≠ gf) (l.getD j default) A c ∧
  qc w gf (j*4) (.int .i64 (l.getD j default).kind)∧qc w gf (j*4+1) (.int .i64 (l.getD j default).n)∧qc w gf (j*4+2) (.string (l.getD j default).s)∧qc w gf (j*4+3) (.slice A (l.getD j default).kids.length c):=by
 obtain ⟨cs,h1,h2⟩:=h.fix;have hfl:=h.flen;obtain ⟨A,c,e,hu⟩:=(h2.get (i:=j) I).at_
 have hx:∀ i,i<4->cs[j*4+i]?=((cs.drop (j*4)).take 4)[i]?:=by
  intro i hi;rw [List.getElem?_take,if_pos hi,List.getElem?_drop]
 unfold cellsOf at e;refine ⟨A,c,hu,?_,?_,?_,?_⟩
 ·have:=hx 0 I;rw [e] at this;exact h1.cell' _ iy
 ·have:=hx 1 I;rw [e] at this;exact h1.cell' _ iy
 ·have:=hx 2 I;rw [e] at this;exact h1.cell' _ iy
 ·have:=hx 3 I;rw [e] at this;exact h1.cell' _ iy
theorem WN.place (h:WN t vn P W0 gw gs gl gf ls l w){j:Nat}(hj:j<t):(∃ y,qc w gf (j*4) y)∧(∃ y,qc w gf (j*4+1) y)∧(∃ y,qc w gf (j*4+2) y)∧(∃ y,qc w gf (j*4+3) y) ∧
  w.frozen? (qt gf (j*4))=false∧w.frozen? (qt gf (j*4+1))=false∧w.frozen? (qt gf (j*4+2))=false∧w.frozen? (qt gf (j*4+3))=false:=by
 obtain ⟨A,c,_,h1,h2,h3,h4⟩:=h.getFix hj;obtain ⟨cs,hb,_⟩:=h.fix;exact ⟨⟨_,h1⟩,⟨_,h2⟩,⟨_,h3⟩,⟨_,h4⟩,hb.frozen _,hb.frozen _,hb.frozen _,hb.frozen _⟩
end
def pF (t:List GN)(k:Nat):List GV:=eH t k ++ List.replicate (t.length - k) default
theorem vX {t:List GN}{k:Nat}(hk:k<=t):(pF t k).length=t:=by unfold pF;rw [aa,gV hk];simp;omega
theorem zl {t:List GN}{k j:Nat}(hk:k<=t)(hj:j<k):(pF t k).getD j default=(eH t k).getD j default:=by
 unfold pF;have:=gV hk;simp [List.getD,List.getElem?_append,this,hj]
theorem vW {t:List GN}{k:Nat}(hk:k<t):(pF t k).set k (dW (aI t) (eH t k) (t.getD k default))=pF t (k+1):=by
 unfold pF;have hl:=gV (t:=t) (j:=k) I;rw [IB hk,List.set_append_right _ _ I,hl,Nat.sub_self,show t.length - k=(t.length - (k+1))+1 by omega,List.replicate_succ,List.set_cons_zero,ah];rfl
theorem Je {t:List GN}{k:Nat}(hk:k<t)(h:dW (aI t) (eH t k) (t.getD k default)=default):pF t k=pF t (k+1):=by
 rw [<- vW hk,h];unfold pF;have hl:=gV (t:=t) (j:=k) I;rw [List.set_append_right _ _ I,hl,Nat.sub_self,show t.length - k=(t.length - (k+1))+1 by omega,List.replicate_succ,List.set_cons_zero]
theorem pE (t:List GN):pF t t.length=oM t:=by unfold pF;rw [GM];simp
def BK (l:List GV)(Pk:Nat->Prop)(gk:Nat)(W:World)(i:Value)(wr:World):Prop :=
 ∃ (j:Nat) (cs:List Value),j<=l∧i=↑j∧Blk wr gk 58 cs.toArray∧cs.length=l*4∧RVs wr Pk (l.take j) (cs.take (j*4))∧Fr (fun b=>b=gk) W wr
theorem Kj {l:List GV}{Pk:Nat->Prop}{gk:Nat}{W wr:World}{j:Nat}{cs us:List Value}(hg:¬ Pk gk)(hj:j<l)(hB:Blk wr gk 58 cs.toArray)(hl:cs.length=l*4)(hR:RVs wr Pk (l.take j) (cs.take (j*4)))(hx:Fr (fun b=>b=gk) W wr)(hu:RV wr Pk (l.getD j default) us) :
  BK l Pk gk W (.int .i64 ((j:Int)+1)) (wr.setCells gk (j*4) us):=by
 have hus:=hu.len;have hB1:=aF us (j*4) hB I;have hk:aB Pk wr (wr.setCells gk (j*4) us):=aB.setCells hg us (j*4) (fun _ _ _=>rfl);refine ⟨j+1,_,I,U,hB1,?_,?_,hx.setCells us (j*4) (.inl rfl)⟩
 ·simp only [aa,ak,am];omega
 ·have e:(cs.take (j*4) ++ us ++ cs.drop (j*4+us.length)).take ((j+1)*4)=cs.take (j*4) ++ us:=by
   rw [List.take_append_of_le_length (by simp only [aa,ak];omega),an (by simp only [aa,ak];omega)]
  rw [e,aW default hj];exact RVs.append (RVs.carry hk (fun _ _ h=>h) hR) (RVs.one (RV.carry hk (fun _ _ h=>h) hu))
