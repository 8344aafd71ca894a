/- Contracts and laws. Conditions: none. -/
import Derived.BigGuardPart
import Derived.Test.YtkoeecdjijfjnaaGreatH1
import Derived.Test.YtkoeecdjijfjnaaGreatG3
import Derived.Test.YtkoeecdjijfjnaaGreatPlL
set_option linter.all false
set_option maxRecDepth 100000
set_option maxHeartbeats 8000000
namespace Go.Proofs.YtkoeecdjijfjnaaGreat
open Go.RowKit
theorem aMf (x a b o w)(hn:bQ w b o x a)(hk:x.kind=0) :
  qg 88 #[qt b o] w (dI (cM x) w):=by
 have HS:=a4b (show cM x=(decide (0<=x.kind) && decide (x.kind<=4) && (decide (x.kind=0) || decide (cJ x.value cO=0)) && (decide (x.kind=1) || (decide (x.lo=0) && decide (x.hi=0))) &&
 (decide (x.kind=2) || (decide (x.weights.length=0) && decide (x.labels.length=0))) && (decide (x.kind=3) || aU x.name) && (decide (x.kind=4) || decide (x.values.length=0)) &&
 ((!decide (x.kind=0) && !decide (x.kind=1)) || decide (x.kids.length=0))) from rfl)
 have c0:=hn.c0;have c1:=hn.c1;have c2:=hn.c2;have c3:=hn.c3;have c4:=hn.c4;have c5:=hn.c5;have c6:=hn.c6;have c7:=hn.c7;clear hn;generalize cM x=cb at *;generalize x.weights.length=nw at *;generalize x.labels.length=nl at *;generalize x.values.length=nv at *;generalize x.kids.length=nk at *;generalize x.kind=k at *;generalize x.lo=lo at *;generalize x.hi=hi at *;generalize x.name=nm at *;subst hk;go_enter Tryz.func88,Tryz.ntmps88;go_upto_region 2 with fail;simp only [List.append];go_wp2_with fail
 all_goals
  go_ret;refine ⟨aC ?_,aq _⟩;rw [HS.out];clear HS c0 c1 c2 c3 c4 c5 c6 c7;rw [Bool.eq_iff_iff]
  simp_all [aU]
  try omega
theorem aIr (x a b o w)(hn:bQ w b o x a)(hk:x.kind<0) :
  qg 88 #[qt b o] w (dI (cM x) w):=by
 have HS:=a4b (show cM x=(decide (0<=x.kind) && decide (x.kind<=4) && (decide (x.kind=0) || decide (cJ x.value cO=0)) && (decide (x.kind=1) || (decide (x.lo=0) && decide (x.hi=0))) &&
 (decide (x.kind=2) || (decide (x.weights.length=0) && decide (x.labels.length=0))) && (decide (x.kind=3) || aU x.name) && (decide (x.kind=4) || decide (x.values.length=0)) &&
 ((!decide (x.kind=0) && !decide (x.kind=1)) || decide (x.kids.length=0))) from rfl)
 have c0:=hn.c0;clear hn;generalize cM x=cb at *;generalize x.weights.length=nw at *;generalize x.labels.length=nl at *;generalize x.values.length=nv at *;generalize x.kids.length=nk at *;generalize x.kind=k at *;generalize x.lo=lo at *;generalize x.hi=hi at *;generalize x.name=nm at *;go_enter Tryz.func88,Tryz.ntmps88;go_upto_region 2 with fail;simp only [List.append];go_wp2_with fail
 all_goals (try exact absurd ‹0<=k› I)
 all_goals
  refine bodyPost_ret (v:=false) (by simp [results,Tryz.results88,go_sem]) rfl ⟨aC ?_,aq _⟩;rw [HS.out];clear HS c0;rw [Bool.eq_iff_iff]
  simp_all [aU]
  try omega
theorem aIs (x a b o w)(hn:bQ w b o x a)(hk:4<x.kind) :
  qg 88 #[qt b o] w (dI (cM x) w):=by
 have HS:=a4b (show cM x=(decide (0<=x.kind) && decide (x.kind<=4) && (decide (x.kind=0) || decide (cJ x.value cO=0)) && (decide (x.kind=1) || (decide (x.lo=0) && decide (x.hi=0))) &&
 (decide (x.kind=2) || (decide (x.weights.length=0) && decide (x.labels.length=0))) && (decide (x.kind=3) || aU x.name) && (decide (x.kind=4) || decide (x.values.length=0)) &&
 ((!decide (x.kind=0) && !decide (x.kind=1)) || decide (x.kids.length=0))) from rfl)
 have c0:=hn.c0;clear hn;generalize cM x=cb at *;generalize x.weights.length=nw at *;generalize x.labels.length=nl at *;generalize x.values.length=nv at *;generalize x.kids.length=nk at *;generalize x.kind=k at *;generalize x.lo=lo at *;generalize x.hi=hi at *;generalize x.name=nm at *;go_enter Tryz.func88,Tryz.ntmps88;go_upto_region 2 with fail;simp only [List.append];go_wp2_with fail
 all_goals (try exact absurd ‹k<=4› I)
 all_goals
  refine bodyPost_ret (v:=false) (by simp [results,Tryz.results88,go_sem]) rfl ⟨aC ?_,aq _⟩;rw [HS.out];clear HS c0;rw [Bool.eq_iff_iff]
  simp_all [aU]
  try omega
theorem aMe (x a b o P w)(hn:bQ w b o x a)(hx:NAt w P x a)(hk:x.kind=1) :
  qg 88 #[qt b o] w (dI (cM x) w):=by
 have HS:=a4b (show cM x=(decide (0<=x.kind) && decide (x.kind<=4) && (decide (x.kind=0) || decide (cJ x.value cO=0)) && (decide (x.kind=1) || (decide (x.lo=0) && decide (x.hi=0))) &&
 (decide (x.kind=2) || (decide (x.weights.length=0) && decide (x.labels.length=0))) && (decide (x.kind=3) || aU x.name) && (decide (x.kind=4) || decide (x.values.length=0)) &&
 ((!decide (x.kind=0) && !decide (x.kind=1)) || decide (x.kids.length=0))) from rfl)
 have HC:=a4b (bJ x.value cO a.xA none a.xc 0 P P w hx.value (VAt.zero _ _))
 have HN:=a4b (show ∀ w',Ext w w'->qc w' b (o+1) x.name∧qc w' b (o+2) x.lo∧qc w' b (o+3) x.hi∧qc w' b (o+4) (.slice a.wA x.weights a.wc) ∧
  qc w' b (o+5) (.slice a.lA x.labels a.lc)∧qc w' b (o+6) (.slice a.vA x.values a.vc)∧w'.cell? (qt b (o+7))=some (.slice a.kA x.kids a.kc) from fun w' h=>⟨(hn.ext h).c1,(hn.ext h).c2,(hn.ext h).c3,(hn.ext h).c4,(hn.ext h).c5,(hn.ext h).c6,(hn.ext h).c7⟩)
 have c0:=hn.c0;have c8:=hn.c8;have c9:=hn.c9;have c10:=hn.c10;have c11:=hn.c11;clear hn hx;generalize cM x=cb at *;generalize x.weights.length=nw at *;generalize x.labels.length=nl at *;generalize x.values.length=nv at *;generalize x.kids.length=nk at *;generalize x.kind=k at *;generalize x.lo=lo at *;generalize x.hi=hi at *;generalize x.name=nm at *;subst hk;go_enter Tryz.func88,Tryz.ntmps88;go_upto_region 2 with fail;simp only [List.append];go_wp2_with fail;refine HC.out.mono ?_;rintro e w1 ⟨rfl,hx1⟩;have HX1:=a4b hx1;obtain ⟨c1,c2,c3,c4,c5,c6,c7⟩:=HN.out w1 hx1;clear hx1 c0 c8 c9 c10 c11;generalize cJ x.value cO=cz at *;go_wp2_with fail
 all_goals
  go_ret;refine ⟨aC ?_,HX1.out⟩;rw [HS.out];clear HS HC HN HX1 c1 c2 c3 c4 c5 c6 c7;rw [Bool.eq_iff_iff]
  simp_all [aU]
  try omega
theorem aMd (x a b o P w)(hn:bQ w b o x a)(hx:NAt w P x a)(hk:x.kind=2) :
  qg 88 #[qt b o] w (dI (cM x) w):=by
 have HS:=a4b (show cM x=(decide (0<=x.kind) && decide (x.kind<=4) && (decide (x.kind=0) || decide (cJ x.value cO=0)) && (decide (x.kind=1) || (decide (x.lo=0) && decide (x.hi=0))) &&
 (decide (x.kind=2) || (decide (x.weights.length=0) && decide (x.labels.length=0))) && (decide (x.kind=3) || aU x.name) && (decide (x.kind=4) || decide (x.values.length=0)) &&
 ((!decide (x.kind=0) && !decide (x.kind=1)) || decide (x.kids.length=0))) from rfl)
 have HC:=a4b (bJ x.value cO a.xA none a.xc 0 P P w hx.value (VAt.zero _ _))
 have HN:=a4b (show ∀ w',Ext w w'->qc w' b (o+1) x.name∧qc w' b (o+2) x.lo∧qc w' b (o+3) x.hi∧qc w' b (o+4) (.slice a.wA x.weights a.wc) ∧
  qc w' b (o+5) (.slice a.lA x.labels a.lc)∧qc w' b (o+6) (.slice a.vA x.values a.vc)∧w'.cell? (qt b (o+7))=some (.slice a.kA x.kids a.kc) from fun w' h=>⟨(hn.ext h).c1,(hn.ext h).c2,(hn.ext h).c3,(hn.ext h).c4,(hn.ext h).c5,(hn.ext h).c6,(hn.ext h).c7⟩)
 have c0:=hn.c0;have c8:=hn.c8;have c9:=hn.c9;have c10:=hn.c10;have c11:=hn.c11;clear hn hx;generalize cM x=cb at *;generalize x.weights.length=nw at *;generalize x.labels.length=nl at *;generalize x.values.length=nv at *;generalize x.kids.length=nk at *;generalize x.kind=k at *;generalize x.lo=lo at *;generalize x.hi=hi at *;generalize x.name=nm at *;subst hk;go_enter Tryz.func88,Tryz.ntmps88;go_upto_region 2 with fail;simp only [List.append];go_wp2_with fail;refine HC.out.mono ?_;rintro e w1 ⟨rfl,hx1⟩;have HX1:=a4b hx1;obtain ⟨c1,c2,c3,c4,c5,c6,c7⟩:=HN.out w1 hx1;clear hx1 c0 c8 c9 c10 c11;generalize cJ x.value cO=cz at *;go_wp2_with fail
 all_goals
  go_ret;refine ⟨aC ?_,HX1.out⟩;rw [HS.out];clear HS HC HN HX1 c1 c2 c3 c4 c5 c6 c7;rw [Bool.eq_iff_iff]
  simp_all [aU]
  try omega
theorem aMc (x a b o P w)(hn:bQ w b o x a)(hx:NAt w P x a)(hk:x.kind=3) :
  qg 88 #[qt b o] w (dI (cM x) w):=by
 have HS:=a4b (show cM x=(decide (0<=x.kind) && decide (x.kind<=4) && (decide (x.kind=0) || decide (cJ x.value cO=0)) && (decide (x.kind=1) || (decide (x.lo=0) && decide (x.hi=0))) &&
 (decide (x.kind=2) || (decide (x.weights.length=0) && decide (x.labels.length=0))) && (decide (x.kind=3) || aU x.name) && (decide (x.kind=4) || decide (x.values.length=0)) &&
 ((!decide (x.kind=0) && !decide (x.kind=1)) || decide (x.kids.length=0))) from rfl)
 have HC:=a4b (bJ x.value cO a.xA none a.xc 0 P P w hx.value (VAt.zero _ _))
 have HN:=a4b (show ∀ w',Ext w w'->qc w' b (o+1) x.name∧qc w' b (o+2) x.lo∧qc w' b (o+3) x.hi∧qc w' b (o+4) (.slice a.wA x.weights a.wc) ∧
  qc w' b (o+5) (.slice a.lA x.labels a.lc)∧qc w' b (o+6) (.slice a.vA x.values a.vc)∧w'.cell? (qt b (o+7))=some (.slice a.kA x.kids a.kc) from fun w' h=>⟨(hn.ext h).c1,(hn.ext h).c2,(hn.ext h).c3,(hn.ext h).c4,(hn.ext h).c5,(hn.ext h).c6,(hn.ext h).c7⟩)
 have c0:=hn.c0;have c8:=hn.c8;have c9:=hn.c9;have c10:=hn.c10;have c11:=hn.c11;clear hn hx;generalize cM x=cb at *;generalize x.weights.length=nw at *;generalize x.labels.length=nl at *;generalize x.values.length=nv at *;generalize x.kids.length=nk at *;generalize x.kind=k at *;generalize x.lo=lo at *;generalize x.hi=hi at *;generalize x.name=nm at *;subst hk;go_enter Tryz.func88,Tryz.ntmps88;go_upto_region 2 with fail;simp only [List.append];go_wp2_with fail;refine HC.out.mono ?_;rintro e w1 ⟨rfl,hx1⟩;have HX1:=a4b hx1;obtain ⟨c1,c2,c3,c4,c5,c6,c7⟩:=HN.out w1 hx1;clear hx1 c0 c8 c9 c10 c11;generalize cJ x.value cO=cz at *;go_wp2_with fail
 all_goals
  go_ret;refine ⟨aC ?_,HX1.out⟩;rw [HS.out];clear HS HC HN HX1 c1 c2 c3 c4 c5 c6 c7;rw [Bool.eq_iff_iff]
  simp_all [aU]
  try omega
theorem aMb (x a b o P w)(hn:bQ w b o x a)(hx:NAt w P x a)(hk:x.kind=4) :
  qg 88 #[qt b o] w (dI (cM x) w):=by
 have HS:=a4b (show cM x=(decide (0<=x.kind) && decide (x.kind<=4) && (decide (x.kind=0) || decide (cJ x.value cO=0)) && (decide (x.kind=1) || (decide (x.lo=0) && decide (x.hi=0))) &&
 (decide (x.kind=2) || (decide (x.weights.length=0) && decide (x.labels.length=0))) && (decide (x.kind=3) || aU x.name) && (decide (x.kind=4) || decide (x.values.length=0)) &&
 ((!decide (x.kind=0) && !decide (x.kind=1)) || decide (x.kids.length=0))) from rfl)
 have HC:=a4b (bJ x.value cO a.xA none a.xc 0 P P w hx.value (VAt.zero _ _))
 have HN:=a4b (show ∀ w',Ext w w'->qc w' b (o+1) x.name∧qc w' b (o+2) x.lo∧qc w' b (o+3) x.hi∧qc w' b (o+4) (.slice a.wA x.weights a.wc) ∧
  qc w' b (o+5) (.slice a.lA x.labels a.lc)∧qc w' b (o+6) (.slice a.vA x.values a.vc)∧w'.cell? (qt b (o+7))=some (.slice a.kA x.kids a.kc) from fun w' h=>⟨(hn.ext h).c1,(hn.ext h).c2,(hn.ext h).c3,(hn.ext h).c4,(hn.ext h).c5,(hn.ext h).c6,(hn.ext h).c7⟩)
 have c0:=hn.c0;have c8:=hn.c8;have c9:=hn.c9;have c10:=hn.c10;have c11:=hn.c11;clear hn hx;generalize cM x=cb at *;generalize x.weights.length=nw at *;generalize x.labels.length=nl at *;generalize x.values.length=nv at *;generalize x.kids.length=nk at *;generalize x.kind=k at *;generalize x.lo=lo at *;generalize x.hi=hi at *;generalize x.name=nm at *;subst hk;go_enter Tryz.func88,Tryz.ntmps88;go_upto_region 2 with fail;simp only [List.append];go_wp2_with fail;refine HC.out.mono ?_;rintro e w1 ⟨rfl,hx1⟩;have HX1:=a4b hx1;obtain ⟨c1,c2,c3,c4,c5,c6,c7⟩:=HN.out w1 hx1;clear hx1 c0 c8 c9 c10 c11;generalize cJ x.value cO=cz at *;go_wp2_with fail
 all_goals
  go_ret;refine ⟨aC ?_,HX1.out⟩;rw [HS.out];clear HS HC HN HX1 c1 c2 c3 c4 c5 c6 c7;rw [Bool.eq_iff_iff]
  simp_all [aU]
  try omega
theorem aIt (x a b o P w)(hn:bQ w b o x a)(hx:NAt w P x a) :
  qg 88 #[qt b o] w (dI (cM x) w):=by
 by_cases h:x.kind<0
 ·exact aIr x a b o w hn h
 by_cases h':4<x.kind
 ·exact aIs x a b o w hn h'
 have hc:x.kind=0∨x.kind=1∨x.kind=2∨x.kind=3∨x.kind=4:=I;rcases hc with hk | hk | hk | hk | hk
 ·exact aMf x a b o w hn hk
 ·exact aMe x a b o P w hn hx hk
 ·exact aMd x a b o P w hn hx hk
 ·exact aMc x a b o P w hn hx hk
 ·exact aMb x a b o P w hn hx hk
def aZe (i:Nat)(x:GN)(W:World)(k:Value)(wr:World):Prop:=∃ j:Nat,j<=x.kids.length∧k=↑j∧W=wr∧dD i x=((x.kids.drop j).all (fun z=>!fmK i z) && rH x)
def aVv (x:GN)(W:World)(k:Value)(wr:World):Prop:=∃ j:Nat,1<=j∧j<=x.values.length+1∧k=↑j∧Ext W wr∧sF x.values=sF (x.values.drop (j - 1))
theorem aE3 (t)(i:Nat)(P:Nat->Prop)(gc vn)(w:World)(hP:∀ b,P b->b<w)(ht:Nds w P vn t)(hi:i<t)(h0:qc w gc 0 vn)(hil:i<=100000) :
  qg 89 #[qp gc,↑i] w (dI (dD i (t.getD i default)) w):=by
 obtain ⟨An,cn,en,hn1,hn2⟩:=ht.form;subst en;obtain ⟨b,off,a,rfl,hPb,hx,hn⟩:=ht.get hi;generalize hg:t.getD i default=x at *;clear hg;have HP:=a4b hP;have HX:=a4b hx;have HS:=a4b (show dD i x=(x.kids.all (fun z=>!fmK i z) && rH x) from rfl)
 have HK:=a4b (show rH x=(if x.kind=2 then decide (1<=x.kids.length) && decide (x.kids.length<=256) && decide (x.weights.length=x.kids) && (decide (x.labels.length=0) || decide (x.labels.length=x.kids))
  else if x.kind=3 then (if aU x.name then decide (x.kids.length<=256) else decide (x.kids.length<=16) && decide (eQ (.mk 3 0 x.name [])=0))
  else if x.kind=4 then sF x.values && decide (x.kids.length=x.values+1) else true) from rfl)
 obtain ⟨hkl,hkc⟩:=hx.kids.le;obtain ⟨hvl,hvc⟩:=hx.values.le;have hlo:(i:Int)<(t:Int):=by omega
 have c0:=hn.c0;have c1:=hn.c1;have c4:=hn.c4;have c5:=hn.c5;have c6:=hn.c6;have c7:=hn.c7;have HKI:=a4b hx.kids;clear hx hn ht hP;generalize a.kA=Ak at *;generalize a.kc=kc at *;go_enter Tryz.func89,Tryz.ntmps89;go_wp2_with fail;go_loopw [26] (fun k wr=>aZe i x w k wr) (fun k _=>x.kids.length - (intOf k).toNat)
 case atStart=>exact ⟨0,af _,rfl,rfl,HS.out⟩
 case round =>
  obtain ⟨j,hj,rfl,rfl,hT⟩:=hrel;have HT:=a4b hT;clear hT;by_cases hlt:j<x.kids
  ·obtain ⟨b1,o1,rfl,-,-,g1⟩:=HKI.out.get hlt
   have HD:=a4b (show dD i x=(!fmK i (x.kids.getD j 0) && (x.kids.drop (j+1)).all (fun z=>!fmK i z) && rH x) by rw [HT.out,aH 0 hlt];rfl);generalize x.kids.getD j 0=z at *;by_cases hz1:z<0
   ·have HF:=a4b (show fmK i z=true by unfold fmK;rw [a4e hz1];rfl)
    have tz1:decide (z<0)=true:=a4e hz1;go_wp2_with fail;go_ret;exact ⟨aC jh,aq _⟩
   ·have tz1:decide (z<0)=false:=a4f hz1
    by_cases hz2:(i:Int)<=z
    ·have HF:=a4b (show fmK i z=true by unfold fmK;rw [a4e hz2];simp)
     go_wp2_with fail;go_ret;exact ⟨aC jh,aq _⟩
    ·have HF:=a4b (show fmK i z=false by unfold fmK;rw [a4f hz2,a4f hz1];rfl)
     go_wp2_with fail;go_roundw
     case rel=>exact ⟨j+1,I,by go_num,rfl,jh⟩
     case measure=>simp [intOf];omega
  ·have HU:=a4b (show dD i x=rH x by rw [HT.out,drop_nil I];rfl)
   clear HT HKI;by_cases k2:x.kind=2
   ·have HR:=a4b (show dD i x=(decide (1<=x.kids.length) && decide (x.kids.length<=256) && decide (x.weights.length=x.kids) && (decide (x.labels.length=0) || decide (x.labels.length=x.kids))) by rw [HU.out,HK.out,if_pos k2])
    have t2:(x.kind == 2)=true:=a4d k2;clear k2;generalize x.weights.length=nw at *;generalize x.labels.length=nl at *;generalize x.kids.length=nk at *;go_wp2_with fail
    all_goals
     go_ret;refine ⟨aC ?_,aq _⟩;rw [HR.out];clear HR HU HK HS HX c0 c1 c4 c5 c6 c7 h0;rw [Bool.eq_iff_iff]
     simp_all
     try omega
   ·have t2:(x.kind == 2)=false:=a4c k2
    by_cases k3:x.kind=3
    ·have t3:(x.kind == 3)=true:=a4d k3
     have HR:=a4b (show dD i x=(if aU x.name then decide (x.kids.length<=256) else decide (x.kids.length<=16) && decide (eQ (.mk 3 0 x.name [])=0)) by rw [HU.out,HK.out,if_neg k2,if_pos k3]);clear k2 k3;by_cases he:x.name.toList=[]
     ·have he1:x.name.toList.isEmpty=true:=by simp [he]
      have HE:=a4b (hU he);go_wp2_with fail
      all_goals
       go_ret;refine ⟨aC ?_,aq _⟩;rw [HR.out,HE.out];simp;try omega
     ·have he1:x.name.toList.isEmpty=false:=by simpa using he
      have HE:=a4b (hY he);by_cases hk16:x.kids.length<=16
      ·have t16:decide ((x.kids:Int)<=16)=true:=a4e I
       have hnm:=HX.out.name;go_wp2_with fail;refine (gJ (.mk 3 0 x.name []) none 0 P _ HP.out ⟨by unfold I64;simp [GV.kind],by unfold I64;simp [GV.n],hnm,dl,dl,⟨none,0,[],rfl,dl,dl,⟨dl,fun h=>by simp [GV.kids] at h⟩,by simp [GV.kids,RVs]⟩⟩).mono ?_;rintro e w1 ⟨rfl,hx1⟩;have HX1:=a4b hx1;clear hx1;generalize eQ (.mk 3 0 x.name [])=vv at *;go_wp2_with fail
       all_goals
        go_ret;refine ⟨aC ?_,HX1.out⟩;rw [HR.out,HE.out];clear HR HU HK HS HX HP c0 c1 c4 c5 c6 c7 h0
        simp_all
        try rfl
      ·have t16:decide ((x.kids:Int)<=16)=false:=a4f I
       go_wp2_with fail
       all_goals
        go_ret;refine ⟨aC ?_,aq _⟩;rw [HR.out,HE.out];clear HR HU HK HS HX HP c0 c1 c4 c5 c6 c7 h0
        simp_all
        try omega
    ·have t3:(x.kind == 3)=false:=a4c k3
     by_cases k4:x.kind=4
     ·have t4:(x.kind == 4)=true:=a4d k4
      have HR:=a4b (show dD i x=(sF x.values && decide (x.kids.length=x.values+1)) by rw [HU.out,HK.out,if_neg k2,if_neg k3,if_pos k4]);have HVL:=a4b HX.out.values;clear k2 k3 k4 c1 c4 c5;generalize a.vA=Av at *;generalize a.vc=vc at *;go_wp2_with fail;go_loopw [9] (fun k wr=>aVv x w k wr) (fun k _=>x.values.length+1 - (intOf k).toNat)
      case atStart=>exact ⟨1,I,I,rfl,aq _,O⟩
      case round =>
       obtain ⟨j,hj1,hj2,rfl,hxr,ht⟩:=hrel;have HT:=a4b ht;have HXR:=a4b hxr;have hr6:=aA hxr c6;clear ht hxr;by_cases hlt':j<x.values
       ·obtain ⟨q,rfl⟩:∃ q,j=q+1:=⟨j - 1,I⟩
        have hq:q<x.values.length:=I;obtain ⟨v1,o1,A1,d1,e1,-,hv1,g10,g11,g12,g13⟩:=(HVL.out.ext HXR.out).get hq;obtain ⟨v2,o2,A2,d2,e2,-,hv2,g20,g21,g22,g23⟩:=(HVL.out.ext HXR.out).get hlt';subst e1;injection e2 with e2;injection e2 with e21 e22;subst e21 e22
        have HD:=a4b (show sF x.values=(decide (cJ (x.values.getD q default) (x.values.getD (q+1) default)<0) && sF (x.values.drop (q+1))) by
         rw [HT.out,Nat.add_sub_cancel,aH default hq,aH default hlt'];rfl)
        have HV1:=a4b hv1;have HV2:=a4b hv2;clear hv1 hv2;generalize x.values.getD q default=y1 at *;generalize x.values.getD (q+1) default=y2 at *;go_upto_region 20 with fail;have hq1:(0:Int)<=(q:Int)+1:=by omega
        have hq2:((q:Int)+1).toNat=q+1:=I;have hq3:IntKind.i64.wrap ((q:Int)+1 - 1)=(q:Int):=by rw [IntWalk.i64_in _ I];omega
        have hq4:IntKind.i64.wrap (q:Int)=(q:Int):=IntWalk.i64_in _ I;go_still_tail 15,U;clear hq1 hq2 hq3 hq4;go_wp2_with fail;refine (bJ y1 y2 A1 A2 d1 d2 P P _ (HV1.out.ext (aq _).drew') (HV2.out.ext (aq _).drew')).mono ?_;rintro e w2 ⟨rfl,hx2⟩;have HX2:=a4b (HXR.out.trans' ((aq _).drew'.trans' hx2));clear hx2;by_cases hz:cJ y1 y2<0
        ·have tz:decide (0<=cJ y1 y2)=false:=a4f I
         have HZ:=a4b hz;go_wp2_with fail;go_roundw
         case rel=>exact ⟨q+2,I,I,by go_num,HX2.out,i5⟩
         case measure=>simp [intOf];omega
        ·have tz:decide (0<=cJ y1 y2)=true:=a4e I
         have HZ:=a4b hz;go_wp2_with fail;go_ret;exact ⟨aC (by rw [HR.out,HD.out,a4f (show ¬ cJ y1 y2<0 by have:=HZ.out;omega)];simp),HX2.out⟩
       ·have HZ:=a4b (show sF x.values=true by rw [HT.out];exact oO jr)
        go_wp2_with fail
        all_goals
         go_ret;refine ⟨aC ?_,HXR.out⟩;rw [HR.out,HZ.out,Bool.eq_iff_iff];simp;try omega
     ·have t4:(x.kind == 4)=false:=a4c k4
      have HR:=a4b (show dD i x=true by rw [HU.out,HK.out,if_neg k2,if_neg k3,if_neg k4]);go_wp2_with fail;go_ret;exact ⟨aC HR.out.symm,aq _⟩
def oA (l:List Int):Array Value:=(l.map (Value.int .i64)).toArray
theorem kM {l:List Int}{i:Nat}(h:i<l):(oA l)[i]?=some (.int .i64 (l.getD i 0)):=by simp [oA,h]
theorem xK (l i)(v:Int):(oA l).setIfInBounds i (↑v)=oA (l.set i v):=by simp [oA,List.map_set]
theorem Ints.of_blk {w g l}(h:Blk w g 3 (oA l))(hI:∀ x ∈ l,I64 x)(hl:l.length<=17592186044416):Ints w (fun b=>b=g) (.slice (qp g) l l) l :=
 ⟨_,_,rfl,ab _,⟨hl,I⟩,hI,O,fun _=>⟨g,0,rfl,rfl,fun j u hu=>by rw [Nat.zero_add];exact h.cell' j (by simpa [oA] using hu)⟩⟩
def aV2 (gl gz:Nat)(ls zs:List Int)(i:Nat)(l z:Int)(w:World)(e:Ending)(w':World):Prop :=
 e=.returned (decide (l<=256) && decide (z<=1024))∧Blk w' gl 3 (oA (ls.set i l))∧Blk w' gz 3 (oA (zs.set i z))∧Fr (fun b=>b=gl∨b=gz) w w'
def aVu (zs:List Int)(x:GN)(W:World)(s k:Value)(wr:World):Prop:=∃ (j:Nat)(s1:Int),j<=x.kids∧k=↑j∧s=↑s1∧W=wr∧dG zs 1 x.kids=dG zs s1 (x.kids.drop j)
def aNp (zs:List Int)(x:GN)(ch:Bool)(W:World)(s k:Value)(wr:World):Prop:=∃ (j:Nat)(s1:Int),j<=x.kids∧k=↑j∧s=↑s1∧W=wr∧aT zs ch 0 1 x.kids=aT zs ch j s1 (x.kids.drop j)
theorem jR {gl gz ls zs i l z w W w2}(n3:gl ≠ gz)(hf:Fr (fun b=>b=gl∨b=gz) w W)(hb1:Blk W gl 3 (oA (ls.set i l)))(hb2:Blk W gz 3 (oA zs))(hx:Ext W w2){r}(hr:r=(decide (l<=256) && decide (z<=1024))) :
  aV2 gl gz ls zs i l z w (.returned r) (w2.setCell (qt gz i) (↑z)):=by
 subst hr;refine ⟨rfl,(hb1.ext hx).far (p:=qt gz i) n3 _,?_,(hf.trans (ar hx)).setCell (p:=qt gz i) (.inl (.inr rfl)) _⟩;have:=(hb2.ext hx).set_ i (↑z);rw [xK] at this;exact this
theorem aGx (t)(i:Nat)(P:Nat->Prop)(gc gl gz gs vn ls zs)(w:World)(hP:∀ b,P b->b<w∧b ≠ gl∧b ≠ gz)(ht:Nds w P vn t)(hi:i<t)
  (hc:Blk w gc 141 #[vn,.slice (qp gl) t t,.slice (qp gz) t t,qp gs])
  (hl:Blk w gl 3 (oA ls))(hz:Blk w gz 3 (oA zs))(hll:ls.length=t)(hzl:zs.length=t)(hI:∀ x ∈ ls,I64 x)(hZ:∀ x ∈ zs,I64 x)(n1:gc ≠ gl)(n2:gc ≠ gz)(n3:gl ≠ gz)
  (hok:dV i (t.getD i default))(hlen:t.length<=100000) :
  qg 92 #[qp gc,↑i] w (aV2 gl gz ls zs i (gZ ls (t.getD i default)) (fW zs (t.getD i default)) w):=by
 obtain ⟨An,cn,en,hn1,hn2⟩:=ht.form;subst en;obtain ⟨b,off,a,rfl,hPb,hx,hn⟩:=ht.get hi;generalize hg:t.getD i default=x at *;clear hg;have HP:=a4b hP;have HX:=a4b hx;have HN:=a4b hn;have HC:=a4b hc;have HL:=a4b hl;have HZ:=a4b hz;have HLL:=a4b hll;have HZL:=a4b hzl;have HZI:=a4b hZ;have HPB:=a4b hPb;have HOK:=a4b (show dV ls x from ⟨hok.kind,hok.unused,fun z hz=>by have:=hok.kids z hz;omega,hok.choice,hok.seq,hok.bind,hok.inc,hok.valid,hok.numbers⟩);have HKI:=a4b hok.kids;have HSZ:=a4b (show fW zs x=if x.kind=0 then rsz x.value else if x.kind=3 then dG zs 1 x.kids else if x.kind=2 then aT zs true 0 1 x.kids else if x.kind=4 then aT zs false 0 1 x.kids else 1 from rfl);have N1:=a4b n1;have N2:=a4b n2;have N3:=a4b n3
 have HPL:=a4b (show ∀ W,Blk W gl 3 (oA ls)->bQ W b (off+i*12) x a->NAt W P x a->Calls Tryz.prog 96 #[qt b (off+i*12),.slice (qp gl) t t] W fun e w'=>e=.returned (.int .i64 (gZ ls x))∧W=w' from fun W h1 h2 h3=>by
  have h4:=Ints.of_blk h1 hI I;rw [hll] at h4;exact lH ls x a b (off+i*12) P _ _ W h2 h3 h4 HOK.out)
 obtain ⟨hkl,hkc⟩:=hx.kids.le;have hlo:(i:Int)<(t:Int):=by omega
 have k0:=hc.cell' (u:=.slice (qt b off) t cn) 0 rfl;have k1:=hc.cell' (u:=.slice (qp gl) t t) 1 rfl;have g1:=hl.cell' i (kM (l:=ls) I);have f1:=hl.frozen i;have m1:¬ gc=gl:=n1;clear hx hn ht hP hc hl hz hll hzl hI hZ n1 n2 n3 hok hPb;generalize ls.getD i 0=z0 at *;generalize gZ ls x=lr at *;go_enter Tryz.func92,Tryz.ntmps92;go_upto_region 2 with fail
 go_region_held3 (fun w'=>qc w' gc 1 (.slice (qp gl) t t))
  (first
   | exact fT (w:=w) m1 k1
   | exact k1
   | go_keep)
  (first
   | (go_at_call 96;refine (HPL.out _ (HL.out.ext (aq _).drew') (HN.out.ext (aq _).drew') (HX.out.ext (aq _).drew')).mono ?_;rintro e w' ⟨rfl,rfl⟩))
 go_upto_region 3 with fail;have HWF:=a4b (((au (fun b=>b=gl∨b=gz) w).setCell (p:=qt gl i) (.inl (.inl rfl)) (↑lr)).drew)
 have HWL:=a4b (show Blk (w.setCell (qt gl i) (↑lr)).drew gl 3 (oA (ls.set i lr)) by
  have h:=(HL.out.set_ i (↑lr)).drew;rw [xK] at h;exact h)
 have HWZ:=a4b ((HZ.out.far (p:=qt gl i) (fun e=>N3.out e.symm) (↑lr)).drew);have HWC:=a4b ((HC.out.far (p:=qt gl i) N1.out (↑lr)).drew);have hkeep:aB P w (w.setCell (qt gl i) (↑lr)).drew:=aB.set (fun _ _ _=>rfl) _ (fun h=>(HP.out _ h).2.1 rfl);have HWX:=a4b (HX.out.carry hkeep (fun _ _ h=>h));have HWN:=a4b (HN.out.keep HPB.out hkeep);have HWP:=a4b (show ∀ b,P b->b<(w.setCell (qt gl i) (↑lr)).drew.heap.size from fun b hb=>ac (HP.out b hb).1 HWF.out.size);clear hkeep k0 k1 g1 f1 m1 HPL;generalize (w.setCell (qt gl i) (↑lr)).drew=W at *;have hzl:=HZL.out;have hll:=HLL.out
 have HT:=a4b (show ∀ w2,Ext W w2->qc w2 gc 1 (.slice (qp gl) t t)∧qc w2 gc 2 (.slice (qp gz) t t)∧qc w2 gl i lr ∧
   qc w2 gz i (.int .i64 (zs.getD i 0))∧w2.frozen? (qt gz i)=false from fun w2 h=>⟨(HWC.out.ext h).cell' 1 rfl,(HWC.out.ext h).cell' 2 rfl,(HWL.out.ext h).cell' i (by rw [kM bh];simp [List.getD,hll,hi]),(HWZ.out.ext h).cell' i (kM I),(HWZ.out.ext h).frozen i⟩)
 clear hzl hll;generalize zs.getD i 0=z1 at *;have c0:=HWN.out.c0;have c7:=HWN.out.c7;have c8:=HWN.out.c8;have c9:=HWN.out.c9;have c10:=HWN.out.c10;have c11:=HWN.out.c11;have q2:=(HT.out W (aq _)).2.1;have m3:¬ gl=gz:=N3.out;have m3':¬ gc=gz:=N2.out;have HKV:=a4b HWX.out.kids;have HGZ:=a4b (Ints.of_blk HWZ.out HZI.out iu);by_cases k0:x.kind=0
 ·have t0:(x.kind == 0)=true:=a4d k0
  have HS2:=a4b (show fW zs x=rsz x.value by rw [HSZ.out,if_pos k0]);have HVS:=a4b (tP x.value a.xA a.xc P W HWP.out HWX.out.value);rw [aOc] at HVS;generalize rsz x.value=sz at *;clear k0 c7 HSZ;go_wp2_with fail;refine HVS.out.mono ?_;rintro e w2 ⟨rfl,hx2⟩;have HX2:=a4b hx2;clear hx2 c0 c8 c9 c10 c11 q2;obtain ⟨e1,e2,e3,e4,e5⟩:=HT.out _ HX2.out;go_wp2_with fail
  all_goals
   go_ret;rw [HS2.out];exact jR N3.out HWF.out HWL.out HWZ.out HX2.out dy
 have t0:(x.kind == 0)=false:=a4c k0;clear c8 c9 c10 c11;by_cases k3:x.kind=3
 ·have t3:(x.kind == 3)=true:=a4d k3
  have HS2:=a4b (show fW zs x=dG zs 1 x.kids by rw [HSZ.out,if_neg k0,if_pos k3]);clear k0 k3 HSZ;generalize a.kA=Ak at *;generalize a.kc=kc at *;go_wp2_with fail;go_loopw [6,47] (fun s k wr=>aVu zs x W s k wr) (fun _ k _=>x.kids.length - (intOf k).toNat)
  case atStart=>exact ⟨0,1,af _,rfl,rfl,rfl,rfl⟩
  case round =>
   obtain ⟨j,s1,hj,rfl,rfl,rfl,hT⟩:=hrel;have HTT:=a4b hT;clear hT;by_cases hlt:j<x.kids
   ·obtain ⟨b1,o1,rfl,-,-,g1⟩:=HKV.out.get hlt
    have hz:=HKI.out _ (aD (d:=0) hlt);have HD:=a4b (HTT.out.trans (by rw [aH 0 hlt,dG]));generalize x.kids.getD j 0=z at *;obtain ⟨b2,o2,eb,-,-,g2⟩:=HGZ.out.get (i:=z.toNat) iu;injection eb with eb;injection eb with eb1 eb2;subst eb1 eb2;rw [Nat.zero_add] at g2;have hz2:z<(t:Int):=by omega
    generalize zs.getD z.toNat 0=y at *;go_wp2_with fail;go_roundw
    case rel=>exact ⟨j+1,_,I,by go_num,rfl,rfl,HD.out⟩
    case measure=>simp [intOf];omega
   ·have HD:=a4b (show dG zs 1 x.kids=s1 by rw [HTT.out,drop_nil I,dG])
    obtain ⟨e1,e2,e3,e4,e5⟩:=HT.out _ (aq _);go_wp2_with fail
    all_goals
     go_ret;rw [HS2.out,HD.out];exact jR N3.out HWF.out HWL.out HWZ.out (aq _) dy
 have t3:(x.kind == 3)=false:=a4c k3;by_cases k2:x.kind=2
 ·have t2:(x.kind == 2)=true:=a4d k2
  have HS2:=a4b (show fW zs x=aT zs true 0 1 x.kids by rw [HSZ.out,if_neg k0,if_neg k3,if_pos k2]);clear k0 k3 k2 HSZ;generalize a.kA=Ak at *;generalize a.kc=kc at *;go_wp2_with fail;go_loopw [6,69] (fun s k wr=>aNp zs x true W s k wr) (fun _ k _=>x.kids.length - (intOf k).toNat)
  case atStart=>exact ⟨0,1,af _,rfl,rfl,rfl,rfl⟩
  case round =>
   obtain ⟨j,s1,hj,rfl,rfl,rfl,hT⟩:=hrel;have HTT:=a4b hT;clear hT;by_cases hlt:j<x.kids
   ·obtain ⟨b1,o1,rfl,-,-,g1⟩:=HKV.out.get hlt
    have hz:=HKI.out _ (aD (d:=0) hlt);have HD:=a4b (show aT zs true 0 1 x.kids=aT zs true (j+1) (if true=true∨0<j then (if s1<zs.getD (x.kids.getD j 0).toNat 0 then zs.getD (x.kids.getD j 0).toNat 0 else s1) else s1) (x.kids.drop (j+1)) by rw [HTT.out,aH 0 hlt,aT]);generalize x.kids.getD j 0=z at *;obtain ⟨b2,o2,eb,-,-,g2⟩:=HGZ.out.get (i:=z.toNat) iu;injection eb with eb;injection eb with eb1 eb2;subst eb1 eb2;rw [Nat.zero_add] at g2;have hz2:z<(t:Int):=by omega
    generalize zs.getD z.toNat 0=y at *;by_cases hk0:0<j
    ·have tk:decide (0<(j:Int))=true:=a4e I
     go_wp2_with fail
     all_goals
      go_roundw
      case rel=>exact ⟨j+1,_,I,by go_num,rfl,rfl,eh⟩
      case measure=>simp [intOf];omega
    ·have tk:decide (0<(j:Int))=false:=a4f I
     go_wp2_with fail
     all_goals
      go_roundw
      case rel=>exact ⟨j+1,_,I,by go_num,rfl,rfl,by rw [HD.out,if_pos (.inl rfl)];try (first | rw [if_pos du] | rw [if_neg I])⟩
      case measure=>simp [intOf];omega
   ·have HD:=a4b (show aT zs true 0 1 x.kids=s1 by rw [HTT.out,drop_nil I,aT])
    obtain ⟨e1,e2,e3,e4,e5⟩:=HT.out _ (aq _);go_wp2_with fail
    all_goals
     go_ret;rw [HS2.out,HD.out];exact jR N3.out HWF.out HWL.out HWZ.out (aq _) dy
 have t2:(x.kind == 2)=false:=a4c k2;by_cases k4:x.kind=4
 ·have t4:(x.kind == 4)=true:=a4d k4
  have HS2:=a4b (show fW zs x=aT zs false 0 1 x.kids by rw [HSZ.out,if_neg k0,if_neg k3,if_neg k2,if_pos k4]);clear k0 k3 k2 k4 HSZ;generalize a.kA=Ak at *;generalize a.kc=kc at *;go_wp2_with fail;go_loopw [6,69] (fun s k wr=>aNp zs x false W s k wr) (fun _ k _=>x.kids.length - (intOf k).toNat)
  case atStart=>exact ⟨0,1,af _,rfl,rfl,rfl,rfl⟩
  case round =>
   obtain ⟨j,s1,hj,rfl,rfl,rfl,hT⟩:=hrel;have HTT:=a4b hT;clear hT;by_cases hlt:j<x.kids
   ·obtain ⟨b1,o1,rfl,-,-,g1⟩:=HKV.out.get hlt
    have hz:=HKI.out _ (aD (d:=0) hlt);have HD:=a4b (show aT zs false 0 1 x.kids=aT zs false (j+1) (if false=true∨0<j then (if s1<zs.getD (x.kids.getD j 0).toNat 0 then zs.getD (x.kids.getD j 0).toNat 0 else s1) else s1) (x.kids.drop (j+1)) by rw [HTT.out,aH 0 hlt,aT]);generalize x.kids.getD j 0=z at *;obtain ⟨b2,o2,eb,-,-,g2⟩:=HGZ.out.get (i:=z.toNat) iu;injection eb with eb;injection eb with eb1 eb2;subst eb1 eb2;rw [Nat.zero_add] at g2;have hz2:z<(t:Int):=by omega
    generalize zs.getD z.toNat 0=y at *;by_cases hk0:0<j
    ·have tk:decide (0<(j:Int))=true:=a4e I
     go_wp2_with fail
     all_goals
      go_roundw
      case rel=>exact ⟨j+1,_,I,by go_num,rfl,rfl,eh⟩
      case measure=>simp [intOf];omega
    ·have tk:decide (0<(j:Int))=false:=a4f I
     go_wp2_with fail
     all_goals
      go_roundw
      case rel=>exact ⟨j+1,_,I,by go_num,rfl,rfl,by rw [HD.out,if_neg bh]⟩
      case measure=>simp [intOf];omega
   ·have HD:=a4b (show aT zs false 0 1 x.kids=s1 by rw [HTT.out,drop_nil I,aT])
    obtain ⟨e1,e2,e3,e4,e5⟩:=HT.out _ (aq _);go_wp2_with fail
    all_goals
     go_ret;rw [HS2.out,HD.out];exact jR N3.out HWF.out HWL.out HWZ.out (aq _) dy
 have t4:(x.kind == 4)=false:=a4c k4;have HS2:=a4b (show fW zs x=1 by rw [HSZ.out,if_neg k0,if_neg k3,if_neg k2,if_neg k4]);clear k0 k3 k2 k4 HSZ;obtain ⟨e1,e2,e3,e4,e5⟩:=HT.out _ (aq _);go_wp2_with fail
 all_goals
  go_ret;rw [HS2.out];exact jR N3.out HWF.out HWL.out HWZ.out (aq _) dy
theorem bM.moreAll {t vn g w w'}(h:bM t vn g w)(hx:Ext w w'):bM t vn ⟨g.s,g.k,g.l,g.m,fun b=>g.X b∨(w<=b∧b<w')⟩ w':=by
 obtain ⟨kn,ls,ms,h0⟩:=h;have h:=h0.ext hx;have hQ:∀ b,b<w.heap.size->g.Q b->(SA.mk g.s g.k g.l g.m (fun b=>g.X b∨(w<=b∧b<w'))).Q b:=fun b hb h=>⟨h.1,fun hx=>hx.elim h.2 (fun e=>by omega)⟩
 exact ⟨kn,ls,ms,h.hk,h.hl,h.hm,h.kl,h.km,h.lm,h.klen,h.llen,h.mlen,h.box,h.known,h.lists,h.many,fun b hb=>hb.elim (h.xlt b) (fun e=>e.2),h0.nodes.carry (aB.of_ext hx) hQ,h.sl,fun j hj hk=>⟨(h0.fine j hj hk).1.carry (aB.of_ext hx) hQ,(h.fine j hj hk).2⟩⟩
structure pY (t:List GN)(vn:Value)(gc gl gz:Nat)(g:SA)(ls zs:List Int)(B:Nat)(w:World):Prop where
 box:Blk w gc 141 #[vn,.slice (qp gl) t t,.slice (qp gz) t t,qp g.s]
 lens:Blk w gl 3 (oA ls)
 sizes:Blk w gz 3 (oA zs)
 sets:bM t vn g w
 xl:g.X gl
 xz:g.X gz
 n1:gc ≠ gl
 n2:gc ≠ gz
 n3:gl ≠ gz
 sl:gl ≠ g.s
 sz:gz ≠ g.s
 ml:¬ g.M gl
 mz:¬ g.M gz
 mc:¬ g.M gc
 bl:B<=gl
 bz:B<=gz
 bm:∀ b,g.M b->B<=b
 llen:ls.length=t
 zlen:zs.length=t
def aNn (t:List GN)(vn:Value)(w:World)(s:Value)(wx:World):Prop :=
 ∃ gc gl gz g,s=↑(qp gc)∧pY t vn gc gl gz g (List.replicate t 0) (List.replicate t 0) w wx∧Ext w wx
theorem iH {t:List GN}{vn w w1 wx gc gl gz g mc}(hmc:mc=madeCells #[qz] t)(hs:bM t vn g w1)(hx1:Ext w1 wx)(hx:Ext w wx)
  (hb:Blk wx gc 141 #[vn,.slice (qp gl) t t,.slice (qp gz) t t,qp g.s])
  (hl:Blk wx gl 3 mc)(hz:Blk wx gz 3 mc)(h1:g.X gl∨(w1<=gl∧gl<wx))(h2:g.X gz∨(w1<=gz∧gz<wx))
  (n1:gc ≠ gl)(n2:gc ≠ gz)(n3:gl ≠ gz)(sl:gl ≠ g.s)(sz:gz ≠ g.s)(ml:gl ≠ g.k∧gl ≠ g.l∧gl ≠ g.m)(mz:gz ≠ g.k∧gz ≠ g.l∧gz ≠ g.m)(mc:gc ≠ g.k∧gc ≠ g.l∧gc ≠ g.m)(bl:w<=gl)(bz:w<=gz)(bm:w<=g.k∧w<=g.l∧w<=g.m) :
  aNn t vn w (qp gc) wx:=by
 have e:madeCells #[qz] t.length=oA (List.replicate t 0):=by rw [fZ];simp [oA]
 rw [hmc,e] at hl hz;refine ⟨gc,gl,gz,⟨g.s,g.k,g.l,g.m,fun b=>g.X b∨(w1<=b∧b<wx)⟩,rfl,⟨hb,hl,hz,hs.moreAll hx1,h1,h2,n1,n2,n3,sl,sz,?_,?_,?_,bl,bz,?_,O,O⟩,hx⟩
 ·exact fun h=>h.elim ml.1 (fun h=>h.elim ml.2.1 ml.2.2)
 ·exact fun h=>h.elim mz.1 (fun h=>h.elim mz.2.1 mz.2.2)
 ·exact fun h=>h.elim mc.1 (fun h=>h.elim mc.2.1 mc.2.2)
 ·rintro b (h | h | h)
  ·exact h ▸ bm.1
  ·exact h ▸ bm.2.1
  ·exact h ▸ bm.2.2
theorem bM.fr {t vn g w w' M}(h:bM t vn g w)(hf:Fr M w w')(h1:∀ b,M b->g.X b)(h2:¬ M g.s)(h3:∀ b,M b->¬ g.M b):bM t vn g w':=by
 obtain ⟨kn,ls,ms,h⟩:=h;have hk:aB g.Q w w':=aB.of_fr hf (fun b hq hm=>hq.2 (h1 b hm))
 exact ⟨kn,ls,ms,h.hk,h.hl,h.hm,h.kl,h.km,h.lm,h.klen,h.llen,h.mlen,h.box.fr hf h2,h.known.fr hf (fun hm=>h3 _ hm (.inl rfl)),h.lists.fr hf (fun hm=>h3 _ hm (.inr (.inl rfl))),h.many.fr hf (fun hm=>h3 _ hm (.inr (.inr rfl))),fun b hb=>ac (h.xlt b hb) hf.size,
  h.nodes.carry hk (fun _ _ h=>h),h.sl,fun j hj hkj=>⟨(h.fine j hj hkj).1.carry hk (fun _ _ h=>h),(h.fine j hj hkj).2⟩⟩
theorem bM.nodes {t vn g w}(h:bM t vn g w):Nds w g.Q vn t:=by
 obtain ⟨kn,ls,ms,h⟩:=h;exact h.nodes
theorem pY.ext {t vn gc gl gz g ls zs B w w'}(h:pY t vn gc gl gz g ls zs B w)(hx:Ext w w'):pY t vn gc gl gz g ls zs B w' :=
 ⟨h.box.ext hx,h.lens.ext hx,h.sizes.ext hx,h.sets.ext hx,h.xl,h.xz,h.n1,h.n2,h.n3,h.sl,h.sz,h.ml,h.mz,h.mc,h.bl,h.bz,h.bm,h.llen,h.zlen⟩
theorem pY.small {t vn gc gl gz g ls zs ls' zs' B w w'}(h:pY t vn gc gl gz g ls zs B w)(hf:Fr (fun b=>b=gl∨b=gz) w w')(h1:Blk w' gl 3 (oA ls'))(h2:Blk w' gz 3 (oA zs'))(e1:ls'.length=ls)(e2:zs'.length=zs):pY t vn gc gl gz g ls' zs' B w' :=
 ⟨h.box.fr hf (fun hm=>hm.elim h.n1 h.n2),h1,h2,h.sets.fr hf (fun b hb=>hb.elim (fun e=>e ▸ h.xl) (fun e=>e ▸ h.xz)) (fun hm=>hm.elim (fun e=>h.sl e.symm) (fun e=>h.sz e.symm)) (fun b hb=>hb.elim (fun e=>e ▸ h.ml) (fun e=>e ▸ h.mz)),h.xl,h.xz,h.n1,h.n2,h.n3,h.sl,h.sz,h.ml,h.mz,h.mc,h.bl,h.bz,h.bm,e1.trans h.llen,e2.trans h.zlen⟩
theorem pY.cases_ {t vn gc gl gz g ls zs B w w'}(h:pY t vn gc gl gz g ls zs B w)(hf:Fr g.M w w')(hs:bM t vn g w'):pY t vn gc gl gz g ls zs B w' :=
 ⟨h.box.fr hf h.mc,h.lens.fr hf h.ml,h.sizes.fr hf h.mz,hs,h.xl,h.xz,h.n1,h.n2,h.n3,h.sl,h.sz,h.ml,h.mz,h.mc,h.bl,h.bz,h.bm,h.llen,h.zlen⟩
def aI7 (t:List GN)(vn:Value)(gc gl gz:Nat)(g:SA)(W:World)(i:Value)(wr:World):Prop :=
 ∃ (k:Nat) (ls zs:List Int),k<=t∧i=↑k∧pY t vn gc gl gz g ls zs W wr∧Ext W wr∧ls.take k=(aM t).take k∧zs.take k=(bH t).take k∧bD t k∧(∀ x ∈ ls,I64 x)∧(∀ x ∈ zs,I64 x)∧aY t=cW t k (t.length - k)
theorem aBs {t:List GN}{vn gc gl gz g}{W w5 w6 wr:World}{k ls zs x}(hx:x=t.getD k default)(hk:k<t)(hA:pY t vn gc gl gz g ls zs W wr)(hE:Ext W wr)(hL:ls.take k=(aM t).take k)(hZ:zs.take k=(bH t).take k)(hG:bD t k)(hI:∀ x ∈ ls,I64 x)(hJ:∀ x ∈ zs,I64 x)
  (hV:aY t=cW t k (t.length - k))(hs:pZ t){w4}(h4:Ext wr w4)(h5:Fr (fun b=>b=gl∨b=gz) w4 w5)(hl:Blk w5 gl 3 (oA (ls.set k (gZ ls x))))(hz:Blk w5 gz 3 (oA (zs.set k (fW zs x))))(h6:Fr g.M w5 w6)(hS:bM t vn g w6)(hc:cP t k=0) :
  aI7 t vn gc gl gz g W (.int .i64 ((k:Int)+1)) w6:=by
 subst hx;refine ⟨k+1,_,_,I,O,((hA.ext h4).small h5 hl hz O O).cases_ h6 hS,?_,aEf hG hk hc hL hA.llen,aIw hG hs hk hc hZ hA.zlen,aEg hG hk hc,rI hI (qH hI _),rI hJ (aG1 hJ _),?_⟩
 ·have f1:Fr (fun b=>W.heap.size<=b) wr w6:=((ar h4).trans (h5.mono (fun b hb=>hb.elim (fun e=>e ▸ hA.bl) (fun e=>e ▸ hA.bz)))).trans (h6.mono hA.bm)
  exact ((ar hE).trans f1).new_ext (fun b hb=>hb)
 ·rw [uI hk hV,if_pos hc]
theorem iW (t)(P:Nat->Prop)(vn)(w:World)(hP:∀ b,P b->b<w)(ht:Nds w P vn t)(hsm:pZ t):qg 42 #[.agg #[vn]] w (dI (.int .i64 (aY t)) w):=by
 have HP:=a4b hP;have HT:=a4b ht;have HSM:=a4b hsm;obtain ⟨An,cn,en,hn1,hn2⟩:=ht.form;subst en;clear ht hP hsm;by_cases hbig:4096<t.length
 ·have HV:=a4b (show aY t=4 by unfold aY;rw [if_pos hbig])
  go_enter Tryz.func42,Tryz.ntmps42;go_wp2_with fail;go_ret;exact ⟨aI HV.out.symm,(aq _).alloc' _⟩
 ·obtain ⟨i3,hi3,hz0,hz1,hz2⟩:=info_parts Tryz.info3
  have hmk:∀ W:World,(Instr.makeSlice 22 (↑(t:Int)) (↑(t:Int))).run Tryz.prog W=.ok (.slice (qp W) t t) (W.alloc (qk (madeCells #[qz] t) 3)):=by
   intro W;have h:=run_make (P:=Tryz.prog) W 22 3 i3 _ Tryz.underlying22 hi3 hz0 .i64 .i64 (t:Int) (t:Int) I (Int.le_refl _) fo I;rw [hz1,Nat.mul_one] at h;rw [h];rfl
  clear hi3 hz0 hz1 hz2 i3;obtain ⟨mc,hmc⟩:∃ mc,mc=madeCells #[qz] t.length:=⟨_,rfl⟩;rw [<- hmc] at hmk;have HMC:=a4b hmc;clear hmc;go_enter Tryz.func42,Tryz.ntmps42;go_upto_region 3 with fail;have HB0:=a4b (aw w 25 #[.slice An t cn]);have HE0:=a4b ((aq w).alloc' (qk #[.slice An t cn] 25));have hW0s:(w.alloc (qk #[.slice An t cn] 25)).heap.size=w.heap.size+1:=by simp
  have HWS:=a4b hW0s;clear hW0s;generalize w.alloc (qk #[.slice An t cn] 25)=W at *;have b0:=HB0.out.cell' (u:=.slice An t cn) 0 rfl
  have HNS:=a4b (show ∀ W',Ext w W'->qg 87 #[.agg #[.slice An t cn]] W' (aJd t (.slice An t cn) (fun b=>w.heap.size<=b∧b<W'.heap.size) W') from fun W' h =>
   rU t P _ _ W' (HT.out.ext h) (fun b hb hx=>by have:=HP.out b hb;omega) (fun b hb=>hb.2) I)
  go_cut [3] (fun s wx=>aNn t (.slice An t cn) W s wx)
  case first =>
   go_region_held3 (fun w'=>qc w' w 0 (.slice An t cn))
    (first
     | go_keep
     | exact aA hxn ‹_›
     | exact aA (hxn.alloc' _) ‹_›)
    (first
     | (go_at_call 87;refine (HNS.out _ (by first | exact HE0.out.drew' | exact (HE0.out.alloc' _).drew' | exact ((HE0.out.alloc' _).alloc' _).drew')).mono ?_;rintro e wn ⟨g,rfl,hgX,hgs,hxn,l1,l2,l3,l4⟩))
   all_goals (go_wp2_with fail)
   all_goals (go_meet)
   all_goals
    have hws:=HWS.out;have hsz:=hxn.size;obtain ⟨kn,lk,mk,hA⟩:=id hgs;have a1:=hA.box.lt;have a2:=hA.known.lt;have a3:=hA.lists.lt;have a4:=hA.many.lt;have hMC:=HMC.out;clear hA HNS HT HP HSM hmk b0;simp at hsz l1 l2 l3 l4
   all_goals first
    | exact iH (gl:=W.heap.size) (gz:=W.heap.size+1) (gc:=wn.heap.size) hMC hgs ((aq wn).alloc' _) ((((((aq W).alloc' _).alloc' _).drew').trans' hxn).alloc' _) (az wn 141 _ (g:=wn.heap.size) O) ((((az W 3 mc (g:=W.heap.size) O).alloc _).drew.ext hxn).alloc _) (((az (W.alloc _) 3 mc (g:=W.heap.size+1) O).drew.ext hxn).alloc _) (.inl fp) (.inl fp) I I I I I I I I I I I
    | exact iH (gl:=W.heap.size+1) (gz:=W.heap.size) (gc:=wn.heap.size) hMC hgs ((aq wn).alloc' _) ((((((aq W).alloc' _).alloc' _).drew').trans' hxn).alloc' _) (az wn 141 _ (g:=wn.heap.size) O) (((az (W.alloc _) 3 mc (g:=W.heap.size+1) O).drew.ext hxn).alloc _) ((((az W 3 mc (g:=W.heap.size) O).alloc _).drew.ext hxn).alloc _) (.inl fp) (.inl fp) I I I I I I I I I I I
    | exact iH (gl:=W.heap.size) (gz:=wn.heap.size) (gc:=wn.heap.size+1) hMC hgs (((aq wn).alloc' _).alloc' _) ((((((aq W).alloc' _).drew').trans' hxn).alloc' _).alloc' _) (az (wn.alloc _) 141 _ (g:=wn.heap.size+1) O) ((((az W 3 mc (g:=W.heap.size) O).drew.ext hxn).alloc _).alloc _) ((az wn 3 mc (g:=wn.heap.size) O).alloc _) (.inl fp) (.inr ⟨I,dz⟩) I I I I I I I I I I I
    | exact iH (gl:=wn.heap.size) (gz:=W.heap.size) (gc:=wn.heap.size+1) hMC hgs (((aq wn).alloc' _).alloc' _) ((((((aq W).alloc' _).drew').trans' hxn).alloc' _).alloc' _) (az (wn.alloc _) 141 _ (g:=wn.heap.size+1) O) ((az wn 3 mc (g:=wn.heap.size) O).alloc _) ((((az W 3 mc (g:=W.heap.size) O).drew.ext hxn).alloc _).alloc _) (.inr ⟨I,dz⟩) (.inl fp) I I I I I I I I I I I
    | exact iH (gl:=wn.heap.size) (gz:=wn.heap.size+1) (gc:=wn.heap.size+1+1) hMC hgs ((((aq wn).alloc' _).alloc' _).alloc' _) ((((((aq W).drew').trans' hxn).alloc' _).alloc' _).alloc' _) (az ((wn.alloc _).alloc _) 141 _ (g:=wn.heap.size+1+1) O) (((az wn 3 mc (g:=wn.heap.size) O).alloc _).alloc _) ((az (wn.alloc _) 3 mc (g:=wn.heap.size+1) O).alloc _) (.inr ⟨I,dz⟩) (.inr ⟨I,dz⟩) I I I I I I I I I I I
    | exact iH (gl:=wn.heap.size+1) (gz:=wn.heap.size) (gc:=wn.heap.size+1+1) hMC hgs ((((aq wn).alloc' _).alloc' _).alloc' _) ((((((aq W).drew').trans' hxn).alloc' _).alloc' _).alloc' _) (az ((wn.alloc _).alloc _) 141 _ (g:=wn.heap.size+1+1) O) ((az (wn.alloc _) 3 mc (g:=wn.heap.size+1) O).alloc _) (((az wn 3 mc (g:=wn.heap.size) O).alloc _).alloc _) (.inr ⟨I,dz⟩) (.inr ⟨I,dz⟩) I I I I I I I I I I I
  case rest =>
   obtain ⟨gc,gl,gz,g,rfl,hA,hx⟩:=hcut;have HA:=a4b hA;have HX:=a4b hx;have hG0:bD t 0:=⟨I,I,fun j hj=>by omega⟩;have HV0:=a4b (show aY t=cW t 0 (t.length - 0) by unfold aY;rw [if_neg hbig];rfl);have HB1:=a4b (HB0.out.ext hx);have b1:=HB1.out.cell' (u:=.slice An t cn) 0 rfl;have HG0:=a4b hG0;clear hA hx hG0 hmk b0 HNS HB0;go_wp2_with fail;go_loopw [29] (fun i wr=>aI7 t (.slice An t cn) gc gl gz g W i wr) (fun i _=>t.length - (intOf i).toNat)
   case atStart=>exact ⟨0,_,_,af _,rfl,HA.out,HX.out,rfl,rfl,HG0.out,ei,ei,HV0.out⟩
   case round =>
    obtain ⟨k,ls,zs,hk,rfl,hA,hE,hL,hZ,hG,hI,hJ,hV⟩:=hrel;have HA1:=a4b hA;have HE1:=a4b hE;have HL:=a4b hL;have HZ:=a4b hZ;have HG:=a4b hG;have HI:=a4b hI;have HJ:=a4b hJ;have HV:=a4b hV;by_cases hlt:k<t
    ·have hkk:(k:Int)<(t:Int):=by omega
     have hND:Nds wr (fun b=>g.Q b∧b<wr) (.slice An t cn) t:=hA.sets.nodes.carry (fun _ _ _=>rfl) (fun b hb h=>⟨h,hb⟩);have HND:=a4b hND;have hsz:W.heap.size<=wr:=hE.size
     have b2:qc wr w 0 (.slice An t cn):=(HB1.out.cell' (u:=.slice An t cn) 0 rfl) ▸ by
      have hwl:w.heap.size<W:=by have:=HWS.out;omega
      rw [hE.cell (p:=qp w) hwl,HX.out.cell (p:=qp w) hwl]
     obtain ⟨b,off,a,rfl,hQb,hx,hn⟩:=hND.get hlt;have HXX:=a4b hx;have HN:=a4b hn;have HQB:=a4b hQb;obtain ⟨x,hxd⟩:∃ x,x=t.getD k default:=⟨_,rfl⟩;have HXD:=a4b hxd;rw [<- hxd] at HXX HN;have h41:=HA1.out.box.cell' (u:=.slice (qt b off) t cn) 0 rfl;have HC0:=a4b h41;clear hA hE hL hZ hG hI hJ hV hx hn hQb hND hxd h41 b1;go_wp2_with fail;refine (aIt x a b (off+k*12) _ _ HN.out HXX.out).mono ?_;rintro e w1 ⟨rfl,hx1⟩;have HX1:=a4b hx1;clear hx1;obtain ⟨cb,hcb⟩:∃ cb,cb=cM x:=⟨_,rfl⟩;rw [<- hcb];have HCB:=a4b hcb;clear hcb;cases cb
     ·have HF:=a4b (iG hlt HV.out (aEh (t:=t) (k:=k) (by rw [<- HXD.out,<- HCB.out];rfl)) cq)
      go_wp2_with fail;go_ret;exact ⟨aI HF.out.symm,HE0.out.trans' (HE1.out.trans' HX1.out)⟩
     ·go_wp2_with fail
      refine (aE3 t k (fun b=>g.Q b∧b<wr) gc _ w1 (fun b hb=>ac hb.2 HX1.out.size) (HND.out.ext HX1.out) hlt (aA HX1.out HC0.out) I).mono ?_;rintro e w2 ⟨rfl,hx2⟩;have HX2:=a4b (HX1.out.trans' hx2);clear hx2;rw [<- HXD.out];obtain ⟨sb,hsb⟩:∃ sb,sb=dD k x:=⟨_,rfl⟩;rw [<- hsb];have HSB:=a4b hsb;clear hsb;cases sb
      ·have HF:=a4b (iG hlt HV.out (aEh (t:=t) (k:=k) (by rw [<- HXD.out,<- HCB.out,<- HSB.out];rfl)) cq)
       go_wp2_with fail;go_ret;exact ⟨aI HF.out.symm,HE0.out.trans' (HE1.out.trans' HX2.out)⟩
      ·have HCS:=a4b (show (cM (t.getD k default) && dD k (t.getD k default))=true by rw [<- HXD.out,<- HCB.out,<- HSB.out];rfl)
       go_wp2_with fail;refine (vY x a b (off+k*12) (fun b=>g.Q b∧b<wr) w2 (fun b hb=>ac hb.2 HX2.out.size) (HN.out.ext HX2.out) (HXX.out.ext HX2.out)).mono ?_;rintro e w3 ⟨rfl,hx3⟩;have HX3:=a4b (HX2.out.trans' hx3);clear hx3;obtain ⟨pz,hpz⟩:∃ pz,pz=gQ x:=⟨_,rfl⟩;rw [<- hpz];have HPZ:=a4b hpz;clear hpz;by_cases hp0:pz=0
       ·subst hp0
        go_wp2_with fail;refine (aCh x a b (off+k*12) (fun b=>g.Q b∧b<wr) w3 (HN.out.ext HX3.out) (HXX.out.ext HX3.out)).mono ?_;rintro e w4 ⟨rfl,hx4⟩;have HX4:=a4b (HX3.out.trans' hx4);clear hx4;obtain ⟨nb,hnb⟩:∃ nb,nb=bG x:=⟨_,rfl⟩;rw [<- hnb];have HNB:=a4b hnb;clear hnb;cases nb
        ·have HF:=a4b (iG hlt HV.out (aQz (t:=t) (k:=k) HCS.out (by rw [<- HXD.out,<- HPZ.out]) (by rw [<- HXD.out,<- HNB.out])) cq)
         go_wp2_with fail;go_ret;exact ⟨aI HF.out.symm,HE0.out.trans' (HE1.out.trans' HX4.out)⟩
        ·have HNO:=a4b (aMh (t:=t) (k:=k) HCS.out (by rw [<- HXD.out,<- HPZ.out]) (by rw [<- HXD.out,<- HNB.out]))
         have HCK:=a4b (aMg HG.out HSM.out hlt HNO.out HL.out HZ.out);have HA4:=a4b (HA1.out.ext HX4.out);go_wp2_with fail;refine (aGx t k (fun b=>g.Q b∧b<wr) gc gl gz g.s _ ls zs w4 (fun b hb=>⟨ac hb.2 HX4.out.size,fun e=>hb.1.2 (e ▸ HA1.out.xl),fun e=>hb.1.2 (e ▸ HA1.out.xz)⟩) (HND.out.ext HX4.out) hlt HA4.out.box HA4.out.lens HA4.out.sizes HA4.out.llen HA4.out.zlen HI.out HJ.out HA4.out.n1 HA4.out.n2 HA4.out.n3 HNO.out I).mono ?_;rintro e w5 ⟨rfl,hbl,hbz,hf5⟩;rw [<- HXD.out] at hbl hbz ⊢;rw [<- HXD.out] at HCK;have HBL:=a4b hbl;have HBZ:=a4b hbz;have HF5:=a4b hf5;have HA5:=a4b (HA4.out.small hf5 hbl hbz O O);have HE5:=a4b (show Ext W w5 from ((ar (HE1.out.trans' HX4.out)).trans (hf5.mono (fun b hb=>hb.elim (fun e=>e ▸ HA1.out.bl) (fun e=>e ▸ HA1.out.bz)))).new_ext (fun b hb=>hb));have hkeep:aB (fun b=>g.Q b∧b<wr) w4 w5:=aB.of_fr hf5 (fun b hb hm=>hm.elim (fun e=>hb.1.2 (e ▸ HA1.out.xl)) (fun e=>hb.1.2 (e ▸ HA1.out.xz)));have HX5:=a4b ((HXX.out.ext HX4.out).carry (Q:=g.Q) hkeep (fun b _ h=>h.1));have HN5:=a4b ((HN.out.ext HX4.out).keep (P:=fun b=>g.Q b∧b<wr) HQB.out hkeep);clear hbl hbz hf5 hkeep;obtain ⟨mb,hmb⟩:∃ mb,mb=(decide (gZ ls x<=256) && decide (fW zs x<=1024)):=⟨_,rfl⟩;rw [<- hmb];have HMB:=a4b hmb;clear hmb;cases mb
         ·have HF:=a4b (iG hlt HV.out (show cP t k=4 by rw [HCK.out,<- HMB.out];rfl) cq)
          go_wp2_with fail;go_ret;exact ⟨aI HF.out.symm,HE0.out.trans' HE5.out⟩
         ·have HCK2:=a4b (show cP t k=pP t x by rw [HCK.out,<- HMB.out];rfl)
          go_wp2_with fail;refine (aIz t _ g gc b (off+k*12) k x a w5 HX5.out HN5.out HQB.out.1 (HA5.out.box.cell' 3 rfl) HA5.out.mc HA5.out.sets (HXD.out ▸ HNO.out) HG.out).mono ?_;rintro e w6 ⟨rfl,hf6,hs6⟩;have HF6:=a4b hf6;have HS6:=a4b hs6;clear hf6 hs6;obtain ⟨cz,hcz⟩:∃ cz,cz=pP t x:=⟨_,rfl⟩;rw [<- hcz];have HCZ:=a4b hcz;clear hcz;by_cases hc0:cz=0
          ·subst hc0
           go_wp2_with fail;go_roundw
           case rel=>exact aBs HXD.out hlt HA1.out HE1.out HL.out HZ.out HG.out HI.out HJ.out HV.out HSM.out HX4.out HF5.out HBL.out HBZ.out HF6.out HS6.out (by rw [HCK2.out,<- HCZ.out])
           case measure=>simp [intOf];omega
          ·have HF:=a4b (iG hlt HV.out (show cP t k=cz by rw [HCK2.out,HCZ.out]) hc0)
           have tc:(cz != 0)=true:=bne_iff_ne.2 hc0;go_wp2_with fail;go_ret;exact ⟨aI HF.out.symm,HE0.out.trans' (((ar HE5.out).trans (HF6.out.mono HA1.out.bm)).new_ext (fun b hb=>hb))⟩
       ·have HF:=a4b (iG hlt HV.out (aIx (t:=t) (k:=k) HCS.out (by rw [<- HXD.out,<- HPZ.out];exact hp0)) (by rw [<- HXD.out,<- HPZ.out];exact hp0))
        have tp:(pz != 0)=true:=bne_iff_ne.2 hp0;go_wp2_with fail;go_ret;exact ⟨aI (by rw [HF.out,<- HXD.out,<- HPZ.out]),HE0.out.trans' (HE1.out.trans' HX3.out)⟩
    ·have HF:=a4b (show aY t=0 by rw [HV.out,show t.length - k=0 by omega];rfl)
     clear hA hE hL hZ hG hI hJ hV;go_wp2_with fail;go_ret;exact ⟨aI HF.out.symm,HE0.out.trans' HE1.out⟩
theorem aUn (a b c d):∀ n,(madeCells #[a,b,c,d] (n*4)).toList=(List.replicate n [a,b,c,d]).flatten
 | 0=>by simp [madeCells]
 | n+1=>by
  have ih:=aUn a b c d n;unfold madeCells at ih ⊢;simp only [Array.toList_map,Array.toList_range] at ih ⊢;rw [show (n+1)*4=n*4+1+1+1+1 by omega,List.range_succ,List.range_succ,List.range_succ,List.range_succ,List.replicate_succ',List.flatten_append,<- ih];have e0:(n*4) % 4=0:=by omega
  have e1:(n*4+1) % 4=1:=I;have e2:(n*4+1+1) % 4=2:=I;have e3:(n*4+1+1+1) % 4=3:=I;simp [e0,e1,e2,e3]
theorem aEo (w P):∀ n,RVs w P (List.replicate n default) (List.replicate n [Value.int .i64 0,qz,.string ByteArray.empty,qn]).flatten
 | 0=>by simp [RVs]
 | n+1=>by
  simp only [List.replicate_succ,List.flatten_cons,RVs];exact ⟨_,_,rfl,(VAt.zero (w:=w) P).rv,aEo w P n⟩
theorem RVs.set {w P l cs us}(h:RVs w P l cs){k:Nat}(hk:k<l){v}(hv:RV w P v us):RVs w P (l.set k v) (cs.take (k*4) ++ us ++ cs.drop (k*4+us.length)):=by
 have hl:=hv.len;rw [hl,show k*4+4=(k+1)*4 by omega,List.set_eq_take_append_cons_drop,if_pos hk,ah];refine RVs.append (h.take k) ?_;show RVs w P ([v] ++ l.drop (k+1)) _;exact RVs.append (RVs.one hv) (h.drop (k+1))
theorem fI (w:World)(p):w.drew.cell? p=w.cell? p:=rfl
theorem fS {w g o b off u u0 u1 u2 u3}(hne:¬ b=g)(h:qc w b off u):((((w.setCell (qt g o) u0).setCell (qt g (o+1)) u1).setCell (qt g (o+2)) u2).setCell (qt g (o+3)) u3).cell? (qt b off)=some u :=
 fT (p:=qt g (o+3)) hne (fT (p:=qt g (o+2)) hne (fT (p:=qt g (o+1)) hne (fT (p:=qt g o) hne h)))
theorem dX {w g o b off u u0 u1 u2 u3}(hne:¬ b=g)(h:qc w b off u):((((w.setCell (qt g o) u0).setCell (qt g (o+1)) u1).setCell (qt g (o+2)) u2).setCell (qt g (o+3)) u3).drew.cell? (qt b off)=some u:=by rw [fI];exact fS hne h
theorem kU {w g o o' u x}(hne:¬ o'=o)(h:qc w g o' u):(w.setCell (qt g o) x).cell? (qt g o')=some u:=by
 rw [<- h];exact World.cell?_setCell_other _ _ _ _ (fun e=>hne (by injection e with _ e;exact e.symm))
theorem kV {w g k z u u0 u1 u2 u3}(hne:¬ z=k){o}(h:qc w g o u)(i)(hi:i<4)(ho:o=z*4+i):((((w.setCell (qt g (k*4)) u0).setCell (qt g (k*4+1)) u1).setCell (qt g (k*4+2)) u2).setCell (qt g (k*4+3)) u3).drew.cell? (qt g o)=some u:=by
 rw [fI];exact kU I (kU I (kU I (kU I h)))
structure kE (t:List GN)(vn:Value)(gw gs gl gf:Nat)(P:Nat->Prop)(w:World):Prop where
 box:Blk w gw 149 #[qp gs,.slice (qp gl) t t,.slice (qp gf) t t]
 sets:qc w gs 0 vn
 lens:Blk w gl 3 (oA (aM t))
 fixed:bT w P (.slice (qp gf) t t) (uU t)
 nodes:Nds w P vn t
 pw:P gw
 ps:P gs
 pl:P gl
theorem kE.carry {t vn gw gs gl gf P Q w w'}(h:kE t vn gw gs gl gf P w)(hk:aB P w w')(hPQ:∀ b,b<w.heap.size->P b->Q b):kE t vn gw gs gl gf Q w' :=
 ⟨(hk _ h.box.lt h.pw).trans h.box,by rw [<- h.sets];exact World.cell?_of_block (w:=w) (hk _ (aX h.sets) h.ps),(hk _ h.lens.lt h.pl).trans h.lens,h.fixed.carry hk hPQ,h.nodes.carry hk hPQ,hPQ _ h.box.lt h.pw,hPQ _ (aX h.sets) h.ps,hPQ _ h.lens.lt h.pl⟩
structure WN (t:List GN)(vn:Value)(P:Nat->Prop)(W0:World)(gw gs gl gf:Nat)(ls:List Int)(l:List GV)(w:World):Prop where
 box:Blk w gw 149 #[qp gs,.slice (qp gl) t t,.slice (qp gf) t t]
 sets:qc w gs 0 vn
 lens:Blk w gl 3 (oA ls)
 fix:∃ cs,Blk w gf 85 cs.toArray∧RVs w (fun b=>(P b∨W0<=b)∧b ≠ gl∧b ≠ gf) l cs
 nodes:Nds w P vn t
 n1:gw ≠ gl
 n2:gw ≠ gf
 n3:gl ≠ gf
 n4:gs ≠ gl
 n5:gs ≠ gf
 bw:W0<=gw
 bs:W0<=gs
 bl:W0<=gl
 bf:W0<=gf
 llen:ls.length=t
 flen:l.length=t
 ext:Ext W0 w
section
variable {t:List GN}{vn:Value}{P:Nat->Prop}{W0:World}{gw gs gl gf:Nat}{ls:List Int}{l:List GV}{w w':World}
theorem WN.ext_ (h:WN t vn P W0 gw gs gl gf ls l w)(hx:Ext w w'):WN t vn P W0 gw gs gl gf ls l w':=by
 obtain ⟨cs,h1,h2⟩:=h.fix;exact ⟨h.box.ext hx,aA hx h.sets,h.lens.ext hx,⟨cs,h1.ext hx,RVs.keep (aB.of_ext hx) (fun _ h=>h) h2⟩,h.nodes.ext hx,h.n1,h.n2,h.n3,h.n4,h.n5,h.bw,h.bs,h.bl,h.bf,h.llen,h.flen,h.ext.trans' hx⟩
theorem WN.setLen (h:WN t vn P W0 gw gs gl gf ls l w)(hP:∀ b,P b->b<W0)(k v):WN t vn P W0 gw gs gl gf (ls.set k v) l (w.setCell (qt gl k) (↑v)):=by
 obtain ⟨cs,h1,h2⟩:=h.fix;have hb:=h.bl;have hl:=h.lens.set_ k (↑v);rw [xK] at hl
 exact ⟨h.box.far (p:=qt gl k) h.n1 _,fT h.n4 h.sets,hl,⟨cs,h1.far (p:=qt gl k) h.n3.symm _,RVs.carry (aB.set (p:=qt gl k) (fun _ _ _=>rfl) _ (fun hq=>hq.2.1 rfl)) (fun _ _ h=>h) h2⟩,
  h.nodes.carry (aB.set (p:=qt gl k) (fun _ _ _=>rfl) _ (fun hq=>by have:=hP _ hq;simp at this;omega)) (fun _ _ h=>h),h.n1,h.n2,h.n3,h.n4,h.n5,h.bw,h.bs,h.bl,h.bf,by simp [h.llen],h.flen,((ar (M:=fun _=>False) h.ext).setCell (p:=qt gl k) (.inr hb) _).ext⟩
theorem WN.setFix (h:WN t vn P W0 gw gs gl gf ls l w)(hP:∀ b,P b->b<W0){k:Nat}(hk:k<t){v us}(hv:RV w (fun b=>(P b∨W0<=b)∧b ≠ gl∧b ≠ gf) v us):WN t vn P W0 gw gs gl gf ls (l.set k v) (w.setCells gf (k*4) us):=by
 obtain ⟨cs,h1,h2⟩:=h.fix;have hb:=h.bf;have hcl:=h2.len;have hfl:=h.flen;have hus:=hv.len;have hkf:¬ (fun b=>(P b∨W0<=b)∧b ≠ gl∧b ≠ gf) gf:=fun hq=>hq.2.2 rfl
 have hkp:¬ P gf:=fun hq=>by have:=hP _ hq;omega
 have hs:aB (fun b=>b=gs) w (w.setCells gf (k*4) us):=aB.setCells (fun e=>h.n5 e.symm) us (k*4) (fun _ _ _=>rfl)
 exact ⟨h.box.farCells h.n2 us _,by rw [<- h.sets];exact World.cell?_of_block (w:=w) (hs _ (aX h.sets) rfl),h.lens.farCells h.n3 us _,
  ⟨_,aG us (k*4) h1 I,RVs.carry (aB.setCells hkf us (k*4) (fun _ _ _=>rfl)) (fun _ _ h=>h) (h2.set I hv)⟩,
  h.nodes.carry (aB.setCells hkp us (k*4) (fun _ _ _=>rfl)) (fun _ _ h=>h),h.n1,h.n2,h.n3,h.n4,h.n5,h.bw,h.bs,h.bl,h.bf,h.llen,by simp [h.flen],((ar (M:=fun _=>False) h.ext).setCells us (k*4) (.inr hb)).ext⟩
theorem WN.frNew (h:WN t vn P W0 gw gs gl gf ls l w)(hf:Fr (fun b=>b=w.heap.size) w w'):WN t vn P W0 gw gs gl gf ls l w':=by
 exact h.ext_ (hf.new_ext (fun b e=>by omega))
theorem WN.getFix (h:WN t vn P W0 gw gs gl gf ls l w){j:Nat}(hj:j<t):∃ A c,VAt w (fun b=>(P b∨W0<=b)∧b ≠ gl∧b ≠ gf) (l.getD j default) A c ∧
  qc w gf (j*4) (.int .i64 (l.getD j default).kind)∧qc w gf (j*4+1) (.int .i64 (l.getD j default).n)∧qc w gf (j*4+2) (.string (l.getD j default).s)∧qc w gf (j*4+3) (.slice A (l.getD j default).kids.length c):=by
 obtain ⟨cs,h1,h2⟩:=h.fix;have hfl:=h.flen;obtain ⟨A,c,e,hu⟩:=(h2.get (i:=j) I).at_
 have hx:∀ i,i<4->cs[j*4+i]?=((cs.drop (j*4)).take 4)[i]?:=by
  intro i hi;rw [List.getElem?_take,if_pos hi,List.getElem?_drop]
 unfold cellsOf at e;refine ⟨A,c,hu,?_,?_,?_,?_⟩
 ·have:=hx 0 I;rw [e] at this;exact h1.cell' _ ik
 ·have:=hx 1 I;rw [e] at this;exact h1.cell' _ ik
 ·have:=hx 2 I;rw [e] at this;exact h1.cell' _ ik
 ·have:=hx 3 I;rw [e] at this;exact h1.cell' _ ik
theorem WN.place (h:WN t vn P W0 gw gs gl gf ls l w){j:Nat}(hj:j<t):(∃ y,qc w gf (j*4) y)∧(∃ y,qc w gf (j*4+1) y)∧(∃ y,qc w gf (j*4+2) y)∧(∃ y,qc w gf (j*4+3) y) ∧
  w.frozen? (qt gf (j*4))=false∧w.frozen? (qt gf (j*4+1))=false∧w.frozen? (qt gf (j*4+2))=false∧w.frozen? (qt gf (j*4+3))=false:=by
 obtain ⟨A,c,_,h1,h2,h3,h4⟩:=h.getFix hj;obtain ⟨cs,hb,_⟩:=h.fix;exact ⟨⟨_,h1⟩,⟨_,h2⟩,⟨_,h3⟩,⟨_,h4⟩,hb.frozen _,hb.frozen _,hb.frozen _,hb.frozen _⟩
end
def qL (t:List GN)(k:Nat):List GV:=eC t k ++ List.replicate (t.length - k) default
theorem aDr {t:List GN}{k:Nat}(hk:k<=t):(qL t k).length=t:=by unfold qL;rw [aa,gU hk];simp;omega
theorem aDs {t:List GN}{k j:Nat}(hk:k<=t)(hj:j<k):(qL t k).getD j default=(eC t k).getD j default:=by
 unfold qL;have:=gU hk;simp [List.getD,List.getElem?_append,this,hj]
theorem xO {t:List GN}{k:Nat}(hk:k<t):(qL t k).set k (dR (aM t) (eC t k) (t.getD k default))=qL t (k+1):=by
 unfold qL;have hl:=gU (t:=t) (j:=k) I;rw [aFo hk,List.set_append_right _ _ I,hl,Nat.sub_self,show t.length - k=(t.length - (k+1))+1 by omega,List.replicate_succ,List.set_cons_zero,ah];rfl
theorem aH5 {t:List GN}{k:Nat}(hk:k<t)(h:dR (aM t) (eC t k) (t.getD k default)=default):qL t k=qL t (k+1):=by
 rw [<- xO hk,h];unfold qL;have hl:=gU (t:=t) (j:=k) I;rw [List.set_append_right _ _ I,hl,Nat.sub_self,show t.length - k=(t.length - (k+1))+1 by omega,List.replicate_succ,List.set_cons_zero]
theorem xP (t):qL t t.length=uU t:=by unfold qL;rw [aH4];simp
def aWk (l:List GV)(Pk:Nat->Prop)(gk:Nat)(W:World)(i:Value)(wr:World):Prop :=
 ∃ (j:Nat) (cs:List Value),j<=l∧i=↑j∧Blk wr gk 85 cs.toArray∧cs.length=l*4∧RVs wr Pk (l.take j) (cs.take (j*4))∧Fr (fun b=>b=gk) W wr
theorem aQy {l:List GV}{Pk gk W wr}{j:Nat}{cs us:List Value}(hg:¬ Pk gk)(hj:j<l)(hB:Blk wr gk 85 cs.toArray)(hl:cs.length=l*4)(hR:RVs wr Pk (l.take j) (cs.take (j*4)))(hx:Fr (fun b=>b=gk) W wr)(hu:RV wr Pk (l.getD j default) us) :
  aWk l Pk gk W (.int .i64 ((j:Int)+1)) (wr.setCells gk (j*4) us):=by
 have hus:=hu.len;have hB1:=aG us (j*4) hB I;have hk:aB Pk wr (wr.setCells gk (j*4) us):=aB.setCells hg us (j*4) (fun _ _ _=>rfl);refine ⟨j+1,_,I,O,hB1,?_,?_,hx.setCells us (j*4) (.inl rfl)⟩
 ·simp only [aa,ak,am];omega
 ·have e:(cs.take (j*4) ++ us ++ cs.drop (j*4+us.length)).take ((j+1)*4)=cs.take (j*4) ++ us:=by
   rw [List.take_append_of_le_length (by simp only [aa,ak];omega),an (by simp only [aa,ak];omega)]
  rw [e,aR default hj];exact RVs.append (RVs.carry hk (fun _ _ h=>h) hR) (RVs.one (RV.carry hk (fun _ _ h=>h) hu))
