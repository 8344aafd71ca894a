/- Contracts of functions. Conditions: none. -/
import Derived.BigGuardPart
import Derived.Test.YtkoeecdjijfjnaaGreatPlL
import Derived.Test.YtkoeecdjijfjnaaGreatG3
import Derived.Test.YtkoeecdjijfjnaaGreatF5
import Derived.Test.YtkoeecdjijfjnaaGreatH1
set_option maxRecDepth 100000
set_option maxHeartbeats 8000000
namespace Go.Proofs.YtkoeecdjijfjnaaGreat
open Go.RowKit
theorem aHz (x:GN)(a:NA)(b o:Nat)(w:World)(hn:bU w b o x a)(hk:x.kind=0) :
  Calls Tryz.prog 88 #[.pointer (some ⟨b,o,none⟩)] w (dV (.bool (cM x)) w):=by
 have HS:=aYl (show cM x=(decide (0<=x.kind) && decide (x.kind<=4) && (decide (x.kind=0) || decide (cH x.value bJ=0)) && (decide (x.kind=1) || (decide (x.lo=0) && decide (x.hi=0))) &&
 (decide (x.kind=2) || (decide (x.weights.length=0) && decide (x.labels.length=0))) && (decide (x.kind=3) || aY x.name) && (decide (x.kind=4) || decide (x.values.length=0)) &&
 ((!decide (x.kind=0) && !decide (x.kind=1)) || decide (x.kids.length=0))) from rfl)
 have c0:=hn.c0;have c1:=hn.c1;have c2:=hn.c2;have c3:=hn.c3;have c4:=hn.c4;have c5:=hn.c5;have c6:=hn.c6;have c7:=hn.c7;clear hn;generalize cM x=cb at *;generalize x.weights.length=nw at *;generalize x.labels.length=nl at *;generalize x.values.length=nv at *;generalize x.kids.length=nk at *;generalize x.kind=k at *;generalize x.lo=lo at *;generalize x.hi=hi at *;generalize x.name=nm at *;subst hk;go_enter Tryz.func88,Tryz.ntmps88;go_upto_region 2 with fail;simp only [List.append];go_wp2_with fail
 all_goals
  go_ret;refine ⟨aC ?_,Ext.refl _⟩;rw [HS.out];clear HS c0 c1 c2 c3 c4 c5 c6 c7;rw [Bool.eq_iff_iff]
  simp_all [aY]
  try omega
theorem aE6 (x:GN)(a:NA)(b o:Nat)(w:World)(hn:bU w b o x a)(hk:x.kind<0) :
  Calls Tryz.prog 88 #[.pointer (some ⟨b,o,none⟩)] w (dV (.bool (cM x)) w):=by
 have HS:=aYl (show cM x=(decide (0<=x.kind) && decide (x.kind<=4) && (decide (x.kind=0) || decide (cH x.value bJ=0)) && (decide (x.kind=1) || (decide (x.lo=0) && decide (x.hi=0))) &&
 (decide (x.kind=2) || (decide (x.weights.length=0) && decide (x.labels.length=0))) && (decide (x.kind=3) || aY x.name) && (decide (x.kind=4) || decide (x.values.length=0)) &&
 ((!decide (x.kind=0) && !decide (x.kind=1)) || decide (x.kids.length=0))) from rfl)
 have c0:=hn.c0;clear hn;generalize cM x=cb at *;generalize x.weights.length=nw at *;generalize x.labels.length=nl at *;generalize x.values.length=nv at *;generalize x.kids.length=nk at *;generalize x.kind=k at *;generalize x.lo=lo at *;generalize x.hi=hi at *;generalize x.name=nm at *;go_enter Tryz.func88,Tryz.ntmps88;go_upto_region 2 with fail;simp only [List.append];go_wp2_with fail
 all_goals (try exact absurd ‹0<=k› U)
 all_goals
  refine bodyPost_ret (v:=.bool false) (by simp [results,Tryz.results88,go_sem]) rfl ⟨aC ?_,Ext.refl _⟩;rw [HS.out];clear HS c0;rw [Bool.eq_iff_iff]
  simp_all [aY]
  try omega
theorem aE7 (x:GN)(a:NA)(b o:Nat)(w:World)(hn:bU w b o x a)(hk:4<x.kind) :
  Calls Tryz.prog 88 #[.pointer (some ⟨b,o,none⟩)] w (dV (.bool (cM x)) w):=by
 have HS:=aYl (show cM x=(decide (0<=x.kind) && decide (x.kind<=4) && (decide (x.kind=0) || decide (cH x.value bJ=0)) && (decide (x.kind=1) || (decide (x.lo=0) && decide (x.hi=0))) &&
 (decide (x.kind=2) || (decide (x.weights.length=0) && decide (x.labels.length=0))) && (decide (x.kind=3) || aY x.name) && (decide (x.kind=4) || decide (x.values.length=0)) &&
 ((!decide (x.kind=0) && !decide (x.kind=1)) || decide (x.kids.length=0))) from rfl)
 have c0:=hn.c0;clear hn;generalize cM x=cb at *;generalize x.weights.length=nw at *;generalize x.labels.length=nl at *;generalize x.values.length=nv at *;generalize x.kids.length=nk at *;generalize x.kind=k at *;generalize x.lo=lo at *;generalize x.hi=hi at *;generalize x.name=nm at *;go_enter Tryz.func88,Tryz.ntmps88;go_upto_region 2 with fail;simp only [List.append];go_wp2_with fail
 all_goals (try exact absurd ‹k<=4› U)
 all_goals
  refine bodyPost_ret (v:=.bool false) (by simp [results,Tryz.results88,go_sem]) rfl ⟨aC ?_,Ext.refl _⟩;rw [HS.out];clear HS c0;rw [Bool.eq_iff_iff]
  simp_all [aY]
  try omega
theorem aHy (x:GN)(a:NA)(b o:Nat)(P:Nat->Prop)(w:World)(hn:bU w b o x a)(hx:NAt w P x a)(hk:x.kind=1) :
  Calls Tryz.prog 88 #[.pointer (some ⟨b,o,none⟩)] w (dV (.bool (cM x)) w):=by
 have HS:=aYl (show cM x=(decide (0<=x.kind) && decide (x.kind<=4) && (decide (x.kind=0) || decide (cH x.value bJ=0)) && (decide (x.kind=1) || (decide (x.lo=0) && decide (x.hi=0))) &&
 (decide (x.kind=2) || (decide (x.weights.length=0) && decide (x.labels.length=0))) && (decide (x.kind=3) || aY x.name) && (decide (x.kind=4) || decide (x.values.length=0)) &&
 ((!decide (x.kind=0) && !decide (x.kind=1)) || decide (x.kids.length=0))) from rfl)
 have HC:=aYl (bL x.value bJ a.xA none a.xc 0 P P w hx.value (VAt.zero _ _))
 have HN:=aYl (show ∀ w',Ext w w'->w'.cell? ⟨b,o+1,none⟩=some (.string x.name)∧w'.cell? ⟨b,o+2,none⟩=some (↑x.lo)∧w'.cell? ⟨b,o+3,none⟩=some (↑x.hi)∧w'.cell? ⟨b,o+4,none⟩=some (.slice a.wA x.weights.length a.wc) ∧
  w'.cell? ⟨b,o+5,none⟩=some (.slice a.lA x.labels.length a.lc)∧w'.cell? ⟨b,o+6,none⟩=some (.slice a.vA x.values.length a.vc)∧w'.cell? ⟨b,o+7,none⟩=some (.slice a.kA x.kids.length a.kc) from fun w' h=>⟨(hn.ext h).c1,(hn.ext h).c2,(hn.ext h).c3,(hn.ext h).c4,(hn.ext h).c5,(hn.ext h).c6,(hn.ext h).c7⟩)
 have c0:=hn.c0;have c8:=hn.c8;have c9:=hn.c9;have c10:=hn.c10;have c11:=hn.c11;clear hn hx;generalize cM x=cb at *;generalize x.weights.length=nw at *;generalize x.labels.length=nl at *;generalize x.values.length=nv at *;generalize x.kids.length=nk at *;generalize x.kind=k at *;generalize x.lo=lo at *;generalize x.hi=hi at *;generalize x.name=nm at *;subst hk;go_enter Tryz.func88,Tryz.ntmps88;go_upto_region 2 with fail;simp only [List.append];go_wp2_with fail;refine HC.out.mono ?_;rintro e w1 ⟨rfl,hx1⟩;have HX1:=aYl hx1;obtain ⟨c1,c2,c3,c4,c5,c6,c7⟩:=HN.out w1 hx1;clear hx1 c0 c8 c9 c10 c11;generalize cH x.value bJ=cz at *;go_wp2_with fail
 all_goals
  go_ret;refine ⟨aC ?_,HX1.out⟩;rw [HS.out];clear HS HC HN HX1 c1 c2 c3 c4 c5 c6 c7;rw [Bool.eq_iff_iff]
  simp_all [aY]
  try omega
theorem aHx (x:GN)(a:NA)(b o:Nat)(P:Nat->Prop)(w:World)(hn:bU w b o x a)(hx:NAt w P x a)(hk:x.kind=2) :
  Calls Tryz.prog 88 #[.pointer (some ⟨b,o,none⟩)] w (dV (.bool (cM x)) w):=by
 have HS:=aYl (show cM x=(decide (0<=x.kind) && decide (x.kind<=4) && (decide (x.kind=0) || decide (cH x.value bJ=0)) && (decide (x.kind=1) || (decide (x.lo=0) && decide (x.hi=0))) &&
 (decide (x.kind=2) || (decide (x.weights.length=0) && decide (x.labels.length=0))) && (decide (x.kind=3) || aY x.name) && (decide (x.kind=4) || decide (x.values.length=0)) &&
 ((!decide (x.kind=0) && !decide (x.kind=1)) || decide (x.kids.length=0))) from rfl)
 have HC:=aYl (bL x.value bJ a.xA none a.xc 0 P P w hx.value (VAt.zero _ _))
 have HN:=aYl (show ∀ w',Ext w w'->w'.cell? ⟨b,o+1,none⟩=some (.string x.name)∧w'.cell? ⟨b,o+2,none⟩=some (↑x.lo)∧w'.cell? ⟨b,o+3,none⟩=some (↑x.hi)∧w'.cell? ⟨b,o+4,none⟩=some (.slice a.wA x.weights.length a.wc) ∧
  w'.cell? ⟨b,o+5,none⟩=some (.slice a.lA x.labels.length a.lc)∧w'.cell? ⟨b,o+6,none⟩=some (.slice a.vA x.values.length a.vc)∧w'.cell? ⟨b,o+7,none⟩=some (.slice a.kA x.kids.length a.kc) from fun w' h=>⟨(hn.ext h).c1,(hn.ext h).c2,(hn.ext h).c3,(hn.ext h).c4,(hn.ext h).c5,(hn.ext h).c6,(hn.ext h).c7⟩)
 have c0:=hn.c0;have c8:=hn.c8;have c9:=hn.c9;have c10:=hn.c10;have c11:=hn.c11;clear hn hx;generalize cM x=cb at *;generalize x.weights.length=nw at *;generalize x.labels.length=nl at *;generalize x.values.length=nv at *;generalize x.kids.length=nk at *;generalize x.kind=k at *;generalize x.lo=lo at *;generalize x.hi=hi at *;generalize x.name=nm at *;subst hk;go_enter Tryz.func88,Tryz.ntmps88;go_upto_region 2 with fail;simp only [List.append];go_wp2_with fail;refine HC.out.mono ?_;rintro e w1 ⟨rfl,hx1⟩;have HX1:=aYl hx1;obtain ⟨c1,c2,c3,c4,c5,c6,c7⟩:=HN.out w1 hx1;clear hx1 c0 c8 c9 c10 c11;generalize cH x.value bJ=cz at *;go_wp2_with fail
 all_goals
  go_ret;refine ⟨aC ?_,HX1.out⟩;rw [HS.out];clear HS HC HN HX1 c1 c2 c3 c4 c5 c6 c7;rw [Bool.eq_iff_iff]
  simp_all [aY]
  try omega
theorem aHw (x:GN)(a:NA)(b o:Nat)(P:Nat->Prop)(w:World)(hn:bU w b o x a)(hx:NAt w P x a)(hk:x.kind=3) :
  Calls Tryz.prog 88 #[.pointer (some ⟨b,o,none⟩)] w (dV (.bool (cM x)) w):=by
 have HS:=aYl (show cM x=(decide (0<=x.kind) && decide (x.kind<=4) && (decide (x.kind=0) || decide (cH x.value bJ=0)) && (decide (x.kind=1) || (decide (x.lo=0) && decide (x.hi=0))) &&
 (decide (x.kind=2) || (decide (x.weights.length=0) && decide (x.labels.length=0))) && (decide (x.kind=3) || aY x.name) && (decide (x.kind=4) || decide (x.values.length=0)) &&
 ((!decide (x.kind=0) && !decide (x.kind=1)) || decide (x.kids.length=0))) from rfl)
 have HC:=aYl (bL x.value bJ a.xA none a.xc 0 P P w hx.value (VAt.zero _ _))
 have HN:=aYl (show ∀ w',Ext w w'->w'.cell? ⟨b,o+1,none⟩=some (.string x.name)∧w'.cell? ⟨b,o+2,none⟩=some (↑x.lo)∧w'.cell? ⟨b,o+3,none⟩=some (↑x.hi)∧w'.cell? ⟨b,o+4,none⟩=some (.slice a.wA x.weights.length a.wc) ∧
  w'.cell? ⟨b,o+5,none⟩=some (.slice a.lA x.labels.length a.lc)∧w'.cell? ⟨b,o+6,none⟩=some (.slice a.vA x.values.length a.vc)∧w'.cell? ⟨b,o+7,none⟩=some (.slice a.kA x.kids.length a.kc) from fun w' h=>⟨(hn.ext h).c1,(hn.ext h).c2,(hn.ext h).c3,(hn.ext h).c4,(hn.ext h).c5,(hn.ext h).c6,(hn.ext h).c7⟩)
 have c0:=hn.c0;have c8:=hn.c8;have c9:=hn.c9;have c10:=hn.c10;have c11:=hn.c11;clear hn hx;generalize cM x=cb at *;generalize x.weights.length=nw at *;generalize x.labels.length=nl at *;generalize x.values.length=nv at *;generalize x.kids.length=nk at *;generalize x.kind=k at *;generalize x.lo=lo at *;generalize x.hi=hi at *;generalize x.name=nm at *;subst hk;go_enter Tryz.func88,Tryz.ntmps88;go_upto_region 2 with fail;simp only [List.append];go_wp2_with fail;refine HC.out.mono ?_;rintro e w1 ⟨rfl,hx1⟩;have HX1:=aYl hx1;obtain ⟨c1,c2,c3,c4,c5,c6,c7⟩:=HN.out w1 hx1;clear hx1 c0 c8 c9 c10 c11;generalize cH x.value bJ=cz at *;go_wp2_with fail
 all_goals
  go_ret;refine ⟨aC ?_,HX1.out⟩;rw [HS.out];clear HS HC HN HX1 c1 c2 c3 c4 c5 c6 c7;rw [Bool.eq_iff_iff]
  simp_all [aY]
  try omega
theorem aHv (x:GN)(a:NA)(b o:Nat)(P:Nat->Prop)(w:World)(hn:bU w b o x a)(hx:NAt w P x a)(hk:x.kind=4) :
  Calls Tryz.prog 88 #[.pointer (some ⟨b,o,none⟩)] w (dV (.bool (cM x)) w):=by
 have HS:=aYl (show cM x=(decide (0<=x.kind) && decide (x.kind<=4) && (decide (x.kind=0) || decide (cH x.value bJ=0)) && (decide (x.kind=1) || (decide (x.lo=0) && decide (x.hi=0))) &&
 (decide (x.kind=2) || (decide (x.weights.length=0) && decide (x.labels.length=0))) && (decide (x.kind=3) || aY x.name) && (decide (x.kind=4) || decide (x.values.length=0)) &&
 ((!decide (x.kind=0) && !decide (x.kind=1)) || decide (x.kids.length=0))) from rfl)
 have HC:=aYl (bL x.value bJ a.xA none a.xc 0 P P w hx.value (VAt.zero _ _))
 have HN:=aYl (show ∀ w',Ext w w'->w'.cell? ⟨b,o+1,none⟩=some (.string x.name)∧w'.cell? ⟨b,o+2,none⟩=some (↑x.lo)∧w'.cell? ⟨b,o+3,none⟩=some (↑x.hi)∧w'.cell? ⟨b,o+4,none⟩=some (.slice a.wA x.weights.length a.wc) ∧
  w'.cell? ⟨b,o+5,none⟩=some (.slice a.lA x.labels.length a.lc)∧w'.cell? ⟨b,o+6,none⟩=some (.slice a.vA x.values.length a.vc)∧w'.cell? ⟨b,o+7,none⟩=some (.slice a.kA x.kids.length a.kc) from fun w' h=>⟨(hn.ext h).c1,(hn.ext h).c2,(hn.ext h).c3,(hn.ext h).c4,(hn.ext h).c5,(hn.ext h).c6,(hn.ext h).c7⟩)
 have c0:=hn.c0;have c8:=hn.c8;have c9:=hn.c9;have c10:=hn.c10;have c11:=hn.c11;clear hn hx;generalize cM x=cb at *;generalize x.weights.length=nw at *;generalize x.labels.length=nl at *;generalize x.values.length=nv at *;generalize x.kids.length=nk at *;generalize x.kind=k at *;generalize x.lo=lo at *;generalize x.hi=hi at *;generalize x.name=nm at *;subst hk;go_enter Tryz.func88,Tryz.ntmps88;go_upto_region 2 with fail;simp only [List.append];go_wp2_with fail;refine HC.out.mono ?_;rintro e w1 ⟨rfl,hx1⟩;have HX1:=aYl hx1;obtain ⟨c1,c2,c3,c4,c5,c6,c7⟩:=HN.out w1 hx1;clear hx1 c0 c8 c9 c10 c11;generalize cH x.value bJ=cz at *;go_wp2_with fail
 all_goals
  go_ret;refine ⟨aC ?_,HX1.out⟩;rw [HS.out];clear HS HC HN HX1 c1 c2 c3 c4 c5 c6 c7;rw [Bool.eq_iff_iff]
  simp_all [aY]
  try omega
theorem aE8 (x:GN)(a:NA)(b o:Nat)(P:Nat->Prop)(w:World)(hn:bU w b o x a)(hx:NAt w P x a) :
  Calls Tryz.prog 88 #[.pointer (some ⟨b,o,none⟩)] w (dV (.bool (cM x)) w):=by
 by_cases h:x.kind<0
 ·exact aE6 x a b o w hn h
 by_cases h':4<x.kind
 ·exact aE7 x a b o w hn h'
 have hc:x.kind=0∨x.kind=1∨x.kind=2∨x.kind=3∨x.kind=4:=U
 rcases hc with hk | hk | hk | hk | hk
 ·exact aHz x a b o w hn hk
 ·exact aHy x a b o P w hn hx hk
 ·exact aHx x a b o P w hn hx hk
 ·exact aHw x a b o P w hn hx hk
 ·exact aHv x a b o P w hn hx hk
def aTo (i:Nat)(x:GN)(W:World)(k:Value)(wr:World):Prop:=∃ j:Nat,j<=x.kids.length∧k=↑j∧W=wr∧dC i x=((x.kids.drop j).all (fun z=>!fmK i z) && oV x)
def aQi (x:GN)(W:World)(k:Value)(wr:World):Prop:=∃ j:Nat,1<=j∧j<=x.values.length+1∧k=↑j∧Ext W wr∧pM x.values=pM (x.values.drop (j - 1))
theorem aBy (t:List GN)(i:Nat)(P:Nat->Prop)(gc:Nat)(vn:Value)(w:World)(hP:∀ b,P b->b<w.heap.size)(ht:Nds w P vn t)(hi:i<t.length)(h0:w.cell? ⟨gc,0,none⟩=some vn)(_:i<=100000) :
  Calls Tryz.prog 89 #[.pointer (some ⟨gc,0,none⟩),↑i] w (dV (.bool (dC i (t.getD i default))) w):=by
 obtain ⟨An,cn,en,hn1,hn2⟩:=ht.form;subst en;obtain ⟨b,off,a,rfl,hPb,hx,hn⟩:=ht.get hi;generalize hg:t.getD i default=x at *;clear hg;have HP:=aYl hP;have HX:=aYl hx;have HS:=aYl (show dC i x=(x.kids.all (fun z=>!fmK i z) && oV x) from rfl)
 have HK:=aYl (show oV x=(if x.kind=2 then decide (1<=x.kids.length) && decide (x.kids.length<=256) && decide (x.weights.length=x.kids.length) && (decide (x.labels.length=0) || decide (x.labels.length=x.kids.length))
  else if x.kind=3 then (if aY x.name then decide (x.kids.length<=256) else decide (x.kids.length<=16) && decide (eP (.mk 3 0 x.name [])=0))
  else if x.kind=4 then pM x.values && decide (x.kids.length=x.values.length+1) else true) from rfl)
 obtain ⟨hkl,hkc⟩:=hx.kids.le;obtain ⟨hvl,hvc⟩:=hx.values.le;have hlo:(i:Int)<(t.length:Int):=by omega
 have c0:=hn.c0;have c1:=hn.c1;have c4:=hn.c4;have c5:=hn.c5;have c6:=hn.c6;have c7:=hn.c7;have HKI:=aYl hx.kids;clear hx hn ht hP;generalize a.kA=Ak at *;generalize a.kc=kc at *;go_enter Tryz.func89,Tryz.ntmps89;go_wp2_with fail;go_loopw [26] (fun k wr=>aTo i x w k wr) (fun k _=>x.kids.length - (intOf k).toNat)
 case atStart=>exact ⟨0,Nat.zero_le _,rfl,rfl,HS.out⟩
 case round =>
  obtain ⟨j,hj,rfl,rfl,hT⟩:=hrel;have HT:=aYl hT;clear hT
  by_cases hlt:j<x.kids.length
  ·obtain ⟨b1,o1,rfl,-,-,g1⟩:=HKI.out.get hlt
   have HD:=aYl (show dC i x=(!fmK i (x.kids.getD j 0) && (x.kids.drop (j+1)).all (fun z=>!fmK i z) && oV x) by rw [HT.out,aG 0 hlt];rfl);generalize x.kids.getD j 0=z at *
   by_cases hz1:z<0
   ·have HF:=aYl (show fmK i z=true by unfold fmK;rw [aYo hz1];rfl)
    have tz1:decide (z<0)=true:=aYo hz1;go_wp2_with fail;go_ret;exact ⟨aC ic,Ext.refl _⟩
   ·have tz1:decide (z<0)=false:=aYp hz1
    by_cases hz2:(i:Int)<=z
    ·have HF:=aYl (show fmK i z=true by unfold fmK;rw [aYo hz2];simp)
     go_wp2_with fail;go_ret;exact ⟨aC ic,Ext.refl _⟩
    ·have HF:=aYl (show fmK i z=false by unfold fmK;rw [aYp hz2,aYp hz1];rfl)
     go_wp2_with fail;go_roundw
     case rel=>exact ⟨j+1,U,by go_num,rfl,ic⟩
     case measure=>simp [intOf];omega
  ·have HU:=aYl (show dC i x=oV x by rw [HT.out,drop_nil U];rfl)
   clear HT HKI
   by_cases k2:x.kind=2
   ·have HR:=aYl (show dC i x=(decide (1<=x.kids.length) && decide (x.kids.length<=256) && decide (x.weights.length=x.kids.length) && (decide (x.labels.length=0) || decide (x.labels.length=x.kids.length))) by rw [HU.out,HK.out,if_pos k2])
    have t2:(x.kind == 2)=true:=aYn k2;clear k2;generalize x.weights.length=nw at *;generalize x.labels.length=nl at *;generalize x.kids.length=nk at *;go_wp2_with fail
    all_goals
     go_ret;refine ⟨aC ?_,Ext.refl _⟩;rw [HR.out];clear HR HU HK HS HX c0 c1 c4 c5 c6 c7 h0;rw [Bool.eq_iff_iff]
     simp_all
     try omega
   ·have t2:(x.kind == 2)=false:=aYm k2
    by_cases k3:x.kind=3
    ·have t3:(x.kind == 3)=true:=aYn k3
     have HR:=aYl (show dC i x=(if aY x.name then decide (x.kids.length<=256) else decide (x.kids.length<=16) && decide (eP (.mk 3 0 x.name [])=0)) by rw [HU.out,HK.out,if_neg k2,if_pos k3]);clear k2 k3
     by_cases he:x.name.toList=[]
     ·have he1:x.name.toList.isEmpty=true:=by simp [he]
      have HE:=aYl (gQ he);go_wp2_with fail
      all_goals
       go_ret;refine ⟨aC ?_,Ext.refl _⟩;rw [HR.out,HE.out];simp
       try omega
     ·have he1:x.name.toList.isEmpty=false:=by simpa using he
      have HE:=aYl (gR he)
      by_cases hk16:x.kids.length<=16
      ·have t16:decide ((x.kids.length:Int)<=16)=true:=aYo U
       have hnm:=HX.out.name;go_wp2_with fail;refine (gA (.mk 3 0 x.name []) none 0 P _ HP.out ⟨by unfold I64;simp [GV.kind],by unfold I64;simp [GV.n],hnm,av,av,⟨none,0,[],rfl,av,av,⟨av,fun h=>by simp [GV.kids] at h⟩,by simp [GV.kids,RVs]⟩⟩).mono ?_;rintro e w1 ⟨rfl,hx1⟩;have HX1:=aYl hx1;clear hx1;generalize eP (.mk 3 0 x.name [])=vv at *;go_wp2_with fail
       all_goals
        go_ret;refine ⟨aC ?_,HX1.out⟩;rw [HR.out,HE.out];clear HR HU HK HS HX HP c0 c1 c4 c5 c6 c7 h0
        simp_all
        try rfl
      ·have t16:decide ((x.kids.length:Int)<=16)=false:=aYp U
       go_wp2_with fail
       all_goals
        go_ret;refine ⟨aC ?_,Ext.refl _⟩;rw [HR.out,HE.out];clear HR HU HK HS HX HP c0 c1 c4 c5 c6 c7 h0
        simp_all
        try omega
    ·have t3:(x.kind == 3)=false:=aYm k3
     by_cases k4:x.kind=4
     ·have t4:(x.kind == 4)=true:=aYn k4
      have HR:=aYl (show dC i x=(pM x.values && decide (x.kids.length=x.values.length+1)) by rw [HU.out,HK.out,if_neg k2,if_neg k3,if_pos k4]);have HVL:=aYl HX.out.values;clear k2 k3 k4 c1 c4 c5;generalize a.vA=Av at *;generalize a.vc=vc at *;go_wp2_with fail;go_loopw [9] (fun k wr=>aQi x w k wr) (fun k _=>x.values.length+1 - (intOf k).toNat)
      case atStart=>exact ⟨1,U,U,rfl,Ext.refl _,Y⟩
      case round =>
       obtain ⟨j,hj1,hj2,rfl,hxr,ht⟩:=hrel;have HT:=aYl ht;have HXR:=aYl hxr;have hr6:=aA hxr c6;clear ht hxr
       by_cases hlt':j<x.values.length
       ·obtain ⟨q,rfl⟩:∃ q,j=q+1:=⟨j - 1,U⟩
        have hq:q<x.values.length:=U
        obtain ⟨v1,o1,A1,d1,e1,-,hv1,g10,g11,g12,g13⟩:=(HVL.out.ext HXR.out).get hq;obtain ⟨v2,o2,A2,d2,e2,-,hv2,g20,g21,g22,g23⟩:=(HVL.out.ext HXR.out).get hlt';subst e1;injection e2 with e2;injection e2 with e21 e22;subst e21 e22
        have HD:=aYl (show pM x.values=(decide (cH (x.values.getD q default) (x.values.getD (q+1) default)<0) && pM (x.values.drop (q+1))) by
         rw [HT.out,Nat.add_sub_cancel,aG default hq,aG default hlt']
         rfl)
        have HV1:=aYl hv1;have HV2:=aYl hv2;clear hv1 hv2;generalize x.values.getD q default=y1 at *;generalize x.values.getD (q+1) default=y2 at *;go_upto_region 20 with fail;have hq1:(0:Int)<=(q:Int)+1:=by omega
        have hq2:((q:Int)+1).toNat=q+1:=U
        have hq3:IntKind.i64.wrap ((q:Int)+1 - 1)=(q:Int):=by rw [IntWalk.i64_in _ U];omega
        have hq4:IntKind.i64.wrap (q:Int)=(q:Int):=IntWalk.i64_in _ U;go_still_tail 15,aa;clear hq1 hq2 hq3 hq4;go_wp2_with fail;refine (bL y1 y2 A1 A2 d1 d2 P P _ (HV1.out.ext (Ext.refl _).drew') (HV2.out.ext (Ext.refl _).drew')).mono ?_;rintro e w2 ⟨rfl,hx2⟩;have HX2:=aYl (HXR.out.trans' ((Ext.refl _).drew'.trans' hx2));clear hx2
        by_cases hz:cH y1 y2<0
        ·have tz:decide (0<=cH y1 y2)=false:=aYp U
         have HZ:=aYl hz;go_wp2_with fail;go_roundw
         case rel=>exact ⟨q+2,U,U,by go_num,HX2.out,gi⟩
         case measure=>simp [intOf];omega
        ·have tz:decide (0<=cH y1 y2)=true:=aYo U
         have HZ:=aYl hz;go_wp2_with fail;go_ret;exact ⟨aC (by rw [HR.out,HD.out,aYp (show ¬ cH y1 y2<0 by have:=HZ.out;omega)];simp),HX2.out⟩
       ·have HZ:=aYl (show pM x.values=true by rw [HT.out];exact mZ (by rw [List.length_drop];omega))
        go_wp2_with fail
        all_goals
         go_ret;refine ⟨aC ?_,HXR.out⟩;rw [HR.out,HZ.out,Bool.eq_iff_iff];simp
         try omega
     ·have t4:(x.kind == 4)=false:=aYm k4
      have HR:=aYl (show dC i x=true by rw [HU.out,HK.out,if_neg k2,if_neg k3,if_neg k4]);go_wp2_with fail;go_ret;exact ⟨aC HR.out.symm,Ext.refl _⟩
theorem bQ.moreAll {t:List GN}{vn:Value}{g:SA}{w w':World}(h:bQ t vn g w)(hx:Ext w w'):bQ t vn ⟨g.s,g.k,g.l,g.m,fun b=>g.X b∨(w.heap.size<=b∧b<w'.heap.size)⟩ w':=by
 obtain ⟨kn,ls,ms,h0⟩:=h;have h:=h0.ext hx;have hQ:∀ b,b<w.heap.size->g.Q b->(SA.mk g.s g.k g.l g.m (fun b=>g.X b∨(w.heap.size<=b∧b<w'.heap.size))).Q b:=fun b hb h=>⟨h.1,fun hx=>hx.elim h.2 (fun e=>by omega)⟩
 exact ⟨kn,ls,ms,h.hk,h.hl,h.hm,h.kl,h.km,h.lm,h.klen,h.llen,h.mlen,h.box,h.known,h.lists,h.many,fun b hb=>hb.elim (h.xlt b) (fun e=>e.2),h0.nodes.carry (aB.of_ext hx) hQ,h.sl,fun j hj hk=>⟨(h0.fine j hj hk).1.carry (aB.of_ext hx) hQ,(h.fine j hj hk).2⟩⟩
structure nX (t:List GN)(vn:Value)(gc gl gz:Nat)(g:SA)(ls zs:List Int)(B:Nat)(w:World):Prop where
 box:Blk w gc 141 #[vn,.slice (some ⟨gl,0,none⟩) t.length t.length,.slice (some ⟨gz,0,none⟩) t.length t.length,.pointer (some ⟨g.s,0,none⟩)]
 lens:Blk w gl 3 (iH ls)
 sizes:Blk w gz 3 (iH zs)
 sets:bQ t vn g w
 xl:g.X gl
 xz:g.X gz
 n1:gc ≠ gl
 n2:gc ≠ gz
 n3:gl ≠ gz
 sl:gl ≠ g.s
 sz:gz ≠ g.s
 ml:¬ g.M gl
 mz:¬ g.M gz
 mc:¬ g.M gc
 bl:B<=gl
 bz:B<=gz
 bm:∀ b,g.M b->B<=b
 llen:ls.length=t.length
 zlen:zs.length=t.length
def aI4 (t:List GN)(vn:Value)(w:World)(s:Value)(wx:World):Prop :=
 ∃ gc gl gz g,s=.pointer (some ⟨gc,0,none⟩)∧nX t vn gc gl gz g (List.replicate t.length 0) (List.replicate t.length 0) w.heap.size wx∧Ext w wx
theorem iA {t:List GN}{vn:Value}{w w1 wx:World}{gc gl gz:Nat}{g:SA}{mc:Array Value}(hmc:mc=madeCells #[.int .i64 0] t.length)(hs:bQ t vn g w1)(hx1:Ext w1 wx)(hx:Ext w wx)
  (hb:Blk wx gc 141 #[vn,.slice (some ⟨gl,0,none⟩) t.length t.length,.slice (some ⟨gz,0,none⟩) t.length t.length,.pointer (some ⟨g.s,0,none⟩)])
  (hl:Blk wx gl 3 mc)(hz:Blk wx gz 3 mc)(h1:g.X gl∨(w1.heap.size<=gl∧gl<wx.heap.size))(h2:g.X gz∨(w1.heap.size<=gz∧gz<wx.heap.size))
  (n1:gc ≠ gl)(n2:gc ≠ gz)(n3:gl ≠ gz)(sl:gl ≠ g.s)(sz:gz ≠ g.s)(ml:gl ≠ g.k∧gl ≠ g.l∧gl ≠ g.m)(mz:gz ≠ g.k∧gz ≠ g.l∧gz ≠ g.m)(mc:gc ≠ g.k∧gc ≠ g.l∧gc ≠ g.m)(bl:w.heap.size<=gl)(bz:w.heap.size<=gz)(bm:w.heap.size<=g.k∧w.heap.size<=g.l∧w.heap.size<=g.m) :
  aI4 t vn w (.pointer (some ⟨gc,0,none⟩)) wx:=by
 have e:madeCells #[.int .i64 0] t.length=iH (List.replicate t.length 0):=by rw [eV];simp [iH]
 rw [hmc,e] at hl hz;refine ⟨gc,gl,gz,⟨g.s,g.k,g.l,g.m,fun b=>g.X b∨(w1.heap.size<=b∧b<wx.heap.size)⟩,rfl,⟨hb,hl,hz,hs.moreAll hx1,h1,h2,n1,n2,n3,sl,sz,?_,?_,?_,bl,bz,?_,Y,Y⟩,hx⟩
 ·exact fun h=>h.elim ml.1 (fun h=>h.elim ml.2.1 ml.2.2)
 ·exact fun h=>h.elim mz.1 (fun h=>h.elim mz.2.1 mz.2.2)
 ·exact fun h=>h.elim mc.1 (fun h=>h.elim mc.2.1 mc.2.2)
 ·rintro b (h | h | h)
  ·exact h ▸ bm.1
  ·exact h ▸ bm.2.1
  ·exact h ▸ bm.2.2
theorem bQ.fr {t:List GN}{vn:Value}{g:SA}{w w':World}{M:Nat->Prop}(h:bQ t vn g w)(hf:Fr M w w')(h1:∀ b,M b->g.X b)(h2:¬ M g.s)(h3:∀ b,M b->¬ g.M b):bQ t vn g w':=by
 obtain ⟨kn,ls,ms,h⟩:=h;have hk:aB g.Q w w':=aB.of_fr hf (fun b hq hm=>hq.2 (h1 b hm))
 exact ⟨kn,ls,ms,h.hk,h.hl,h.hm,h.kl,h.km,h.lm,h.klen,h.llen,h.mlen,h.box.fr hf h2,h.known.fr hf (fun hm=>h3 _ hm (.inl rfl)),h.lists.fr hf (fun hm=>h3 _ hm (.inr (.inl rfl))),h.many.fr hf (fun hm=>h3 _ hm (.inr (.inr rfl))),fun b hb=>Nat.lt_of_lt_of_le (h.xlt b hb) hf.size,
  h.nodes.carry hk (fun _ _ h=>h),h.sl,fun j hj hkj=>⟨(h.fine j hj hkj).1.carry hk (fun _ _ h=>h),(h.fine j hj hkj).2⟩⟩
theorem bQ.nodes {t:List GN}{vn:Value}{g:SA}{w:World}(h:bQ t vn g w):Nds w g.Q vn t:=by
 obtain ⟨kn,ls,ms,h⟩:=h;exact h.nodes
theorem nX.ext {t:List GN}{vn:Value}{gc gl gz:Nat}{g:SA}{ls zs:List Int}{B:Nat}{w w':World}(h:nX t vn gc gl gz g ls zs B w)(hx:Ext w w'):nX t vn gc gl gz g ls zs B w' :=
 ⟨h.box.ext hx,h.lens.ext hx,h.sizes.ext hx,h.sets.ext hx,h.xl,h.xz,h.n1,h.n2,h.n3,h.sl,h.sz,h.ml,h.mz,h.mc,h.bl,h.bz,h.bm,h.llen,h.zlen⟩
theorem nX.small {t:List GN}{vn:Value}{gc gl gz:Nat}{g:SA}{ls zs ls' zs':List Int}{B:Nat}{w w':World}(h:nX t vn gc gl gz g ls zs B w)(hf:Fr (fun b=>b=gl∨b=gz) w w')(h1:Blk w' gl 3 (iH ls'))(h2:Blk w' gz 3 (iH zs'))(e1:ls'.length=ls.length)(e2:zs'.length=zs.length):nX t vn gc gl gz g ls' zs' B w' :=
 ⟨h.box.fr hf (fun hm=>hm.elim h.n1 h.n2),h1,h2,h.sets.fr hf (fun _ hb=>hb.elim (fun e=>e ▸ h.xl) (fun e=>e ▸ h.xz)) (fun hm=>hm.elim (fun e=>h.sl e.symm) (fun e=>h.sz e.symm)) (fun _ hb=>hb.elim (fun e=>e ▸ h.ml) (fun e=>e ▸ h.mz)),h.xl,h.xz,h.n1,h.n2,h.n3,h.sl,h.sz,h.ml,h.mz,h.mc,h.bl,h.bz,h.bm,e1.trans h.llen,e2.trans h.zlen⟩
theorem nX.cases_ {t:List GN}{vn:Value}{gc gl gz:Nat}{g:SA}{ls zs:List Int}{B:Nat}{w w':World}(h:nX t vn gc gl gz g ls zs B w)(hf:Fr g.M w w')(hs:bQ t vn g w'):nX t vn gc gl gz g ls zs B w' :=
 ⟨h.box.fr hf h.mc,h.lens.fr hf h.ml,h.sizes.fr hf h.mz,hs,h.xl,h.xz,h.n1,h.n2,h.n3,h.sl,h.sz,h.ml,h.mz,h.mc,h.bl,h.bz,h.bm,h.llen,h.zlen⟩
def aFk (t:List GN)(vn:Value)(gc gl gz:Nat)(g:SA)(W:World)(i:Value)(wr:World):Prop :=
 ∃ (k:Nat) (ls zs:List Int),k<=t.length∧i=↑k∧nX t vn gc gl gz g ls zs W.heap.size wr∧Ext W wr∧ls.take k=(aM t).take k∧zs.take k=(bK t).take k∧bD t k∧(∀ x ∈ ls,I64 x)∧(∀ x ∈ zs,I64 x)∧cC t=cZ t k (t.length - k)
theorem yD {t:List GN}{vn:Value}{gc gl gz:Nat}{g:SA}{W w5 w6 wr:World}{k:Nat}{ls zs:List Int}{x:GN}(hx:x=t.getD k default)(hk:k<t.length)(hA:nX t vn gc gl gz g ls zs W.heap.size wr)(hE:Ext W wr)(hL:ls.take k=(aM t).take k)(hZ:zs.take k=(bK t).take k)(hG:bD t k)(hI:∀ x ∈ ls,I64 x)(hJ:∀ x ∈ zs,I64 x)
  (hV:cC t=cZ t k (t.length - k))(hs:qI t){w4:World}(h4:Ext wr w4)(h5:Fr (fun b=>b=gl∨b=gz) w4 w5)(hl:Blk w5 gl 3 (iH (ls.set k (gO ls x))))(hz:Blk w5 gz 3 (iH (zs.set k (fO zs x))))(h6:Fr g.M w5 w6)(hS:bQ t vn g w6)(hc:cS t k=0) :
  aFk t vn gc gl gz g W (.int .i64 ((k:Int)+1)) w6:=by
 subst hx;refine ⟨k+1,_,_,U,Y,((hA.ext h4).small h5 hl hz Y Y).cases_ h6 hS,?_,aA8 hG hk hc hL hA.llen,aFb hG hs hk hc hZ hA.zlen,aA9 hG hk hc,oW hI (oE hI _),oW hJ (aDh hJ _),?_⟩
 ·have f1:Fr (fun b=>W.heap.size<=b) wr w6:=((Fr.of_ext h4).trans (h5.mono (fun b hb=>hb.elim (fun e=>e ▸ hA.bl) (fun e=>e ▸ hA.bz)))).trans (h6.mono hA.bm)
  exact ((Fr.of_ext hE).trans f1).new_ext (fun b hb=>hb)
 ·rw [rG hk hV,if_pos hc]
theorem sO (t:List GN)(P:Nat->Prop)(vn:Value)(w:World)(hP:∀ b,P b->b<w.heap.size)(ht:Nds w P vn t)(hsm:qI t):Calls Tryz.prog 42 #[.agg #[vn]] w (dV (.int .i64 (cC t)) w):=by
 have HP:=aYl hP;have HT:=aYl ht;have HSM:=aYl hsm;obtain ⟨An,cn,en,hn1,hn2⟩:=ht.form;subst en;clear ht hP hsm
 by_cases hbig:4096<t.length
 ·have HV:=aYl (show cC t=4 by unfold cC;rw [if_pos hbig])
  go_enter Tryz.func42,Tryz.ntmps42;go_wp2_with fail;go_ret;exact ⟨aH HV.out.symm,(Ext.refl _).alloc' _⟩
 ·obtain ⟨i3,hi3,hz0,hz1,hz2⟩:=info_parts Tryz.info3
  have hmk:∀ W:World,(Instr.makeSlice 22 (.int .i64 (t.length:Int)) (.int .i64 (t.length:Int))).run Tryz.prog W=.ok (.slice (some ⟨W.heap.size,0,none⟩) t.length t.length) (W.alloc (.cells (madeCells #[.int .i64 0] t.length) 3)):=by
   intro W;have h:=run_make (P:=Tryz.prog) W 22 3 i3 _ Tryz.underlying22 hi3 hz0 .i64 .i64 (t.length:Int) (t.length:Int) U (Int.le_refl _) cu U;rw [hz1,Nat.mul_one] at h;rw [h]
   rfl
  clear hi3 hz0 hz1 hz2 i3;obtain ⟨mc,hmc⟩:∃ mc,mc=madeCells #[.int .i64 0] t.length:=⟨_,rfl⟩;rw [<- hmc] at hmk;have HMC:=aYl hmc;clear hmc;go_enter Tryz.func42,Tryz.ntmps42;go_upto_region 3 with fail;have HB0:=aYl (Blk.new w 25 #[.slice An t.length cn]);have HE0:=aYl ((Ext.refl w).alloc' (.cells #[.slice An t.length cn] 25));have hW0s:(w.alloc (.cells #[.slice An t.length cn] 25)).heap.size=w.heap.size+1:=by simp
  have HWS:=aYl hW0s;clear hW0s;generalize w.alloc (.cells #[.slice An t.length cn] 25)=W at *;have b0:=HB0.out.cell' (u:=.slice An t.length cn) 0 rfl
  have HNS:=aYl (show ∀ W',Ext w W'->Calls Tryz.prog 87 #[.agg #[.slice An t.length cn]] W' (aFo t (.slice An t.length cn) (fun b=>w.heap.size<=b∧b<W'.heap.size) W') from fun W' h =>
   pG t P _ _ W' (HT.out.ext h) (fun b hb hx=>by have:=HP.out b hb;omega) (fun b hb=>hb.2) U)
  go_cut [3] (fun s wx=>aI4 t (.slice An t.length cn) W s wx)
  case first =>
   go_region_held3 (fun w'=>w'.cell? ⟨w.heap.size,0,none⟩=some (.slice An t.length cn))
    (first
     | go_keep
     | exact aA hxn ‹_›
     | exact aA (hxn.alloc' _) ‹_›)
    (first
     | (go_at_call 87;refine (HNS.out _ (by first | exact HE0.out.drew' | exact (HE0.out.alloc' _).drew' | exact ((HE0.out.alloc' _).alloc' _).drew')).mono ?_;rintro e wn ⟨g,rfl,hgX,hgs,hxn,l1,l2,l3,l4⟩))
   all_goals (go_wp2_with fail)
   all_goals (go_meet)
   all_goals
    have hws:=HWS.out;have hsz:=hxn.size;obtain ⟨kn,lk,mk,hA⟩:=id hgs;have a1:=hA.box.lt;have a2:=hA.known.lt;have a3:=hA.lists.lt;have a4:=hA.many.lt;have hMC:=HMC.out;clear hA HNS HT HP HSM hmk b0;simp at hsz l1 l2 l3 l4
   all_goals first
    | exact iA (gl:=W.heap.size) (gz:=W.heap.size+1) (gc:=wn.heap.size) hMC hgs ((Ext.refl wn).alloc' _) ((((((Ext.refl W).alloc' _).alloc' _).drew').trans' hxn).alloc' _) (Blk.new' wn 141 _ (g:=wn.heap.size) Y) ((((Blk.new' W 3 mc (g:=W.heap.size) Y).alloc _).drew.ext hxn).alloc _) (((Blk.new' (W.alloc _) 3 mc (g:=W.heap.size+1) Y).drew.ext hxn).alloc _) (.inl dz) (.inl dz) U U U U U U U U U U U
    | exact iA (gl:=W.heap.size+1) (gz:=W.heap.size) (gc:=wn.heap.size) hMC hgs ((Ext.refl wn).alloc' _) ((((((Ext.refl W).alloc' _).alloc' _).drew').trans' hxn).alloc' _) (Blk.new' wn 141 _ (g:=wn.heap.size) Y) (((Blk.new' (W.alloc _) 3 mc (g:=W.heap.size+1) Y).drew.ext hxn).alloc _) ((((Blk.new' W 3 mc (g:=W.heap.size) Y).alloc _).drew.ext hxn).alloc _) (.inl dz) (.inl dz) U U U U U U U U U U U
    | exact iA (gl:=W.heap.size) (gz:=wn.heap.size) (gc:=wn.heap.size+1) hMC hgs (((Ext.refl wn).alloc' _).alloc' _) ((((((Ext.refl W).alloc' _).drew').trans' hxn).alloc' _).alloc' _) (Blk.new' (wn.alloc _) 141 _ (g:=wn.heap.size+1) Y) ((((Blk.new' W 3 mc (g:=W.heap.size) Y).drew.ext hxn).alloc _).alloc _) ((Blk.new' wn 3 mc (g:=wn.heap.size) Y).alloc _) (.inl dz) (.inr ⟨U,ap⟩) U U U U U U U U U U U
    | exact iA (gl:=wn.heap.size) (gz:=W.heap.size) (gc:=wn.heap.size+1) hMC hgs (((Ext.refl wn).alloc' _).alloc' _) ((((((Ext.refl W).alloc' _).drew').trans' hxn).alloc' _).alloc' _) (Blk.new' (wn.alloc _) 141 _ (g:=wn.heap.size+1) Y) ((Blk.new' wn 3 mc (g:=wn.heap.size) Y).alloc _) ((((Blk.new' W 3 mc (g:=W.heap.size) Y).drew.ext hxn).alloc _).alloc _) (.inr ⟨U,ap⟩) (.inl dz) U U U U U U U U U U U
    | exact iA (gl:=wn.heap.size) (gz:=wn.heap.size+1) (gc:=wn.heap.size+1+1) hMC hgs ((((Ext.refl wn).alloc' _).alloc' _).alloc' _) ((((((Ext.refl W).drew').trans' hxn).alloc' _).alloc' _).alloc' _) (Blk.new' ((wn.alloc _).alloc _) 141 _ (g:=wn.heap.size+1+1) Y) (((Blk.new' wn 3 mc (g:=wn.heap.size) Y).alloc _).alloc _) ((Blk.new' (wn.alloc _) 3 mc (g:=wn.heap.size+1) Y).alloc _) (.inr ⟨U,ap⟩) (.inr ⟨U,ap⟩) U U U U U U U U U U U
    | exact iA (gl:=wn.heap.size+1) (gz:=wn.heap.size) (gc:=wn.heap.size+1+1) hMC hgs ((((Ext.refl wn).alloc' _).alloc' _).alloc' _) ((((((Ext.refl W).drew').trans' hxn).alloc' _).alloc' _).alloc' _) (Blk.new' ((wn.alloc _).alloc _) 141 _ (g:=wn.heap.size+1+1) Y) ((Blk.new' (wn.alloc _) 3 mc (g:=wn.heap.size+1) Y).alloc _) (((Blk.new' wn 3 mc (g:=wn.heap.size) Y).alloc _).alloc _) (.inr ⟨U,ap⟩) (.inr ⟨U,ap⟩) U U U U U U U U U U U
  case rest =>
   obtain ⟨gc,gl,gz,g,rfl,hA,hx⟩:=hcut;have HA:=aYl hA;have HX:=aYl hx;have hG0:bD t 0:=⟨U,U,fun j hj=>by omega⟩;have HV0:=aYl (show cC t=cZ t 0 (t.length - 0) by unfold cC;rw [if_neg hbig];rfl);have HB1:=aYl (HB0.out.ext hx);have b1:=HB1.out.cell' (u:=.slice An t.length cn) 0 rfl;have HG0:=aYl hG0;clear hA hx hG0 hmk b0 HNS HB0;go_wp2_with fail;go_loopw [29] (fun i wr=>aFk t (.slice An t.length cn) gc gl gz g W i wr) (fun i _=>t.length - (intOf i).toNat)
   case atStart=>exact ⟨0,_,_,Nat.zero_le _,rfl,HA.out,HX.out,rfl,rfl,HG0.out,cq,cq,HV0.out⟩
   case round =>
    obtain ⟨k,ls,zs,hk,rfl,hA,hE,hL,hZ,hG,hI,hJ,hV⟩:=hrel;have HA1:=aYl hA;have HE1:=aYl hE;have HL:=aYl hL;have HZ:=aYl hZ;have HG:=aYl hG;have HI:=aYl hI;have HJ:=aYl hJ;have HV:=aYl hV
    by_cases hlt:k<t.length
    ·have hkk:(k:Int)<(t.length:Int):=by omega
     have hND:Nds wr (fun b=>g.Q b∧b<wr.heap.size) (.slice An t.length cn) t:=hA.sets.nodes.carry (fun _ _ _=>rfl) (fun b hb h=>⟨h,hb⟩);have HND:=aYl hND;have hsz:W.heap.size<=wr.heap.size:=hE.size
     have b2:wr.cell? ⟨w.heap.size,0,none⟩=some (.slice An t.length cn):=(HB1.out.cell' (u:=.slice An t.length cn) 0 rfl) ▸ by
      have hwl:w.heap.size<W.heap.size:=by have:=HWS.out;omega
      rw [hE.cell (p:=⟨w.heap.size,0,none⟩) hwl,HX.out.cell (p:=⟨w.heap.size,0,none⟩) hwl]
     obtain ⟨b,off,a,rfl,hQb,hx,hn⟩:=hND.get hlt;have HXX:=aYl hx;have HN:=aYl hn;have HQB:=aYl hQb;obtain ⟨x,hxd⟩:∃ x,x=t.getD k default:=⟨_,rfl⟩;have HXD:=aYl hxd;rw [<- hxd] at HXX HN;have h41:=HA1.out.box.cell' (u:=.slice (some ⟨b,off,none⟩) t.length cn) 0 rfl;have HC0:=aYl h41;clear hA hE hL hZ hG hI hJ hV hx hn hQb hND hxd h41 b1;go_wp2_with fail;refine (aE8 x a b (off+k*12) _ _ HN.out HXX.out).mono ?_;rintro e w1 ⟨rfl,hx1⟩;have HX1:=aYl hx1;clear hx1;obtain ⟨cb,hcb⟩:∃ cb,cb=cM x:=⟨_,rfl⟩;rw [<- hcb];have HCB:=aYl hcb;clear hcb
     cases cb
     ·have HF:=aYl (hU hlt HV.out (aBa (t:=t) (k:=k) (by rw [<- HXD.out,<- HCB.out];rfl)) am)
      go_wp2_with fail;go_ret;exact ⟨aH HF.out.symm,HE0.out.trans' (HE1.out.trans' HX1.out)⟩
     ·go_wp2_with fail
      refine (aBy t k (fun b=>g.Q b∧b<wr.heap.size) gc _ w1 (fun b hb=>Nat.lt_of_lt_of_le hb.2 HX1.out.size) (HND.out.ext HX1.out) hlt (aA HX1.out HC0.out) U).mono ?_;rintro e w2 ⟨rfl,hx2⟩;have HX2:=aYl (HX1.out.trans' hx2);clear hx2;rw [<- HXD.out];obtain ⟨sb,hsb⟩:∃ sb,sb=dC k x:=⟨_,rfl⟩;rw [<- hsb];have HSB:=aYl hsb;clear hsb
      cases sb
      ·have HF:=aYl (hU hlt HV.out (aBa (t:=t) (k:=k) (by rw [<- HXD.out,<- HCB.out,<- HSB.out];rfl)) am)
       go_wp2_with fail;go_ret;exact ⟨aH HF.out.symm,HE0.out.trans' (HE1.out.trans' HX2.out)⟩
      ·have HCS:=aYl (show (cM (t.getD k default) && dC k (t.getD k default))=true by rw [<- HXD.out,<- HCB.out,<- HSB.out];rfl)
       go_wp2_with fail;refine (sP x a b (off+k*12) (fun b=>g.Q b∧b<wr.heap.size) w2 (fun b hb=>Nat.lt_of_lt_of_le hb.2 HX2.out.size) (HN.out.ext HX2.out) (HXX.out.ext HX2.out)).mono ?_;rintro e w3 ⟨rfl,hx3⟩;have HX3:=aYl (HX2.out.trans' hx3);clear hx3;obtain ⟨pz,hpz⟩:∃ pz,pz=gG x:=⟨_,rfl⟩;rw [<- hpz];have HPZ:=aYl hpz;clear hpz
       by_cases hp0:pz=0
       ·subst hp0
        go_wp2_with fail;refine (zA x a b (off+k*12) (fun b=>g.Q b∧b<wr.heap.size) w3 (HN.out.ext HX3.out) (HXX.out.ext HX3.out)).mono ?_;rintro e w4 ⟨rfl,hx4⟩;have HX4:=aYl (HX3.out.trans' hx4);clear hx4;obtain ⟨nb,hnb⟩:∃ nb,nb=bF x:=⟨_,rfl⟩;rw [<- hnb];have HNB:=aYl hnb;clear hnb
        cases nb
        ·have HF:=aYl (hU hlt HV.out (aLx (t:=t) (k:=k) HCS.out (by rw [<- HXD.out,<- HPZ.out]) (by rw [<- HXD.out,<- HNB.out])) am)
         go_wp2_with fail;go_ret;exact ⟨aH HF.out.symm,HE0.out.trans' (HE1.out.trans' HX4.out)⟩
        ·have HNO:=aYl (aH1 (t:=t) (k:=k) HCS.out (by rw [<- HXD.out,<- HPZ.out]) (by rw [<- HXD.out,<- HNB.out]))
         have HCK:=aYl (aH0 HG.out HSM.out hlt HNO.out HL.out HZ.out);have HA4:=aYl (HA1.out.ext HX4.out);go_wp2_with fail;refine (aDe t k (fun b=>g.Q b∧b<wr.heap.size) gc gl gz g.s _ ls zs w4 (fun b hb=>⟨Nat.lt_of_lt_of_le hb.2 HX4.out.size,fun e=>hb.1.2 (e ▸ HA1.out.xl),fun e=>hb.1.2 (e ▸ HA1.out.xz)⟩) (HND.out.ext HX4.out) hlt HA4.out.box HA4.out.lens HA4.out.sizes HA4.out.llen HA4.out.zlen HI.out HJ.out HA4.out.n1 HA4.out.n2 HA4.out.n3 HNO.out U).mono ?_;rintro e w5 ⟨rfl,hbl,hbz,hf5⟩;rw [<- HXD.out] at hbl hbz ⊢;rw [<- HXD.out] at HCK;have HBL:=aYl hbl;have HBZ:=aYl hbz;have HF5:=aYl hf5;have HA5:=aYl (HA4.out.small hf5 hbl hbz Y Y);have HE5:=aYl (show Ext W w5 from ((Fr.of_ext (HE1.out.trans' HX4.out)).trans (hf5.mono (fun b hb=>hb.elim (fun e=>e ▸ HA1.out.bl) (fun e=>e ▸ HA1.out.bz)))).new_ext (fun b hb=>hb));have hkeep:aB (fun b=>g.Q b∧b<wr.heap.size) w4 w5:=aB.of_fr hf5 (fun b hb hm=>hm.elim (fun e=>hb.1.2 (e ▸ HA1.out.xl)) (fun e=>hb.1.2 (e ▸ HA1.out.xz)));have HX5:=aYl ((HXX.out.ext HX4.out).carry (Q:=g.Q) hkeep (fun b _ h=>h.1));have HN5:=aYl ((HN.out.ext HX4.out).keep (P:=fun b=>g.Q b∧b<wr.heap.size) HQB.out hkeep);clear hbl hbz hf5 hkeep;obtain ⟨mb,hmb⟩:∃ mb,mb=(decide (gO ls x<=256) && decide (fO zs x<=1024)):=⟨_,rfl⟩
         rw [<- hmb];have HMB:=aYl hmb;clear hmb
         cases mb
         ·have HF:=aYl (hU hlt HV.out (show cS t k=4 by rw [HCK.out,<- HMB.out];rfl) am)
          go_wp2_with fail;go_ret;exact ⟨aH HF.out.symm,HE0.out.trans' HE5.out⟩
         ·have HCK2:=aYl (show cS t k=nO t x by rw [HCK.out,<- HMB.out];rfl)
          go_wp2_with fail;refine (aFe t _ g gc b (off+k*12) k x a w5 HX5.out HN5.out HQB.out.1 (HA5.out.box.cell' 3 rfl) HA5.out.mc HA5.out.sets (HXD.out ▸ HNO.out) HG.out).mono ?_;rintro e w6 ⟨rfl,hf6,hs6⟩;have HF6:=aYl hf6;have HS6:=aYl hs6;clear hf6 hs6;obtain ⟨cz,hcz⟩:∃ cz,cz=nO t x:=⟨_,rfl⟩;rw [<- hcz];have HCZ:=aYl hcz;clear hcz
          by_cases hc0:cz=0
          ·subst hc0
           go_wp2_with fail;go_roundw
           case rel=>exact yD HXD.out hlt HA1.out HE1.out HL.out HZ.out HG.out HI.out HJ.out HV.out HSM.out HX4.out HF5.out HBL.out HBZ.out HF6.out HS6.out (by rw [HCK2.out,<- HCZ.out])
           case measure=>simp [intOf];omega
          ·have HF:=aYl (hU hlt HV.out (show cS t k=cz by rw [HCK2.out,HCZ.out]) hc0)
           have tc:(cz != 0)=true:=bne_iff_ne.2 hc0;go_wp2_with fail;go_ret;exact ⟨aH HF.out.symm,HE0.out.trans' (((Fr.of_ext HE5.out).trans (HF6.out.mono HA1.out.bm)).new_ext (fun b hb=>hb))⟩
       ·have HF:=aYl (hU hlt HV.out (aFc (t:=t) (k:=k) HCS.out (by rw [<- HXD.out,<- HPZ.out];exact hp0)) (by rw [<- HXD.out,<- HPZ.out];exact hp0))
        have tp:(pz != 0)=true:=bne_iff_ne.2 hp0;go_wp2_with fail;go_ret;exact ⟨aH (by rw [HF.out,<- HXD.out,<- HPZ.out]),HE0.out.trans' (HE1.out.trans' HX3.out)⟩
    ·have HF:=aYl (show cC t=0 by rw [HV.out,show t.length - k=0 by omega];rfl)
     clear hA hE hL hZ hG hI hJ hV;go_wp2_with fail;go_ret;exact ⟨aH HF.out.symm,HE0.out.trans' HE1.out⟩
theorem aPl (a b c d:Value):∀ n:Nat,(madeCells #[a,b,c,d] (n*4)).toList=(List.replicate n [a,b,c,d]).flatten
 | 0=>by simp [madeCells]
 | n+1=>by
  have ih:=aPl a b c d n;unfold madeCells at ih ⊢;simp only [Array.toList_map,Array.toList_range] at ih ⊢;rw [show (n+1)*4=n*4+1+1+1+1 by omega,List.range_succ,List.range_succ,List.range_succ,List.range_succ,List.replicate_succ',List.flatten_append,<- ih];have e0:(n*4) % 4=0:=by omega
  have e1:(n*4+1) % 4=1:=U
  have e2:(n*4+1+1) % 4=2:=U
  have e3:(n*4+1+1+1) % 4=3:=U
  simp [e0,e1,e2,e3]
theorem aBi (w:World)(P:Nat->Prop):∀ n:Nat,RVs w P (List.replicate n default) (List.replicate n [Value.int .i64 0,.int .i64 0,.string ByteArray.empty,.slice none 0 0]).flatten
 | 0=>by simp [RVs]
 | n+1=>by
  simp only [List.replicate_succ,List.flatten_cons,RVs];exact ⟨_,_,rfl,(VAt.zero (w:=w) P).rv,aBi w P n⟩
theorem RVs.set {w:World}{P:Nat->Prop}{l:List GV}{cs us:List Value}(h:RVs w P l cs){k:Nat}(hk:k<l.length){v:GV}(hv:RV w P v us):RVs w P (l.set k v) (cs.take (k*4) ++ us ++ cs.drop (k*4+us.length)):=by
 have hl:=hv.len;rw [hl,show k*4+4=(k+1)*4 by omega,List.set_eq_take_append_cons_drop,if_pos hk,List.append_assoc];refine RVs.append (h.take k) ?_
 show RVs w P ([v] ++ l.drop (k+1)) _
 exact RVs.append (RVs.one hv) (h.drop (k+1))
theorem fC (w:World)(p:Addr):w.drew.cell? p=w.cell? p:=rfl
theorem fL {w:World}{g o b off:Nat}{u u0 u1 u2 u3:Value}(hne:¬ b=g)(h:w.cell? ⟨b,off,none⟩=some u):((((w.setCell ⟨g,o,none⟩ u0).setCell ⟨g,o+1,none⟩ u1).setCell ⟨g,o+2,none⟩ u2).setCell ⟨g,o+3,none⟩ u3).cell? ⟨b,off,none⟩=some u :=
 fM (p:=⟨g,o+3,none⟩) hne (fM (p:=⟨g,o+2,none⟩) hne (fM (p:=⟨g,o+1,none⟩) hne (fM (p:=⟨g,o,none⟩) hne h)))
theorem dW {w:World}{g o b off:Nat}{u u0 u1 u2 u3:Value}(hne:¬ b=g)(h:w.cell? ⟨b,off,none⟩=some u):((((w.setCell ⟨g,o,none⟩ u0).setCell ⟨g,o+1,none⟩ u1).setCell ⟨g,o+2,none⟩ u2).setCell ⟨g,o+3,none⟩ u3).drew.cell? ⟨b,off,none⟩=some u:=by rw [fC];exact fL hne h
theorem kM {w:World}{g o o':Nat}{u x:Value}(hne:¬ o'=o)(h:w.cell? ⟨g,o',none⟩=some u):(w.setCell ⟨g,o,none⟩ x).cell? ⟨g,o',none⟩=some u:=by
 rw [<- h];exact World.cell?_setCell_other _ _ _ _ (fun e=>hne (by injection e with _ e;exact e.symm))
theorem kO {w:World}{g k z:Nat}{u u0 u1 u2 u3:Value}(hne:¬ z=k){o:Nat}(h:w.cell? ⟨g,o,none⟩=some u)(i:Nat)(hi:i<4)(ho:o=z*4+i):((((w.setCell ⟨g,k*4,none⟩ u0).setCell ⟨g,k*4+1,none⟩ u1).setCell ⟨g,k*4+2,none⟩ u2).setCell ⟨g,k*4+3,none⟩ u3).drew.cell? ⟨g,o,none⟩=some u:=by
 rw [fC];exact kM U (kM U (kM U (kM U h)))
structure jY (t:List GN)(vn:Value)(gw gs gl gf:Nat)(P:Nat->Prop)(w:World):Prop where
 box:Blk w gw 149 #[.pointer (some ⟨gs,0,none⟩),.slice (some ⟨gl,0,none⟩) t.length t.length,.slice (some ⟨gf,0,none⟩) t.length t.length]
 sets:w.cell? ⟨gs,0,none⟩=some vn
 lens:Blk w gl 3 (iH (aM t))
 fixed:bV w P (.slice (some ⟨gf,0,none⟩) t.length t.length) (rS t)
 nodes:Nds w P vn t
 pw:P gw
 ps:P gs
 pl:P gl
theorem jY.carry {t:List GN}{vn:Value}{gw gs gl gf:Nat}{P Q:Nat->Prop}{w w':World}(h:jY t vn gw gs gl gf P w)(hk:aB P w w')(hPQ:∀ b,b<w.heap.size->P b->Q b):jY t vn gw gs gl gf Q w' :=
 ⟨(hk _ h.box.lt h.pw).trans h.box,by rw [<- h.sets];exact World.cell?_of_block (w:=w) (hk _ (aQ h.sets) h.ps),(hk _ h.lens.lt h.pl).trans h.lens,h.fixed.carry hk hPQ,h.nodes.carry hk hPQ,hPQ _ h.box.lt h.pw,hPQ _ (aQ h.sets) h.ps,hPQ _ h.lens.lt h.pl⟩
structure WN (t:List GN)(vn:Value)(P:Nat->Prop)(W0:World)(gw gs gl gf:Nat)(ls:List Int)(l:List GV)(w:World):Prop where
 box:Blk w gw 149 #[.pointer (some ⟨gs,0,none⟩),.slice (some ⟨gl,0,none⟩) t.length t.length,.slice (some ⟨gf,0,none⟩) t.length t.length]
 sets:w.cell? ⟨gs,0,none⟩=some vn
 lens:Blk w gl 3 (iH ls)
 fix:∃ cs,Blk w gf 85 cs.toArray∧RVs w (fun b=>(P b∨W0.heap.size<=b)∧b ≠ gl∧b ≠ gf) l cs
 nodes:Nds w P vn t
 n1:gw ≠ gl
 n2:gw ≠ gf
 n3:gl ≠ gf
 n4:gs ≠ gl
 n5:gs ≠ gf
 bw:W0.heap.size<=gw
 bs:W0.heap.size<=gs
 bl:W0.heap.size<=gl
 bf:W0.heap.size<=gf
 llen:ls.length=t.length
 flen:l.length=t.length
 ext:Ext W0 w
section
variable {t:List GN}{vn:Value}{P:Nat->Prop}{W0:World}{gw gs gl gf:Nat}{ls:List Int}{l:List GV}{w w':World}
theorem WN.ext_ (h:WN t vn P W0 gw gs gl gf ls l w)(hx:Ext w w'):WN t vn P W0 gw gs gl gf ls l w':=by
 obtain ⟨cs,h1,h2⟩:=h.fix;exact ⟨h.box.ext hx,aA hx h.sets,h.lens.ext hx,⟨cs,h1.ext hx,RVs.keep (aB.of_ext hx) (fun _ h=>h) h2⟩,h.nodes.ext hx,h.n1,h.n2,h.n3,h.n4,h.n5,h.bw,h.bs,h.bl,h.bf,h.llen,h.flen,h.ext.trans' hx⟩
theorem WN.setLen (h:WN t vn P W0 gw gs gl gf ls l w)(hP:∀ b,P b->b<W0.heap.size)(k:Nat)(v:Int):WN t vn P W0 gw gs gl gf (ls.set k v) l (w.setCell ⟨gl,k,none⟩ (↑v)):=by
 obtain ⟨cs,h1,h2⟩:=h.fix;have hb:=h.bl;have hl:=h.lens.set_ k (↑v);rw [lY] at hl
 exact ⟨h.box.far (p:=⟨gl,k,none⟩) h.n1 _,fM h.n4 h.sets,hl,⟨cs,h1.far (p:=⟨gl,k,none⟩) h.n3.symm _,RVs.carry (aB.set (p:=⟨gl,k,none⟩) (fun _ _ _=>rfl) _ (fun hq=>hq.2.1 rfl)) (fun _ _ h=>h) h2⟩,
  h.nodes.carry (aB.set (p:=⟨gl,k,none⟩) (fun _ _ _=>rfl) _ (fun hq=>by have:=hP _ hq;simp at this;omega)) (fun _ _ h=>h),h.n1,h.n2,h.n3,h.n4,h.n5,h.bw,h.bs,h.bl,h.bf,by simp [h.llen],h.flen,((Fr.of_ext (M:=fun _=>False) h.ext).setCell (p:=⟨gl,k,none⟩) (.inr hb) _).ext⟩
theorem WN.setFix (h:WN t vn P W0 gw gs gl gf ls l w)(hP:∀ b,P b->b<W0.heap.size){k:Nat}(hk:k<t.length){v:GV}{us:List Value}(hv:RV w (fun b=>(P b∨W0.heap.size<=b)∧b ≠ gl∧b ≠ gf) v us):WN t vn P W0 gw gs gl gf ls (l.set k v) (w.setCells gf (k*4) us):=by
 obtain ⟨cs,h1,h2⟩:=h.fix;have hb:=h.bf;have hcl:=h2.len;have hfl:=h.flen;have hus:=hv.len;have hkf:¬ (fun b=>(P b∨W0.heap.size<=b)∧b ≠ gl∧b ≠ gf) gf:=fun hq=>hq.2.2 rfl
 have hkp:¬ P gf:=fun hq=>by have:=hP _ hq;omega
 have hs:aB (fun b=>b=gs) w (w.setCells gf (k*4) us):=aB.setCells (fun e=>h.n5 e.symm) us (k*4) (fun _ _ _=>rfl)
 exact ⟨h.box.farCells h.n2 us _,by rw [<- h.sets];exact World.cell?_of_block (w:=w) (hs _ (aQ h.sets) rfl),h.lens.farCells h.n3 us _,
  ⟨_,aJ us (k*4) h1 U,RVs.carry (aB.setCells hkf us (k*4) (fun _ _ _=>rfl)) (fun _ _ h=>h) (h2.set U hv)⟩,
  h.nodes.carry (aB.setCells hkp us (k*4) (fun _ _ _=>rfl)) (fun _ _ h=>h),h.n1,h.n2,h.n3,h.n4,h.n5,h.bw,h.bs,h.bl,h.bf,h.llen,by simp [h.flen],((Fr.of_ext (M:=fun _=>False) h.ext).setCells us (k*4) (.inr hb)).ext⟩
theorem WN.frNew (h:WN t vn P W0 gw gs gl gf ls l w)(hf:Fr (fun b=>b=w.heap.size) w w'):WN t vn P W0 gw gs gl gf ls l w':=by
 exact h.ext_ (hf.new_ext (fun b e=>by omega))
theorem WN.getFix (h:WN t vn P W0 gw gs gl gf ls l w){j:Nat}(hj:j<t.length):∃ A c,VAt w (fun b=>(P b∨W0.heap.size<=b)∧b ≠ gl∧b ≠ gf) (l.getD j default) A c ∧
  w.cell? ⟨gf,j*4,none⟩=some (.int .i64 (l.getD j default).kind)∧w.cell? ⟨gf,j*4+1,none⟩=some (.int .i64 (l.getD j default).n)∧w.cell? ⟨gf,j*4+2,none⟩=some (.string (l.getD j default).s)∧w.cell? ⟨gf,j*4+3,none⟩=some (.slice A (l.getD j default).kids.length c):=by
 obtain ⟨cs,h1,h2⟩:=h.fix;have hfl:=h.flen;obtain ⟨A,c,e,hu⟩:=(h2.get (i:=j) U).at_
 have hx:∀ i,i<4->cs[j*4+i]?=((cs.drop (j*4)).take 4)[i]?:=by
  intro i hi;rw [List.getElem?_take,if_pos hi,List.getElem?_drop]
 unfold cellsOf at e;refine ⟨A,c,hu,?_,?_,?_,?_⟩
 ·have:=hx 0 U;rw [e] at this;exact h1.cell' _ gy
 ·have:=hx 1 U;rw [e] at this;exact h1.cell' _ gy
 ·have:=hx 2 U;rw [e] at this;exact h1.cell' _ gy
 ·have:=hx 3 U;rw [e] at this;exact h1.cell' _ gy
theorem WN.place (h:WN t vn P W0 gw gs gl gf ls l w){j:Nat}(hj:j<t.length):(∃ y,w.cell? ⟨gf,j*4,none⟩=some y)∧(∃ y,w.cell? ⟨gf,j*4+1,none⟩=some y)∧(∃ y,w.cell? ⟨gf,j*4+2,none⟩=some y)∧(∃ y,w.cell? ⟨gf,j*4+3,none⟩=some y) ∧
  w.frozen? ⟨gf,j*4,none⟩=false∧w.frozen? ⟨gf,j*4+1,none⟩=false∧w.frozen? ⟨gf,j*4+2,none⟩=false∧w.frozen? ⟨gf,j*4+3,none⟩=false:=by
 obtain ⟨A,c,_,h1,h2,h3,h4⟩:=h.getFix hj;obtain ⟨cs,hb,_⟩:=h.fix;exact ⟨⟨_,h1⟩,⟨_,h2⟩,⟨_,h3⟩,⟨_,h4⟩,hb.frozen _,hb.frozen _,hb.frozen _,hb.frozen _⟩
end
def oG (t:List GN)(k:Nat):List GV:=eC t k ++ List.replicate (t.length - k) default
theorem aAu {t:List GN}{k:Nat}(hk:k<=t.length):(oG t k).length=t.length:=by unfold oG;rw [List.length_append,gI hk];simp;omega
theorem aAv {t:List GN}{k j:Nat}(hk:k<=t.length)(hj:j<k):(oG t k).getD j default=(eC t k).getD j default:=by
 unfold oG;have:=gI hk;simp [List.getD,List.getElem?_append,this,hj]
theorem tY {t:List GN}{k:Nat}(hk:k<t.length):(oG t k).set k (dS (aM t) (eC t k) (t.getD k default))=oG t (k+1):=by
 unfold oG;have hl:=gI (t:=t) (j:=k) U;rw [aCh hk,List.set_append_right _ _ U,hl,Nat.sub_self,show t.length - k=(t.length - (k+1))+1 by omega,List.replicate_succ,List.set_cons_zero,List.append_assoc]
 rfl
theorem aEn {t:List GN}{k:Nat}(hk:k<t.length)(h:dS (aM t) (eC t k) (t.getD k default)=default):oG t k=oG t (k+1):=by
 rw [<- tY hk,h];unfold oG;have hl:=gI (t:=t) (j:=k) U;rw [List.set_append_right _ _ U,hl,Nat.sub_self,show t.length - k=(t.length - (k+1))+1 by omega,List.replicate_succ,List.set_cons_zero]
theorem tZ (t:List GN):oG t t.length=rS t:=by unfold oG;rw [aEm];simp
def aQ6 (l:List GV)(Pk:Nat->Prop)(gk:Nat)(W:World)(i:Value)(wr:World):Prop :=
 ∃ (j:Nat) (cs:List Value),j<=l.length∧i=↑j∧Blk wr gk 85 cs.toArray∧cs.length=l.length*4∧RVs wr Pk (l.take j) (cs.take (j*4))∧Fr (fun b=>b=gk) W wr
theorem aLw {l:List GV}{Pk:Nat->Prop}{gk:Nat}{W wr:World}{j:Nat}{cs us:List Value}(hg:¬ Pk gk)(hj:j<l.length)(hB:Blk wr gk 85 cs.toArray)(hl:cs.length=l.length*4)(hR:RVs wr Pk (l.take j) (cs.take (j*4)))(hx:Fr (fun b=>b=gk) W wr)(hu:RV wr Pk (l.getD j default) us) :
  aQ6 l Pk gk W (.int .i64 ((j:Int)+1)) (wr.setCells gk (j*4) us):=by
 have hus:=hu.len;have hB1:=aJ us (j*4) hB U;have hk:aB Pk wr (wr.setCells gk (j*4) us):=aB.setCells hg us (j*4) (fun _ _ _=>rfl);refine ⟨j+1,_,U,Y,hB1,?_,?_,hx.setCells us (j*4) (.inl rfl)⟩
 ·simp only [List.length_append,List.length_take,List.length_drop];omega
 ·have e:(cs.take (j*4) ++ us ++ cs.drop (j*4+us.length)).take ((j+1)*4)=cs.take (j*4) ++ us:=by
   rw [List.take_append_of_le_length fj,List.take_of_length_le fj]
  rw [e,aX default hj];exact RVs.append (RVs.carry hk (fun _ _ h=>h) hR) (RVs.one (RV.carry hk (fun _ _ h=>h) hu))
end Go.Proofs.YtkoeecdjijfjnaaGreat
