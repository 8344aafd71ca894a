/- Contracts of functions, plain laws. Conditions: none. -/
import Derived.BigGuardPart
import Derived.Test.YtkoeecdjijfjnaaGreatPlL
set_option maxRecDepth 100000
set_option maxHeartbeats 8000000
namespace Go.Proofs.YtkoeecdjijfjnaaGreat
open Go.RowKit
theorem aIf (x:GN)(a:NA)(b o:Nat)(w:World)(hn:cC w b o x a)(hk:x.kind=0) :
  Calls Tryz.prog 88 #[.pointer (some ⟨b,o,none⟩)] w (dC (.bool (cQ x)) w):=by
 have HS:=aV4 (show cQ x=(decide (0<=x.kind) && decide (x.kind<=4) && (decide (x.kind=0) || decide (cO x.value bO=0)) && (decide (x.kind=1) || (decide (x.lo=0) && decide (x.hi=0))) &&
 (decide (x.kind=2) || (decide (x.weights.length=0) && decide (x.labels.length=0))) && (decide (x.kind=3) || bC x.name) && (decide (x.kind=4) || decide (x.values.length=0)) &&
 ((!decide (x.kind=0) && !decide (x.kind=1)) || decide (x.kids.length=0))) from rfl)
 have c0:=hn.c0;have c1:=hn.c1;have c2:=hn.c2;have c3:=hn.c3;have c4:=hn.c4;have c5:=hn.c5;have c6:=hn.c6;have c7:=hn.c7;clear hn;generalize cQ x=cb at *;generalize x.weights.length=nw at *;generalize x.labels.length=nl at *;generalize x.values.length=nv at *;generalize x.kids.length=nk at *;generalize x.kind=k at *;generalize x.lo=lo at *;generalize x.hi=hi at *;generalize x.name=nm at *;subst hk;go_enter Tryz.func88,Tryz.ntmps88;go_upto_region 2 with fail;simp only [List.append];go_wp2_with fail
 all_goals
  go_ret;refine ⟨aF ?_,Ext.refl _⟩;rw [HS.out];clear HS c0 c1 c2 c3 c4 c5 c6 c7;rw [Bool.eq_iff_iff]
  simp_all [bC]
  try omega
theorem aE0 (x:GN)(a:NA)(b o:Nat)(w:World)(hn:cC w b o x a)(hk:x.kind<0) :
  Calls Tryz.prog 88 #[.pointer (some ⟨b,o,none⟩)] w (dC (.bool (cQ x)) w):=by
 have HS:=aV4 (show cQ x=(decide (0<=x.kind) && decide (x.kind<=4) && (decide (x.kind=0) || decide (cO x.value bO=0)) && (decide (x.kind=1) || (decide (x.lo=0) && decide (x.hi=0))) &&
 (decide (x.kind=2) || (decide (x.weights.length=0) && decide (x.labels.length=0))) && (decide (x.kind=3) || bC x.name) && (decide (x.kind=4) || decide (x.values.length=0)) &&
 ((!decide (x.kind=0) && !decide (x.kind=1)) || decide (x.kids.length=0))) from rfl)
 have c0:=hn.c0;have c1:=hn.c1;have c2:=hn.c2;have c3:=hn.c3;have c4:=hn.c4;have c5:=hn.c5;have c6:=hn.c6;have c7:=hn.c7;clear hn;generalize cQ x=cb at *;generalize x.weights.length=nw at *;generalize x.labels.length=nl at *;generalize x.values.length=nv at *;generalize x.kids.length=nk at *;generalize x.kind=k at *;generalize x.lo=lo at *;generalize x.hi=hi at *;generalize x.name=nm at *;go_enter Tryz.func88,Tryz.ntmps88;go_upto_region 2 with fail;simp only [List.append];go_wp2_with fail
 all_goals (try exact absurd ‹0<=k› (by omega))
 all_goals
  refine bodyPost_ret (v:=.bool false) (by simp [results,Tryz.results88,go_sem]) rfl ⟨aF ?_,Ext.refl _⟩;rw [HS.out];clear HS c0 c1 c2 c3 c4 c5 c6 c7;rw [Bool.eq_iff_iff]
  simp_all [bC]
  try omega
theorem aE1 (x:GN)(a:NA)(b o:Nat)(w:World)(hn:cC w b o x a)(hk:4<x.kind) :
  Calls Tryz.prog 88 #[.pointer (some ⟨b,o,none⟩)] w (dC (.bool (cQ x)) w):=by
 have HS:=aV4 (show cQ x=(decide (0<=x.kind) && decide (x.kind<=4) && (decide (x.kind=0) || decide (cO x.value bO=0)) && (decide (x.kind=1) || (decide (x.lo=0) && decide (x.hi=0))) &&
 (decide (x.kind=2) || (decide (x.weights.length=0) && decide (x.labels.length=0))) && (decide (x.kind=3) || bC x.name) && (decide (x.kind=4) || decide (x.values.length=0)) &&
 ((!decide (x.kind=0) && !decide (x.kind=1)) || decide (x.kids.length=0))) from rfl)
 have c0:=hn.c0;have c1:=hn.c1;have c2:=hn.c2;have c3:=hn.c3;have c4:=hn.c4;have c5:=hn.c5;have c6:=hn.c6;have c7:=hn.c7;clear hn;generalize cQ x=cb at *;generalize x.weights.length=nw at *;generalize x.labels.length=nl at *;generalize x.values.length=nv at *;generalize x.kids.length=nk at *;generalize x.kind=k at *;generalize x.lo=lo at *;generalize x.hi=hi at *;generalize x.name=nm at *;go_enter Tryz.func88,Tryz.ntmps88;go_upto_region 2 with fail;simp only [List.append];go_wp2_with fail
 all_goals (try exact absurd ‹k<=4› (by omega))
 all_goals
  refine bodyPost_ret (v:=.bool false) (by simp [results,Tryz.results88,go_sem]) rfl ⟨aF ?_,Ext.refl _⟩;rw [HS.out];clear HS c0 c1 c2 c3 c4 c5 c6 c7;rw [Bool.eq_iff_iff]
  simp_all [bC]
  try omega
theorem aIe (x:GN)(a:NA)(b o:Nat)(P:Nat->Prop)(w:World)(hn:cC w b o x a)(hx:NAt w P x a)(hk:x.kind=1) :
  Calls Tryz.prog 88 #[.pointer (some ⟨b,o,none⟩)] w (dC (.bool (cQ x)) w):=by
 have HS:=aV4 (show cQ x=(decide (0<=x.kind) && decide (x.kind<=4) && (decide (x.kind=0) || decide (cO x.value bO=0)) && (decide (x.kind=1) || (decide (x.lo=0) && decide (x.hi=0))) &&
 (decide (x.kind=2) || (decide (x.weights.length=0) && decide (x.labels.length=0))) && (decide (x.kind=3) || bC x.name) && (decide (x.kind=4) || decide (x.values.length=0)) &&
 ((!decide (x.kind=0) && !decide (x.kind=1)) || decide (x.kids.length=0))) from rfl)
 have HC:=aV4 (bQ x.value bO a.xA none a.xc 0 P P w hx.value (VAt.zero _ _))
 have HN:=aV4 (show ∀ w',Ext w w'->w'.cell? ⟨b,o+1,none⟩=some (.string x.name)∧w'.cell? ⟨b,o+2,none⟩=some (.int .i64 x.lo)∧w'.cell? ⟨b,o+3,none⟩=some (.int .i64 x.hi)∧w'.cell? ⟨b,o+4,none⟩=some (.slice a.wA x.weights.length a.wc) ∧
  w'.cell? ⟨b,o+5,none⟩=some (.slice a.lA x.labels.length a.lc)∧w'.cell? ⟨b,o+6,none⟩=some (.slice a.vA x.values.length a.vc)∧w'.cell? ⟨b,o+7,none⟩=some (.slice a.kA x.kids.length a.kc) from fun w' h=>⟨(hn.ext h).c1,(hn.ext h).c2,(hn.ext h).c3,(hn.ext h).c4,(hn.ext h).c5,(hn.ext h).c6,(hn.ext h).c7⟩)
 have c0:=hn.c0;have c8:=hn.c8;have c9:=hn.c9;have c10:=hn.c10;have c11:=hn.c11;clear hn hx;generalize cQ x=cb at *;generalize x.weights.length=nw at *;generalize x.labels.length=nl at *;generalize x.values.length=nv at *;generalize x.kids.length=nk at *;generalize x.kind=k at *;generalize x.lo=lo at *;generalize x.hi=hi at *;generalize x.name=nm at *;subst hk;go_enter Tryz.func88,Tryz.ntmps88;go_upto_region 2 with fail;simp only [List.append];go_wp2_with fail;refine HC.out.mono ?_;rintro e w1 ⟨rfl,hx1⟩;have HX1:=aV4 hx1;obtain ⟨c1,c2,c3,c4,c5,c6,c7⟩:=HN.out w1 hx1;clear hx1 c0 c8 c9 c10 c11;generalize cO x.value bO=cz at *;go_wp2_with fail
 all_goals
  go_ret;refine ⟨aF ?_,HX1.out⟩;rw [HS.out];clear HS HC HN HX1 c1 c2 c3 c4 c5 c6 c7;rw [Bool.eq_iff_iff]
  simp_all [bC]
  try omega
theorem aId (x:GN)(a:NA)(b o:Nat)(P:Nat->Prop)(w:World)(hn:cC w b o x a)(hx:NAt w P x a)(hk:x.kind=2) :
  Calls Tryz.prog 88 #[.pointer (some ⟨b,o,none⟩)] w (dC (.bool (cQ x)) w):=by
 have HS:=aV4 (show cQ x=(decide (0<=x.kind) && decide (x.kind<=4) && (decide (x.kind=0) || decide (cO x.value bO=0)) && (decide (x.kind=1) || (decide (x.lo=0) && decide (x.hi=0))) &&
 (decide (x.kind=2) || (decide (x.weights.length=0) && decide (x.labels.length=0))) && (decide (x.kind=3) || bC x.name) && (decide (x.kind=4) || decide (x.values.length=0)) &&
 ((!decide (x.kind=0) && !decide (x.kind=1)) || decide (x.kids.length=0))) from rfl)
 have HC:=aV4 (bQ x.value bO a.xA none a.xc 0 P P w hx.value (VAt.zero _ _))
 have HN:=aV4 (show ∀ w',Ext w w'->w'.cell? ⟨b,o+1,none⟩=some (.string x.name)∧w'.cell? ⟨b,o+2,none⟩=some (.int .i64 x.lo)∧w'.cell? ⟨b,o+3,none⟩=some (.int .i64 x.hi)∧w'.cell? ⟨b,o+4,none⟩=some (.slice a.wA x.weights.length a.wc) ∧
  w'.cell? ⟨b,o+5,none⟩=some (.slice a.lA x.labels.length a.lc)∧w'.cell? ⟨b,o+6,none⟩=some (.slice a.vA x.values.length a.vc)∧w'.cell? ⟨b,o+7,none⟩=some (.slice a.kA x.kids.length a.kc) from fun w' h=>⟨(hn.ext h).c1,(hn.ext h).c2,(hn.ext h).c3,(hn.ext h).c4,(hn.ext h).c5,(hn.ext h).c6,(hn.ext h).c7⟩)
 have c0:=hn.c0;have c8:=hn.c8;have c9:=hn.c9;have c10:=hn.c10;have c11:=hn.c11;clear hn hx;generalize cQ x=cb at *;generalize x.weights.length=nw at *;generalize x.labels.length=nl at *;generalize x.values.length=nv at *;generalize x.kids.length=nk at *;generalize x.kind=k at *;generalize x.lo=lo at *;generalize x.hi=hi at *;generalize x.name=nm at *;subst hk;go_enter Tryz.func88,Tryz.ntmps88;go_upto_region 2 with fail;simp only [List.append];go_wp2_with fail;refine HC.out.mono ?_;rintro e w1 ⟨rfl,hx1⟩;have HX1:=aV4 hx1;obtain ⟨c1,c2,c3,c4,c5,c6,c7⟩:=HN.out w1 hx1;clear hx1 c0 c8 c9 c10 c11;generalize cO x.value bO=cz at *;go_wp2_with fail
 all_goals
  go_ret;refine ⟨aF ?_,HX1.out⟩;rw [HS.out];clear HS HC HN HX1 c1 c2 c3 c4 c5 c6 c7;rw [Bool.eq_iff_iff]
  simp_all [bC]
  try omega
theorem aIc (x:GN)(a:NA)(b o:Nat)(P:Nat->Prop)(w:World)(hn:cC w b o x a)(hx:NAt w P x a)(hk:x.kind=3) :
  Calls Tryz.prog 88 #[.pointer (some ⟨b,o,none⟩)] w (dC (.bool (cQ x)) w):=by
 have HS:=aV4 (show cQ x=(decide (0<=x.kind) && decide (x.kind<=4) && (decide (x.kind=0) || decide (cO x.value bO=0)) && (decide (x.kind=1) || (decide (x.lo=0) && decide (x.hi=0))) &&
 (decide (x.kind=2) || (decide (x.weights.length=0) && decide (x.labels.length=0))) && (decide (x.kind=3) || bC x.name) && (decide (x.kind=4) || decide (x.values.length=0)) &&
 ((!decide (x.kind=0) && !decide (x.kind=1)) || decide (x.kids.length=0))) from rfl)
 have HC:=aV4 (bQ x.value bO a.xA none a.xc 0 P P w hx.value (VAt.zero _ _))
 have HN:=aV4 (show ∀ w',Ext w w'->w'.cell? ⟨b,o+1,none⟩=some (.string x.name)∧w'.cell? ⟨b,o+2,none⟩=some (.int .i64 x.lo)∧w'.cell? ⟨b,o+3,none⟩=some (.int .i64 x.hi)∧w'.cell? ⟨b,o+4,none⟩=some (.slice a.wA x.weights.length a.wc) ∧
  w'.cell? ⟨b,o+5,none⟩=some (.slice a.lA x.labels.length a.lc)∧w'.cell? ⟨b,o+6,none⟩=some (.slice a.vA x.values.length a.vc)∧w'.cell? ⟨b,o+7,none⟩=some (.slice a.kA x.kids.length a.kc) from fun w' h=>⟨(hn.ext h).c1,(hn.ext h).c2,(hn.ext h).c3,(hn.ext h).c4,(hn.ext h).c5,(hn.ext h).c6,(hn.ext h).c7⟩)
 have c0:=hn.c0;have c8:=hn.c8;have c9:=hn.c9;have c10:=hn.c10;have c11:=hn.c11;clear hn hx;generalize cQ x=cb at *;generalize x.weights.length=nw at *;generalize x.labels.length=nl at *;generalize x.values.length=nv at *;generalize x.kids.length=nk at *;generalize x.kind=k at *;generalize x.lo=lo at *;generalize x.hi=hi at *;generalize x.name=nm at *;subst hk;go_enter Tryz.func88,Tryz.ntmps88;go_upto_region 2 with fail;simp only [List.append];go_wp2_with fail;refine HC.out.mono ?_;rintro e w1 ⟨rfl,hx1⟩;have HX1:=aV4 hx1;obtain ⟨c1,c2,c3,c4,c5,c6,c7⟩:=HN.out w1 hx1;clear hx1 c0 c8 c9 c10 c11;generalize cO x.value bO=cz at *;go_wp2_with fail
 all_goals
  go_ret;refine ⟨aF ?_,HX1.out⟩;rw [HS.out];clear HS HC HN HX1 c1 c2 c3 c4 c5 c6 c7;rw [Bool.eq_iff_iff]
  simp_all [bC]
  try omega
theorem aIb (x:GN)(a:NA)(b o:Nat)(P:Nat->Prop)(w:World)(hn:cC w b o x a)(hx:NAt w P x a)(hk:x.kind=4) :
  Calls Tryz.prog 88 #[.pointer (some ⟨b,o,none⟩)] w (dC (.bool (cQ x)) w):=by
 have HS:=aV4 (show cQ x=(decide (0<=x.kind) && decide (x.kind<=4) && (decide (x.kind=0) || decide (cO x.value bO=0)) && (decide (x.kind=1) || (decide (x.lo=0) && decide (x.hi=0))) &&
 (decide (x.kind=2) || (decide (x.weights.length=0) && decide (x.labels.length=0))) && (decide (x.kind=3) || bC x.name) && (decide (x.kind=4) || decide (x.values.length=0)) &&
 ((!decide (x.kind=0) && !decide (x.kind=1)) || decide (x.kids.length=0))) from rfl)
 have HC:=aV4 (bQ x.value bO a.xA none a.xc 0 P P w hx.value (VAt.zero _ _))
 have HN:=aV4 (show ∀ w',Ext w w'->w'.cell? ⟨b,o+1,none⟩=some (.string x.name)∧w'.cell? ⟨b,o+2,none⟩=some (.int .i64 x.lo)∧w'.cell? ⟨b,o+3,none⟩=some (.int .i64 x.hi)∧w'.cell? ⟨b,o+4,none⟩=some (.slice a.wA x.weights.length a.wc) ∧
  w'.cell? ⟨b,o+5,none⟩=some (.slice a.lA x.labels.length a.lc)∧w'.cell? ⟨b,o+6,none⟩=some (.slice a.vA x.values.length a.vc)∧w'.cell? ⟨b,o+7,none⟩=some (.slice a.kA x.kids.length a.kc) from fun w' h=>⟨(hn.ext h).c1,(hn.ext h).c2,(hn.ext h).c3,(hn.ext h).c4,(hn.ext h).c5,(hn.ext h).c6,(hn.ext h).c7⟩)
 have c0:=hn.c0;have c8:=hn.c8;have c9:=hn.c9;have c10:=hn.c10;have c11:=hn.c11;clear hn hx;generalize cQ x=cb at *;generalize x.weights.length=nw at *;generalize x.labels.length=nl at *;generalize x.values.length=nv at *;generalize x.kids.length=nk at *;generalize x.kind=k at *;generalize x.lo=lo at *;generalize x.hi=hi at *;generalize x.name=nm at *;subst hk;go_enter Tryz.func88,Tryz.ntmps88;go_upto_region 2 with fail;simp only [List.append];go_wp2_with fail;refine HC.out.mono ?_;rintro e w1 ⟨rfl,hx1⟩;have HX1:=aV4 hx1;obtain ⟨c1,c2,c3,c4,c5,c6,c7⟩:=HN.out w1 hx1;clear hx1 c0 c8 c9 c10 c11;generalize cO x.value bO=cz at *;go_wp2_with fail
 all_goals
  go_ret;refine ⟨aF ?_,HX1.out⟩;rw [HS.out];clear HS HC HN HX1 c1 c2 c3 c4 c5 c6 c7;rw [Bool.eq_iff_iff]
  simp_all [bC]
  try omega
theorem aE2 (x:GN)(a:NA)(b o:Nat)(P:Nat->Prop)(w:World)(hn:cC w b o x a)(hx:NAt w P x a) :
  Calls Tryz.prog 88 #[.pointer (some ⟨b,o,none⟩)] w (dC (.bool (cQ x)) w):=by
 by_cases h:x.kind<0
 ·exact aE0 x a b o w hn h
 by_cases h':4<x.kind
 ·exact aE1 x a b o w hn h'
 have hc:x.kind=0∨x.kind=1∨x.kind=2∨x.kind=3∨x.kind=4:=by omega
 rcases hc with hk | hk | hk | hk | hk
 ·exact aIf x a b o w hn hk
 ·exact aIe x a b o P w hn hx hk
 ·exact aId x a b o P w hn hx hk
 ·exact aIc x a b o P w hn hx hk
 ·exact aIb x a b o P w hn hx hk
def aUa (i:Nat)(x:GN)(W:World)(k:Value)(wr:World):Prop:=∃ j:Nat,j<=x.kids.length∧k=.int .i64 j∧W=wr∧dG i x=((x.kids.drop j).all (fun z=>!fmK i z) && pA x)
def aR7 (x:GN)(W:World)(k:Value)(wr:World):Prop:=∃ j:Nat,1<=j∧j<=x.values.length+1∧k=.int .i64 j∧Ext W wr∧pT x.values=pT (x.values.drop (j - 1))
theorem aA8 (t:List GN)(i:Nat)(P:Nat->Prop)(gc:Nat)(vn:Value)(w:World)(hP:∀ b,P b->b<w.heap.size)(ht:Nds w P vn t)(hi:i<t.length)(h0:w.cell? ⟨gc,0,none⟩=some vn)(_:i<=100000) :
  Calls Tryz.prog 89 #[.pointer (some ⟨gc,0,none⟩),.int .i64 i] w (dC (.bool (dG i (t.getD i default))) w):=by
 obtain ⟨An,cn,en,hn1,hn2⟩:=ht.form;subst en;obtain ⟨b,off,a,rfl,hPb,hx,hn⟩:=ht.get hi;generalize hg:t.getD i default=x at *;clear hg;have HP:=aV4 hP;have HX:=aV4 hx;have HN:=aV4 hn;have HS:=aV4 (show dG i x=(x.kids.all (fun z=>!fmK i z) && pA x) from rfl)
 have HK:=aV4 (show pA x=(if x.kind=2 then decide (1<=x.kids.length) && decide (x.kids.length<=256) && decide (x.weights.length=x.kids.length) && (decide (x.labels.length=0) || decide (x.labels.length=x.kids.length))
  else if x.kind=3 then (if bC x.name then decide (x.kids.length<=256) else decide (x.kids.length<=16) && decide (eW (.mk 3 0 x.name [])=0))
  else if x.kind=4 then pT x.values && decide (x.kids.length=x.values.length+1) else true) from rfl)
 obtain ⟨hkl,hkc⟩:=hx.kids.le;obtain ⟨hvl,hvc⟩:=hx.values.le;have hlo:(i:Int)<(t.length:Int):=by omega
 have c0:=hn.c0;have c1:=hn.c1;have c4:=hn.c4;have c5:=hn.c5;have c6:=hn.c6;have c7:=hn.c7;have HKI:=aV4 hx.kids;clear hx hn ht hP;generalize a.kA=Ak at *;generalize a.kc=kc at *;go_enter Tryz.func89,Tryz.ntmps89;go_wp2_with fail;go_loopw [26] (fun k wr=>aUa i x w k wr) (fun k _=>x.kids.length - (intOf k).toNat)
 case atStart=>exact ⟨0,Nat.zero_le _,rfl,rfl,HS.out⟩
 case round =>
  obtain ⟨j,hj,rfl,rfl,hT⟩:=hrel;have HT:=aV4 hT;clear hT
  by_cases hlt:j<x.kids.length
  ·obtain ⟨b1,o1,rfl,-,-,g1⟩:=HKI.out.get hlt
   have HD:=aV4 (show dG i x=(!fmK i (x.kids.getD j 0) && (x.kids.drop (j+1)).all (fun z=>!fmK i z) && pA x) by rw [HT.out,aH 0 hlt];rfl);generalize x.kids.getD j 0=z at *
   by_cases hz1:z<0
   ·have HF:=aV4 (show fmK i z=true by unfold fmK;rw [aV7 hz1];rfl)
    have tz1:decide (z<0)=true:=aV7 hz1;go_wp2_with fail;go_ret;exact ⟨aF (by rw [HD.out,HF.out];rfl),Ext.refl _⟩
   ·have tz1:decide (z<0)=false:=aV8 hz1
    by_cases hz2:(i:Int)<=z
    ·have HF:=aV4 (show fmK i z=true by unfold fmK;rw [aV7 hz2];simp)
     have tz2:decide ((i:Int)<=z)=true:=aV7 hz2;go_wp2_with fail;go_ret;exact ⟨aF (by rw [HD.out,HF.out];rfl),Ext.refl _⟩
    ·have HF:=aV4 (show fmK i z=false by unfold fmK;rw [aV8 hz2,aV8 hz1];rfl)
     have tz2:decide ((i:Int)<=z)=false:=aV8 hz2;go_wp2_with fail;go_roundw
     case rel=>exact ⟨j+1,by omega,by go_num,rfl,by rw [HD.out,HF.out];rfl⟩
     case measure=>simp [intOf];omega
  ·have HU:=aV4 (show dG i x=pA x by rw [HT.out,drop_nil (by omega)];rfl)
   clear HT HKI
   by_cases k2:x.kind=2
   ·have HR:=aV4 (show dG i x=(decide (1<=x.kids.length) && decide (x.kids.length<=256) && decide (x.weights.length=x.kids.length) && (decide (x.labels.length=0) || decide (x.labels.length=x.kids.length))) by rw [HU.out,HK.out,if_pos k2])
    have t2:(x.kind == 2)=true:=aV6 k2;clear k2;generalize x.weights.length=nw at *;generalize x.labels.length=nl at *;generalize x.kids.length=nk at *;go_wp2_with fail
    all_goals
     go_ret;refine ⟨aF ?_,Ext.refl _⟩;rw [HR.out];clear HR HU HK HS HX HN c0 c1 c4 c5 c6 c7 h0;rw [Bool.eq_iff_iff]
     simp_all
     try omega
   ·have t2:(x.kind == 2)=false:=aV5 k2
    by_cases k3:x.kind=3
    ·have t3:(x.kind == 3)=true:=aV6 k3
     have HR:=aV4 (show dG i x=(if bC x.name then decide (x.kids.length<=256) else decide (x.kids.length<=16) && decide (eW (.mk 3 0 x.name [])=0)) by rw [HU.out,HK.out,if_neg k2,if_pos k3]);clear k2 k3
     by_cases he:x.name.toList=[]
     ·have he1:x.name.toList.isEmpty=true:=by simp [he]
      have HE:=aV4 (iB he);go_wp2_with fail
      all_goals
       go_ret;refine ⟨aF ?_,Ext.refl _⟩;rw [HR.out,HE.out];simp
       try omega
     ·have he1:x.name.toList.isEmpty=false:=by simpa using he
      have HE:=aV4 (iC he)
      by_cases hk16:x.kids.length<=16
      ·have t16:decide ((x.kids.length:Int)<=16)=true:=aV7 (by omega)
       have t16':decide (x.kids.length<=16)=true:=aV7 hk16;have hnm:=HX.out.name;go_wp2_with fail;refine (gO (.mk 3 0 x.name []) none 0 P _ HP.out ⟨by unfold I64;simp [GV.kind],by unfold I64;simp [GV.n],hnm,by simp [GV.kids],by simp [GV.kids],⟨none,0,[],rfl,by simp [GV.kids],by simp [GV.kids],⟨by simp [GV.kids],fun h=>by simp [GV.kids] at h⟩,by simp [GV.kids,RVs]⟩⟩).mono ?_;rintro e w1 ⟨rfl,hx1⟩;have HX1:=aV4 hx1;clear hx1;generalize eW (.mk 3 0 x.name [])=vv at *;go_wp2_with fail
       all_goals
        go_ret;refine ⟨aF ?_,HX1.out⟩;rw [HR.out,HE.out];clear HR HU HK HS HX HN HP c0 c1 c4 c5 c6 c7 h0
        simp_all
        try rfl
      ·have t16:decide ((x.kids.length:Int)<=16)=false:=aV8 (by omega)
       go_wp2_with fail
       all_goals
        go_ret;refine ⟨aF ?_,Ext.refl _⟩;rw [HR.out,HE.out];clear HR HU HK HS HX HN HP c0 c1 c4 c5 c6 c7 h0
        simp_all
        try omega
    ·have t3:(x.kind == 3)=false:=aV5 k3
     by_cases k4:x.kind=4
     ·have t4:(x.kind == 4)=true:=aV6 k4
      have HR:=aV4 (show dG i x=(pT x.values && decide (x.kids.length=x.values.length+1)) by rw [HU.out,HK.out,if_neg k2,if_neg k3,if_pos k4]);have HVL:=aV4 HX.out.values;clear k2 k3 k4 c1 c4 c5;generalize a.vA=Av at *;generalize a.vc=vc at *;go_wp2_with fail;go_loopw [9] (fun k wr=>aR7 x w k wr) (fun k _=>x.values.length+1 - (intOf k).toNat)
      case atStart=>exact ⟨1,by omega,by omega,rfl,Ext.refl _,by simp⟩
      case round =>
       obtain ⟨j,hj1,hj2,rfl,hxr,ht⟩:=hrel;have HT:=aV4 ht;have HXR:=aV4 hxr;have hr6:=aB hxr c6;clear ht hxr
       by_cases hlt':j<x.values.length
       ·obtain ⟨q,rfl⟩:∃ q,j=q+1:=⟨j - 1,by omega⟩
        have hq:q<x.values.length:=by omega
        obtain ⟨v1,o1,A1,d1,e1,-,hv1,g10,g11,g12,g13⟩:=(HVL.out.ext HXR.out).get hq;obtain ⟨v2,o2,A2,d2,e2,-,hv2,g20,g21,g22,g23⟩:=(HVL.out.ext HXR.out).get hlt';subst e1;injection e2 with e2;injection e2 with e21 e22;subst e21 e22
        have HD:=aV4 (show pT x.values=(decide (cO (x.values.getD q default) (x.values.getD (q+1) default)<0) && pT (x.values.drop (q+1))) by
         rw [HT.out,Nat.add_sub_cancel,aH default hq,aH default hlt']
         rfl)
        have HV1:=aV4 hv1;have HV2:=aV4 hv2;clear hv1 hv2;generalize x.values.getD q default=y1 at *;generalize x.values.getD (q+1) default=y2 at *;go_upto_region 20 with fail;have hq1:(0:Int)<=(q:Int)+1:=by omega
        have hq2:((q:Int)+1).toNat=q+1:=by omega
        have hq3:IntKind.i64.wrap ((q:Int)+1 - 1)=(q:Int):=by rw [IntWalk.i64_in _ (by omega)];omega
        have hq4:IntKind.i64.wrap (q:Int)=(q:Int):=IntWalk.i64_in _ (by omega);have hq5:wrap64 (q:Int)=(q:Int):=IntWalk.wrap64_in _ (by omega);go_still_tail 15,(by kernel_rfl);clear hq1 hq2 hq3 hq4 hq5;go_wp2_with fail;refine (bQ y1 y2 A1 A2 d1 d2 P P _ (HV1.out.ext (Ext.refl _).drew') (HV2.out.ext (Ext.refl _).drew')).mono ?_;rintro e w2 ⟨rfl,hx2⟩;have HX2:=aV4 (HXR.out.trans' ((Ext.refl _).drew'.trans' hx2));clear hx2
        by_cases hz:cO y1 y2<0
        ·have tz:decide (0<=cO y1 y2)=false:=aV8 (by omega)
         have HZ:=aV4 hz;go_wp2_with fail;go_roundw
         case rel=>exact ⟨q+2,by omega,by omega,by go_num,HX2.out,by rw [HD.out,aV7 HZ.out];rfl⟩
         case measure=>simp [intOf];omega
        ·have tz:decide (0<=cO y1 y2)=true:=aV7 (by omega)
         have HZ:=aV4 hz;go_wp2_with fail;go_ret;exact ⟨aF (by rw [HR.out,HD.out,aV8 (show ¬ cO y1 y2<0 by have:=HZ.out;omega)];simp),HX2.out⟩
       ·have HZ:=aV4 (show pT x.values=true by rw [HT.out];exact mZ (by rw [List.length_drop];omega))
        have hr7:=aB HXR.out c7;go_wp2_with fail
        all_goals
         go_ret;refine ⟨aF ?_,HXR.out⟩;rw [HR.out,HZ.out,Bool.eq_iff_iff];simp
         try omega
     ·have t4:(x.kind == 4)=false:=aV5 k4
      have HR:=aV4 (show dG i x=true by rw [HU.out,HK.out,if_neg k2,if_neg k3,if_neg k4]);go_wp2_with fail;go_ret;exact ⟨aF HR.out.symm,Ext.refl _⟩
def mP (l:List Int):Array Value:=(l.map (Value.int .i64)).toArray
theorem kQ {l:List Int}{i:Nat}(h:i<l.length):(mP l)[i]?=some (.int .i64 (l.getD i 0)):=by simp [mP,h]
theorem uD (l:List Int)(i:Nat)(v:Int):(mP l).setIfInBounds i (.int .i64 v)=mP (l.set i v):=by simp [mP,List.map_set]
theorem bT.of_blk {w:World}{g:Nat}{l:List Int}(h:Blk w g 3 (mP l))(hI:∀ x ∈ l,I64 x)(hl:l.length<=17592186044416):bT w (fun b=>b=g) (.slice (some ⟨g,0,none⟩) l.length l.length) l :=
 ⟨_,_,rfl,Nat.le_refl _,⟨hl,by omega⟩,hI,by simp,fun _=>⟨g,0,rfl,rfl,fun j u hu=>by rw [Nat.zero_add];exact h.cell' j (by simpa [mP] using hu)⟩⟩
def aSd (gl gz:Nat)(ls zs:List Int)(i:Nat)(l z:Int)(w:World)(e:Ending)(w':World):Prop :=
 e=.returned (.bool (decide (l<=256) && decide (z<=1024)))∧Blk w' gl 3 (mP (ls.set i l))∧Blk w' gz 3 (mP (zs.set i z))∧Fr (fun b=>b=gl∨b=gz) w w'
def aR6 (zs:List Int)(x:GN)(W:World)(s k:Value)(wr:World):Prop:=∃ (j:Nat)(s1:Int),j<=x.kids.length∧k=.int .i64 j∧s=.int .i64 s1∧W=wr∧bZ zs 1 x.kids=bZ zs s1 (x.kids.drop j)
def aJs (zs:List Int)(x:GN)(ch:Bool)(W:World)(s k:Value)(wr:World):Prop:=∃ (j:Nat)(s1:Int),j<=x.kids.length∧k=.int .i64 j∧s=.int .i64 s1∧W=wr∧aL zs ch 0 1 x.kids=aL zs ch j s1 (x.kids.drop j)
theorem jT {gl gz:Nat}{ls zs:List Int}{i:Nat}{l z:Int}{w W w2:World}(n3:gl ≠ gz)(hf:Fr (fun b=>b=gl∨b=gz) w W)(hb1:Blk W gl 3 (mP (ls.set i l)))(hb2:Blk W gz 3 (mP zs))(hx:Ext W w2){r:Bool}(hr:r=(decide (l<=256) && decide (z<=1024))) :
  aSd gl gz ls zs i l z w (.returned (.bool r)) (w2.setCell ⟨gz,i,none⟩ (.int .i64 z)):=by
 subst hr;refine ⟨rfl,(hb1.ext hx).far (p:=⟨gz,i,none⟩) n3 _,?_,(hf.trans (Fr.of_ext hx)).setCell (p:=⟨gz,i,none⟩) (.inl (.inr rfl)) _⟩;have:=(hb2.ext hx).set_ i (.int .i64 z);rw [uD] at this;exact this
theorem aCt (t:List GN)(i:Nat)(P:Nat->Prop)(gc gl gz gs:Nat)(vn:Value)(ls zs:List Int)(w:World)(hP:∀ b,P b->b<w.heap.size∧b ≠ gl∧b ≠ gz)(ht:Nds w P vn t)(hi:i<t.length)
  (hc:Blk w gc 141 #[vn,.slice (some ⟨gl,0,none⟩) t.length t.length,.slice (some ⟨gz,0,none⟩) t.length t.length,.pointer (some ⟨gs,0,none⟩)])
  (hl:Blk w gl 3 (mP ls))(hz:Blk w gz 3 (mP zs))(hll:ls.length=t.length)(hzl:zs.length=t.length)(hI:∀ x ∈ ls,I64 x)(hZ:∀ x ∈ zs,I64 x)(n1:gc ≠ gl)(n2:gc ≠ gz)(n3:gl ≠ gz)
  (hok:dP i (t.getD i default))(hlen:t.length<=100000) :
  Calls Tryz.prog 92 #[.pointer (some ⟨gc,0,none⟩),.int .i64 i] w (aSd gl gz ls zs i (fQ ls (t.getD i default)) (fZ zs (t.getD i default)) w):=by
 obtain ⟨An,cn,en,hn1,hn2⟩:=ht.form;subst en;obtain ⟨b,off,a,rfl,hPb,hx,hn⟩:=ht.get hi;generalize hg:t.getD i default=x at *;clear hg;have HP:=aV4 hP;have HX:=aV4 hx;have HN:=aV4 hn;have HC:=aV4 hc;have HL:=aV4 hl;have HZ:=aV4 hz;have HLL:=aV4 hll;have HZL:=aV4 hzl;have HI:=aV4 hI;have HZI:=aV4 hZ;have HPB:=aV4 hPb;have hkd:=hok.kind;have HOK:=aV4 (show dP ls.length x from ⟨hok.kind,hok.unused,fun z hz=>by have:=hok.kids z hz;omega,hok.choice,hok.seq,hok.bind,hok.inc,hok.valid,hok.numbers⟩);have HKI:=aV4 hok.kids;have HSZ:=aV4 (show fZ zs x=if x.kind=0 then rsz x.value else if x.kind=3 then bZ zs 1 x.kids else if x.kind=2 then aL zs true 0 1 x.kids else if x.kind=4 then aL zs false 0 1 x.kids else 1 from rfl);have N1:=aV4 n1;have N2:=aV4 n2;have N3:=aV4 n3
 have HPL:=aV4 (show ∀ W,Blk W gl 3 (mP ls)->cC W b (off+i*12) x a->NAt W P x a->Calls Tryz.prog 96 #[.pointer (some ⟨b,off+i*12,none⟩),.slice (some ⟨gl,0,none⟩) t.length t.length] W fun e w'=>e=.returned (.int .i64 (fQ ls x))∧W=w' from fun W h1 h2 h3=>by
  have h4:=bT.of_blk h1 hI (by omega);rw [hll] at h4;exact lB ls x a b (off+i*12) P _ _ W h2 h3 h4 HOK.out)
 obtain ⟨hkl,hkc⟩:=hx.kids.le;have hlo:(i:Int)<(t.length:Int):=by omega
 have k0:=hc.cell' (u:=.slice (some ⟨b,off,none⟩) t.length cn) 0 rfl;have k1:=hc.cell' (u:=.slice (some ⟨gl,0,none⟩) t.length t.length) 1 rfl;have g1:=hl.cell' i (kQ (l:=ls) (by omega));have f1:=hl.frozen i;have m1:¬ gc=gl:=n1;clear hx hn ht hP hc hl hz hll hzl hI hZ n1 n2 n3 hok hPb;generalize ls.getD i 0=z0 at *;generalize fQ ls x=lr at *;go_enter Tryz.func92,Tryz.ntmps92;go_upto_region 2 with fail
 go_region_held3 (fun w'=>w'.cell? ⟨gc,1,none⟩=some (.slice (some ⟨gl,0,none⟩) t.length t.length))
  (first
   | exact fY (w:=w) m1 k1
   | exact k1
   | go_keep)
  (first
   | (go_at_call 96;refine (HPL.out _ (HL.out.ext (Ext.refl _).drew') (HN.out.ext (Ext.refl _).drew') (HX.out.ext (Ext.refl _).drew')).mono ?_;rintro e w' ⟨rfl,rfl⟩))
 go_upto_region 3 with fail;have HWF:=aV4 (((Fr.refl (fun b=>b=gl∨b=gz) w).setCell (p:=⟨gl,i,none⟩) (.inl (.inl rfl)) (.int .i64 lr)).drew)
 have HWL:=aV4 (show Blk (w.setCell ⟨gl,i,none⟩ (.int .i64 lr)).drew gl 3 (mP (ls.set i lr)) by
  have h:=(HL.out.set_ i (.int .i64 lr)).drew;rw [uD] at h;exact h)
 have HWZ:=aV4 ((HZ.out.far (p:=⟨gl,i,none⟩) (fun e=>N3.out e.symm) (.int .i64 lr)).drew);have HWC:=aV4 ((HC.out.far (p:=⟨gl,i,none⟩) N1.out (.int .i64 lr)).drew);have hkeep:aD P w (w.setCell ⟨gl,i,none⟩ (.int .i64 lr)).drew:=aD.set (fun _ _ _=>rfl) _ (fun h=>(HP.out _ h).2.1 rfl);have HWX:=aV4 (HX.out.carry hkeep (fun _ _ h=>h));have HWN:=aV4 (HN.out.keep HPB.out hkeep);have HWP:=aV4 (show ∀ b,P b->b<(w.setCell ⟨gl,i,none⟩ (.int .i64 lr)).drew.heap.size from fun b hb=>Nat.lt_of_lt_of_le (HP.out b hb).1 HWF.out.size);clear hkeep k0 k1 g1 f1 m1 HPL;generalize (w.setCell ⟨gl,i,none⟩ (.int .i64 lr)).drew=W at *;have hzl:=HZL.out;have hll:=HLL.out
 have HT:=aV4 (show ∀ w2,Ext W w2->w2.cell? ⟨gc,1,none⟩=some (.slice (some ⟨gl,0,none⟩) t.length t.length)∧w2.cell? ⟨gc,2,none⟩=some (.slice (some ⟨gz,0,none⟩) t.length t.length)∧w2.cell? ⟨gl,i,none⟩=some (.int .i64 lr) ∧
   w2.cell? ⟨gz,i,none⟩=some (.int .i64 (zs.getD i 0))∧w2.frozen? ⟨gz,i,none⟩=false from fun w2 h=>⟨(HWC.out.ext h).cell' 1 rfl,(HWC.out.ext h).cell' 2 rfl,(HWL.out.ext h).cell' i (by rw [kQ (by simp;omega)];simp [List.getD,hll,hi]),(HWZ.out.ext h).cell' i (kQ (by omega)),(HWZ.out.ext h).frozen i⟩)
 clear hzl hll;generalize zs.getD i 0=z1 at *;have c0:=HWN.out.c0;have c7:=HWN.out.c7;have c8:=HWN.out.c8;have c9:=HWN.out.c9;have c10:=HWN.out.c10;have c11:=HWN.out.c11;have q2:=(HT.out W (Ext.refl _)).2.1;have m3:¬ gl=gz:=N3.out;have m3':¬ gc=gz:=N2.out;have HKV:=aV4 HWX.out.kids;have HGZ:=aV4 (bT.of_blk HWZ.out HZI.out (by have:=HZL.out;omega))
 by_cases k0:x.kind=0
 ·have t0:(x.kind == 0)=true:=aV6 k0
  have HS2:=aV4 (show fZ zs x=rsz x.value by rw [HSZ.out,if_pos k0]);have HVS:=aV4 (qV x.value a.xA a.xc P W HWP.out HWX.out.value);rw [aKc] at HVS;generalize rsz x.value=sz at *;clear k0 c7 HSZ;go_wp2_with fail;refine HVS.out.mono ?_;rintro e w2 ⟨rfl,hx2⟩;have HX2:=aV4 hx2;clear hx2 c0 c8 c9 c10 c11 q2;obtain ⟨e1,e2,e3,e4,e5⟩:=HT.out _ HX2.out;go_wp2_with fail
  all_goals
   go_ret;rw [HS2.out];exact jT N3.out HWF.out HWL.out HWZ.out HX2.out (by rw [Bool.eq_iff_iff] <;> simp_all <;> omega)
 have t0:(x.kind == 0)=false:=aV5 k0;clear c8 c9 c10 c11
 by_cases k3:x.kind=3
 ·have t3:(x.kind == 3)=true:=aV6 k3
  have HS2:=aV4 (show fZ zs x=bZ zs 1 x.kids by rw [HSZ.out,if_neg k0,if_pos k3]);clear k0 k3 HSZ;generalize a.kA=Ak at *;generalize a.kc=kc at *;go_wp2_with fail;go_loopw [6,47] (fun s k wr=>aR6 zs x W s k wr) (fun _ k _=>x.kids.length - (intOf k).toNat)
  case atStart=>exact ⟨0,1,Nat.zero_le _,rfl,rfl,rfl,rfl⟩
  case round =>
   obtain ⟨j,s1,hj,rfl,rfl,rfl,hT⟩:=hrel;have HTT:=aV4 hT;clear hT
   by_cases hlt:j<x.kids.length
   ·obtain ⟨b1,o1,rfl,-,-,g1⟩:=HKV.out.get hlt
    have hz:=HKI.out _ (aG (d:=0) hlt);have HD:=aV4 (HTT.out.trans (by rw [aH 0 hlt,bZ]));generalize x.kids.getD j 0=z at *;obtain ⟨b2,o2,eb,-,-,g2⟩:=HGZ.out.get (i:=z.toNat) (by have:=HZL.out;omega);injection eb with eb;injection eb with eb1 eb2;subst eb1 eb2;rw [Nat.zero_add] at g2;have hz2:z<(t.length:Int):=by omega
    generalize zs.getD z.toNat 0=y at *;go_wp2_with fail;go_roundw
    case rel=>exact ⟨j+1,_,by omega,by go_num,rfl,rfl,HD.out⟩
    case measure=>simp [intOf];omega
   ·have HD:=aV4 (show bZ zs 1 x.kids=s1 by rw [HTT.out,drop_nil (by omega),bZ])
    obtain ⟨e1,e2,e3,e4,e5⟩:=HT.out _ (Ext.refl _);go_wp2_with fail
    all_goals
     go_ret;rw [HS2.out,HD.out];exact jT N3.out HWF.out HWL.out HWZ.out (Ext.refl _) (by rw [Bool.eq_iff_iff] <;> simp_all <;> omega)
 have t3:(x.kind == 3)=false:=aV5 k3
 by_cases k2:x.kind=2
 ·have t2:(x.kind == 2)=true:=aV6 k2
  have HS2:=aV4 (show fZ zs x=aL zs true 0 1 x.kids by rw [HSZ.out,if_neg k0,if_neg k3,if_pos k2]);clear k0 k3 k2 HSZ;generalize a.kA=Ak at *;generalize a.kc=kc at *;go_wp2_with fail;go_loopw [6,69] (fun s k wr=>aJs zs x true W s k wr) (fun _ k _=>x.kids.length - (intOf k).toNat)
  case atStart=>exact ⟨0,1,Nat.zero_le _,rfl,rfl,rfl,rfl⟩
  case round =>
   obtain ⟨j,s1,hj,rfl,rfl,rfl,hT⟩:=hrel;have HTT:=aV4 hT;clear hT
   by_cases hlt:j<x.kids.length
   ·obtain ⟨b1,o1,rfl,-,-,g1⟩:=HKV.out.get hlt
    have hz:=HKI.out _ (aG (d:=0) hlt);have HD:=aV4 (show aL zs true 0 1 x.kids=aL zs true (j+1) (if true=true∨0<j then (if s1<zs.getD (x.kids.getD j 0).toNat 0 then zs.getD (x.kids.getD j 0).toNat 0 else s1) else s1) (x.kids.drop (j+1)) by rw [HTT.out,aH 0 hlt,aL]);generalize x.kids.getD j 0=z at *;obtain ⟨b2,o2,eb,-,-,g2⟩:=HGZ.out.get (i:=z.toNat) (by have:=HZL.out;omega);injection eb with eb;injection eb with eb1 eb2;subst eb1 eb2;rw [Nat.zero_add] at g2;have hz2:z<(t.length:Int):=by omega
    generalize zs.getD z.toNat 0=y at *
    by_cases hk0:0<j
    ·have tk:decide (0<(j:Int))=true:=aV7 (by omega)
     go_wp2_with fail
     all_goals
      go_roundw
      case rel=>exact ⟨j+1,_,by omega,by go_num,rfl,rfl,by rw [HD.out,if_pos (.inr hk0)];try (first | rw [if_pos (by assumption)] | rw [if_neg (by omega)])⟩
      case measure=>simp [intOf];omega
    ·have tk:decide (0<(j:Int))=false:=aV8 (by omega)
     go_wp2_with fail
     all_goals
      go_roundw
      case rel=>exact ⟨j+1,_,by omega,by go_num,rfl,rfl,by rw [HD.out,if_pos (.inl rfl)];try (first | rw [if_pos (by assumption)] | rw [if_neg (by omega)])⟩
      case measure=>simp [intOf];omega
   ·have HD:=aV4 (show aL zs true 0 1 x.kids=s1 by rw [HTT.out,drop_nil (by omega),aL])
    obtain ⟨e1,e2,e3,e4,e5⟩:=HT.out _ (Ext.refl _);go_wp2_with fail
    all_goals
     go_ret;rw [HS2.out,HD.out];exact jT N3.out HWF.out HWL.out HWZ.out (Ext.refl _) (by rw [Bool.eq_iff_iff] <;> simp_all <;> omega)
 have t2:(x.kind == 2)=false:=aV5 k2
 by_cases k4:x.kind=4
 ·have t4:(x.kind == 4)=true:=aV6 k4
  have HS2:=aV4 (show fZ zs x=aL zs false 0 1 x.kids by rw [HSZ.out,if_neg k0,if_neg k3,if_neg k2,if_pos k4]);clear k0 k3 k2 k4 HSZ;generalize a.kA=Ak at *;generalize a.kc=kc at *;go_wp2_with fail;go_loopw [6,69] (fun s k wr=>aJs zs x false W s k wr) (fun _ k _=>x.kids.length - (intOf k).toNat)
  case atStart=>exact ⟨0,1,Nat.zero_le _,rfl,rfl,rfl,rfl⟩
  case round =>
   obtain ⟨j,s1,hj,rfl,rfl,rfl,hT⟩:=hrel;have HTT:=aV4 hT;clear hT
   by_cases hlt:j<x.kids.length
   ·obtain ⟨b1,o1,rfl,-,-,g1⟩:=HKV.out.get hlt
    have hz:=HKI.out _ (aG (d:=0) hlt);have HD:=aV4 (show aL zs false 0 1 x.kids=aL zs false (j+1) (if false=true∨0<j then (if s1<zs.getD (x.kids.getD j 0).toNat 0 then zs.getD (x.kids.getD j 0).toNat 0 else s1) else s1) (x.kids.drop (j+1)) by rw [HTT.out,aH 0 hlt,aL]);generalize x.kids.getD j 0=z at *;obtain ⟨b2,o2,eb,-,-,g2⟩:=HGZ.out.get (i:=z.toNat) (by have:=HZL.out;omega);injection eb with eb;injection eb with eb1 eb2;subst eb1 eb2;rw [Nat.zero_add] at g2;have hz2:z<(t.length:Int):=by omega
    generalize zs.getD z.toNat 0=y at *
    by_cases hk0:0<j
    ·have tk:decide (0<(j:Int))=true:=aV7 (by omega)
     go_wp2_with fail
     all_goals
      go_roundw
      case rel=>exact ⟨j+1,_,by omega,by go_num,rfl,rfl,by rw [HD.out,if_pos (.inr hk0)];try (first | rw [if_pos (by assumption)] | rw [if_neg (by omega)])⟩
      case measure=>simp [intOf];omega
    ·have tk:decide (0<(j:Int))=false:=aV8 (by omega)
     go_wp2_with fail
     all_goals
      go_roundw
      case rel=>exact ⟨j+1,_,by omega,by go_num,rfl,rfl,by rw [HD.out,if_neg (by simp;omega)]⟩
      case measure=>simp [intOf];omega
   ·have HD:=aV4 (show aL zs false 0 1 x.kids=s1 by rw [HTT.out,drop_nil (by omega),aL])
    obtain ⟨e1,e2,e3,e4,e5⟩:=HT.out _ (Ext.refl _);go_wp2_with fail
    all_goals
     go_ret;rw [HS2.out,HD.out];exact jT N3.out HWF.out HWL.out HWZ.out (Ext.refl _) (by rw [Bool.eq_iff_iff] <;> simp_all <;> omega)
 have t4:(x.kind == 4)=false:=aV5 k4;have HS2:=aV4 (show fZ zs x=1 by rw [HSZ.out,if_neg k0,if_neg k3,if_neg k2,if_neg k4]);clear k0 k3 k2 k4 HSZ;obtain ⟨e1,e2,e3,e4,e5⟩:=HT.out _ (Ext.refl _);go_wp2_with fail
 all_goals
  go_ret;rw [HS2.out];exact jT N3.out HWF.out HWL.out HWZ.out (Ext.refl _) (by rw [Bool.eq_iff_iff] <;> simp_all <;> omega)
theorem bV.moreAll {t:List GN}{vn:Value}{g:SA}{w w':World}(h:bV t vn g w)(hx:Ext w w'):bV t vn ⟨g.s,g.k,g.l,g.m,fun b=>g.X b∨(w.heap.size<=b∧b<w'.heap.size)⟩ w':=by
 obtain ⟨kn,ls,ms,h0⟩:=h;have h:=h0.ext hx;have hQ:∀ b,b<w.heap.size->g.Q b->(SA.mk g.s g.k g.l g.m (fun b=>g.X b∨(w.heap.size<=b∧b<w'.heap.size))).Q b:=fun b hb h=>⟨h.1,fun hx=>hx.elim h.2 (fun e=>by omega)⟩
 exact ⟨kn,ls,ms,h.hk,h.hl,h.hm,h.kl,h.km,h.lm,h.klen,h.llen,h.mlen,h.box,h.known,h.lists,h.many,fun b hb=>hb.elim (h.xlt b) (fun e=>e.2),h0.nodes.carry (aD.of_ext hx) hQ,h.sl,fun j hj hk=>⟨(h0.fine j hj hk).1.carry (aD.of_ext hx) hQ,(h.fine j hj hk).2⟩⟩
structure nZ (t:List GN)(vn:Value)(gc gl gz:Nat)(g:SA)(ls zs:List Int)(B:Nat)(w:World):Prop where
 box:Blk w gc 141 #[vn,.slice (some ⟨gl,0,none⟩) t.length t.length,.slice (some ⟨gz,0,none⟩) t.length t.length,.pointer (some ⟨g.s,0,none⟩)]
 lens:Blk w gl 3 (mP ls)
 sizes:Blk w gz 3 (mP zs)
 sets:bV t vn g w
 xl:g.X gl
 xz:g.X gz
 n1:gc ≠ gl
 n2:gc ≠ gz
 n3:gl ≠ gz
 sl:gl ≠ g.s
 sz:gz ≠ g.s
 ml:¬ g.M gl
 mz:¬ g.M gz
 mc:¬ g.M gc
 bl:B<=gl
 bz:B<=gz
 bm:∀ b,g.M b->B<=b
 llen:ls.length=t.length
 zlen:zs.length=t.length
def aJq (t:List GN)(vn:Value)(w:World)(s:Value)(wx:World):Prop :=
 ∃ gc gl gz g,s=.pointer (some ⟨gc,0,none⟩)∧nZ t vn gc gl gz g (List.replicate t.length 0) (List.replicate t.length 0) w.heap.size wx∧Ext w wx
theorem iJ {t:List GN}{vn:Value}{w w1 wx:World}{gc gl gz:Nat}{g:SA}{mc:Array Value}(hmc:mc=madeCells #[.int .i64 0] t.length)(hs:bV t vn g w1)(hx1:Ext w1 wx)(hx:Ext w wx)
  (hb:Blk wx gc 141 #[vn,.slice (some ⟨gl,0,none⟩) t.length t.length,.slice (some ⟨gz,0,none⟩) t.length t.length,.pointer (some ⟨g.s,0,none⟩)])
  (hl:Blk wx gl 3 mc)(hz:Blk wx gz 3 mc)(h1:g.X gl∨(w1.heap.size<=gl∧gl<wx.heap.size))(h2:g.X gz∨(w1.heap.size<=gz∧gz<wx.heap.size))
  (n1:gc ≠ gl)(n2:gc ≠ gz)(n3:gl ≠ gz)(sl:gl ≠ g.s)(sz:gz ≠ g.s)(ml:gl ≠ g.k∧gl ≠ g.l∧gl ≠ g.m)(mz:gz ≠ g.k∧gz ≠ g.l∧gz ≠ g.m)(mc:gc ≠ g.k∧gc ≠ g.l∧gc ≠ g.m)(bl:w.heap.size<=gl)(bz:w.heap.size<=gz)(bm:w.heap.size<=g.k∧w.heap.size<=g.l∧w.heap.size<=g.m) :
  aJq t vn w (.pointer (some ⟨gc,0,none⟩)) wx:=by
 have e:madeCells #[.int .i64 0] t.length=mP (List.replicate t.length 0):=by rw [gF];simp [mP]
 rw [hmc,e] at hl hz;refine ⟨gc,gl,gz,⟨g.s,g.k,g.l,g.m,fun b=>g.X b∨(w1.heap.size<=b∧b<wx.heap.size)⟩,rfl,⟨hb,hl,hz,hs.moreAll hx1,h1,h2,n1,n2,n3,sl,sz,?_,?_,?_,bl,bz,?_,by simp,by simp⟩,hx⟩
 ·exact fun h=>h.elim ml.1 (fun h=>h.elim ml.2.1 ml.2.2)
 ·exact fun h=>h.elim mz.1 (fun h=>h.elim mz.2.1 mz.2.2)
 ·exact fun h=>h.elim mc.1 (fun h=>h.elim mc.2.1 mc.2.2)
 ·rintro b (h | h | h)
  ·exact h ▸ bm.1
  ·exact h ▸ bm.2.1
  ·exact h ▸ bm.2.2
theorem bV.fr {t:List GN}{vn:Value}{g:SA}{w w':World}{M:Nat->Prop}(h:bV t vn g w)(hf:Fr M w w')(h1:∀ b,M b->g.X b)(h2:¬ M g.s)(h3:∀ b,M b->¬ g.M b):bV t vn g w':=by
 obtain ⟨kn,ls,ms,h⟩:=h;have hk:aD g.Q w w':=aD.of_fr hf (fun b hq hm=>hq.2 (h1 b hm))
 exact ⟨kn,ls,ms,h.hk,h.hl,h.hm,h.kl,h.km,h.lm,h.klen,h.llen,h.mlen,h.box.fr hf h2,h.known.fr hf (fun hm=>h3 _ hm (.inl rfl)),h.lists.fr hf (fun hm=>h3 _ hm (.inr (.inl rfl))),h.many.fr hf (fun hm=>h3 _ hm (.inr (.inr rfl))),fun b hb=>Nat.lt_of_lt_of_le (h.xlt b hb) hf.size,
  h.nodes.carry hk (fun _ _ h=>h),h.sl,fun j hj hkj=>⟨(h.fine j hj hkj).1.carry hk (fun _ _ h=>h),(h.fine j hj hkj).2⟩⟩
theorem bV.nodes {t:List GN}{vn:Value}{g:SA}{w:World}(h:bV t vn g w):Nds w g.Q vn t:=by
 obtain ⟨kn,ls,ms,h⟩:=h;exact h.nodes
theorem nZ.ext {t:List GN}{vn:Value}{gc gl gz:Nat}{g:SA}{ls zs:List Int}{B:Nat}{w w':World}(h:nZ t vn gc gl gz g ls zs B w)(hx:Ext w w'):nZ t vn gc gl gz g ls zs B w' :=
 ⟨h.box.ext hx,h.lens.ext hx,h.sizes.ext hx,h.sets.ext hx,h.xl,h.xz,h.n1,h.n2,h.n3,h.sl,h.sz,h.ml,h.mz,h.mc,h.bl,h.bz,h.bm,h.llen,h.zlen⟩
theorem nZ.small {t:List GN}{vn:Value}{gc gl gz:Nat}{g:SA}{ls zs ls' zs':List Int}{B:Nat}{w w':World}(h:nZ t vn gc gl gz g ls zs B w)(hf:Fr (fun b=>b=gl∨b=gz) w w')(h1:Blk w' gl 3 (mP ls'))(h2:Blk w' gz 3 (mP zs'))(e1:ls'.length=ls.length)(e2:zs'.length=zs.length):nZ t vn gc gl gz g ls' zs' B w' :=
 ⟨h.box.fr hf (fun hm=>hm.elim h.n1 h.n2),h1,h2,h.sets.fr hf (fun _ hb=>hb.elim (fun e=>e ▸ h.xl) (fun e=>e ▸ h.xz)) (fun hm=>hm.elim (fun e=>h.sl e.symm) (fun e=>h.sz e.symm)) (fun _ hb=>hb.elim (fun e=>e ▸ h.ml) (fun e=>e ▸ h.mz)),h.xl,h.xz,h.n1,h.n2,h.n3,h.sl,h.sz,h.ml,h.mz,h.mc,h.bl,h.bz,h.bm,e1.trans h.llen,e2.trans h.zlen⟩
theorem nZ.cases_ {t:List GN}{vn:Value}{gc gl gz:Nat}{g:SA}{ls zs:List Int}{B:Nat}{w w':World}(h:nZ t vn gc gl gz g ls zs B w)(hf:Fr g.M w w')(hs:bV t vn g w'):nZ t vn gc gl gz g ls zs B w' :=
 ⟨h.box.fr hf h.mc,h.lens.fr hf h.ml,h.sizes.fr hf h.mz,hs,h.xl,h.xz,h.n1,h.n2,h.n3,h.sl,h.sz,h.ml,h.mz,h.mc,h.bl,h.bz,h.bm,h.llen,h.zlen⟩
def aFd (t:List GN)(vn:Value)(gc gl gz:Nat)(g:SA)(W:World)(i:Value)(wr:World):Prop :=
 ∃ (k:Nat) (ls zs:List Int),k<=t.length∧i=.int .i64 k∧nZ t vn gc gl gz g ls zs W.heap.size wr∧Ext W wr∧ls.take k=(aT t).take k∧zs.take k=(bP t).take k∧bJ t k∧(∀ x ∈ ls,I64 x)∧(∀ x ∈ zs,I64 x)∧bW t=dB t k (t.length - k)
theorem xN {t:List GN}{vn:Value}{gc gl gz:Nat}{g:SA}{W w5 w6 wr:World}{k:Nat}{ls zs:List Int}{x:GN}(hx:x=t.getD k default)(hk:k<t.length)(hA:nZ t vn gc gl gz g ls zs W.heap.size wr)(hE:Ext W wr)(hL:ls.take k=(aT t).take k)(hZ:zs.take k=(bP t).take k)(hG:bJ t k)(hI:∀ x ∈ ls,I64 x)(hJ:∀ x ∈ zs,I64 x)
  (hV:bW t=dB t k (t.length - k))(hs:oA t){w4:World}(h4:Ext wr w4)(h5:Fr (fun b=>b=gl∨b=gz) w4 w5)(hl:Blk w5 gl 3 (mP (ls.set k (fQ ls x))))(hz:Blk w5 gz 3 (mP (zs.set k (fZ zs x))))(h6:Fr g.M w5 w6)(hS:bV t vn g w6)(hc:cV t k=0) :
  aFd t vn gc gl gz g W (.int .i64 ((k:Int)+1)) w6:=by
 subst hx;refine ⟨k+1,_,_,by omega,by simp,((hA.ext h4).small h5 hl hz (by simp) (by simp)).cases_ h6 hS,?_,aAe hG hk hc hL hA.llen,aE5 hG hs hk hc hZ hA.zlen,aAf hG hk hc,pB hI (oI hI _),pB hJ (aCx hJ _),?_⟩
 ·have f1:Fr (fun b=>W.heap.size<=b) wr w6:=((Fr.of_ext h4).trans (h5.mono (fun b hb=>hb.elim (fun e=>e ▸ hA.bl) (fun e=>e ▸ hA.bz)))).trans (h6.mono hA.bm)
  exact ((Fr.of_ext hE).trans f1).new_ext (fun b hb=>hb)
 ·rw [rP hk hV,if_pos hc]
theorem iY (t:List GN)(P:Nat->Prop)(vn:Value)(w:World)(hP:∀ b,P b->b<w.heap.size)(ht:Nds w P vn t)(hsm:oA t):Calls Tryz.prog 42 #[.agg #[vn]] w (dC (.int .i64 (bW t)) w):=by
 have HP:=aV4 hP;have HT:=aV4 ht;have HSM:=aV4 hsm;obtain ⟨An,cn,en,hn1,hn2⟩:=ht.form;subst en;clear ht hP hsm
 by_cases hbig:4096<t.length
 ·have HV:=aV4 (show bW t=4 by unfold bW;rw [if_pos hbig])
  go_enter Tryz.func42,Tryz.ntmps42;go_wp2_with fail;go_ret;exact ⟨aM HV.out.symm,(Ext.refl _).alloc' _⟩
 ·obtain ⟨i3,hi3,hz0,hz1,hz2⟩:=info_parts Tryz.info3
  have hmk:∀ W:World,(Instr.makeSlice 22 (.int .i64 (t.length:Int)) (.int .i64 (t.length:Int))).run Tryz.prog W=.ok (.slice (some ⟨W.heap.size,0,none⟩) t.length t.length) (W.alloc (.cells (madeCells #[.int .i64 0] t.length) 3)):=by
   intro W;have h:=run_make (P:=Tryz.prog) W 22 3 i3 _ Tryz.underlying22 hi3 hz0 .i64 .i64 (t.length:Int) (t.length:Int) (by omega) (Int.le_refl _) (by rw [hz2];omega) (by omega);rw [hz1,Nat.mul_one] at h;rw [h]
   rfl
  clear hi3 hz0 hz1 hz2 i3;obtain ⟨mc,hmc⟩:∃ mc,mc=madeCells #[.int .i64 0] t.length:=⟨_,rfl⟩;rw [<- hmc] at hmk;have HMC:=aV4 hmc;clear hmc;go_enter Tryz.func42,Tryz.ntmps42;go_upto_region 3 with fail;have HB0:=aV4 (Blk.new w 25 #[.slice An t.length cn]);have HE0:=aV4 ((Ext.refl w).alloc' (.cells #[.slice An t.length cn] 25));have hW0s:(w.alloc (.cells #[.slice An t.length cn] 25)).heap.size=w.heap.size+1:=by simp
  have HWS:=aV4 hW0s;clear hW0s;generalize w.alloc (.cells #[.slice An t.length cn] 25)=W at *;have b0:=HB0.out.cell' (u:=.slice An t.length cn) 0 rfl
  have HNS:=aV4 (show ∀ W',Ext w W'->Calls Tryz.prog 87 #[.agg #[.slice An t.length cn]] W' (aFg t (.slice An t.length cn) (fun b=>w.heap.size<=b∧b<W'.heap.size) W') from fun W' h =>
   pO t P _ _ W' (HT.out.ext h) (fun b hb hx=>by have:=HP.out b hb;omega) (fun b hb=>hb.2) (by omega))
  go_cut [3] (fun s wx=>aJq t (.slice An t.length cn) W s wx)
  case first =>
   go_region_held3 (fun w'=>w'.cell? ⟨w.heap.size,0,none⟩=some (.slice An t.length cn))
    (first
     | go_keep
     | exact aB hxn ‹_›
     | exact aB (hxn.alloc' _) ‹_›)
    (first
     | (go_at_call 87;refine (HNS.out _ (by first | exact HE0.out.drew' | exact (HE0.out.alloc' _).drew' | exact ((HE0.out.alloc' _).alloc' _).drew')).mono ?_;rintro e wn ⟨g,rfl,hgX,hgs,hxn,l1,l2,l3,l4⟩))
   all_goals (go_wp2_with fail)
   all_goals (go_meet)
   all_goals
    have hws:=HWS.out;have hsz:=hxn.size;obtain ⟨kn,lk,mk,hA⟩:=id hgs;have a1:=hA.box.lt;have a2:=hA.known.lt;have a3:=hA.lists.lt;have a4:=hA.many.lt;have hEw:=HE0.out;have hMC:=HMC.out;clear hA HNS HT HP HSM hmk b0;simp at hsz l1 l2 l3 l4
   all_goals first
    | exact iJ (gl:=W.heap.size) (gz:=W.heap.size+1) (gc:=wn.heap.size) hMC hgs ((Ext.refl wn).alloc' _) ((((((Ext.refl W).alloc' _).alloc' _).drew').trans' hxn).alloc' _) (Blk.new' wn 141 _ (g:=wn.heap.size) (by simp)) ((((Blk.new' W 3 mc (g:=W.heap.size) (by simp)).alloc _).drew.ext hxn).alloc _) (((Blk.new' (W.alloc _) 3 mc (g:=W.heap.size+1) (by simp)).drew.ext hxn).alloc _) (.inl (by rw [hgX];simp <;> omega)) (.inl (by rw [hgX];simp <;> omega)) (by omega) (by omega) (by omega) (by omega) (by omega) (by omega) (by omega) (by omega) (by omega) (by omega) (by omega)
    | exact iJ (gl:=W.heap.size+1) (gz:=W.heap.size) (gc:=wn.heap.size) hMC hgs ((Ext.refl wn).alloc' _) ((((((Ext.refl W).alloc' _).alloc' _).drew').trans' hxn).alloc' _) (Blk.new' wn 141 _ (g:=wn.heap.size) (by simp)) (((Blk.new' (W.alloc _) 3 mc (g:=W.heap.size+1) (by simp)).drew.ext hxn).alloc _) ((((Blk.new' W 3 mc (g:=W.heap.size) (by simp)).alloc _).drew.ext hxn).alloc _) (.inl (by rw [hgX];simp <;> omega)) (.inl (by rw [hgX];simp <;> omega)) (by omega) (by omega) (by omega) (by omega) (by omega) (by omega) (by omega) (by omega) (by omega) (by omega) (by omega)
    | exact iJ (gl:=W.heap.size) (gz:=wn.heap.size) (gc:=wn.heap.size+1) hMC hgs (((Ext.refl wn).alloc' _).alloc' _) ((((((Ext.refl W).alloc' _).drew').trans' hxn).alloc' _).alloc' _) (Blk.new' (wn.alloc _) 141 _ (g:=wn.heap.size+1) (by simp)) ((((Blk.new' W 3 mc (g:=W.heap.size) (by simp)).drew.ext hxn).alloc _).alloc _) ((Blk.new' wn 3 mc (g:=wn.heap.size) (by simp)).alloc _) (.inl (by rw [hgX];simp <;> omega)) (.inr ⟨by omega,by simp <;> omega⟩) (by omega) (by omega) (by omega) (by omega) (by omega) (by omega) (by omega) (by omega) (by omega) (by omega) (by omega)
    | exact iJ (gl:=wn.heap.size) (gz:=W.heap.size) (gc:=wn.heap.size+1) hMC hgs (((Ext.refl wn).alloc' _).alloc' _) ((((((Ext.refl W).alloc' _).drew').trans' hxn).alloc' _).alloc' _) (Blk.new' (wn.alloc _) 141 _ (g:=wn.heap.size+1) (by simp)) ((Blk.new' wn 3 mc (g:=wn.heap.size) (by simp)).alloc _) ((((Blk.new' W 3 mc (g:=W.heap.size) (by simp)).drew.ext hxn).alloc _).alloc _) (.inr ⟨by omega,by simp <;> omega⟩) (.inl (by rw [hgX];simp <;> omega)) (by omega) (by omega) (by omega) (by omega) (by omega) (by omega) (by omega) (by omega) (by omega) (by omega) (by omega)
    | exact iJ (gl:=wn.heap.size) (gz:=wn.heap.size+1) (gc:=wn.heap.size+1+1) hMC hgs ((((Ext.refl wn).alloc' _).alloc' _).alloc' _) ((((((Ext.refl W).drew').trans' hxn).alloc' _).alloc' _).alloc' _) (Blk.new' ((wn.alloc _).alloc _) 141 _ (g:=wn.heap.size+1+1) (by simp)) (((Blk.new' wn 3 mc (g:=wn.heap.size) (by simp)).alloc _).alloc _) ((Blk.new' (wn.alloc _) 3 mc (g:=wn.heap.size+1) (by simp)).alloc _) (.inr ⟨by omega,by simp <;> omega⟩) (.inr ⟨by omega,by simp <;> omega⟩) (by omega) (by omega) (by omega) (by omega) (by omega) (by omega) (by omega) (by omega) (by omega) (by omega) (by omega)
    | exact iJ (gl:=wn.heap.size+1) (gz:=wn.heap.size) (gc:=wn.heap.size+1+1) hMC hgs ((((Ext.refl wn).alloc' _).alloc' _).alloc' _) ((((((Ext.refl W).drew').trans' hxn).alloc' _).alloc' _).alloc' _) (Blk.new' ((wn.alloc _).alloc _) 141 _ (g:=wn.heap.size+1+1) (by simp)) ((Blk.new' (wn.alloc _) 3 mc (g:=wn.heap.size+1) (by simp)).alloc _) (((Blk.new' wn 3 mc (g:=wn.heap.size) (by simp)).alloc _).alloc _) (.inr ⟨by omega,by simp <;> omega⟩) (.inr ⟨by omega,by simp <;> omega⟩) (by omega) (by omega) (by omega) (by omega) (by omega) (by omega) (by omega) (by omega) (by omega) (by omega) (by omega)
  case rest =>
   obtain ⟨gc,gl,gz,g,rfl,hA,hx⟩:=hcut;have HA:=aV4 hA;have HX:=aV4 hx;have hG0:bJ t 0:=⟨by omega,by omega,fun j hj=>by omega⟩;have HV0:=aV4 (show bW t=dB t 0 (t.length - 0) by unfold bW;rw [if_neg hbig];rfl);have HB1:=aV4 (HB0.out.ext hx);have b1:=HB1.out.cell' (u:=.slice An t.length cn) 0 rfl;have HG0:=aV4 hG0;clear hA hx hG0 hmk b0 HNS HB0;go_wp2_with fail;go_loopw [29] (fun i wr=>aFd t (.slice An t.length cn) gc gl gz g W i wr) (fun i _=>t.length - (intOf i).toNat)
   case atStart=>exact ⟨0,_,_,Nat.zero_le _,rfl,HA.out,HX.out,rfl,rfl,HG0.out,by intro x hx;rw [List.eq_of_mem_replicate hx];unfold I64;omega,by intro x hx;rw [List.eq_of_mem_replicate hx];unfold I64;omega,HV0.out⟩
   case round =>
    obtain ⟨k,ls,zs,hk,rfl,hA,hE,hL,hZ,hG,hI,hJ,hV⟩:=hrel;have HA1:=aV4 hA;have HE1:=aV4 hE;have HL:=aV4 hL;have HZ:=aV4 hZ;have HG:=aV4 hG;have HI:=aV4 hI;have HJ:=aV4 hJ;have HV:=aV4 hV
    by_cases hlt:k<t.length
    ·have hkk:(k:Int)<(t.length:Int):=by omega
     have hND:Nds wr (fun b=>g.Q b∧b<wr.heap.size) (.slice An t.length cn) t:=hA.sets.nodes.carry (fun _ _ _=>rfl) (fun b hb h=>⟨h,hb⟩);have HND:=aV4 hND;have hsz:W.heap.size<=wr.heap.size:=hE.size
     have b2:wr.cell? ⟨w.heap.size,0,none⟩=some (.slice An t.length cn):=(HB1.out.cell' (u:=.slice An t.length cn) 0 rfl) ▸ by
      have hwl:w.heap.size<W.heap.size:=by have:=HWS.out;omega
      rw [hE.cell (p:=⟨w.heap.size,0,none⟩) hwl,HX.out.cell (p:=⟨w.heap.size,0,none⟩) hwl]
     obtain ⟨b,off,a,rfl,hQb,hx,hn⟩:=hND.get hlt;have HXX:=aV4 hx;have HN:=aV4 hn;have HQB:=aV4 hQb;obtain ⟨x,hxd⟩:∃ x,x=t.getD k default:=⟨_,rfl⟩;have HXD:=aV4 hxd;rw [<- hxd] at HXX HN;have h41:=HA1.out.box.cell' (u:=.slice (some ⟨b,off,none⟩) t.length cn) 0 rfl;have HC0:=aV4 h41;clear hA hE hL hZ hG hI hJ hV hx hn hQb hND hxd h41 b1;go_wp2_with fail;refine (aE2 x a b (off+k*12) _ _ HN.out HXX.out).mono ?_;rintro e w1 ⟨rfl,hx1⟩;have HX1:=aV4 hx1;clear hx1;obtain ⟨cb,hcb⟩:∃ cb,cb=cQ x:=⟨_,rfl⟩;rw [<- hcb];have HCB:=aV4 hcb;clear hcb
     cases cb
     ·have HF:=aV4 (iI hlt HV.out (aAg (t:=t) (k:=k) (by rw [<- HXD.out,<- HCB.out];rfl)) (by decide))
      go_wp2_with fail;go_ret;exact ⟨aM HF.out.symm,HE0.out.trans' (HE1.out.trans' HX1.out)⟩
     ·go_wp2_with fail
      refine (aA8 t k (fun b=>g.Q b∧b<wr.heap.size) gc _ w1 (fun b hb=>Nat.lt_of_lt_of_le hb.2 HX1.out.size) (HND.out.ext HX1.out) hlt (aB HX1.out HC0.out) (by omega)).mono ?_;rintro e w2 ⟨rfl,hx2⟩;have HX2:=aV4 (HX1.out.trans' hx2);clear hx2;rw [<- HXD.out];obtain ⟨sb,hsb⟩:∃ sb,sb=dG k x:=⟨_,rfl⟩;rw [<- hsb];have HSB:=aV4 hsb;clear hsb
      cases sb
      ·have HF:=aV4 (iI hlt HV.out (aAg (t:=t) (k:=k) (by rw [<- HXD.out,<- HCB.out,<- HSB.out];rfl)) (by decide))
       go_wp2_with fail;go_ret;exact ⟨aM HF.out.symm,HE0.out.trans' (HE1.out.trans' HX2.out)⟩
      ·have HCS:=aV4 (show (cQ (t.getD k default) && dG k (t.getD k default))=true by rw [<- HXD.out,<- HCB.out,<- HSB.out];rfl)
       go_wp2_with fail;refine (sW x a b (off+k*12) (fun b=>g.Q b∧b<wr.heap.size) w2 (fun b hb=>Nat.lt_of_lt_of_le hb.2 HX2.out.size) (HN.out.ext HX2.out) (HXX.out.ext HX2.out)).mono ?_;rintro e w3 ⟨rfl,hx3⟩;have HX3:=aV4 (HX2.out.trans' hx3);clear hx3;obtain ⟨pz,hpz⟩:∃ pz,pz=gU x:=⟨_,rfl⟩;rw [<- hpz];have HPZ:=aV4 hpz;clear hpz
       by_cases hp0:pz=0
       ·subst hp0
        go_wp2_with fail;refine (yH x a b (off+k*12) (fun b=>g.Q b∧b<wr.heap.size) w3 (HN.out.ext HX3.out) (HXX.out.ext HX3.out)).mono ?_;rintro e w4 ⟨rfl,hx4⟩;have HX4:=aV4 (HX3.out.trans' hx4);clear hx4;obtain ⟨nb,hnb⟩:∃ nb,nb=bM x:=⟨_,rfl⟩;rw [<- hnb];have HNB:=aV4 hnb;clear hnb
        cases nb
        ·have HF:=aV4 (iI hlt HV.out (aN2 (t:=t) (k:=k) HCS.out (by rw [<- HXD.out,<- HPZ.out]) (by rw [<- HXD.out,<- HNB.out])) (by decide))
         go_wp2_with fail;go_ret;exact ⟨aM HF.out.symm,HE0.out.trans' (HE1.out.trans' HX4.out)⟩
        ·have HNO:=aV4 (aIh (t:=t) (k:=k) HCS.out (by rw [<- HXD.out,<- HPZ.out]) (by rw [<- HXD.out,<- HNB.out]))
         have HCK:=aV4 (aIg HG.out HSM.out hlt HNO.out HL.out HZ.out);have HA4:=aV4 (HA1.out.ext HX4.out);go_wp2_with fail;refine (aCt t k (fun b=>g.Q b∧b<wr.heap.size) gc gl gz g.s _ ls zs w4 (fun b hb=>⟨Nat.lt_of_lt_of_le hb.2 HX4.out.size,fun e=>hb.1.2 (e ▸ HA1.out.xl),fun e=>hb.1.2 (e ▸ HA1.out.xz)⟩) (HND.out.ext HX4.out) hlt HA4.out.box HA4.out.lens HA4.out.sizes HA4.out.llen HA4.out.zlen HI.out HJ.out HA4.out.n1 HA4.out.n2 HA4.out.n3 HNO.out (by omega)).mono ?_;rintro e w5 ⟨rfl,hbl,hbz,hf5⟩;rw [<- HXD.out] at hbl hbz ⊢;rw [<- HXD.out] at HCK;have HBL:=aV4 hbl;have HBZ:=aV4 hbz;have HF5:=aV4 hf5;have HA5:=aV4 (HA4.out.small hf5 hbl hbz (by simp) (by simp));have HE5:=aV4 (show Ext W w5 from ((Fr.of_ext (HE1.out.trans' HX4.out)).trans (hf5.mono (fun b hb=>hb.elim (fun e=>e ▸ HA1.out.bl) (fun e=>e ▸ HA1.out.bz)))).new_ext (fun b hb=>hb));have hkeep:aD (fun b=>g.Q b∧b<wr.heap.size) w4 w5:=aD.of_fr hf5 (fun b hb hm=>hm.elim (fun e=>hb.1.2 (e ▸ HA1.out.xl)) (fun e=>hb.1.2 (e ▸ HA1.out.xz)));have HX5:=aV4 ((HXX.out.ext HX4.out).carry (Q:=g.Q) hkeep (fun b _ h=>h.1));have HN5:=aV4 ((HN.out.ext HX4.out).keep (P:=fun b=>g.Q b∧b<wr.heap.size) HQB.out hkeep);clear hbl hbz hf5 hkeep;obtain ⟨mb,hmb⟩:∃ mb,mb=(decide (fQ ls x<=256) && decide (fZ zs x<=1024)):=⟨_,rfl⟩
         rw [<- hmb];have HMB:=aV4 hmb;clear hmb
         cases mb
         ·have HF:=aV4 (iI hlt HV.out (show cV t k=4 by rw [HCK.out,<- HMB.out];rfl) (by decide))
          go_wp2_with fail;go_ret;exact ⟨aM HF.out.symm,HE0.out.trans' HE5.out⟩
         ·have HCK2:=aV4 (show cV t k=nN t x by rw [HCK.out,<- HMB.out];rfl)
          go_wp2_with fail;refine (aE8 t _ g gc b (off+k*12) k x a w5 HX5.out HN5.out HQB.out.1 (HA5.out.box.cell' 3 rfl) HA5.out.mc HA5.out.sets (HXD.out ▸ HNO.out) HG.out).mono ?_;rintro e w6 ⟨rfl,hf6,hs6⟩;have HF6:=aV4 hf6;have HS6:=aV4 hs6;clear hf6 hs6;obtain ⟨cz,hcz⟩:∃ cz,cz=nN t x:=⟨_,rfl⟩;rw [<- hcz];have HCZ:=aV4 hcz;clear hcz
          by_cases hc0:cz=0
          ·subst hc0
           go_wp2_with fail;go_roundw
           case rel=>exact xN HXD.out hlt HA1.out HE1.out HL.out HZ.out HG.out HI.out HJ.out HV.out HSM.out HX4.out HF5.out HBL.out HBZ.out HF6.out HS6.out (by rw [HCK2.out,<- HCZ.out])
           case measure=>simp [intOf];omega
          ·have HF:=aV4 (iI hlt HV.out (show cV t k=cz by rw [HCK2.out,HCZ.out]) hc0)
           have tc:(cz != 0)=true:=bne_iff_ne.2 hc0;go_wp2_with fail;go_ret;exact ⟨aM HF.out.symm,HE0.out.trans' (((Fr.of_ext HE5.out).trans (HF6.out.mono HA1.out.bm)).new_ext (fun b hb=>hb))⟩
       ·have HF:=aV4 (iI hlt HV.out (aE6 (t:=t) (k:=k) HCS.out (by rw [<- HXD.out,<- HPZ.out];exact hp0)) (by rw [<- HXD.out,<- HPZ.out];exact hp0))
        have tp:(pz != 0)=true:=bne_iff_ne.2 hp0;go_wp2_with fail;go_ret;exact ⟨aM (by rw [HF.out,<- HXD.out,<- HPZ.out]),HE0.out.trans' (HE1.out.trans' HX3.out)⟩
    ·have HF:=aV4 (show bW t=0 by rw [HV.out,show t.length - k=0 by omega];rfl)
     clear hA hE hL hZ hG hI hJ hV;go_wp2_with fail;go_ret;exact ⟨aM HF.out.symm,HE0.out.trans' HE1.out⟩
end Go.Proofs.YtkoeecdjijfjnaaGreat
