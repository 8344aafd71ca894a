/- The contract of the program's clean. Conditions: none. (printed by gen/f3.py) -/
import Derived.BigGuardPart
import Derived.Test.YtkoeecdjijfjnaaGreatPlH
namespace Go.Proofs.YtkoeecdjijfjnaaGreat
open Go.RowKit
set_option maxRecDepth 100000 in
set_option maxHeartbeats 1000000 in
theorem clean_k0 (x:GN)(a:NA)(b o:Nat)(w:World)(hn:NCells w b o x a)(hk:x.kind=0) :
  Calls Tryz.prog 88 #[.pointer (some ⟨b,o,none⟩)] w (RetE (.bool (cleanB x)) w):=by
 have HS:=Lib.hid (show cleanB x=(decide (0≤x.kind) && decide (x.kind≤4) && (decide (x.kind=0) || decide (cmpV x.value zeroGV=0)) && (decide (x.kind=1) || (decide (x.lo=0) && decide (x.hi=0))) &&
 (decide (x.kind=2) || (decide (x.weights.length=0) && decide (x.labels.length=0))) && (decide (x.kind=3) || emptyB x.name) && (decide (x.kind=4) || decide (x.values.length=0)) &&
 ((!decide (x.kind=0) && !decide (x.kind=1)) || decide (x.kids.length=0))) from rfl)
 have c0:=hn.c0
 have c1:=hn.c1
 have c2:=hn.c2
 have c3:=hn.c3
 have c4:=hn.c4
 have c5:=hn.c5
 have c6:=hn.c6
 have c7:=hn.c7
 clear hn
 generalize cleanB x=cb at *
 generalize x.weights.length=nw at *
 generalize x.labels.length=nl at *
 generalize x.values.length=nv at *
 generalize x.kids.length=nk at *
 generalize x.kind=k at *
 generalize x.lo=lo at *
 generalize x.hi=hi at *
 generalize x.name=nm at *
 subst hk
 go_enter Tryz.func88,Tryz.ntmps88
 go_upto_region 2 with fail
 simp only [List.append]
 go_wp2_with fail
 all_goals
  go_ret
  refine ⟨ret_bool ?_,Ext.refl _⟩
  rw [HS.out]
  clear HS c0 c1 c2 c3 c4 c5 c6 c7
  rw [Bool.eq_iff_iff]
  simp_all [emptyB]
  try omega
set_option maxRecDepth 100000 in
set_option maxHeartbeats 1000000 in
theorem clean_klo (x:GN)(a:NA)(b o:Nat)(w:World)(hn:NCells w b o x a)(hk:x.kind<0) :
  Calls Tryz.prog 88 #[.pointer (some ⟨b,o,none⟩)] w (RetE (.bool (cleanB x)) w):=by
 have HS:=Lib.hid (show cleanB x=(decide (0≤x.kind) && decide (x.kind≤4) && (decide (x.kind=0) || decide (cmpV x.value zeroGV=0)) && (decide (x.kind=1) || (decide (x.lo=0) && decide (x.hi=0))) &&
 (decide (x.kind=2) || (decide (x.weights.length=0) && decide (x.labels.length=0))) && (decide (x.kind=3) || emptyB x.name) && (decide (x.kind=4) || decide (x.values.length=0)) &&
 ((!decide (x.kind=0) && !decide (x.kind=1)) || decide (x.kids.length=0))) from rfl)
 have c0:=hn.c0
 have c1:=hn.c1
 have c2:=hn.c2
 have c3:=hn.c3
 have c4:=hn.c4
 have c5:=hn.c5
 have c6:=hn.c6
 have c7:=hn.c7
 clear hn
 generalize cleanB x=cb at *
 generalize x.weights.length=nw at *
 generalize x.labels.length=nl at *
 generalize x.values.length=nv at *
 generalize x.kids.length=nk at *
 generalize x.kind=k at *
 generalize x.lo=lo at *
 generalize x.hi=hi at *
 generalize x.name=nm at *
 go_enter Tryz.func88,Tryz.ntmps88
 go_upto_region 2 with fail
 simp only [List.append]
 go_wp2_with fail
 all_goals (try exact absurd ‹0≤k› (by omega))
 all_goals
  refine bodyPost_ret (v:=.bool false) (by simp [results,Tryz.results88,go_sem]) rfl ⟨ret_bool ?_,Ext.refl _⟩
  rw [HS.out]
  clear HS c0 c1 c2 c3 c4 c5 c6 c7
  rw [Bool.eq_iff_iff]
  simp_all [emptyB]
  try omega
set_option maxRecDepth 100000 in
set_option maxHeartbeats 1000000 in
theorem clean_khi (x:GN)(a:NA)(b o:Nat)(w:World)(hn:NCells w b o x a)(hk:4<x.kind) :
  Calls Tryz.prog 88 #[.pointer (some ⟨b,o,none⟩)] w (RetE (.bool (cleanB x)) w):=by
 have HS:=Lib.hid (show cleanB x=(decide (0≤x.kind) && decide (x.kind≤4) && (decide (x.kind=0) || decide (cmpV x.value zeroGV=0)) && (decide (x.kind=1) || (decide (x.lo=0) && decide (x.hi=0))) &&
 (decide (x.kind=2) || (decide (x.weights.length=0) && decide (x.labels.length=0))) && (decide (x.kind=3) || emptyB x.name) && (decide (x.kind=4) || decide (x.values.length=0)) &&
 ((!decide (x.kind=0) && !decide (x.kind=1)) || decide (x.kids.length=0))) from rfl)
 have c0:=hn.c0
 have c1:=hn.c1
 have c2:=hn.c2
 have c3:=hn.c3
 have c4:=hn.c4
 have c5:=hn.c5
 have c6:=hn.c6
 have c7:=hn.c7
 clear hn
 generalize cleanB x=cb at *
 generalize x.weights.length=nw at *
 generalize x.labels.length=nl at *
 generalize x.values.length=nv at *
 generalize x.kids.length=nk at *
 generalize x.kind=k at *
 generalize x.lo=lo at *
 generalize x.hi=hi at *
 generalize x.name=nm at *
 go_enter Tryz.func88,Tryz.ntmps88
 go_upto_region 2 with fail
 simp only [List.append]
 go_wp2_with fail
 all_goals (try exact absurd ‹k≤4› (by omega))
 all_goals
  refine bodyPost_ret (v:=.bool false) (by simp [results,Tryz.results88,go_sem]) rfl ⟨ret_bool ?_,Ext.refl _⟩
  rw [HS.out]
  clear HS c0 c1 c2 c3 c4 c5 c6 c7
  rw [Bool.eq_iff_iff]
  simp_all [emptyB]
  try omega
set_option maxRecDepth 100000 in
set_option maxHeartbeats 1000000 in
theorem clean_k1 (x:GN)(a:NA)(b o:Nat)(P:Nat→Prop)(w:World)(hn:NCells w b o x a)(hx:NAt w P x a)(hk:x.kind=1) :
  Calls Tryz.prog 88 #[.pointer (some ⟨b,o,none⟩)] w (RetE (.bool (cleanB x)) w):=by
 have HS:=Lib.hid (show cleanB x=(decide (0≤x.kind) && decide (x.kind≤4) && (decide (x.kind=0) || decide (cmpV x.value zeroGV=0)) && (decide (x.kind=1) || (decide (x.lo=0) && decide (x.hi=0))) &&
 (decide (x.kind=2) || (decide (x.weights.length=0) && decide (x.labels.length=0))) && (decide (x.kind=3) || emptyB x.name) && (decide (x.kind=4) || decide (x.values.length=0)) &&
 ((!decide (x.kind=0) && !decide (x.kind=1)) || decide (x.kids.length=0))) from rfl)
 have HC:=Lib.hid (valuesCompare_any x.value zeroGV a.xA none a.xc 0 P P w hx.value (VAt.zero _ _))
 have HN:=Lib.hid (show ∀ w',Ext w w'→w'.cell? ⟨b,o+1,none⟩=some (.string x.name)∧w'.cell? ⟨b,o+2,none⟩=some (.int .i64 x.lo)∧w'.cell? ⟨b,o+3,none⟩=some (.int .i64 x.hi)∧w'.cell? ⟨b,o+4,none⟩=some (.slice a.wA x.weights.length a.wc) ∧
  w'.cell? ⟨b,o+5,none⟩=some (.slice a.lA x.labels.length a.lc)∧w'.cell? ⟨b,o+6,none⟩=some (.slice a.vA x.values.length a.vc)∧w'.cell? ⟨b,o+7,none⟩=some (.slice a.kA x.kids.length a.kc) from fun w' h=>⟨(hn.ext h).c1,(hn.ext h).c2,(hn.ext h).c3,(hn.ext h).c4,(hn.ext h).c5,(hn.ext h).c6,(hn.ext h).c7⟩)
 have c0:=hn.c0
 have c8:=hn.c8
 have c9:=hn.c9
 have c10:=hn.c10
 have c11:=hn.c11
 clear hn hx
 generalize cleanB x=cb at *
 generalize x.weights.length=nw at *
 generalize x.labels.length=nl at *
 generalize x.values.length=nv at *
 generalize x.kids.length=nk at *
 generalize x.kind=k at *
 generalize x.lo=lo at *
 generalize x.hi=hi at *
 generalize x.name=nm at *
 subst hk
 go_enter Tryz.func88,Tryz.ntmps88
 go_upto_region 2 with fail
 simp only [List.append]
 go_wp2_with fail
 refine HC.out.mono ?_
 rintro e w1 ⟨rfl,hx1⟩
 have HX1:=Lib.hid hx1
 obtain ⟨c1,c2,c3,c4,c5,c6,c7⟩:=HN.out w1 hx1
 clear hx1 c0 c8 c9 c10 c11
 generalize cmpV x.value zeroGV=cz at *
 go_wp2_with fail
 all_goals
  go_ret
  refine ⟨ret_bool ?_,HX1.out⟩
  rw [HS.out]
  clear HS HC HN HX1 c1 c2 c3 c4 c5 c6 c7
  rw [Bool.eq_iff_iff]
  simp_all [emptyB]
  try omega
set_option maxRecDepth 100000 in
set_option maxHeartbeats 1000000 in
theorem clean_k2 (x:GN)(a:NA)(b o:Nat)(P:Nat→Prop)(w:World)(hn:NCells w b o x a)(hx:NAt w P x a)(hk:x.kind=2) :
  Calls Tryz.prog 88 #[.pointer (some ⟨b,o,none⟩)] w (RetE (.bool (cleanB x)) w):=by
 have HS:=Lib.hid (show cleanB x=(decide (0≤x.kind) && decide (x.kind≤4) && (decide (x.kind=0) || decide (cmpV x.value zeroGV=0)) && (decide (x.kind=1) || (decide (x.lo=0) && decide (x.hi=0))) &&
 (decide (x.kind=2) || (decide (x.weights.length=0) && decide (x.labels.length=0))) && (decide (x.kind=3) || emptyB x.name) && (decide (x.kind=4) || decide (x.values.length=0)) &&
 ((!decide (x.kind=0) && !decide (x.kind=1)) || decide (x.kids.length=0))) from rfl)
 have HC:=Lib.hid (valuesCompare_any x.value zeroGV a.xA none a.xc 0 P P w hx.value (VAt.zero _ _))
 have HN:=Lib.hid (show ∀ w',Ext w w'→w'.cell? ⟨b,o+1,none⟩=some (.string x.name)∧w'.cell? ⟨b,o+2,none⟩=some (.int .i64 x.lo)∧w'.cell? ⟨b,o+3,none⟩=some (.int .i64 x.hi)∧w'.cell? ⟨b,o+4,none⟩=some (.slice a.wA x.weights.length a.wc) ∧
  w'.cell? ⟨b,o+5,none⟩=some (.slice a.lA x.labels.length a.lc)∧w'.cell? ⟨b,o+6,none⟩=some (.slice a.vA x.values.length a.vc)∧w'.cell? ⟨b,o+7,none⟩=some (.slice a.kA x.kids.length a.kc) from fun w' h=>⟨(hn.ext h).c1,(hn.ext h).c2,(hn.ext h).c3,(hn.ext h).c4,(hn.ext h).c5,(hn.ext h).c6,(hn.ext h).c7⟩)
 have c0:=hn.c0
 have c8:=hn.c8
 have c9:=hn.c9
 have c10:=hn.c10
 have c11:=hn.c11
 clear hn hx
 generalize cleanB x=cb at *
 generalize x.weights.length=nw at *
 generalize x.labels.length=nl at *
 generalize x.values.length=nv at *
 generalize x.kids.length=nk at *
 generalize x.kind=k at *
 generalize x.lo=lo at *
 generalize x.hi=hi at *
 generalize x.name=nm at *
 subst hk
 go_enter Tryz.func88,Tryz.ntmps88
 go_upto_region 2 with fail
 simp only [List.append]
 go_wp2_with fail
 refine HC.out.mono ?_
 rintro e w1 ⟨rfl,hx1⟩
 have HX1:=Lib.hid hx1
 obtain ⟨c1,c2,c3,c4,c5,c6,c7⟩:=HN.out w1 hx1
 clear hx1 c0 c8 c9 c10 c11
 generalize cmpV x.value zeroGV=cz at *
 go_wp2_with fail
 all_goals
  go_ret
  refine ⟨ret_bool ?_,HX1.out⟩
  rw [HS.out]
  clear HS HC HN HX1 c1 c2 c3 c4 c5 c6 c7
  rw [Bool.eq_iff_iff]
  simp_all [emptyB]
  try omega
set_option maxRecDepth 100000 in
set_option maxHeartbeats 1000000 in
theorem clean_k3 (x:GN)(a:NA)(b o:Nat)(P:Nat→Prop)(w:World)(hn:NCells w b o x a)(hx:NAt w P x a)(hk:x.kind=3) :
  Calls Tryz.prog 88 #[.pointer (some ⟨b,o,none⟩)] w (RetE (.bool (cleanB x)) w):=by
 have HS:=Lib.hid (show cleanB x=(decide (0≤x.kind) && decide (x.kind≤4) && (decide (x.kind=0) || decide (cmpV x.value zeroGV=0)) && (decide (x.kind=1) || (decide (x.lo=0) && decide (x.hi=0))) &&
 (decide (x.kind=2) || (decide (x.weights.length=0) && decide (x.labels.length=0))) && (decide (x.kind=3) || emptyB x.name) && (decide (x.kind=4) || decide (x.values.length=0)) &&
 ((!decide (x.kind=0) && !decide (x.kind=1)) || decide (x.kids.length=0))) from rfl)
 have HC:=Lib.hid (valuesCompare_any x.value zeroGV a.xA none a.xc 0 P P w hx.value (VAt.zero _ _))
 have HN:=Lib.hid (show ∀ w',Ext w w'→w'.cell? ⟨b,o+1,none⟩=some (.string x.name)∧w'.cell? ⟨b,o+2,none⟩=some (.int .i64 x.lo)∧w'.cell? ⟨b,o+3,none⟩=some (.int .i64 x.hi)∧w'.cell? ⟨b,o+4,none⟩=some (.slice a.wA x.weights.length a.wc) ∧
  w'.cell? ⟨b,o+5,none⟩=some (.slice a.lA x.labels.length a.lc)∧w'.cell? ⟨b,o+6,none⟩=some (.slice a.vA x.values.length a.vc)∧w'.cell? ⟨b,o+7,none⟩=some (.slice a.kA x.kids.length a.kc) from fun w' h=>⟨(hn.ext h).c1,(hn.ext h).c2,(hn.ext h).c3,(hn.ext h).c4,(hn.ext h).c5,(hn.ext h).c6,(hn.ext h).c7⟩)
 have c0:=hn.c0
 have c8:=hn.c8
 have c9:=hn.c9
 have c10:=hn.c10
 have c11:=hn.c11
 clear hn hx
 generalize cleanB x=cb at *
 generalize x.weights.length=nw at *
 generalize x.labels.length=nl at *
 generalize x.values.length=nv at *
 generalize x.kids.length=nk at *
 generalize x.kind=k at *
 generalize x.lo=lo at *
 generalize x.hi=hi at *
 generalize x.name=nm at *
 subst hk
 go_enter Tryz.func88,Tryz.ntmps88
 go_upto_region 2 with fail
 simp only [List.append]
 go_wp2_with fail
 refine HC.out.mono ?_
 rintro e w1 ⟨rfl,hx1⟩
 have HX1:=Lib.hid hx1
 obtain ⟨c1,c2,c3,c4,c5,c6,c7⟩:=HN.out w1 hx1
 clear hx1 c0 c8 c9 c10 c11
 generalize cmpV x.value zeroGV=cz at *
 go_wp2_with fail
 all_goals
  go_ret
  refine ⟨ret_bool ?_,HX1.out⟩
  rw [HS.out]
  clear HS HC HN HX1 c1 c2 c3 c4 c5 c6 c7
  rw [Bool.eq_iff_iff]
  simp_all [emptyB]
  try omega
set_option maxRecDepth 100000 in
set_option maxHeartbeats 1000000 in
theorem clean_k4 (x:GN)(a:NA)(b o:Nat)(P:Nat→Prop)(w:World)(hn:NCells w b o x a)(hx:NAt w P x a)(hk:x.kind=4) :
  Calls Tryz.prog 88 #[.pointer (some ⟨b,o,none⟩)] w (RetE (.bool (cleanB x)) w):=by
 have HS:=Lib.hid (show cleanB x=(decide (0≤x.kind) && decide (x.kind≤4) && (decide (x.kind=0) || decide (cmpV x.value zeroGV=0)) && (decide (x.kind=1) || (decide (x.lo=0) && decide (x.hi=0))) &&
 (decide (x.kind=2) || (decide (x.weights.length=0) && decide (x.labels.length=0))) && (decide (x.kind=3) || emptyB x.name) && (decide (x.kind=4) || decide (x.values.length=0)) &&
 ((!decide (x.kind=0) && !decide (x.kind=1)) || decide (x.kids.length=0))) from rfl)
 have HC:=Lib.hid (valuesCompare_any x.value zeroGV a.xA none a.xc 0 P P w hx.value (VAt.zero _ _))
 have HN:=Lib.hid (show ∀ w',Ext w w'→w'.cell? ⟨b,o+1,none⟩=some (.string x.name)∧w'.cell? ⟨b,o+2,none⟩=some (.int .i64 x.lo)∧w'.cell? ⟨b,o+3,none⟩=some (.int .i64 x.hi)∧w'.cell? ⟨b,o+4,none⟩=some (.slice a.wA x.weights.length a.wc) ∧
  w'.cell? ⟨b,o+5,none⟩=some (.slice a.lA x.labels.length a.lc)∧w'.cell? ⟨b,o+6,none⟩=some (.slice a.vA x.values.length a.vc)∧w'.cell? ⟨b,o+7,none⟩=some (.slice a.kA x.kids.length a.kc) from fun w' h=>⟨(hn.ext h).c1,(hn.ext h).c2,(hn.ext h).c3,(hn.ext h).c4,(hn.ext h).c5,(hn.ext h).c6,(hn.ext h).c7⟩)
 have c0:=hn.c0
 have c8:=hn.c8
 have c9:=hn.c9
 have c10:=hn.c10
 have c11:=hn.c11
 clear hn hx
 generalize cleanB x=cb at *
 generalize x.weights.length=nw at *
 generalize x.labels.length=nl at *
 generalize x.values.length=nv at *
 generalize x.kids.length=nk at *
 generalize x.kind=k at *
 generalize x.lo=lo at *
 generalize x.hi=hi at *
 generalize x.name=nm at *
 subst hk
 go_enter Tryz.func88,Tryz.ntmps88
 go_upto_region 2 with fail
 simp only [List.append]
 go_wp2_with fail
 refine HC.out.mono ?_
 rintro e w1 ⟨rfl,hx1⟩
 have HX1:=Lib.hid hx1
 obtain ⟨c1,c2,c3,c4,c5,c6,c7⟩:=HN.out w1 hx1
 clear hx1 c0 c8 c9 c10 c11
 generalize cmpV x.value zeroGV=cz at *
 go_wp2_with fail
 all_goals
  go_ret
  refine ⟨ret_bool ?_,HX1.out⟩
  rw [HS.out]
  clear HS HC HN HX1 c1 c2 c3 c4 c5 c6 c7
  rw [Bool.eq_iff_iff]
  simp_all [emptyB]
  try omega
theorem clean_any (x:GN)(a:NA)(b o:Nat)(P:Nat→Prop)(w:World)(hn:NCells w b o x a)(hx:NAt w P x a) :
  Calls Tryz.prog 88 #[.pointer (some ⟨b,o,none⟩)] w (RetE (.bool (cleanB x)) w):=by
 by_cases h:x.kind<0
 ·exact clean_klo x a b o w hn h
 by_cases h':4<x.kind
 ·exact clean_khi x a b o w hn h'
 have hc:x.kind=0∨x.kind=1∨x.kind=2∨x.kind=3∨x.kind=4:=by omega
 rcases hc with hk | hk | hk | hk | hk
 ·exact clean_k0 x a b o w hn hk
 ·exact clean_k1 x a b o P w hn hx hk
 ·exact clean_k2 x a b o P w hn hx hk
 ·exact clean_k3 x a b o P w hn hx hk
 ·exact clean_k4 x a b o P w hn hx hk
end Go.Proofs.YtkoeecdjijfjnaaGreat
