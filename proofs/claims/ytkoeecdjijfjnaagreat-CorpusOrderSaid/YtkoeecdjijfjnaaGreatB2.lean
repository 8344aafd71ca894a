/- Contracts of the reference's numbers and SameValues. Conditions: none. Before it: The contract of the reference's Valid of values. Conditions: none. Contracts of the reference's Made, Options and unused. Conditions: none. Small laws on slices in memory. Conditions: none. -/
import Derived.Deep.DeepCutAuto
import Derived.Test.YtkoeecdjijfjnaaGreatA8
import Derived.Test.YtkoeecdjijfjnaaGreatNode
namespace Go.Proofs.YtkoeecdjijfjnaaGreat
open Go.RowKit
theorem refFormed_step (N:Nat)(hS:AllSaid 152 (fun b=>b) formedB N):AllSaid 152 (fun b=>b) formedB (N+1):=by
 intro x A c P w hN hx
 show Calls Tryz.prog 152 #[vagg x A c] w (RetE (.bool (allB formedB x)) w)
 rcases Int.lt_or_le x.kind 0 with hk | hk0
 ·exact refFormed_lo N x A c P w hN hx hk
 rcases Int.lt_or_le 3 x.kind with hk | hk3
 ·exact refFormed_hi N x A c P w hN hx hk
 have h4:x.kind=0∨x.kind=1∨x.kind=2∨x.kind=3:=by omega
 rcases h4 with hk | hk | hk | hk
 ·by_cases he:x.s.toList=[]
  ·rcases Nat.lt_or_ge 0 x.kids.length with hl | hl
   ·exact refFormed_k0l N x A c P w hN hx hk he hl
   ·exact refFormed_k0 N hS x A c P w hN hx hk he hl
  ·exact refFormed_k0e N x A c P w hN hx hk he
 ·by_cases he:x.s.toList=[]
  ·rcases Nat.lt_or_ge 0 x.kids.length with hl | hl
   ·exact refFormed_k1l N x A c P w hN hx hk he hl
   ·rcases Int.lt_or_le x.n 0 with hn | hn
    ·exact refFormed_k1n N x A c P w hN hx hk he hl hn
    ·rcases Int.lt_or_le 1 x.n with hn2 | hn2
     ·exact refFormed_k1m N x A c P w hN hx hk he hl hn2
     ·exact refFormed_k1 N hS x A c P w hN hx hk he hl hn hn2
  ·exact refFormed_k1e N x A c P w hN hx hk he
 ·by_cases he:x.s.toList=[]
  ·by_cases hn:x.n=0
   ·exact refFormed_k2 N hS x A c P w hN hx hk he hn
   ·exact refFormed_k2n N x A c P w hN hx hk he hn
  ·exact refFormed_k2e N x A c P w hN hx hk he
 ·cases he:capB x.s
  ·exact refFormed_k3c N x A c P w hN hx hk he
  ·by_cases hn:x.n=0
   ·exact refFormed_k3 N hS x A c P w hN hx hk he hn
   ·exact refFormed_k3n N x A c P w hN hx hk he hn
theorem refFormed_all (N:Nat):AllSaid 152 (fun b=>b) formedB N:=by
 induction N with
 | zero=>intro x A c P w hN;omega
 | succ N ih=>exact refFormed_step N ih
def validR (x:GV):Int:=if allB formedB x=false then 1 else if allB nwideB x=false∨1024<rsz x then 4 else 0
set_option maxHeartbeats 400000 in
theorem refValidV_any (x:GV)(A:Option Addr)(c:Nat)(P:Nat→Prop)(w:World)(hx:VAt w P x A c) :
  Calls Tryz.prog 109 #[vagg x A c] w (RetE (.int .i64 (validR x)) w):=by
 have HX:=Lib.hid hx
 have HV:=Lib.hid (show validR x=if allB formedB x=false then 1 else if allB nwideB x=false∨1024<rsz x then 4 else 0 from rfl)
 clear hx
 go_enter Tryz.func109,Tryz.ntmps109
 go_wp2_with fail
 refine (refFormed_all (gsz x+1) x A c P _ (by omega) (HX.out.ext ((Ext.refl _).alloc' _))).mono ?_
 rintro e w1 ⟨rfl,hx1⟩
 have BX:=Lib.hid ((Blk.new w 85 #[.int .i64 x.kind,.int .i64 x.n,.string x.s,.slice A x.kids.length c]).ext hx1)
 have HX1:=Lib.hid (((Ext.refl w).alloc' _).trans' hx1)
 have x0:=BX.out.cell' (u:=.int .i64 x.kind) 0 rfl
 have x1:=BX.out.cell' (u:=.int .i64 x.n) 1 rfl
 have x2:=BX.out.cell' (u:=.string x.s) 2 rfl
 have x3:=BX.out.cell' (u:=.slice A x.kids.length c) 3 rfl
 clear hx1
 generalize allB formedB x=b1 at *
 cases b1
 ·go_wp2_with fail
  go_ret
  exact ⟨ret_int (by rw [HV.out];simp),HX1.out⟩
 ·go_wp2_with fail
  refine (refWide_all (gsz x+1) x A c P _ (by omega) (HX.out.ext HX1.out)).mono ?_
  rintro e w2 ⟨rfl,hx2⟩
  have BX2:=Lib.hid (BX.out.ext hx2)
  have HX2:=Lib.hid (HX1.out.trans' hx2)
  clear hx2 x0 x1 x2 x3
  have x0:=BX2.out.cell' (u:=.int .i64 x.kind) 0 rfl
  have x1:=BX2.out.cell' (u:=.int .i64 x.n) 1 rfl
  have x2:=BX2.out.cell' (u:=.string x.s) 2 rfl
  have x3:=BX2.out.cell' (u:=.slice A x.kids.length c) 3 rfl
  generalize allB nwideB x=b2 at *
  cases b2
  ·go_wp2_with fail
   go_ret
   exact ⟨ret_int (by rw [HV.out];simp),HX2.out⟩
  ·go_wp2_with fail
   refine (refSize_any x A c P _ (HX.out.ext HX2.out)).mono ?_
   rintro e w3 ⟨rfl,hx3⟩
   have HX3:=Lib.hid (HX2.out.trans' hx3)
   clear hx3
   generalize rsz x=z at *
   go_wp2_with fail
   all_goals
    go_ret
    refine ⟨ret_int ?_,HX3.out⟩
    rw [HV.out]
    simp_all
    try omega
def madeV (name:ByteArray)(kids:List GV):GV:=if emptyB name then .mk 2 0 ByteArray.empty kids else .mk 3 0 name kids
set_option maxHeartbeats 400000 in
theorem refMade_any (x:GN)(a:NA)(kids:List GV)(A:Option Addr)(c:Nat)(w:World) :
  Calls Tryz.prog 204 #[nagg x a,.slice A kids.length c] w fun e w'=>e=.returned (vagg (madeV x.name kids) A c)∧Ext w w':=by
 by_cases he:x.name.toList=[]
 ·have he1:x.name.toList.isEmpty=true:=by simp [he]
  have HM:=Lib.hid (show madeV x.name kids=.mk 2 0 ByteArray.empty kids by unfold madeV emptyB;rw [he1];rfl)
  go_enter Tryz.func204,Tryz.ntmps204
  go_wp2_with fail
  rw [HM.out]
  exact bodyPost_ret (v:=.agg #[.int .i64 2,.int .i64 0,.string ByteArray.empty,.slice A kids.length c]) (by simp [results,Tryz.results204,go_sem];rfl) rfl ⟨rfl,((Ext.refl _).alloc' _).alloc' _⟩
 ·have he1:x.name.toList.isEmpty=false:=by simpa using he
  have HM:=Lib.hid (show madeV x.name kids=.mk 3 0 x.name kids by unfold madeV emptyB;rw [he1];rfl)
  go_enter Tryz.func204,Tryz.ntmps204
  go_wp2_with fail
  rw [HM.out]
  exact bodyPost_ret (v:=.agg #[.int .i64 3,.int .i64 0,.string x.name,.slice A kids.length c]) (by simp [results,Tryz.results204,go_sem]) rfl ⟨rfl,((Ext.refl _).alloc' _).alloc' _⟩
def optionsI (x:GN):Int:=if x.kind=1 then wrap64 (wrap64 (x.hi - x.lo)+1) else x.kids.length
set_option maxHeartbeats 400000 in
theorem refOptions_any (x:GN)(a:NA)(w:World) :
  Calls Tryz.prog 99 #[nagg x a] w (RetE (.int .i64 (optionsI x)) w):=by
 have HO:=Lib.hid (show optionsI x=if x.kind=1 then wrap64 (wrap64 (x.hi - x.lo)+1) else x.kids.length from rfl)
 go_enter Tryz.func99,Tryz.ntmps99
 go_wp2_with fail
 all_goals
  go_ret
  refine ⟨ret_int ?_,(Ext.refl _).alloc' _⟩
  rw [HO.out]
  simp_all
theorem emptyB_t {s:ByteArray}(h:s.toList=[]):emptyB s=true:=by unfold emptyB;rw [h];rfl
theorem emptyB_f {s:ByteArray}(h:¬ s.toList=[]):emptyB s=false:=by unfold emptyB;simpa using h
def zeroV (v:GV):Bool:=decide (v.kind=0) && decide (v.n=0) && emptyB v.s && !decide (0<v.kids.length)
def unA (x:GN)(bv:Bool):Bool:=(!decide (x.kind=0) && !bv) || (!decide (x.kind=1) && (!decide (x.lo=0) || !decide (x.hi=0))) || (!decide (x.kind=3) && !emptyB x.name)
def unB (x:GN):Bool:=(!decide (x.kind=2) && (decide (0<x.weights.length) || decide (0<x.labels.length))) || (!decide (x.kind=4) && decide (0<x.values.length))
def unC (x:GN):Bool:=(!decide (x.kind=0) && !decide (x.kind=1)) || !decide (0<x.kids.length)
def unusedB (x:GN):Bool:=!unA x (zeroV x.value) && !unB x && unC x
set_option maxRecDepth 100000 in
set_option maxHeartbeats 4000000 in
theorem unused_any (x:GN)(a:NA)(w:World) :
  Calls Tryz.prog 150 #[nagg x a] w (RetE (.bool (unusedB x)) w):=by
 have HU:=Lib.hid (show unusedB x=(!unA x (zeroV x.value) && !unB x && unC x) from rfl)
 go_enter Tryz.func150,Tryz.ntmps150
 go_upto_region 2 with fail
 go_cut [4] (fun s wx=>s=.bool (zeroV x.value)∧wx=(w.alloc (.cells (ncells x a).toArray 87)).alloc (.cells #[.int .i64 x.value.kind,.int .i64 x.value.n,.string x.value.s,.slice a.xA x.value.kids.length a.xc] 85))
 case first =>
  by_cases hvk:x.value.kind=0
  ·have t0vk:(x.value.kind == 0)=true:=beq_iff_eq.2 hvk
   have t1vk:(x.value.kind != 0)=false:=by rw [bne_eq_false_iff_eq];exact hvk
   have Hvk:=Lib.hid hvk
   clear hvk
   by_cases hvn:x.value.n=0
   ·have t0vn:(x.value.n == 0)=true:=beq_iff_eq.2 hvn
    have t1vn:(x.value.n != 0)=false:=by rw [bne_eq_false_iff_eq];exact hvn
    have Hvn:=Lib.hid hvn
    clear hvn
    by_cases hvs:x.value.s.toList=[]
    ·have t0vs:x.value.s.toList.isEmpty=true:=by rw [hvs];rfl
     have t1vs:(!x.value.s.toList.isEmpty)=false:=by rw [hvs];rfl
     by_cases hvl:0<x.value.kids.length
     ·have t0vl:decide (0<(x.value.kids.length:Int))=true:=decide_eq_true (by omega)
      have t1vl:((x.value.kids.length:Int) == 0)=false:=beq_eq_false_iff_ne.2 (by omega)
      have t2vl:((x.value.kids.length:Int) != 0)=true:=bne_iff_ne.2 (by omega)
      go_wp2_with fail
      go_meet
      exact ⟨congrArg Value.bool (by unfold zeroV;rw [decide_eq_true Hvk.out,decide_eq_true Hvn.out,emptyB_t hvs,decide_eq_true hvl];try rfl),rfl⟩
     ·have t0vl:decide (0<(x.value.kids.length:Int))=false:=decide_eq_false (by omega)
      have t1vl:((x.value.kids.length:Int) == 0)=true:=beq_iff_eq.2 (by omega)
      have t2vl:((x.value.kids.length:Int) != 0)=false:=by rw [bne_eq_false_iff_eq];omega
      go_wp2_with fail
      go_meet
      exact ⟨congrArg Value.bool (by unfold zeroV;rw [decide_eq_true Hvk.out,decide_eq_true Hvn.out,emptyB_t hvs,decide_eq_false hvl];try rfl),rfl⟩
    ·have t0vs:x.value.s.toList.isEmpty=false:=by simpa using hvs
     have t1vs:(!x.value.s.toList.isEmpty)=true:=by simpa using hvs
     go_wp2_with fail
     go_meet
     exact ⟨congrArg Value.bool (by unfold zeroV;rw [decide_eq_true Hvk.out,decide_eq_true Hvn.out,emptyB_f hvs];try rfl),rfl⟩
   ·have t0vn:(x.value.n == 0)=false:=beq_eq_false_iff_ne.2 hvn
    have t1vn:(x.value.n != 0)=true:=bne_iff_ne.2 hvn
    go_wp2_with fail
    go_meet
    exact ⟨congrArg Value.bool (by unfold zeroV;rw [decide_eq_true Hvk.out,decide_eq_false hvn];try rfl),rfl⟩
  ·have t0vk:(x.value.kind == 0)=false:=beq_eq_false_iff_ne.2 hvk
   have t1vk:(x.value.kind != 0)=true:=bne_iff_ne.2 hvk
   go_wp2_with fail
   go_meet
   exact ⟨congrArg Value.bool (by unfold zeroV;rw [decide_eq_false hvk];try rfl),rfl⟩
 case rest =>
  obtain ⟨rfl,rfl⟩:=hcut
  generalize zeroV x.value=bv at *
  go_upto_region 3 with fail
  go_cut [57] (fun s wx=>s=.bool (unA x bv)∧wx=(w.alloc (.cells (ncells x a).toArray 87)).alloc (.cells #[.int .i64 x.value.kind,.int .i64 x.value.n,.string x.value.s,.slice a.xA x.value.kids.length a.xc] 85))
  case first =>
   by_cases hk0:x.kind=0
   ·have t0k0:(x.kind == 0)=true:=beq_iff_eq.2 hk0
    have t1k0:(x.kind != 0)=false:=by rw [bne_eq_false_iff_eq];exact hk0
    have hk1:¬ x.kind=1:=by omega
    have t0k1:(x.kind == 1)=false:=beq_eq_false_iff_ne.2 hk1
    have t1k1:(x.kind != 1)=true:=bne_iff_ne.2 hk1
    have hk3:¬ x.kind=3:=by omega
    have t0k3:(x.kind == 3)=false:=beq_eq_false_iff_ne.2 hk3
    have t1k3:(x.kind != 3)=true:=bne_iff_ne.2 hk3
    have Hk0:=Lib.hid hk0
    clear hk0
    by_cases hlo:x.lo=0
    ·have t0lo:(x.lo == 0)=true:=beq_iff_eq.2 hlo
     have t1lo:(x.lo != 0)=false:=by rw [bne_eq_false_iff_eq];exact hlo
     have Hlo:=Lib.hid hlo
     clear hlo
     by_cases hhi:x.hi=0
     ·have t0hi:(x.hi == 0)=true:=beq_iff_eq.2 hhi
      have t1hi:(x.hi != 0)=false:=by rw [bne_eq_false_iff_eq];exact hhi
      have Hhi:=Lib.hid hhi
      clear hhi
      by_cases hnm:x.name.toList=[]
      ·have t0nm:x.name.toList.isEmpty=true:=by rw [hnm];rfl
       have t1nm:(!x.name.toList.isEmpty)=false:=by rw [hnm];rfl
       go_wp2_with fail
       go_meet
       exact ⟨congrArg Value.bool (by unfold unA;rw [decide_eq_false hk1,decide_eq_false hk3,decide_eq_true Hk0.out,decide_eq_true Hlo.out,decide_eq_true Hhi.out,emptyB_t hnm];try rfl),rfl⟩
      ·have t0nm:x.name.toList.isEmpty=false:=by simpa using hnm
       have t1nm:(!x.name.toList.isEmpty)=true:=by simpa using hnm
       go_wp2_with fail
       go_meet
       exact ⟨congrArg Value.bool (by unfold unA;rw [decide_eq_false hk1,decide_eq_false hk3,decide_eq_true Hk0.out,decide_eq_true Hlo.out,decide_eq_true Hhi.out,emptyB_f hnm];try rfl),rfl⟩
     ·have t0hi:(x.hi == 0)=false:=beq_eq_false_iff_ne.2 hhi
      have t1hi:(x.hi != 0)=true:=bne_iff_ne.2 hhi
      go_wp2_with fail
      go_meet
      exact ⟨congrArg Value.bool (by unfold unA;rw [decide_eq_false hk1,decide_eq_true Hk0.out,decide_eq_true Hlo.out,decide_eq_false hhi];try rfl),rfl⟩
    ·have t0lo:(x.lo == 0)=false:=beq_eq_false_iff_ne.2 hlo
     have t1lo:(x.lo != 0)=true:=bne_iff_ne.2 hlo
     go_wp2_with fail
     go_meet
     exact ⟨congrArg Value.bool (by unfold unA;rw [decide_eq_false hk1,decide_eq_true Hk0.out,decide_eq_false hlo];try rfl),rfl⟩
   ·have t0k0:(x.kind == 0)=false:=beq_eq_false_iff_ne.2 hk0
    have t1k0:(x.kind != 0)=true:=bne_iff_ne.2 hk0
    by_cases hv:bv=true
    ·by_cases hk1:x.kind=1
     ·have t0k1:(x.kind == 1)=true:=beq_iff_eq.2 hk1
      have t1k1:(x.kind != 1)=false:=by rw [bne_eq_false_iff_eq];exact hk1
      have hk3:¬ x.kind=3:=by omega
      have t0k3:(x.kind == 3)=false:=beq_eq_false_iff_ne.2 hk3
      have t1k3:(x.kind != 3)=true:=bne_iff_ne.2 hk3
      have Hk1:=Lib.hid hk1
      clear hk1
      by_cases hnm:x.name.toList=[]
      ·have t0nm:x.name.toList.isEmpty=true:=by rw [hnm];rfl
       have t1nm:(!x.name.toList.isEmpty)=false:=by rw [hnm];rfl
       go_wp2_with fail
       go_meet
       exact ⟨congrArg Value.bool (by unfold unA;rw [decide_eq_false hk0,hv,decide_eq_false hk3,decide_eq_true Hk1.out,emptyB_t hnm];try rfl),rfl⟩
      ·have t0nm:x.name.toList.isEmpty=false:=by simpa using hnm
       have t1nm:(!x.name.toList.isEmpty)=true:=by simpa using hnm
       go_wp2_with fail
       go_meet
       exact ⟨congrArg Value.bool (by unfold unA;rw [decide_eq_false hk0,hv,decide_eq_false hk3,decide_eq_true Hk1.out,emptyB_f hnm];try rfl),rfl⟩
     ·have t0k1:(x.kind == 1)=false:=beq_eq_false_iff_ne.2 hk1
      have t1k1:(x.kind != 1)=true:=bne_iff_ne.2 hk1
      by_cases hlo:x.lo=0
      ·have t0lo:(x.lo == 0)=true:=beq_iff_eq.2 hlo
       have t1lo:(x.lo != 0)=false:=by rw [bne_eq_false_iff_eq];exact hlo
       have Hlo:=Lib.hid hlo
       clear hlo
       by_cases hhi:x.hi=0
       ·have t0hi:(x.hi == 0)=true:=beq_iff_eq.2 hhi
        have t1hi:(x.hi != 0)=false:=by rw [bne_eq_false_iff_eq];exact hhi
        have Hhi:=Lib.hid hhi
        clear hhi
        by_cases hk3:x.kind=3
        ·have t0k3:(x.kind == 3)=true:=beq_iff_eq.2 hk3
         have t1k3:(x.kind != 3)=false:=by rw [bne_eq_false_iff_eq];exact hk3
         have Hk3:=Lib.hid hk3
         clear hk3
         go_wp2_with fail
         go_meet
         exact ⟨congrArg Value.bool (by unfold unA;rw [decide_eq_false hk0,hv,decide_eq_false hk1,decide_eq_true Hlo.out,decide_eq_true Hhi.out,decide_eq_true Hk3.out];try rfl),rfl⟩
        ·have t0k3:(x.kind == 3)=false:=beq_eq_false_iff_ne.2 hk3
         have t1k3:(x.kind != 3)=true:=bne_iff_ne.2 hk3
         by_cases hnm:x.name.toList=[]
         ·have t0nm:x.name.toList.isEmpty=true:=by rw [hnm];rfl
          have t1nm:(!x.name.toList.isEmpty)=false:=by rw [hnm];rfl
          go_wp2_with fail
          go_meet
          exact ⟨congrArg Value.bool (by unfold unA;rw [decide_eq_false hk0,hv,decide_eq_false hk1,decide_eq_true Hlo.out,decide_eq_true Hhi.out,decide_eq_false hk3,emptyB_t hnm];try rfl),rfl⟩
         ·have t0nm:x.name.toList.isEmpty=false:=by simpa using hnm
          have t1nm:(!x.name.toList.isEmpty)=true:=by simpa using hnm
          go_wp2_with fail
          go_meet
          exact ⟨congrArg Value.bool (by unfold unA;rw [decide_eq_false hk0,hv,decide_eq_false hk1,decide_eq_true Hlo.out,decide_eq_true Hhi.out,decide_eq_false hk3,emptyB_f hnm];try rfl),rfl⟩
       ·have t0hi:(x.hi == 0)=false:=beq_eq_false_iff_ne.2 hhi
        have t1hi:(x.hi != 0)=true:=bne_iff_ne.2 hhi
        go_wp2_with fail
        go_meet
        exact ⟨congrArg Value.bool (by unfold unA;rw [decide_eq_false hk0,hv,decide_eq_false hk1,decide_eq_true Hlo.out,decide_eq_false hhi];try rfl),rfl⟩
      ·have t0lo:(x.lo == 0)=false:=beq_eq_false_iff_ne.2 hlo
       have t1lo:(x.lo != 0)=true:=bne_iff_ne.2 hlo
       go_wp2_with fail
       go_meet
       exact ⟨congrArg Value.bool (by unfold unA;rw [decide_eq_false hk0,hv,decide_eq_false hk1,decide_eq_false hlo];try rfl),rfl⟩
    ·have t0v:bv=false:=by simpa using hv
     go_wp2_with fail
     go_meet
     exact ⟨congrArg Value.bool (by unfold unA;rw [decide_eq_false hk0,(Bool.eq_false_iff.2 hv)];try rfl),rfl⟩
  case rest =>
   obtain ⟨rfl,rfl⟩:=hcut
   generalize unA x bv=b3 at *
   cases b3
   ·go_upto_region 5 with fail
    go_cut [83] (fun s wx=>s=.bool (unB x)∧wx=(w.alloc (.cells (ncells x a).toArray 87)).alloc (.cells #[.int .i64 x.value.kind,.int .i64 x.value.n,.string x.value.s,.slice a.xA x.value.kids.length a.xc] 85))
    case first =>
     by_cases hk2:x.kind=2
     ·have t0k2:(x.kind == 2)=true:=beq_iff_eq.2 hk2
      have t1k2:(x.kind != 2)=false:=by rw [bne_eq_false_iff_eq];exact hk2
      have hk4:¬ x.kind=4:=by omega
      have t0k4:(x.kind == 4)=false:=beq_eq_false_iff_ne.2 hk4
      have t1k4:(x.kind != 4)=true:=bne_iff_ne.2 hk4
      have Hk2:=Lib.hid hk2
      clear hk2
      by_cases hvv:0<x.values.length
      ·have t0vv:decide (0<(x.values.length:Int))=true:=decide_eq_true (by omega)
       have t1vv:((x.values.length:Int) == 0)=false:=beq_eq_false_iff_ne.2 (by omega)
       have t2vv:((x.values.length:Int) != 0)=true:=bne_iff_ne.2 (by omega)
       go_wp2_with fail
       go_meet
       exact ⟨congrArg Value.bool (by unfold unB;rw [decide_eq_false hk4,decide_eq_true Hk2.out,decide_eq_true hvv];try rfl),rfl⟩
      ·have t0vv:decide (0<(x.values.length:Int))=false:=decide_eq_false (by omega)
       have t1vv:((x.values.length:Int) == 0)=true:=beq_iff_eq.2 (by omega)
       have t2vv:((x.values.length:Int) != 0)=false:=by rw [bne_eq_false_iff_eq];omega
       go_wp2_with fail
       go_meet
       exact ⟨congrArg Value.bool (by unfold unB;rw [decide_eq_false hk4,decide_eq_true Hk2.out,decide_eq_false hvv];try rfl),rfl⟩
     ·have t0k2:(x.kind == 2)=false:=beq_eq_false_iff_ne.2 hk2
      have t1k2:(x.kind != 2)=true:=bne_iff_ne.2 hk2
      by_cases hwt:0<x.weights.length
      ·have t0wt:decide (0<(x.weights.length:Int))=true:=decide_eq_true (by omega)
       have t1wt:((x.weights.length:Int) == 0)=false:=beq_eq_false_iff_ne.2 (by omega)
       have t2wt:((x.weights.length:Int) != 0)=true:=bne_iff_ne.2 (by omega)
       go_wp2_with fail
       go_meet
       exact ⟨congrArg Value.bool (by unfold unB;rw [decide_eq_false hk2,decide_eq_true hwt];try rfl),rfl⟩
      ·have t0wt:decide (0<(x.weights.length:Int))=false:=decide_eq_false (by omega)
       have t1wt:((x.weights.length:Int) == 0)=true:=beq_iff_eq.2 (by omega)
       have t2wt:((x.weights.length:Int) != 0)=false:=by rw [bne_eq_false_iff_eq];omega
       by_cases hlb:0<x.labels.length
       ·have t0lb:decide (0<(x.labels.length:Int))=true:=decide_eq_true (by omega)
        have t1lb:((x.labels.length:Int) == 0)=false:=beq_eq_false_iff_ne.2 (by omega)
        have t2lb:((x.labels.length:Int) != 0)=true:=bne_iff_ne.2 (by omega)
        go_wp2_with fail
        go_meet
        exact ⟨congrArg Value.bool (by unfold unB;rw [decide_eq_false hk2,decide_eq_false hwt,decide_eq_true hlb];try rfl),rfl⟩
       ·have t0lb:decide (0<(x.labels.length:Int))=false:=decide_eq_false (by omega)
        have t1lb:((x.labels.length:Int) == 0)=true:=beq_iff_eq.2 (by omega)
        have t2lb:((x.labels.length:Int) != 0)=false:=by rw [bne_eq_false_iff_eq];omega
        by_cases hk4:x.kind=4
        ·have t0k4:(x.kind == 4)=true:=beq_iff_eq.2 hk4
         have t1k4:(x.kind != 4)=false:=by rw [bne_eq_false_iff_eq];exact hk4
         have Hk4:=Lib.hid hk4
         clear hk4
         go_wp2_with fail
         go_meet
         exact ⟨congrArg Value.bool (by unfold unB;rw [decide_eq_false hk2,decide_eq_false hwt,decide_eq_false hlb,decide_eq_true Hk4.out];try rfl),rfl⟩
        ·have t0k4:(x.kind == 4)=false:=beq_eq_false_iff_ne.2 hk4
         have t1k4:(x.kind != 4)=true:=bne_iff_ne.2 hk4
         by_cases hvv:0<x.values.length
         ·have t0vv:decide (0<(x.values.length:Int))=true:=decide_eq_true (by omega)
          have t1vv:((x.values.length:Int) == 0)=false:=beq_eq_false_iff_ne.2 (by omega)
          have t2vv:((x.values.length:Int) != 0)=true:=bne_iff_ne.2 (by omega)
          go_wp2_with fail
          go_meet
          exact ⟨congrArg Value.bool (by unfold unB;rw [decide_eq_false hk2,decide_eq_false hwt,decide_eq_false hlb,decide_eq_false hk4,decide_eq_true hvv];try rfl),rfl⟩
         ·have t0vv:decide (0<(x.values.length:Int))=false:=decide_eq_false (by omega)
          have t1vv:((x.values.length:Int) == 0)=true:=beq_iff_eq.2 (by omega)
          have t2vv:((x.values.length:Int) != 0)=false:=by rw [bne_eq_false_iff_eq];omega
          go_wp2_with fail
          go_meet
          exact ⟨congrArg Value.bool (by unfold unB;rw [decide_eq_false hk2,decide_eq_false hwt,decide_eq_false hlb,decide_eq_false hk4,decide_eq_false hvv];try rfl),rfl⟩
    case rest =>
     obtain ⟨rfl,rfl⟩:=hcut
     generalize unB x=b5 at *
     cases b5
     ·have HU2:=Lib.hid (show unusedB x=unC x by rw [HU.out];rfl)
      by_cases hk0:x.kind=0
      ·have t0k0:(x.kind == 0)=true:=beq_iff_eq.2 hk0
       have t1k0:(x.kind != 0)=false:=by rw [bne_eq_false_iff_eq];exact hk0
       have hk1:¬ x.kind=1:=by omega
       have t0k1:(x.kind == 1)=false:=beq_eq_false_iff_ne.2 hk1
       have t1k1:(x.kind != 1)=true:=bne_iff_ne.2 hk1
       have Hk0:=Lib.hid hk0
       clear hk0
       by_cases hkd:0<x.kids.length
       ·have t0kd:decide (0<(x.kids.length:Int))=true:=decide_eq_true (by omega)
        have t1kd:((x.kids.length:Int) == 0)=false:=beq_eq_false_iff_ne.2 (by omega)
        have t2kd:((x.kids.length:Int) != 0)=true:=bne_iff_ne.2 (by omega)
        go_wp2_with fail
        go_ret
        exact ⟨ret_bool (by rw [HU2.out];unfold unC;rw [decide_eq_true Hk0.out,decide_eq_true hkd];try rfl),((Ext.refl _).alloc' _).alloc' _⟩
       ·have t0kd:decide (0<(x.kids.length:Int))=false:=decide_eq_false (by omega)
        have t1kd:((x.kids.length:Int) == 0)=true:=beq_iff_eq.2 (by omega)
        have t2kd:((x.kids.length:Int) != 0)=false:=by rw [bne_eq_false_iff_eq];omega
        go_wp2_with fail
        go_ret
        exact ⟨ret_bool (by rw [HU2.out];unfold unC;rw [decide_eq_true Hk0.out,decide_eq_false hkd];try rfl),((Ext.refl _).alloc' _).alloc' _⟩
      ·have t0k0:(x.kind == 0)=false:=beq_eq_false_iff_ne.2 hk0
       have t1k0:(x.kind != 0)=true:=bne_iff_ne.2 hk0
       by_cases hk1:x.kind=1
       ·have t0k1:(x.kind == 1)=true:=beq_iff_eq.2 hk1
        have t1k1:(x.kind != 1)=false:=by rw [bne_eq_false_iff_eq];exact hk1
        have Hk1:=Lib.hid hk1
        clear hk1
        by_cases hkd:0<x.kids.length
        ·have t0kd:decide (0<(x.kids.length:Int))=true:=decide_eq_true (by omega)
         have t1kd:((x.kids.length:Int) == 0)=false:=beq_eq_false_iff_ne.2 (by omega)
         have t2kd:((x.kids.length:Int) != 0)=true:=bne_iff_ne.2 (by omega)
         go_wp2_with fail
         go_ret
         exact ⟨ret_bool (by rw [HU2.out];unfold unC;rw [decide_eq_false hk0,decide_eq_true Hk1.out,decide_eq_true hkd];try rfl),((Ext.refl _).alloc' _).alloc' _⟩
        ·have t0kd:decide (0<(x.kids.length:Int))=false:=decide_eq_false (by omega)
         have t1kd:((x.kids.length:Int) == 0)=true:=beq_iff_eq.2 (by omega)
         have t2kd:((x.kids.length:Int) != 0)=false:=by rw [bne_eq_false_iff_eq];omega
         go_wp2_with fail
         go_ret
         exact ⟨ret_bool (by rw [HU2.out];unfold unC;rw [decide_eq_false hk0,decide_eq_true Hk1.out,decide_eq_false hkd];try rfl),((Ext.refl _).alloc' _).alloc' _⟩
       ·have t0k1:(x.kind == 1)=false:=beq_eq_false_iff_ne.2 hk1
        have t1k1:(x.kind != 1)=true:=bne_iff_ne.2 hk1
        go_wp2_with fail
        go_ret
        exact ⟨ret_bool (by rw [HU2.out];unfold unC;rw [decide_eq_false hk0,decide_eq_false hk1];try rfl),((Ext.refl _).alloc' _).alloc' _⟩
     ·go_wp2_with fail
      go_ret
      exact ⟨ret_bool (by rw [HU.out];rfl),((Ext.refl _).alloc' _).alloc' _⟩
   ·go_wp2_with fail
    go_ret
    exact ⟨ret_bool (by rw [HU.out];rfl),((Ext.refl _).alloc' _).alloc' _⟩
section
variable {w w':World}{P Q:Nat→Prop}{A:Option Addr}{n c:Nat}
theorem Ints.le {l:List Int}(h:Ints w P (.slice A n c) l):l.length≤c∧(l.length≤17592186044416∧c≤9223372036854775807):=by
 obtain ⟨A',c',e,h1,h2,_⟩:=h
 injection e with _ _ e
 omega
theorem Vals.le {l:List GV}(h:Vals w P (.slice A n c) l):l.length≤c∧(l.length≤17592186044416∧c≤9223372036854775807):=by
 obtain ⟨A',c',_,e,h1,h2,_⟩:=h
 injection e with _ _ e
 omega
theorem Lst.le {α:Type}{size:Nat}{R:α→List Value→Prop}{l:List α}(h:Lst w P size R (.slice A n c) l):l.length≤c∧(l.length≤17592186044416∧c≤9223372036854775807):=by
 obtain ⟨A',c',_,e,h1,h2,_⟩:=h
 injection e with _ _ e
 omega
theorem Ints.get {l:List Int}(h:Ints w P (.slice A n c) l){i:Nat}(hi:i<l.length) :
  ∃ b off,A=some ⟨b,off,none⟩∧P b∧I64 (l.getD i 0)∧w.cell? ⟨b,off+i,none⟩=some (.int .i64 (l.getD i 0)):=by
 obtain ⟨b,off,c',e,hb,_,_,h1,h2⟩:=h.at_ hi
 injection e with e _ _
 exact ⟨b,off,e,hb,h1,h2⟩
theorem Vals.get {l:List GV}(h:Vals w P (.slice A n c) l){i:Nat}(hi:i<l.length) :
  ∃ b off A' d,A=some ⟨b,off,none⟩∧P b∧VAt w P (l.getD i default) A' d ∧
   w.cell? ⟨b,off+i*4,none⟩=some (.int .i64 (l.getD i default).kind)∧w.cell? ⟨b,off+i*4+1,none⟩=some (.int .i64 (l.getD i default).n) ∧
   w.cell? ⟨b,off+i*4+2,none⟩=some (.string (l.getD i default).s)∧w.cell? ⟨b,off+i*4+3,none⟩=some (.slice A' (l.getD i default).kids.length d):=by
 obtain ⟨b,off,c',A',d,e,hb,_,_,h1,h2⟩:=h.at_ hi
 injection e with e _ _
 exact ⟨b,off,A',d,e,hb,h1,h2⟩
theorem Nds.get {l:List GN}(h:Nds w P (.slice A n c) l){i:Nat}(hi:i<l.length) :
  ∃ b off a,A=some ⟨b,off,none⟩∧P b∧NAt w P (l.getD i default) a∧NCells w b (off+i*12) (l.getD i default) a:=by
 obtain ⟨b,off,c',a,e,hb,ha,hc⟩:=h.at_ hi
 injection e with e _ _
 exact ⟨b,off,a,e,hb,ha,hc⟩
end
def numA (x:GN):Bool:=decide (x.hi<x.lo) || decide (x.lo < -4611686018427387904) || decide (4611686018427387904<x.hi) || decide (x.lo+1099511627776≤x.hi)
def weighB (n:Int):Bool:=decide (1≤n∧n≤1000)
def numbersB (x:GN):Bool:=!numA x && x.weights.all weighB
def NumInv (x:GN)(W:World)(i:Value)(wr:World):Prop:=∃ k:Nat,k≤x.weights.length∧i=.int .i64 k∧wr=W∧numbersB x=(x.weights.drop k).all weighB
set_option maxRecDepth 100000 in
set_option maxHeartbeats 1000000 in
theorem numbers_any (x:GN)(a:NA)(P:Nat→Prop)(w:World)(hx:NAt w P x a) :
  Calls Tryz.prog 110 #[nagg x a] w (RetE (.bool (numbersB x)) w):=by
 have HX:=Lib.hid hx
 have HU:=Lib.hid (show numbersB x=(!numA x && x.weights.all weighB) from rfl)
 obtain ⟨hl,hc⟩:=hx.weights.le
 have hi1:=hx.lo
 have hi2:=hx.hi
 unfold I64 at hi1 hi2
 clear hx
 go_enter Tryz.func110,Tryz.ntmps110
 go_upto_region 1 with fail
 go_cut [26] (fun s wx=>s=.bool (numA x)∧wx=w.alloc (.cells (ncells x a).toArray 87))
 case first =>
  by_cases ha1:x.hi<x.lo
  ·have t0a1:decide (x.hi<x.lo)=true:=decide_eq_true ha1
   go_wp2_with fail
   go_meet
   exact ⟨congrArg Value.bool (by unfold numA;rw [(show decide (x.hi<x.lo)=true from decide_eq_true (by omega))];try rfl),rfl⟩
  ·have t0a1:decide (x.hi<x.lo)=false:=decide_eq_false ha1
   by_cases ha2:x.lo < -4611686018427387904
   ·have t0a2:decide (x.lo < -4611686018427387904)=true:=decide_eq_true ha2
    go_wp2_with fail
    go_meet
    exact ⟨congrArg Value.bool (by unfold numA;rw [(show decide (x.hi<x.lo)=false from decide_eq_false (by omega)),(show decide (x.lo < -4611686018427387904)=true from decide_eq_true (by omega))];try rfl),rfl⟩
   ·have t0a2:decide (x.lo < -4611686018427387904)=false:=decide_eq_false ha2
    by_cases ha3:4611686018427387904<x.hi
    ·have t0a3:decide (4611686018427387904<x.hi)=true:=decide_eq_true ha3
     go_wp2_with fail
     go_meet
     exact ⟨congrArg Value.bool (by unfold numA;rw [(show decide (x.hi<x.lo)=false from decide_eq_false (by omega)),(show decide (x.lo < -4611686018427387904)=false from decide_eq_false (by omega)),(show decide (4611686018427387904<x.hi)=true from decide_eq_true (by omega))];try rfl),rfl⟩
    ·have t0a3:decide (4611686018427387904<x.hi)=false:=decide_eq_false ha3
     by_cases ha4:x.lo+1099511627776≤x.hi
     ·have t0a4:decide (x.lo+1099511627776≤x.hi)=true:=decide_eq_true ha4
      go_wp2_with fail
      go_meet
      exact ⟨congrArg Value.bool (by unfold numA;rw [(show decide (x.hi<x.lo)=false from decide_eq_false (by omega)),(show decide (x.lo < -4611686018427387904)=false from decide_eq_false (by omega)),(show decide (4611686018427387904<x.hi)=false from decide_eq_false (by omega)),(show decide (x.lo+1099511627776≤x.hi)=true from decide_eq_true (by omega))];try rfl),rfl⟩
     ·have t0a4:decide (x.lo+1099511627776≤x.hi)=false:=decide_eq_false ha4
      go_wp2_with fail
      go_meet
      exact ⟨congrArg Value.bool (by unfold numA;rw [(show decide (x.hi<x.lo)=false from decide_eq_false (by omega)),(show decide (x.lo < -4611686018427387904)=false from decide_eq_false (by omega)),(show decide (4611686018427387904<x.hi)=false from decide_eq_false (by omega)),(show decide (x.lo+1099511627776≤x.hi)=false from decide_eq_false (by omega))];try rfl),rfl⟩
 case rest =>
  obtain ⟨rfl,rfl⟩:=hcut
  have HB:=Lib.hid (show Blk (w.alloc (.cells (ncells x a).toArray 87)) w.heap.size 87 (ncells x a).toArray from Blk.new _ _ _)
  have HE:=Lib.hid (show Ext w (w.alloc (.cells (ncells x a).toArray 87)) from (Ext.refl _).alloc' _)
  have hb4:=HB.out.cell' (u:=.slice a.wA x.weights.length a.wc) 4 rfl
  have HW:=Lib.hid (HX.out.weights.ext HE.out)
  generalize w.alloc (.cells (ncells x a).toArray 87)=W at *
  generalize numA x=bn at *
  cases bn
  ·have HU2:=Lib.hid (show numbersB x=(x.weights.drop 0).all weighB by rw [HU.out];rfl)
   go_wp2_with fail
   go_loopw [3] (fun i wr=>NumInv x W i wr) (fun i _=>x.weights.length - (intOf i).toNat)
   case atStart=>exact ⟨0,Nat.zero_le _,rfl,rfl,HU2.out⟩
   case round =>
    obtain ⟨k,hk,rfl,rfl,ht⟩:=hrel
    have HT:=Lib.hid ht
    clear ht
    by_cases hlt:k<x.weights.length
    ·obtain ⟨b1,o1,e1,-,hv,g1⟩:=HW.out.get hlt
     rw [e1] at hb4
     clear e1
     have HD:=Lib.hid (show numbersB x=(weighB (x.weights.getD k 0) && (x.weights.drop (k+1)).all weighB) by rw [HT.out,drop_getD 0 hlt];rfl)
     generalize x.weights.getD k 0=z at *
     clear hv
     by_cases hz1:z<1
     ·have HN:=Lib.hid (show weighB z=false from decide_eq_false (by omega))
      go_wp2_with fail
      go_ret
      exact ⟨ret_bool (by rw [HD.out,HN.out];rfl),HE.out⟩
     ·have tz1:decide (z<1)=false:=decide_eq_false hz1
      by_cases hz2:1000<z
      ·have HN:=Lib.hid (show weighB z=false from decide_eq_false (by omega))
       go_wp2_with fail
       go_ret
       exact ⟨ret_bool (by rw [HD.out,HN.out];rfl),HE.out⟩
      ·have tz2:decide (1000<z)=false:=decide_eq_false hz2
       have HN:=Lib.hid (show weighB z=true from decide_eq_true (by omega))
       go_wp2_with fail
       go_roundw
       case rel=>exact ⟨k+1,by omega,by go_num,rfl,by rw [HD.out,HN.out];rfl⟩
       case measure=>simp [intOf];omega
    ·go_wp2_with fail
     go_ret
     exact ⟨ret_bool (by rw [HT.out,drop_nil (by omega)];rfl),HE.out⟩
  ·go_wp2_with fail
   go_ret
   exact ⟨ret_bool (by rw [HU.out];rfl),HE.out⟩
def sameVsB (a b:List GV):Bool:=decide (a.length=b.length) && (a.zip b).all (fun p=>decide (cmpV p.1 p.2=0))
def SameVInv (a b:List GV)(W:World)(i:Value)(wr:World):Prop:=∃ k:Nat,k≤a.length∧i=.int .i64 k∧Ext W wr∧sameVsB a b=((a.drop k).zip (b.drop k)).all (fun p=>decide (cmpV p.1 p.2=0))
set_option maxRecDepth 100000 in
set_option maxHeartbeats 1000000 in
theorem sameValues_any (a b:List GV)(P Q:Nat→Prop)(va vb:Value)(w:World)(ha:Vals w P va a)(hb:Vals w Q vb b) :
  Calls Tryz.prog 112 #[va,vb] w (RetE (.bool (sameVsB a b)) w):=by
 have HA:=Lib.hid ha
 have HB:=Lib.hid hb
 have HS:=Lib.hid (show sameVsB a b=(decide (a.length=b.length) && (a.zip b).all (fun p=>decide (cmpV p.1 p.2=0))) from rfl)
 obtain ⟨A,c,e,h1,h2⟩:=ha.form
 obtain ⟨A',c',e',h1',h2'⟩:=hb.form
 subst e e'
 clear ha hb
 by_cases hl:a.length=b.length
 ·have HS2:=Lib.hid (show sameVsB a b=((a.drop 0).zip (b.drop 0)).all (fun p=>decide (cmpV p.1 p.2=0)) by rw [HS.out,decide_eq_true hl];rfl)
  have hl1:a.length≤b.length:=by omega
  have hl2:b.length≤a.length:=by omega
  have hne:((a.length:Int) != (b.length:Int))=false:=by rw [bne_eq_false_iff_eq];omega
  clear hl
  go_enter Tryz.func112,Tryz.ntmps112
  go_wp2_with fail
  go_loopw [5] (fun i wr=>SameVInv a b w i wr) (fun i _=>a.length - (intOf i).toNat)
  case atStart=>exact ⟨0,Nat.zero_le _,rfl,Ext.refl _,HS2.out⟩
  case round =>
   obtain ⟨k,hk,rfl,hx,ht⟩:=hrel
   have HT:=Lib.hid ht
   have HX:=Lib.hid hx
   clear ht hx
   by_cases hlt:k<a.length
   ·have hlt':k<b.length:=by omega
    have HD:=Lib.hid (show sameVsB a b=(decide (cmpV (a.getD k default) (b.getD k default)=0) && ((a.drop (k+1)).zip (b.drop (k+1))).all (fun p=>decide (cmpV p.1 p.2=0))) by
     rw [HT.out,drop_getD default hlt,drop_getD default hlt']
     rfl)
    obtain ⟨b1,o1,c1,A1,d1,e1,-,-,-,hv1,g10,g11,g12,g13⟩:=(HA.out.ext HX.out).at_ hlt
    obtain ⟨b2,o2,c2,A2,d2,e2,-,-,-,hv2,g20,g21,g22,g23⟩:=(HB.out.ext HX.out).at_ hlt'
    cases e1
    cases e2
    have HV1:=Lib.hid hv1
    have HV2:=Lib.hid hv2
    clear hv1 hv2
    generalize a.getD k default=x at *
    generalize b.getD k default=y at *
    go_wp2_with fail
    go_still_tail 8,(by kernel_rfl)
    go_wp2_with fail
    refine (refCompareV_any x y A1 A2 d1 d2 P Q _ (HV1.out.ext (Ext.refl _).drew') (HV2.out.ext (Ext.refl _).drew')).mono ?_
    rintro e w1 ⟨rfl,hx1⟩
    have HX1:=Lib.hid (HX.out.trans' ((Ext.refl _).drew'.trans' hx1))
    clear hx1
    by_cases hz:cmpV x y=0
    ·have HZ:=Lib.hid hz
     have tz:(cmpV x y != 0)=false:=by rw [bne_eq_false_iff_eq];exact hz
     clear hz
     go_wp2_with fail
     go_roundw
     case rel=>exact ⟨k+1,by omega,by go_num,HX1.out,by rw [HD.out,decide_eq_true HZ.out];rfl⟩
     case measure=>simp [intOf];omega
    ·have HZ:=Lib.hid hz
     have tz:(cmpV x y != 0)=true:=bne_iff_ne.2 hz
     clear hz
     go_wp2_with fail
     go_ret
     exact ⟨ret_bool (by rw [HD.out,decide_eq_false HZ.out];rfl),HX1.out⟩
   ·go_wp2_with fail
    go_ret
    exact ⟨ret_bool (by rw [HT.out,drop_nil (l:=a) (by omega)];rfl),HX.out⟩
 ·have hne:((a.length:Int) != (b.length:Int))=true:=bne_iff_ne.2 (by omega)
  have HL:=Lib.hid hl
  clear hl
  go_enter Tryz.func112,Tryz.ntmps112
  go_wp2_with fail
  go_ret
  exact ⟨ret_bool (by rw [HS.out,decide_eq_false HL.out];rfl),Ext.refl _⟩
end Go.Proofs.YtkoeecdjijfjnaaGreat
