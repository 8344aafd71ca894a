/- The contract of the reference's formed. Conditions: none. -/
import Derived.Test.YtkoeecdjijfjnaaGreatB3
namespace Go.Proofs.YtkoeecdjijfjnaaGreat
open Go.RowKit
def fmA (x:GN)(bf:Bool):Bool:=!bf || decide (x.kind<0) || decide (4<x.kind)
def fmK (i z:Int):Bool:=decide (z<0) || decide (i≤z)
def fmC (x:GN):Bool:=decide (x.kind=2) && (decide ((x.kids.length:Int)<1) || decide (256<(x.kids.length:Int)) || !decide (x.weights.length=x.kids.length) || (decide (0<x.labels.length) && !decide (x.labels.length=x.kids.length)))
def fmS (x:GN)(bc:Bool):Bool:=(decide (x.kind=3) && (decide (256<(x.kids.length:Int)) || (!emptyB x.name && (!bc || decide (16<(x.kids.length:Int)))))) || (decide (x.kind=4) && !decide (x.kids.length=(x.values.length+1)))
def incB:List GV→Bool
 | a :: b :: l=>decide (cmpV a b<0) && incB (b :: l)
 | _=>true
def formedN (i:Int)(x:GN):Bool:=!fmA x (unusedB x) && (x.kids.all (fun z=>!fmK i z)) && !fmC x && !fmS x (capB x.name) && incB x.values
def FkInv (i:Int)(x:GN)(W:World)(k:Value)(wr:World):Prop:=∃ j:Nat,j≤x.kids.length∧k=.int .i64 j∧W=wr∧(x.kids.all (fun z=>!fmK i z))=((x.kids.drop j).all (fun z=>!fmK i z))
def FvInv (x:GN)(W:World)(k:Value)(wr:World):Prop:=∃ j:Nat,1≤j∧j≤x.values.length+1∧k=.int .i64 j∧Ext W wr∧incB x.values=incB (x.values.drop (j - 1))
theorem incB_short {l:List GV}(h:l.length≤1):incB l=true:=by
 match l,h with
 | [],_=>rfl
 | [_],_=>rfl
set_option maxRecDepth 100000 in
set_option maxHeartbeats 4000000 in
theorem formedN_any (i:Int)(x:GN)(a:NA)(P:Nat→Prop)(w:World)(hx:NAt w P x a) :
  Calls Tryz.prog 108 #[.int .i64 i,nagg x a] w (RetE (.bool (formedN i x)) w):=by
 have HX:=Lib.hid hx
 have HF:=Lib.hid (show formedN i x=(!fmA x (unusedB x) && (x.kids.all (fun z=>!fmK i z)) && !fmC x && !fmS x (capB x.name) && incB x.values) from rfl)
 obtain ⟨hkl,hkc⟩:=hx.kids.le
 obtain ⟨hvl,hvc⟩:=hx.values.le
 have HNM:=Lib.hid hx.name
 clear hx
 go_enter Tryz.func108,Tryz.ntmps108
 go_wp2_with fail
 refine (unused_any x a _).mono ?_
 rintro e w1 ⟨rfl,hx1⟩
 have HBX:=Lib.hid ((Blk.new w 87 (ncells x a).toArray).ext hx1)
 have HE:=Lib.hid (((Ext.refl w).alloc' _).trans' hx1)
 clear hx1
 have hb0:=HBX.out.cell' (u:=.int .i64 x.kind) 0 rfl
 have hb1:=HBX.out.cell' (u:=.string x.name) 1 rfl
 have hb4:=HBX.out.cell' (u:=.slice a.wA x.weights.length a.wc) 4 rfl
 have hb5:=HBX.out.cell' (u:=.slice a.lA x.labels.length a.lc) 5 rfl
 have hb6:=HBX.out.cell' (u:=.slice a.vA x.values.length a.vc) 6 rfl
 have hb7:=HBX.out.cell' (u:=.slice a.kA x.kids.length a.kc) 7 rfl
 generalize unusedB x=bf at *
 go_upto_region 2 with fail
 go_cut [5,23] (fun _ s wx=>s=.bool (fmA x bf)∧w1=wx)
 case first =>
  by_cases hf:bf=true
  ·by_cases hkn:x.kind<0
   ·have t0kn:decide (x.kind<0)=true:=decide_eq_true hkn
    go_wp2_with fail
    go_meet
    exact ⟨congrArg Value.bool (by unfold fmA;rw [hf,(show decide (x.kind<0)=true from decide_eq_true (by omega))];try rfl),rfl⟩
   ·have t0kn:decide (x.kind<0)=false:=decide_eq_false hkn
    by_cases hkp:4<x.kind
    ·have t0kp:decide (4<x.kind)=true:=decide_eq_true hkp
     go_wp2_with fail
     go_meet
     exact ⟨congrArg Value.bool (by unfold fmA;rw [hf,(show decide (x.kind<0)=false from decide_eq_false (by omega)),(show decide (4<x.kind)=true from decide_eq_true (by omega))];try rfl),rfl⟩
    ·have t0kp:decide (4<x.kind)=false:=decide_eq_false hkp
     go_wp2_with fail
     go_meet
     exact ⟨congrArg Value.bool (by unfold fmA;rw [hf,(show decide (x.kind<0)=false from decide_eq_false (by omega)),(show decide (4<x.kind)=false from decide_eq_false (by omega))];try rfl),rfl⟩
  ·have t0f:bf=false:=by simpa using hf
   go_wp2_with fail
   go_meet
   exact ⟨congrArg Value.bool (by unfold fmA;rw [(Bool.eq_false_iff.2 hf)];try rfl),rfl⟩
 case rest =>
  obtain ⟨rfl,rfl⟩:=hcut
  generalize fmA x bf=b2 at *
  cases b2
  ·go_wp2_with fail
   go_loopw [6] (fun k wr=>FkInv i x w1 k wr) (fun k _=>x.kids.length - (intOf k).toNat)
   case atStart=>exact ⟨0,Nat.zero_le _,rfl,rfl,rfl⟩
   case round =>
    obtain ⟨j,hj,rfl,rfl,ht⟩:=hrel
    have HT:=Lib.hid ht
    clear ht
    by_cases hlt:j<x.kids.length
    ·obtain ⟨b1,o1,e1,-,-,g1⟩:=(HX.out.kids.ext HE.out).get hlt
     have HD:=Lib.hid (HT.out.trans (by rw [drop_getD 0 hlt,List.all_cons]))
     have hb70:=hb7
     rw [e1] at hb7
     clear e1
     generalize x.kids.getD j 0=z at *
     go_upto_region 7 with fail
     go_cut [45] (fun s wx=>s=.bool (fmK i z)∧w1=wx)
     case first =>
      by_cases hz0:z<0
      ·have t0z0:decide (z<0)=true:=decide_eq_true hz0
       go_wp2_with fail
       go_meet
       exact ⟨congrArg Value.bool (by unfold fmK;rw [(show decide (z<0)=true from decide_eq_true (by omega))];try rfl),rfl⟩
      ·have t0z0:decide (z<0)=false:=decide_eq_false hz0
       by_cases hzi:i≤z
       ·have t0zi:decide (i≤z)=true:=decide_eq_true hzi
        go_wp2_with fail
        go_meet
        exact ⟨congrArg Value.bool (by unfold fmK;rw [(show decide (z<0)=false from decide_eq_false (by omega)),(show decide (i≤z)=true from decide_eq_true (by omega))];try rfl),rfl⟩
       ·have t0zi:decide (i≤z)=false:=decide_eq_false hzi
        go_wp2_with fail
        go_meet
        exact ⟨congrArg Value.bool (by unfold fmK;rw [(show decide (z<0)=false from decide_eq_false (by omega)),(show decide (i≤z)=false from decide_eq_false (by omega))];try rfl),rfl⟩
     case rest =>
      obtain ⟨rfl,rfl⟩:=hcut
      generalize fmK i z=b7 at *
      cases b7
      ·go_wp2_with fail
       go_roundw
       case rel=>exact ⟨j+1,by omega,by go_num,rfl,HD.out.trans (by simp)⟩
       case measure=>simp [intOf];omega
      ·go_wp2_with fail
       go_ret
       exact ⟨ret_bool (by rw [HF.out,HD.out];simp),HE.out⟩
    ·have HKT:=Lib.hid (show (x.kids.all (fun z=>!fmK i z))=true by rw [HT.out,drop_nil (by omega)];rfl)
     clear HT
     go_upto_region 10 with fail
     go_cut [79] (fun s wx=>s=.bool (fmC x)∧w1=wx)
     case first =>
      by_cases hk2:x.kind=2
      ·have t0k2:(x.kind == 2)=true:=beq_iff_eq.2 hk2
       have t1k2:(x.kind != 2)=false:=by rw [bne_eq_false_iff_eq];exact hk2
       have Hk2:=Lib.hid hk2
       clear hk2
       by_cases hn1:(x.kids.length:Int)<1
       ·have t0n1:decide ((x.kids.length:Int)<1)=true:=decide_eq_true hn1
        go_wp2_with fail
        go_meet
        exact ⟨congrArg Value.bool (by unfold fmC;rw [decide_eq_true Hk2.out,(show decide ((x.kids.length:Int)<1)=true from decide_eq_true (by omega))];try rfl),rfl⟩
       ·have t0n1:decide ((x.kids.length:Int)<1)=false:=decide_eq_false hn1
        by_cases hn256:256<(x.kids.length:Int)
        ·have t0n256:decide (256<(x.kids.length:Int))=true:=decide_eq_true hn256
         go_wp2_with fail
         go_meet
         exact ⟨congrArg Value.bool (by unfold fmC;rw [decide_eq_true Hk2.out,(show decide ((x.kids.length:Int)<1)=false from decide_eq_false (by omega)),(show decide (256<(x.kids.length:Int))=true from decide_eq_true (by omega))];try rfl),rfl⟩
        ·have t0n256:decide (256<(x.kids.length:Int))=false:=decide_eq_false hn256
         by_cases hwn:x.weights.length=x.kids.length
         ·have t0wn:((x.weights.length:Int) != (x.kids.length:Int))=false:=by rw [bne_eq_false_iff_eq];omega
          have t1wn:(x.weights.length != x.kids.length)=false:=by rw [bne_eq_false_iff_eq];exact hwn
          have Hwn:=Lib.hid hwn
          clear hwn
          by_cases hl0:0<x.labels.length
          ·have t0l0:decide (0<(x.labels.length:Int))=true:=decide_eq_true (by omega)
           have t1l0:((x.labels.length:Int) == 0)=false:=beq_eq_false_iff_ne.2 (by omega)
           have t2l0:((x.labels.length:Int) != 0)=true:=bne_iff_ne.2 (by omega)
           by_cases hln:x.labels.length=x.kids.length
           ·have t0ln:((x.labels.length:Int) != (x.kids.length:Int))=false:=by rw [bne_eq_false_iff_eq];omega
            have t1ln:(x.labels.length != x.kids.length)=false:=by rw [bne_eq_false_iff_eq];exact hln
            have Hln:=Lib.hid hln
            clear hln
            go_wp2_with fail
            go_meet
            exact ⟨congrArg Value.bool (by unfold fmC;rw [decide_eq_true Hk2.out,(show decide ((x.kids.length:Int)<1)=false from decide_eq_false (by omega)),(show decide (256<(x.kids.length:Int))=false from decide_eq_false (by omega)),decide_eq_true Hwn.out,decide_eq_true hl0,decide_eq_true Hln.out];try rfl),rfl⟩
           ·have t0ln:((x.labels.length:Int) != (x.kids.length:Int))=true:=bne_iff_ne.2 (by omega)
            have t1ln:(x.labels.length != x.kids.length)=true:=bne_iff_ne.2 hln
            go_wp2_with fail
            go_meet
            exact ⟨congrArg Value.bool (by unfold fmC;rw [decide_eq_true Hk2.out,(show decide ((x.kids.length:Int)<1)=false from decide_eq_false (by omega)),(show decide (256<(x.kids.length:Int))=false from decide_eq_false (by omega)),decide_eq_true Hwn.out,decide_eq_true hl0,decide_eq_false hln];try rfl),rfl⟩
          ·have t0l0:decide (0<(x.labels.length:Int))=false:=decide_eq_false (by omega)
           have t1l0:((x.labels.length:Int) == 0)=true:=beq_iff_eq.2 (by omega)
           have t2l0:((x.labels.length:Int) != 0)=false:=by rw [bne_eq_false_iff_eq];omega
           go_wp2_with fail
           go_meet
           exact ⟨congrArg Value.bool (by unfold fmC;rw [decide_eq_true Hk2.out,(show decide ((x.kids.length:Int)<1)=false from decide_eq_false (by omega)),(show decide (256<(x.kids.length:Int))=false from decide_eq_false (by omega)),decide_eq_true Hwn.out,decide_eq_false hl0];try rfl),rfl⟩
         ·have t0wn:((x.weights.length:Int) != (x.kids.length:Int))=true:=bne_iff_ne.2 (by omega)
          have t1wn:(x.weights.length != x.kids.length)=true:=bne_iff_ne.2 hwn
          go_wp2_with fail
          go_meet
          exact ⟨congrArg Value.bool (by unfold fmC;rw [decide_eq_true Hk2.out,(show decide ((x.kids.length:Int)<1)=false from decide_eq_false (by omega)),(show decide (256<(x.kids.length:Int))=false from decide_eq_false (by omega)),decide_eq_false hwn];try rfl),rfl⟩
      ·have t0k2:(x.kind == 2)=false:=beq_eq_false_iff_ne.2 hk2
       have t1k2:(x.kind != 2)=true:=bne_iff_ne.2 hk2
       go_wp2_with fail
       go_meet
       exact ⟨congrArg Value.bool (by unfold fmC;rw [decide_eq_false hk2];try rfl),rfl⟩
     case rest =>
      obtain ⟨rfl,rfl⟩:=hcut
      generalize fmC x=b10 at *
      cases b10
      ·go_wp2_with fail
       refine (capital151_any _ _ HNM.out).mono ?_
       rintro e w' ⟨rfl,rfl⟩
       generalize capB x.name=bc at *
       go_upto_region 13 with fail
       go_cut [8,115] (fun _ s wx=>s=.bool (fmS x bc)∧w1=wx)
       case first =>
        by_cases hk3:x.kind=3
        ·have t0k3:(x.kind == 3)=true:=beq_iff_eq.2 hk3
         have t1k3:(x.kind != 3)=false:=by rw [bne_eq_false_iff_eq];exact hk3
         have hk4:¬ x.kind=4:=by omega
         have t0k4:(x.kind == 4)=false:=beq_eq_false_iff_ne.2 hk4
         have t1k4:(x.kind != 4)=true:=bne_iff_ne.2 hk4
         have Hk3:=Lib.hid hk3
         clear hk3
         by_cases hm256:256<(x.kids.length:Int)
         ·have t0m256:decide (256<(x.kids.length:Int))=true:=decide_eq_true hm256
          go_wp2_with fail
          go_meet
          exact ⟨congrArg Value.bool (by unfold fmS;rw [decide_eq_true Hk3.out,(show decide (256<(x.kids.length:Int))=true from decide_eq_true (by omega))];try rfl),rfl⟩
         ·have t0m256:decide (256<(x.kids.length:Int))=false:=decide_eq_false hm256
          by_cases hnm:x.name.toList=[]
          ·have t0nm:x.name.toList.isEmpty=true:=by rw [hnm];rfl
           have t1nm:(!x.name.toList.isEmpty)=false:=by rw [hnm];rfl
           go_wp2_with fail
           go_meet
           exact ⟨congrArg Value.bool (by unfold fmS;rw [decide_eq_false hk4,decide_eq_true Hk3.out,(show decide (256<(x.kids.length:Int))=false from decide_eq_false (by omega)),emptyB_t hnm];try rfl),rfl⟩
          ·have t0nm:x.name.toList.isEmpty=false:=by simpa using hnm
           have t1nm:(!x.name.toList.isEmpty)=true:=by simpa using hnm
           by_cases hcp:bc=true
           ·by_cases hm16:16<(x.kids.length:Int)
            ·have t0m16:decide (16<(x.kids.length:Int))=true:=decide_eq_true hm16
             go_wp2_with fail
             go_meet
             exact ⟨congrArg Value.bool (by unfold fmS;rw [decide_eq_true Hk3.out,(show decide (256<(x.kids.length:Int))=false from decide_eq_false (by omega)),emptyB_f hnm,hcp,(show decide (16<(x.kids.length:Int))=true from decide_eq_true (by omega))];try rfl),rfl⟩
            ·have t0m16:decide (16<(x.kids.length:Int))=false:=decide_eq_false hm16
             go_wp2_with fail
             go_meet
             exact ⟨congrArg Value.bool (by unfold fmS;rw [decide_eq_false hk4,decide_eq_true Hk3.out,(show decide (256<(x.kids.length:Int))=false from decide_eq_false (by omega)),emptyB_f hnm,hcp,(show decide (16<(x.kids.length:Int))=false from decide_eq_false (by omega))];try rfl),rfl⟩
           ·have t0cp:bc=false:=by simpa using hcp
            go_wp2_with fail
            go_meet
            exact ⟨congrArg Value.bool (by unfold fmS;rw [decide_eq_true Hk3.out,(show decide (256<(x.kids.length:Int))=false from decide_eq_false (by omega)),emptyB_f hnm,(Bool.eq_false_iff.2 hcp)];try rfl),rfl⟩
        ·have t0k3:(x.kind == 3)=false:=beq_eq_false_iff_ne.2 hk3
         have t1k3:(x.kind != 3)=true:=bne_iff_ne.2 hk3
         by_cases hk4:x.kind=4
         ·have t0k4:(x.kind == 4)=true:=beq_iff_eq.2 hk4
          have t1k4:(x.kind != 4)=false:=by rw [bne_eq_false_iff_eq];exact hk4
          have Hk4:=Lib.hid hk4
          clear hk4
          by_cases hvn:x.kids.length=(x.values.length+1)
          ·have t0vn:((x.kids.length:Int) != ((x.values.length:Int)+1))=false:=by rw [bne_eq_false_iff_eq];omega
           have Hvn:=Lib.hid hvn
           clear hvn
           go_wp2_with fail
           go_meet
           exact ⟨congrArg Value.bool (by unfold fmS;rw [decide_eq_false hk3,decide_eq_true Hk4.out,decide_eq_true Hvn.out];try rfl),rfl⟩
          ·have t0vn:((x.kids.length:Int) != ((x.values.length:Int)+1))=true:=bne_iff_ne.2 (by omega)
           go_wp2_with fail
           go_meet
           exact ⟨congrArg Value.bool (by unfold fmS;rw [decide_eq_false hk3,decide_eq_true Hk4.out,decide_eq_false hvn];try rfl),rfl⟩
         ·have t0k4:(x.kind == 4)=false:=beq_eq_false_iff_ne.2 hk4
          have t1k4:(x.kind != 4)=true:=bne_iff_ne.2 hk4
          go_wp2_with fail
          go_meet
          exact ⟨congrArg Value.bool (by unfold fmS;rw [decide_eq_false hk3,decide_eq_false hk4];try rfl),rfl⟩
       case rest =>
        obtain ⟨rfl,rfl⟩:=hcut
        generalize fmS x bc=b13 at *
        cases b13
        ·go_wp2_with fail
         go_loopw [9] (fun k wr=>FvInv x w1 k wr) (fun k _=>x.values.length+1 - (intOf k).toNat)
         case atStart=>exact ⟨1,by omega,by omega,rfl,Ext.refl _,rfl⟩
         case round =>
          obtain ⟨j,hj1,hj2,rfl,hxr,ht⟩:=hrel
          have HT:=Lib.hid ht
          have HXR:=Lib.hid hxr
          have hr6:=cell_ext hxr hb6
          clear ht hxr
          by_cases hlt':j<x.values.length
          ·obtain ⟨q,rfl⟩:∃ q,j=q+1:=⟨j - 1,by omega⟩
           have hq:q<x.values.length:=by omega
           obtain ⟨v1,o1,A1,d1,e1,-,hv1,g10,g11,g12,g13⟩:=(HX.out.values.ext (HE.out.trans' HXR.out)).get hq
           obtain ⟨v2,o2,A2,d2,e2,-,hv2,g20,g21,g22,g23⟩:=(HX.out.values.ext (HE.out.trans' HXR.out)).get hlt'
           rw [e1] at e2 hr6
           injection e2 with e2
           injection e2 with e21 e22
           subst e21 e22
           have HD:=Lib.hid (show incB x.values=(decide (cmpV (x.values.getD q default) (x.values.getD (q+1) default)<0) && incB (x.values.drop (q+1))) by
            rw [HT.out,Nat.add_sub_cancel,drop_getD default hq,drop_getD default hlt']
            rfl)
           have HV1:=Lib.hid hv1
           have HV2:=Lib.hid hv2
           clear e1 hv1 hv2
           generalize x.values.getD q default=y1 at *
           generalize x.values.getD (q+1) default=y2 at *
           have hq1:(0:Int)≤(q:Int)+1:=by omega
           have hq2:((q:Int)+1).toNat=q+1:=by omega
           have hq3:IntKind.i64.wrap ((q:Int)+1 - 1)=(q:Int):=by rw [IntWalk.i64_in _ (by omega)];omega
           have hq4:IntKind.i64.wrap (q:Int)=(q:Int):=IntWalk.i64_in _ (by omega)
           have hq5:wrap64 (q:Int)=(q:Int):=IntWalk.wrap64_in _ (by omega)
           go_wp2_with fail
           go_still_tail 11,(by kernel_rfl)
           clear hq1 hq2 hq3 hq4 hq5
           go_wp2_with fail
           refine (refCompareV_any y1 y2 A1 A2 d1 d2 P P _ (HV1.out.ext (Ext.refl _).drew') (HV2.out.ext (Ext.refl _).drew')).mono ?_
           rintro e w2 ⟨rfl,hx2⟩
           have HX2:=Lib.hid (HXR.out.trans' ((Ext.refl _).drew'.trans' hx2))
           clear hx2
           by_cases hz:cmpV y1 y2<0
           ·have tz:decide (0≤cmpV y1 y2)=false:=decide_eq_false (by omega)
            have HZ:=Lib.hid hz
            go_wp2_with fail
            go_roundw
            case rel=>exact ⟨q+2,by omega,by omega,by go_num,HX2.out,by rw [HD.out,decide_eq_true HZ.out];rfl⟩
            case measure=>simp [intOf];omega
           ·have tz:decide (0≤cmpV y1 y2)=true:=decide_eq_true (by omega)
            have HZ:=Lib.hid hz
            go_wp2_with fail
            go_ret
            exact ⟨ret_bool (by rw [HF.out,HD.out,decide_eq_false (show ¬ cmpV y1 y2<0 by have:=HZ.out;omega)];simp),HE.out.trans' HX2.out⟩
          ·have HZ:=Lib.hid (show incB x.values=true by rw [HT.out];exact incB_short (by rw [List.length_drop];omega))
           go_wp2_with fail
           go_ret
           exact ⟨ret_bool (by rw [HF.out,HKT.out,HZ.out];rfl),HE.out.trans' HXR.out⟩
        ·go_wp2_with fail
         go_ret
         exact ⟨ret_bool (by rw [HF.out];simp),HE.out⟩
      ·go_wp2_with fail
       go_ret
       exact ⟨ret_bool (by rw [HF.out];simp),HE.out⟩
  ·go_wp2_with fail
   go_ret
   exact ⟨ret_bool (by rw [HF.out];rfl),HE.out⟩
end Go.Proofs.YtkoeecdjijfjnaaGreat
