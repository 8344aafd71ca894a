/- Contracts of functions. Conditions: none. -/
import Derived.Test.YtkoeecdjijfjnaaGreatB6
import Derived.Test.YtkoeecdjijfjnaaGreatPlA
set_option maxRecDepth 100000
set_option maxHeartbeats 8000000
namespace Go.Proofs.YtkoeecdjijfjnaaGreat
open Go.RowKit
def fmA (x:GN)(bf:Bool):Bool:=!bf || decide (x.kind<0) || decide (4<x.kind)
def fmK (i z:Int):Bool:=decide (z<0) || decide (i<=z)
def fmC (x:GN):Bool:=decide (x.kind=2) && (decide ((x.kids.length:Int)<1) || decide (256<(x.kids.length:Int)) || !decide (x.weights.length=x.kids.length) || (decide (0<x.labels.length) && !decide (x.labels.length=x.kids.length)))
def fmS (x:GN)(bc:Bool):Bool:=(decide (x.kind=3) && (decide (256<(x.kids.length:Int)) || (!aY x.name && (!bc || decide (16<(x.kids.length:Int)))))) || (decide (x.kind=4) && !decide (x.kids.length=(x.values.length+1)))
def pM:List GV->Bool
 | a :: b :: l=>decide (cH a b<0) && pM (b :: l)
 | _=>true
def eI (i:Int)(x:GN):Bool:=!fmA x (gT x) && (x.kids.all (fun z=>!fmK i z)) && !fmC x && !fmS x (qD x.name) && pM x.values
def aT8 (i:Int)(x:GN)(W:World)(k:Value)(wr:World):Prop:=∃ j:Nat,j<=x.kids.length∧k=↑j∧W=wr∧(x.kids.all (fun z=>!fmK i z))=((x.kids.drop j).all (fun z=>!fmK i z))
def aT7 (x:GN)(W:World)(k:Value)(wr:World):Prop:=∃ j:Nat,1<=j∧j<=x.values.length+1∧k=↑j∧Ext W wr∧pM x.values=pM (x.values.drop (j - 1))
theorem mZ {l:List GV}(h:l.length<=1):pM l=true:=by
 match l,h with
 | [],_=>rfl
 | [_],_=>rfl
theorem pP (i:Int)(x:GN)(a:NA)(P:Nat->Prop)(w:World)(hx:NAt w P x a) :
  Calls Tryz.prog 108 #[↑i,jJ x a] w (dV (.bool (eI i x)) w):=by
 have HX:=aYl hx;have HF:=aYl (show eI i x=(!fmA x (gT x) && (x.kids.all (fun z=>!fmK i z)) && !fmC x && !fmS x (qD x.name) && pM x.values) from rfl);obtain ⟨hkl,hkc⟩:=hx.kids.le;obtain ⟨hvl,hvc⟩:=hx.values.le;have HNM:=aYl hx.name;clear hx;go_enter Tryz.func108,Tryz.ntmps108;go_wp2_with fail;refine (aBt x a _).mono ?_;rintro e w1 ⟨rfl,hx1⟩;have HBX:=aYl ((Blk.new w 87 (aL x a).toArray).ext hx1);have HE:=aYl (((Ext.refl w).alloc' _).trans' hx1);clear hx1;have hb0:=HBX.out.cell' (u:=↑x.kind) 0 rfl;have hb1:=HBX.out.cell' (u:=.string x.name) 1 rfl;have hb4:=HBX.out.cell' (u:=.slice a.wA x.weights.length a.wc) 4 rfl;have hb5:=HBX.out.cell' (u:=.slice a.lA x.labels.length a.lc) 5 rfl;have hb6:=HBX.out.cell' (u:=.slice a.vA x.values.length a.vc) 6 rfl;have hb7:=HBX.out.cell' (u:=.slice a.kA x.kids.length a.kc) 7 rfl;generalize gT x=bf at *;go_upto_region 2 with fail;go_cut [5,23] (fun _ s wx=>s=.bool (fmA x bf)∧w1=wx)
 case first =>
  by_cases hf:bf=true
  ·by_cases hkn:x.kind<0
   ·have t0kn:decide (x.kind<0)=true:=aYo hkn
    go_wp2_with fail;go_meet;exact ⟨congrArg Value.bool (by unfold fmA;rw [hf,(show decide (x.kind<0)=true from aYo U)];try rfl),rfl⟩
   ·have t0kn:decide (x.kind<0)=false:=aYp hkn
    by_cases hkp:4<x.kind
    ·have t0kp:decide (4<x.kind)=true:=aYo hkp
     go_wp2_with fail;go_meet;exact ⟨congrArg Value.bool (by unfold fmA;rw [hf,(show decide (x.kind<0)=false from aYp U),(show decide (4<x.kind)=true from aYo U)];try rfl),rfl⟩
    ·have t0kp:decide (4<x.kind)=false:=aYp hkp
     go_wp2_with fail;go_meet;exact ⟨congrArg Value.bool (by unfold fmA;rw [hf,(show decide (x.kind<0)=false from aYp U),(show decide (4<x.kind)=false from aYp U)];try rfl),rfl⟩
  ·have t0f:bf=false:=by simpa using hf
   go_wp2_with fail;go_meet;exact ⟨congrArg Value.bool (by unfold fmA;rw [(Bool.eq_false_iff.2 hf)];try rfl),rfl⟩
 case rest =>
  obtain ⟨rfl,rfl⟩:=hcut;generalize fmA x bf=b2 at *
  cases b2
  ·go_wp2_with fail
   go_loopw [6] (fun k wr=>aT8 i x w1 k wr) (fun k _=>x.kids.length - (intOf k).toNat)
   case atStart=>exact ⟨0,Nat.zero_le _,rfl,rfl,rfl⟩
   case round =>
    obtain ⟨j,hj,rfl,rfl,ht⟩:=hrel;have HT:=aYl ht;clear ht
    by_cases hlt:j<x.kids.length
    ·obtain ⟨b1,o1,e1,-,-,g1⟩:=(HX.out.kids.ext HE.out).get hlt
     have HD:=aYl (HT.out.trans (by rw [aG 0 hlt,List.all_cons]));rw [e1] at hb7;clear e1;generalize x.kids.getD j 0=z at *;go_upto_region 7 with fail;go_cut [45] (fun s wx=>s=.bool (fmK i z)∧w1=wx)
     case first =>
      by_cases hz0:z<0
      ·have t0z0:decide (z<0)=true:=aYo hz0
       go_wp2_with fail;go_meet;exact ⟨congrArg Value.bool (by unfold fmK;rw [(show decide (z<0)=true from aYo U)];try rfl),rfl⟩
      ·have t0z0:decide (z<0)=false:=aYp hz0
       by_cases hzi:i<=z
       ·have t0zi:decide (i<=z)=true:=aYo hzi
        go_wp2_with fail;go_meet;exact ⟨congrArg Value.bool (by unfold fmK;rw [(show decide (z<0)=false from aYp U),(show decide (i<=z)=true from aYo U)];try rfl),rfl⟩
       ·have t0zi:decide (i<=z)=false:=aYp hzi
        go_wp2_with fail;go_meet;exact ⟨congrArg Value.bool (by unfold fmK;rw [(show decide (z<0)=false from aYp U),(show decide (i<=z)=false from aYp U)];try rfl),rfl⟩
     case rest =>
      obtain ⟨rfl,rfl⟩:=hcut;generalize fmK i z=b7 at *
      cases b7
      ·go_wp2_with fail
       go_roundw
       case rel=>exact ⟨j+1,U,by go_num,rfl,HD.out.trans Y⟩
       case measure=>simp [intOf];omega
      ·go_wp2_with fail
       go_ret;exact ⟨aC (by rw [HF.out,HD.out];simp),HE.out⟩
    ·have HKT:=aYl (show (x.kids.all (fun z=>!fmK i z))=true by rw [HT.out,drop_nil U];rfl)
     clear HT;go_upto_region 10 with fail;go_cut [79] (fun s wx=>s=.bool (fmC x)∧w1=wx)
     case first =>
      by_cases hk2:x.kind=2
      ·have t0k2:(x.kind == 2)=true:=aYn hk2
       have Hk2:=aYl hk2;clear hk2
       by_cases hn1:(x.kids.length:Int)<1
       ·have t0n1:decide ((x.kids.length:Int)<1)=true:=aYo hn1
        go_wp2_with fail;go_meet;exact ⟨congrArg Value.bool (by unfold fmC;rw [aYo Hk2.out,(show decide ((x.kids.length:Int)<1)=true from aYo U)];try rfl),rfl⟩
       ·have t0n1:decide ((x.kids.length:Int)<1)=false:=aYp hn1
        by_cases hn256:256<(x.kids.length:Int)
        ·have t0n256:decide (256<(x.kids.length:Int))=true:=aYo hn256
         go_wp2_with fail;go_meet;exact ⟨congrArg Value.bool (by unfold fmC;rw [aYo Hk2.out,(show decide ((x.kids.length:Int)<1)=false from aYp U),(show decide (256<(x.kids.length:Int))=true from aYo U)];try rfl),rfl⟩
        ·have t0n256:decide (256<(x.kids.length:Int))=false:=aYp hn256
         by_cases hwn:x.weights.length=x.kids.length
         ·have t0wn:((x.weights.length:Int) != (x.kids.length:Int))=false:=by rw [bne_eq_false_iff_eq];omega
          have Hwn:=aYl hwn;clear hwn
          by_cases hl0:0<x.labels.length
          ·have t0l0:decide (0<(x.labels.length:Int))=true:=aYo U
           have t2l0:((x.labels.length:Int) != 0)=true:=bne_iff_ne.2 U
           by_cases hln:x.labels.length=x.kids.length
           ·have t0ln:((x.labels.length:Int) != (x.kids.length:Int))=false:=by rw [bne_eq_false_iff_eq];omega
            have Hln:=aYl hln;clear hln;go_wp2_with fail;go_meet;exact ⟨congrArg Value.bool (by unfold fmC;rw [aYo Hk2.out,(show decide ((x.kids.length:Int)<1)=false from aYp U),(show decide (256<(x.kids.length:Int))=false from aYp U),aYo Hwn.out,aYo hl0,aYo Hln.out];try rfl),rfl⟩
           ·have t0ln:((x.labels.length:Int) != (x.kids.length:Int))=true:=bne_iff_ne.2 U
            go_wp2_with fail;go_meet;exact ⟨congrArg Value.bool (by unfold fmC;rw [aYo Hk2.out,(show decide ((x.kids.length:Int)<1)=false from aYp U),(show decide (256<(x.kids.length:Int))=false from aYp U),aYo Hwn.out,aYo hl0,aYp hln];try rfl),rfl⟩
          ·have t0l0:decide (0<(x.labels.length:Int))=false:=aYp U
           have t2l0:((x.labels.length:Int) != 0)=false:=ft
           go_wp2_with fail;go_meet;exact ⟨congrArg Value.bool (by unfold fmC;rw [aYo Hk2.out,(show decide ((x.kids.length:Int)<1)=false from aYp U),(show decide (256<(x.kids.length:Int))=false from aYp U),aYo Hwn.out,aYp hl0];try rfl),rfl⟩
         ·have t0wn:((x.weights.length:Int) != (x.kids.length:Int))=true:=bne_iff_ne.2 U
          go_wp2_with fail;go_meet;exact ⟨congrArg Value.bool (by unfold fmC;rw [aYo Hk2.out,(show decide ((x.kids.length:Int)<1)=false from aYp U),(show decide (256<(x.kids.length:Int))=false from aYp U),aYp hwn];try rfl),rfl⟩
      ·have t0k2:(x.kind == 2)=false:=aYm hk2
       go_wp2_with fail;go_meet;exact ⟨congrArg Value.bool (by unfold fmC;rw [aYp hk2];try rfl),rfl⟩
     case rest =>
      obtain ⟨rfl,rfl⟩:=hcut;generalize fmC x=b10 at *
      cases b10
      ·go_wp2_with fail
       refine (rA _ _ HNM.out).mono ?_;rintro e w' ⟨rfl,rfl⟩;generalize qD x.name=bc at *;go_upto_region 13 with fail;go_cut [8,115] (fun _ s wx=>s=.bool (fmS x bc)∧w1=wx)
       case first =>
        by_cases hk3:x.kind=3
        ·have t0k3:(x.kind == 3)=true:=aYn hk3
         have hk4:¬ x.kind=4:=U
         have t0k4:(x.kind == 4)=false:=aYm hk4;have Hk3:=aYl hk3;clear hk3
         by_cases hm256:256<(x.kids.length:Int)
         ·have t0m256:decide (256<(x.kids.length:Int))=true:=aYo hm256
          go_wp2_with fail;go_meet;exact ⟨congrArg Value.bool (by unfold fmS;rw [aYo Hk3.out,(show decide (256<(x.kids.length:Int))=true from aYo U)];try rfl),rfl⟩
         ·have t0m256:decide (256<(x.kids.length:Int))=false:=aYp hm256
          by_cases hnm:x.name.toList=[]
          ·have t0nm:x.name.toList.isEmpty=true:=by rw [hnm];rfl
           go_wp2_with fail;go_meet;exact ⟨congrArg Value.bool (by unfold fmS;rw [aYp hk4,aYo Hk3.out,(show decide (256<(x.kids.length:Int))=false from aYp U),gQ hnm];try rfl),rfl⟩
          ·have t0nm:x.name.toList.isEmpty=false:=by simpa using hnm
           by_cases hcp:bc=true
           ·by_cases hm16:16<(x.kids.length:Int)
            ·have t0m16:decide (16<(x.kids.length:Int))=true:=aYo hm16
             go_wp2_with fail;go_meet;exact ⟨congrArg Value.bool (by unfold fmS;rw [aYo Hk3.out,(show decide (256<(x.kids.length:Int))=false from aYp U),gR hnm,hcp,(show decide (16<(x.kids.length:Int))=true from aYo U)];try rfl),rfl⟩
            ·have t0m16:decide (16<(x.kids.length:Int))=false:=aYp hm16
             go_wp2_with fail;go_meet;exact ⟨congrArg Value.bool (by unfold fmS;rw [aYp hk4,aYo Hk3.out,(show decide (256<(x.kids.length:Int))=false from aYp U),gR hnm,hcp,(show decide (16<(x.kids.length:Int))=false from aYp U)];try rfl),rfl⟩
           ·have t0cp:bc=false:=by simpa using hcp
            go_wp2_with fail;go_meet;exact ⟨congrArg Value.bool (by unfold fmS;rw [aYo Hk3.out,(show decide (256<(x.kids.length:Int))=false from aYp U),gR hnm,(Bool.eq_false_iff.2 hcp)];try rfl),rfl⟩
        ·have t0k3:(x.kind == 3)=false:=aYm hk3
         by_cases hk4:x.kind=4
         ·have t0k4:(x.kind == 4)=true:=aYn hk4
          have Hk4:=aYl hk4;clear hk4
          by_cases hvn:x.kids.length=(x.values.length+1)
          ·have t0vn:((x.kids.length:Int) != ((x.values.length:Int)+1))=false:=by rw [bne_eq_false_iff_eq];omega
           have Hvn:=aYl hvn;clear hvn;go_wp2_with fail;go_meet;exact ⟨congrArg Value.bool (by unfold fmS;rw [aYp hk3,aYo Hk4.out,aYo Hvn.out];try rfl),rfl⟩
          ·have t0vn:((x.kids.length:Int) != ((x.values.length:Int)+1))=true:=bne_iff_ne.2 U
           go_wp2_with fail;go_meet;exact ⟨congrArg Value.bool (by unfold fmS;rw [aYp hk3,aYo Hk4.out,aYp hvn];try rfl),rfl⟩
         ·have t0k4:(x.kind == 4)=false:=aYm hk4
          go_wp2_with fail;go_meet;exact ⟨congrArg Value.bool (by unfold fmS;rw [aYp hk3,aYp hk4];try rfl),rfl⟩
       case rest =>
        obtain ⟨rfl,rfl⟩:=hcut;generalize fmS x bc=b13 at *
        cases b13
        ·go_wp2_with fail
         go_loopw [9] (fun k wr=>aT7 x w1 k wr) (fun k _=>x.values.length+1 - (intOf k).toNat)
         case atStart=>exact ⟨1,U,U,rfl,Ext.refl _,rfl⟩
         case round =>
          obtain ⟨j,hj1,hj2,rfl,hxr,ht⟩:=hrel;have HT:=aYl ht;have HXR:=aYl hxr;have hr6:=aA hxr hb6;clear ht hxr
          by_cases hlt':j<x.values.length
          ·obtain ⟨q,rfl⟩:∃ q,j=q+1:=⟨j - 1,U⟩
           have hq:q<x.values.length:=U
           obtain ⟨v1,o1,A1,d1,e1,-,hv1,g10,g11,g12,g13⟩:=(HX.out.values.ext (HE.out.trans' HXR.out)).get hq;obtain ⟨v2,o2,A2,d2,e2,-,hv2,g20,g21,g22,g23⟩:=(HX.out.values.ext (HE.out.trans' HXR.out)).get hlt';rw [e1] at e2 hr6;injection e2 with e2;injection e2 with e21 e22;subst e21 e22
           have HD:=aYl (show pM x.values=(decide (cH (x.values.getD q default) (x.values.getD (q+1) default)<0) && pM (x.values.drop (q+1))) by
            rw [HT.out,Nat.add_sub_cancel,aG default hq,aG default hlt']
            rfl)
           have HV1:=aYl hv1;have HV2:=aYl hv2;clear e1 hv1 hv2;generalize x.values.getD q default=y1 at *;generalize x.values.getD (q+1) default=y2 at *;have hq1:(0:Int)<=(q:Int)+1:=by omega
           have hq2:((q:Int)+1).toNat=q+1:=U
           have hq3:IntKind.i64.wrap ((q:Int)+1 - 1)=(q:Int):=by rw [IntWalk.i64_in _ U];omega
           have hq4:IntKind.i64.wrap (q:Int)=(q:Int):=IntWalk.i64_in _ U;have hq5:wrap64 (q:Int)=(q:Int):=IntWalk.wrap64_in _ U;go_wp2_with fail;go_still_tail 11,aa;clear hq1 hq2 hq3 hq4 hq5;go_wp2_with fail;refine (gF y1 y2 A1 A2 d1 d2 P P _ (HV1.out.ext (Ext.refl _).drew') (HV2.out.ext (Ext.refl _).drew')).mono ?_;rintro e w2 ⟨rfl,hx2⟩;have HX2:=aYl (HXR.out.trans' ((Ext.refl _).drew'.trans' hx2));clear hx2
           by_cases hz:cH y1 y2<0
           ·have tz:decide (0<=cH y1 y2)=false:=aYp U
            have HZ:=aYl hz;go_wp2_with fail;go_roundw
            case rel=>exact ⟨q+2,U,U,by go_num,HX2.out,gi⟩
            case measure=>simp [intOf];omega
           ·have tz:decide (0<=cH y1 y2)=true:=aYo U
            have HZ:=aYl hz;go_wp2_with fail;go_ret;exact ⟨aC (by rw [HF.out,HD.out,aYp (show ¬ cH y1 y2<0 by have:=HZ.out;omega)];simp),HE.out.trans' HX2.out⟩
          ·have HZ:=aYl (show pM x.values=true by rw [HT.out];exact mZ (by rw [List.length_drop];omega))
           go_wp2_with fail;go_ret;exact ⟨aC (by rw [HF.out,HKT.out,HZ.out];rfl),HE.out.trans' HXR.out⟩
        ·go_wp2_with fail
         go_ret;exact ⟨aC (by rw [HF.out];simp),HE.out⟩
      ·go_wp2_with fail
       go_ret;exact ⟨aC (by rw [HF.out];simp),HE.out⟩
  ·go_wp2_with fail
   go_ret;exact ⟨aC (by rw [HF.out];rfl),HE.out⟩
section
variable {P:Program}
theorem aI (w:World){ops:Array Oper}{rest:List Oper}{o:Oper}{a:Act}{Q:Exit->Act->World->Prop}(hgd:o.guard=none)(s x:Operand)(t:TypeId)
  (ho:o.op=.call { callee:=.builtin .append,args:=#[s,x],argTypes:=#[t,t] })
  (B:Nat)(e:TypeId)(i:TypeInfo)(z:Value)(size bytes:Nat)(ht:P.underlying t=some (.slice e))(hi:P.info? e=some i)(hz:i.zero=some z)
  (hsize:i.size=size)(hby:i.bytes=bytes)(hzs:z.cells.size=size)(hsz:0<size)
  (v:Value)(n:Nat)(xs:List Value)(hs:a.eval s=v)(hown:w.ownsRow B e size v n xs)
  (S:Nat->Prop)(A:Option Addr)(m c:Nat)(news:List Value)(hx:a.eval x=.slice A m c)(hr:Sl w S size A m news)(h1:∀ u ∈ news,u.oneCell'=true)
  (h63:n+m<=1000000000000)(hbytes:(n+m)*bytes<=140737488355328)(hbase:B<=w.heap.size)
  (h:∀ v' w',w'.ownsRow B e size v' (n+m) (xs ++ news)->Below B w w'->wpList P ops Q rest (a.put o.dst v') w'):wpList P ops Q (o :: rest) a w :=
 aK w hgd s x t ho B e i z size bytes ht hi hz hsize hby hzs hsz v n xs hs hown S A m c news hx hr h1 h63 hbytes hbase fun v' w' h2 h3 _ =>
  h v' w' h2 ⟨h3.os,h3.tape,h3.output,h3.size,fun k hk=>h3.block k U (fun e=>by have:=hown.block_ge e.symm;omega)⟩
end
theorem Sl.len_cast {w:World}{P:Nat->Prop}{size:Nat}{A:Option Addr}{n m:Nat}{cs:List Value}(h:Sl w P size A n cs)(e:n=m):Sl w P size A m cs:=e ▸ h
def cQ:List GV->Int
 | []=>0
 | v :: vs=>if eE v=0 then cQ vs else eE v
def bT (x:GN):List GV:=if x.kind=0 then x.value :: x.values else x.values
def gV (i:Int)(x:GN):Int :=
 if eI i x=false then 1 else if cQ (bT x)=0 then (if bF x then 0 else 5) else cQ (bT x)
def aFx (l:List GV)(W:World)(k:Value)(wr:World):Prop:=∃ j:Nat,j<=l.length∧k=↑j∧Ext W wr∧cQ l=cQ (l.drop j)
theorem aK6 (i:Int)(x:GN)(a:NA)(P:Nat->Prop)(w:World)(hx:NAt w P x a)(hvl:x.values.length<=1000000)(hk:x.kind=0) :
  Calls Tryz.prog 57 #[↑i,jJ x a] w (dV (.int .i64 (gV i x)) w):=by
 have HX:=aYl hx;have HN:=aYl (show gV i x=if eI i x=false then 1 else if cQ (bT x)=0 then (if bF x then 0 else 5) else cQ (bT x) from rfl);have HOV:=aYl (show bT x=[x.value] ++ x.values by unfold bT;rw [if_pos hk];rfl);have t0:(x.kind == 0)=true:=aYn hk;obtain ⟨hvl1,hvl2⟩:=hx.values.le;clear hx hk;obtain ⟨i0,hi,hz0,hz1,hz2⟩:=info_parts Tryz.info85;have HI:=aYl hi;clear hi;go_enter Tryz.func57,Tryz.ntmps57;go_wp2_with fail;refine (pP i x a P _ (HX.out.ext ((Ext.refl _).alloc' _))).mono ?_;rintro e w1 ⟨rfl,hx1⟩;have HBX:=aYl ((Blk.new w 87 (aL x a).toArray).ext hx1);have HE:=aYl (((Ext.refl w).alloc' _).trans' hx1);clear hx1;have hb0:=HBX.out.cell' (u:=↑x.kind) 0 rfl;have hb6:=HBX.out.cell' (u:=.slice a.vA x.values.length a.vc) 6 rfl;have hb8:=HBX.out.cell' (u:=↑x.value.kind) 8 rfl;have hb9:=HBX.out.cell' (u:=↑x.value.n) 9 rfl;have hb10:=HBX.out.cell' (u:=.string x.value.s) 10 rfl;have hb11:=HBX.out.cell' (u:=.slice a.xA x.value.kids.length a.xc) 11 rfl;generalize eI i x=bf at *
 cases bf
 ·go_wp2_with fail
  go_ret;exact ⟨aH (by rw [HN.out];rfl),HE.out⟩
 ·have lw:=HBX.out.lt
  obtain ⟨vA,vc,css,ev,_,_,hvs,hvr⟩:=(HX.out.values.ext HE.out);injection ev with ev1 _ ev2;rw [<- ev1] at hvs;have HVS:=aYl hvs;have HVR:=aYl hvr;clear ev1 ev2 hvs hvr
  go_wp2_with (first
   | (at_builtin;refine aI _ rfl (.tmp 18) (.tmp 21) 83 al w1.heap.size 85 i0 _ 4 56 Tryz.underlying83 HI.out hz0 hz1 hz2 rfl U (.slice none 0 0) 0 [] rfl (aN _ _ _ _) (fun _=>True) (some ⟨w1.heap.size,0,none⟩) 1 1 [.int .i64 x.value.kind,.int .i64 x.value.n,.string x.value.s,.slice a.xA x.value.kids.length a.xc] rfl (Sl.new w1 _ _ _ _ rfl) af U U Y ?_;intro v2 w2 ho2 hbl2;have hw2:Below w1.heap.size w1 w2:=((Below.refl _ w1).alloc (Nat.le_refl _) _).trans hbl2;have hc6:w2.cell? ⟨w.heap.size,6,none⟩=some (.slice a.vA x.values.length a.vc):=(hw2.cell (p:=⟨w.heap.size,6,none⟩) lw).trans hb6;clear hbl2)
   | (at_builtin;refine aI _ rfl (.tmp 23) (.tmp 25) 83 al w1.heap.size 85 i0 _ 4 56 Tryz.underlying83 HI.out hz0 hz1 hz2 rfl U v2 _ _ rfl ho2 P a.vA x.values.length a.vc css rfl (HVS.out.ext hw2) HVR.out.oneCell U U hw2.size ?_;intro v3 w3 ho3 hbl3;have hw3:Below w1.heap.size w1 w3:=hw2.trans hbl3;clear hbl3 hc6))
  have hw3':Ext w1 w3:=hw3;have HW3:=aYl hw3';clear hw3'
  have HVL:=aYl (show bV w3 (fun b=>P b∨w1.heap.size<=b) v3 (bT x) by
   rw [HOV.out];obtain ⟨A,c,e,h1,h2,h3⟩:=Sl.of_own ho3;unfold maxLen at h2;refine ⟨A,c,_,by rw [e];congr 1;simp;omega,ab,⟨ab,h2⟩,(h3 _ (fun b hb=>.inr (ho3.block_ge hb))).len_cast ab,?_⟩;exact RVs.keep (P:=P) (fun _ _ _=>rfl) (fun _ h=>.inl h) (RVs.append (RVs.append (show RVs w3 P [] [] from rfl) (RVs.one ((HX.out.value.ext (HE.out.trans' HW3.out)).rv))) (RVs.keep (aB.of_ext HW3.out) (fun _ h=>h) HVR.out)))
  clear ho3 hw3 ho2 hw2;obtain ⟨AL,cL,eL,hL1,hL2⟩:=HVL.out.form;subst eL;go_loopw [7] (fun k wr=>aFx (bT x) w3 k wr) (fun k _=>(bT x).length - (intOf k).toNat)
  case atStart=>exact ⟨0,Nat.zero_le _,rfl,Ext.refl _,rfl⟩
  case round =>
   obtain ⟨j,hj,rfl,hxr,ht⟩:=hrel;have HT:=aYl ht;have HXR:=aYl hxr;clear ht hxr
   by_cases hlt:j<(bT x).length
   ·obtain ⟨b1,o1,A1,d1,rfl,-,hv1,g10,g11,g12,g13⟩:=(HVL.out.ext HXR.out).get hlt
    have HD:=aYl (show cQ (bT x)=if eE ((bT x).getD j default)=0 then cQ ((bT x).drop (j+1)) else eE ((bT x).getD j default) by
     rw [HT.out,aG default hlt];rfl)
    have HV1:=aYl hv1;clear hv1;generalize (bT x).getD j default=y at *;go_wp2_with fail;refine (lR y A1 d1 _ _ HV1.out).mono ?_;rintro e w4 ⟨rfl,hx4⟩;have HX4:=aYl (HXR.out.trans' hx4);clear hx4
    by_cases hz:eE y=0
    ·have HZ:=aYl hz
     have tz:(eE y != 0)=false:=ct
     clear hz;go_wp2_with fail;go_roundw
     case rel=>exact ⟨j+1,U,by go_num,HX4.out,gj⟩
     case measure=>simp [intOf];omega
    ·have HZ:=aYl hz
     have tz:(eE y != 0)=true:=bne_iff_ne.2 hz;have HN2:=aYl (show gV i x=eE y by rw [HN.out,if_neg Y,HD.out,if_neg hz,if_neg hz]);clear hz;go_wp2_with fail;go_ret;exact ⟨aH HN2.out.symm,HE.out.trans' (HW3.out.trans' HX4.out)⟩
   ·have HN2:=aYl (show gV i x=if bF x then 0 else 5 by
     rw [HN.out,if_neg Y,HT.out,drop_nil U];rfl)
    have BX:=aYl (HBX.out.ext (HW3.out.trans' HXR.out));have x0:=BX.out.cell' (u:=↑x.kind) 0 rfl;have x1:=BX.out.cell' (u:=.string x.name) 1 rfl;have x2:=BX.out.cell' (u:=↑x.lo) 2 rfl;have x3:=BX.out.cell' (u:=↑x.hi) 3 rfl;have x4:=BX.out.cell' (u:=.slice a.wA x.weights.length a.wc) 4 rfl;have x5:=BX.out.cell' (u:=.slice a.lA x.labels.length a.lc) 5 rfl;have x6:=BX.out.cell' (u:=.slice a.vA x.values.length a.vc) 6 rfl;have x7:=BX.out.cell' (u:=.slice a.kA x.kids.length a.kc) 7 rfl;have x8:=BX.out.cell' (u:=↑x.value.kind) 8 rfl;have x9:=BX.out.cell' (u:=↑x.value.n) 9 rfl;have x10:=BX.out.cell' (u:=.string x.value.s) 10 rfl;have x11:=BX.out.cell' (u:=.slice a.xA x.value.kids.length a.xc) 11 rfl;go_wp2_with fail;refine (pF x a P _ (HX.out.ext (HE.out.trans' (HW3.out.trans' HXR.out)))).mono ?_;rintro e w4 ⟨rfl,hx4⟩;have HX4:=aYl ((HE.out.trans' (HW3.out.trans' HXR.out)).trans' hx4);clear hx4;generalize bF x=bn at *
    cases bn
    ·go_wp2_with fail
     go_ret;exact ⟨aH ia,HX4.out⟩
    ·go_wp2_with fail
     go_ret;exact ⟨aH ia,HX4.out⟩
theorem aK5 (i:Int)(x:GN)(a:NA)(P:Nat->Prop)(w:World)(hx:NAt w P x a)(hvl:x.values.length<=1000000)(hk:¬ x.kind=0) :
  Calls Tryz.prog 57 #[↑i,jJ x a] w (dV (.int .i64 (gV i x)) w):=by
 have HX:=aYl hx;have HN:=aYl (show gV i x=if eI i x=false then 1 else if cQ (bT x)=0 then (if bF x then 0 else 5) else cQ (bT x) from rfl);have HOV:=aYl (show bT x=x.values by unfold bT;rw [if_neg hk]);have t0:(x.kind == 0)=false:=aYm hk;obtain ⟨hvl1,hvl2⟩:=hx.values.le;clear hx hk;obtain ⟨i0,hi,hz0,hz1,hz2⟩:=info_parts Tryz.info85;have HI:=aYl hi;clear hi;go_enter Tryz.func57,Tryz.ntmps57;go_wp2_with fail;refine (pP i x a P _ (HX.out.ext ((Ext.refl _).alloc' _))).mono ?_;rintro e w1 ⟨rfl,hx1⟩;have HBX:=aYl ((Blk.new w 87 (aL x a).toArray).ext hx1);have HE:=aYl (((Ext.refl w).alloc' _).trans' hx1);clear hx1;have hb0:=HBX.out.cell' (u:=↑x.kind) 0 rfl;have hb6:=HBX.out.cell' (u:=.slice a.vA x.values.length a.vc) 6 rfl;generalize eI i x=bf at *
 cases bf
 ·go_wp2_with fail
  go_ret;exact ⟨aH (by rw [HN.out];rfl),HE.out⟩
 ·obtain ⟨vA,vc,css,ev,_,_,hvs,hvr⟩:=(HX.out.values.ext HE.out)
  injection ev with ev1 _ ev2;rw [<- ev1] at hvs;have HVS:=aYl hvs;have HVR:=aYl hvr;clear ev1 ev2 hvs hvr;go_wp2_with (at_builtin;refine aI _ rfl (.tmp 23) (.tmp 25) 83 al w1.heap.size 85 i0 _ 4 56 Tryz.underlying83 HI.out hz0 hz1 hz2 rfl U (.slice none 0 0) 0 [] rfl (aN _ _ _ _) P a.vA x.values.length a.vc css rfl HVS.out HVR.out.oneCell U U (Nat.le_refl _) ?_;intro v3 w3 ho3 hbl3;have hw3:Below w1.heap.size w1 w3:=hbl3;clear hbl3);have hw3':Ext w1 w3:=hw3;have HW3:=aYl hw3';clear hw3'
  have HVL:=aYl (show bV w3 (fun b=>P b∨w1.heap.size<=b) v3 (bT x) by
   rw [HOV.out];obtain ⟨A,c,e,h1,h2,h3⟩:=Sl.of_own ho3;unfold maxLen at h2;refine ⟨A,c,_,by rw [e];congr 1;omega,U,⟨U,h2⟩,(h3 _ (fun b hb=>.inr (ho3.block_ge hb))).len_cast U,?_⟩;exact RVs.keep (P:=P) (fun _ _ _=>rfl) (fun _ h=>.inl h) (RVs.append (show RVs w3 P [] [] from rfl) (RVs.keep (aB.of_ext HW3.out) (fun _ h=>h) HVR.out)))
  clear ho3 hw3;obtain ⟨AL,cL,eL,hL1,hL2⟩:=HVL.out.form;subst eL;go_loopw [7] (fun k wr=>aFx (bT x) w3 k wr) (fun k _=>(bT x).length - (intOf k).toNat)
  case atStart=>exact ⟨0,Nat.zero_le _,rfl,Ext.refl _,rfl⟩
  case round =>
   obtain ⟨j,hj,rfl,hxr,ht⟩:=hrel;have HT:=aYl ht;have HXR:=aYl hxr;clear ht hxr
   by_cases hlt:j<(bT x).length
   ·obtain ⟨b1,o1,A1,d1,rfl,-,hv1,g10,g11,g12,g13⟩:=(HVL.out.ext HXR.out).get hlt
    have HD:=aYl (show cQ (bT x)=if eE ((bT x).getD j default)=0 then cQ ((bT x).drop (j+1)) else eE ((bT x).getD j default) by
     rw [HT.out,aG default hlt];rfl)
    have HV1:=aYl hv1;clear hv1;generalize (bT x).getD j default=y at *;go_wp2_with fail;refine (lR y A1 d1 _ _ HV1.out).mono ?_;rintro e w4 ⟨rfl,hx4⟩;have HX4:=aYl (HXR.out.trans' hx4);clear hx4
    by_cases hz:eE y=0
    ·have HZ:=aYl hz
     have tz:(eE y != 0)=false:=ct
     clear hz;go_wp2_with fail;go_roundw
     case rel=>exact ⟨j+1,U,by go_num,HX4.out,gj⟩
     case measure=>simp [intOf];omega
    ·have HZ:=aYl hz
     have tz:(eE y != 0)=true:=bne_iff_ne.2 hz;have HN2:=aYl (show gV i x=eE y by rw [HN.out,if_neg Y,HD.out,if_neg hz,if_neg hz]);clear hz;go_wp2_with fail;go_ret;exact ⟨aH HN2.out.symm,HE.out.trans' (HW3.out.trans' HX4.out)⟩
   ·have HN2:=aYl (show gV i x=if bF x then 0 else 5 by
     rw [HN.out,if_neg Y,HT.out,drop_nil U];rfl)
    have BX:=aYl (HBX.out.ext (HW3.out.trans' HXR.out));have x0:=BX.out.cell' (u:=↑x.kind) 0 rfl;have x1:=BX.out.cell' (u:=.string x.name) 1 rfl;have x2:=BX.out.cell' (u:=↑x.lo) 2 rfl;have x3:=BX.out.cell' (u:=↑x.hi) 3 rfl;have x4:=BX.out.cell' (u:=.slice a.wA x.weights.length a.wc) 4 rfl;have x5:=BX.out.cell' (u:=.slice a.lA x.labels.length a.lc) 5 rfl;have x6:=BX.out.cell' (u:=.slice a.vA x.values.length a.vc) 6 rfl;have x7:=BX.out.cell' (u:=.slice a.kA x.kids.length a.kc) 7 rfl;have x8:=BX.out.cell' (u:=↑x.value.kind) 8 rfl;have x9:=BX.out.cell' (u:=↑x.value.n) 9 rfl;have x10:=BX.out.cell' (u:=.string x.value.s) 10 rfl;have x11:=BX.out.cell' (u:=.slice a.xA x.value.kids.length a.xc) 11 rfl;go_wp2_with fail;refine (pF x a P _ (HX.out.ext (HE.out.trans' (HW3.out.trans' HXR.out)))).mono ?_;rintro e w4 ⟨rfl,hx4⟩;have HX4:=aYl ((HE.out.trans' (HW3.out.trans' HXR.out)).trans' hx4);clear hx4;generalize bF x=bn at *
    cases bn
    ·go_wp2_with fail
     go_ret;exact ⟨aH ia,HX4.out⟩
    ·go_wp2_with fail
     go_ret;exact ⟨aH ia,HX4.out⟩
theorem aG1 (i:Int)(x:GN)(a:NA)(P:Nat->Prop)(w:World)(hx:NAt w P x a)(hvl:x.values.length<=1000000) :
  Calls Tryz.prog 57 #[↑i,jJ x a] w (dV (.int .i64 (gV i x)) w):=by
 by_cases hk:x.kind=0
 ·exact aK6 i x a P w hx hvl hk
 ·exact aK5 i x a P w hx hvl hk
theorem nM (v:GV):∀ (l:List GV)(i:Nat),∃ a b,l=a ++ b∧(cF v i l).1=i+a.length∧(∀ y ∈ a,ltV y v) ∧
  (((cF v i l).2=true∧∃ c,b=v :: c)∨((cF v i l).2=false∧(b=[]∨∃ y c,b=y :: c∧ltV v y)))
 | [],i=>⟨[],[],rfl,by simp [cF],Y,.inr ⟨by simp [cF],.inl rfl⟩⟩
 | x :: xs,i=>by
  by_cases h:cH x v<0
  ·obtain ⟨a,b,e,h1,h2,h3⟩:=nM v xs (i+1)
   refine ⟨x :: a,b,et,?_,?_,?_⟩
   ·simp only [cF,if_pos h,h1,List.length_cons];omega
   ·intro y hy
    rcases List.mem_cons.1 hy with rfl | hy
    ·exact h
    ·exact h2 y hy
   ·simp only [cF,if_pos h];exact h3
  ·refine ⟨[],x :: xs,rfl,by simp [cF,if_neg h],Y,?_⟩
   simp only [cF,if_neg h]
   by_cases h0:cH x v=0
   ·exact .inl ⟨fc,xs,by rw [fK x v h0]⟩
   ·exact .inr ⟨fc,.inr ⟨x,xs,rfl,by unfold ltV;have:=mC x v;omega⟩⟩
theorem pT (l:List GV)(v:GV):∃ a b,l=a ++ b∧(cO l v).1=a.length∧(∀ y ∈ a,ltV y v) ∧
  (((cO l v).2=true∧∃ c,b=v :: c)∨((cO l v).2=false∧(b=[]∨∃ y c,b=y :: c∧ltV v y))):=by
 obtain ⟨a,b,h1,h2,h3⟩:=nM v l 0;exact ⟨a,b,h1,by unfold cO;omega,h3⟩
theorem jV {l:List GV}{v:GV}(hl:Inc l)(hv:v ∈ l):(cO l v).2=true∧(cO l v).1<l.length∧l.getD (cO l v).1 default=v:=by
 obtain ⟨a,b,e,h1,h2,h3⟩:=pT l v;rcases h3 with ⟨h3,c,rfl⟩ | ⟨h3,h4⟩
 ·refine ⟨h3,by rw [h1,e];simp,?_⟩
  rw [h1,e];simp
 ·exfalso
  rw [e] at hv hl;have hl':=List.pairwise_append.1 hl;rcases List.mem_append.1 hv with hv | hv
  ·exact (h2 v hv).irr
  ·rcases h4 with rfl | ⟨y,c,rfl,h4⟩
   ·simp at hv
   ·rcases List.mem_cons.1 hv with rfl | hv
    ·exact h4.irr
    ·exact (h4.tr ((List.pairwise_cons.1 hl'.2.1).1 v hv)).irr
theorem aHb {l:List GV}{v:GV}(hl:Inc l):Inc (aF5 l v)∧∀ y,y ∈ aF5 l v ↔ y=v∨y ∈ l:=by
 obtain ⟨a,b,e,h1,h2,h3⟩:=pT l v;unfold aF5;rcases h3 with ⟨h3,c,rfl⟩ | ⟨h3,h4⟩
 ·rw [if_pos h3]
  refine ⟨hl,fun y=>⟨.inr,?_⟩⟩;rintro (rfl | h)
  ·rw [e];simp
  ·exact h
 ·rw [if_neg (by rw [h3];simp),h1,e,List.take_left' rfl,List.drop_left' rfl]
  rw [e] at hl;have hl':=List.pairwise_append.1 hl
  have hb:∀ y ∈ b,ltV v y:=by
   intro y hy;rcases h4 with rfl | ⟨z,c,rfl,h4⟩
   ·simp at hy
   ·rcases List.mem_cons.1 hy with rfl | hy
    ·exact h4
    ·exact h4.tr ((List.pairwise_cons.1 hl'.2.1).1 y hy)
  refine ⟨List.pairwise_append.2 ⟨hl'.1,List.pairwise_cons.2 ⟨hb,hl'.2.1⟩,?_⟩,fun y=>by simp;constructor <;> (intro h;rcases h with h | h | h <;> simp [h])⟩;intro x hx y hy;rcases List.mem_cons.1 hy with rfl | hy
  ·exact h2 x hx
  ·exact (h2 x hx).tr (hb y hy)
theorem jM:∀ (l out:List GV),Inc out->Inc (eR out l)∧∀ y,y ∈ eR out l ↔ y ∈ out∨y ∈ l
 | [],out,h=>⟨h,fun y=>by simp [eR]⟩
 | x :: xs,out,h=>by
  obtain ⟨h1,h2⟩:=aHb (v:=x) h;obtain ⟨h3,h4⟩:=jM xs (aF5 out x) h1;refine ⟨h3,fun y=>?_⟩;simp only [eR];rw [h4,h2,List.mem_cons]
  constructor
  ·rintro ((h | h) | h)
   ·exact .inr (.inl h)
   ·exact .inl h
   ·exact .inr (.inr h)
  ·rintro (h | h | h)
   ·exact .inl (.inr h)
   ·exact .inl (.inl h)
   ·exact .inr h
theorem jL (l:List GV):Inc (eN l):=(jM l [] .nil).1
theorem eQ (l:List GV)(y:GV):y ∈ eN l ↔ y ∈ l:=by have:=(jM l [] .nil).2 y;simpa [eN] using this
theorem oB {l:List GV}(h:Inc l):eN l=l:=Inc.ext (jL l) h (eQ l)
theorem nI:∀ (l out:List GV),(eR out l).length<=out.length+l.length
 | [],out=>by simp [eR]
 | x :: xs,out=>by
  have h1:=nI xs (aF5 out x);have h2:=aHa out x;simp only [eR,List.length_cons];omega
theorem vJ (l:List GV):(eN l).length<=l.length:=by have:=nI l [];simpa [eN] using this
theorem tW:∀ {l:List GV},pM l=true ↔ Inc l
 | []=>by simp [pM]
 | [_]=>by simp [pM]
 | a :: b :: l=>by
  simp only [pM,Bool.and_eq_true,decide_eq_true_eq];rw [tW (l:=b :: l)]
  show _ ↔ List.Pairwise ltV (a :: b :: l)
  rw [List.pairwise_cons]
  constructor
  ·rintro ⟨h1,h2⟩
   refine ⟨?_,h2⟩;intro y hy;rcases List.mem_cons.1 hy with rfl | hy
   ·exact h1
   ·exact ltV.tr h1 ((List.pairwise_cons.1 h2).1 y hy)
  ·rintro ⟨h1,h2⟩
   exact ⟨h1 b Y,h2⟩
theorem zR:∀ {a b:List GV},a.length=b.length->(a.zip b).all (fun p=>decide (cH p.1 p.2=0))=true->a=b
 | [],[],_,_=>rfl
 | x :: xs,y :: ys,h,k=>by
  simp only [List.zip_cons_cons,List.all_cons,Bool.and_eq_true,decide_eq_true_eq] at k;rw [fK x y k.1,zR ex k.2]
 | [],_ :: _,h,_=>by simp at h
 | _ :: _,[],h,_=>by simp at h
theorem zQ:∀ (a:List GV),(a.zip a).all (fun p=>decide (cH p.1 p.2=0))=true
 | []=>rfl
 | x :: xs=>by simp only [List.zip_cons_cons,List.all_cons,pX,zQ xs];rfl
theorem rJ {a b:List GV}:eB a b=true ↔ a=b:=by
 unfold eB;simp only [Bool.and_eq_true,decide_eq_true_eq]
 constructor
 ·rintro ⟨h1,h2⟩;exact zR h1 h2
 ·rintro rfl;exact ⟨rfl,zQ a⟩
structure GL where
 vals:List GV
 many:Bool
instance:Inhabited GL:=⟨⟨[],false⟩⟩
def dZ (lo:Int):Nat->List GV
 | 0=>[]
 | n+1=>.mk 0 lo ByteArray.empty [] :: dZ (lo+1) n
def eS (rows:List (List GV))(vals:List GV):List (List GV):=rows.flatMap (fun r=>vals.map (fun v=>r ++ [v]))
def bO (before:List GL):List (List GV)->List Int->Option (List (List GV))
 | rows,[]=>some rows
 | rows,z :: zs=>if (before.getD z.toNat default).many=true∨1024<rows.length*(before.getD z.toNat default).vals.length then none
   else bO before (eS rows (before.getD z.toNat default).vals) zs
def vN (x:GN)(before:List GL):GL :=
 match bO before [[]] x.kids with
 | none=>⟨[],true⟩
 | some rows=>⟨eN (rows.map (bW x.name)),false⟩
def jC (before:List GL)(bind:Bool):Nat->List GV->Bool->List Int->GL
 | _,out,m,[]=>if m then ⟨[],true⟩ else ⟨out,false⟩
 | k,out,m,z :: zs=>if bind=true∧k=0 then jC before bind (k+1) out m zs
   else jC before bind (k+1) (eN (out ++ (before.getD z.toNat default).vals)) (m || (before.getD z.toNat default).many || decide (1024<(eN (out ++ (before.getD z.toNat default).vals)).length)) zs
def cG (before:List GL)(x:GN):GL :=
 if x.kind=0 then ⟨[x.value],false⟩
 else if x.kind=1 then (if 1024<=x.hi - x.lo then ⟨[],true⟩ else ⟨dZ x.lo (x.hi - x.lo+1).toNat,false⟩)
 else if x.kind=3 then vN x before
 else jC before (decide (x.kind=4)) 0 [] false x.kids
def jF {β:Type}(f:List β->GN->β):List β->List GN->List β
 | acc,[]=>acc
 | acc,x :: xs=>jF f (acc ++ [f acc x]) xs
theorem lD {β:Type}(f:List β->GN->β):∀ (a b:List GN)(acc:List β),jF f acc (a ++ b)=jF f (jF f acc a) b
 | [],_,_=>rfl
 | x :: xs,b,acc=>by simp only [List.cons_append,jF];exact lD f xs b _
theorem eH {β:Type}(f:List β->GN->β):∀ (a:List GN)(acc:List β),(jF f acc a).length=acc.length+a.length
 | [],_=>rfl
 | x :: xs,acc=>by simp only [jF];rw [eH f xs];simp;omega
theorem aBe {β:Type}(f:List β->GN->β):∀ (a:List GN)(acc:List β),∃ l,jF f acc a=acc ++ l
 | [],acc=>⟨[],by simp [jF]⟩
 | x :: xs,acc=>by
  obtain ⟨l,h⟩:=aBe f xs (acc ++ [f acc x]);exact ⟨f acc x :: l,by simp only [jF];rw [h];simp⟩
theorem gJ {β:Type}(f:List β->GN->β)(l:List GN)(i:Nat)(hi:i<=l.length):jF f [] (l.take i)=(jF f [] l).take i:=by
 have h:=lD f (l.take i) (l.drop i) [];rw [List.take_append_drop] at h;obtain ⟨r,hr⟩:=aBe f (l.drop i) (jF f [] (l.take i));rw [h,hr,List.take_left'];rw [eH];simp;omega
theorem iJ {β:Type}(f:List β->GN->β)(l:List GN)(x:GN):jF f [] (l ++ [x])=jF f [] l ++ [f (jF f [] l) x]:=by
 rw [lD];rfl
theorem oI {β:Type}(f:List β->GN->β)(d:β)(l:List GN){i:Nat}(hi:i<l.length):(jF f [] l).getD i d=f (jF f [] (l.take i)) (l.getD i default):=by
 have h:=gJ f l (i+1) U;rw [aX default hi,iJ] at h;have hl:(jF f [] (l.take i)).length=i:=by rw [eH];simp;omega
 have h2:((jF f [] l).take (i+1)).getD i d=(jF f [] l).getD i d:=by simp [List.getD]
 rw [<- h2,<- h];have:(jF f [] (l.take i) ++ [f (jF f [] (l.take i)) (l.getD i default)]).getD (jF f [] (l.take i)).length d=f (jF f [] (l.take i)) (l.getD i default):=by simp
 rw [hl] at this;exact this
def aD (l:List GN):List GL:=jF cG [] l
def aM (l:List GN):List Int:=jF gO [] l
def bK (l:List GN):List Int:=jF jH [] l
def gS (t:List GN)(x:GN):Int :=
 if ((aD t).getD (x.kids.getD 0 0).toNat default).many then 4
 else if eB ((aD t).getD (x.kids.getD 0 0).toNat default).vals x.values then 0 else 1
def cS (t:List GN)(i:Nat):Int :=
 if gV i (t.getD i default)=0 then
  (if 256<(aM t).getD i 0∨1024<(bK t).getD i 0 then 4
   else if (t.getD i default).kind=4 then gS t (t.getD i default) else 0)
 else gV i (t.getD i default)
def cZ (t:List GN):Nat->Nat->Int
 | _,0=>0
 | i,n+1=>if cS t i=0 then cZ t (i+1) n else cS t i
def cC (t:List GN):Int:=if 4096<t.length then 4 else cZ t 0 t.length
theorem jK:∀ (t:List GN)(i n:Nat),cZ t i n=0 ↔ ∀ j,i<=j->j<i+n->cS t j=0
 | _,i,0=>by simp only [cZ,true_iff];intro j h1 h2;omega
 | t,i,n+1=>by
  simp only [cZ]
  by_cases h:cS t i=0
  ·rw [if_pos h,jK t (i+1) n]
   constructor
   ·intro h1 j h2 h3
    rcases Nat.eq_or_lt_of_le h2 with rfl | h2
    ·exact h
    ·exact h1 j U U
   ·intro h1 j h2 h3
    exact h1 j U U
  ·rw [if_neg h]
   constructor
   ·intro h1;exact absurd h1 h
   ·intro h1;exact absurd (h1 i U U) h
def bD (t:List GN)(i:Nat):Prop:=i<=t.length∧t.length<=4096∧∀ j,j<i->cS t j=0
structure dJ (j:Nat)(x:GN):Prop where
 kind:0<=x.kind∧x.kind<=4
 unused:gT x=true
 kids:∀ z ∈ x.kids,0<=z∧z<(j:Int)
 choice:x.kind=2->1<=x.kids.length∧x.kids.length<=256∧x.weights.length=x.kids.length∧(x.labels.length=0∨x.labels.length=x.kids.length)
 seq:x.kind=3->x.kids.length<=256∧(aY x.name=true∨(qD x.name=true∧x.kids.length<=16))
 bind:x.kind=4->x.kids.length=x.values.length+1
 inc:Inc x.values
 valid:cQ (bT x)=0
 numbers:bF x=true
theorem kD {j:Nat}{x:GN}:gV j x=0 ↔ dJ j x:=by
 unfold gV
 constructor
 ·intro h
  split at h
  ·omega
  ·next hf =>
   rw [Bool.not_eq_false] at hf
   split at h
   ·next hv =>
    split at h
    ·next hn =>
     unfold eI fmA fmC fmS fmK at hf;simp only [Bool.and_eq_true,Bool.not_eq_true',Bool.or_eq_false_iff,Bool.and_eq_false_imp,decide_eq_false_iff_not,decide_eq_true_eq,Bool.not_eq_false',List.all_eq_true] at hf;obtain ⟨⟨⟨⟨⟨⟨h1,h2⟩,h3⟩,h4⟩,h5⟩,h6,h7⟩,h8⟩:=hf;refine ⟨⟨U,U⟩,h1,fun z hz=>?_,fun hk=>?_,fun hk=>?_,fun hk=>?_,tW.1 h8,hv,hn⟩
     ·have:=h4 z hz;omega
     ·obtain ⟨⟨⟨a,b⟩,c⟩,d⟩:=h5 hk
      refine ⟨U,U,c,?_⟩
      by_cases hl:x.labels.length=0
      ·exact .inl hl
      ·exact .inr (d U)
     ·obtain ⟨a,b⟩:=h6 hk
      refine ⟨U,?_⟩
      by_cases he:aY x.name=true
      ·exact .inl he
      ·obtain ⟨c,d⟩:=b (by simpa using he)
       exact .inr ⟨c,U⟩
     ·exact h7 hk
    ·omega
   ·omega
 ·intro h
  have hf:eI j x=true:=by
   unfold eI fmA fmC fmS fmK;simp only [Bool.and_eq_true,Bool.not_eq_true',Bool.or_eq_false_iff,Bool.and_eq_false_imp,decide_eq_false_iff_not,decide_eq_true_eq,Bool.not_eq_false',List.all_eq_true];refine ⟨⟨⟨⟨⟨⟨h.unused,by have:=h.kind;omega⟩,by have:=h.kind;omega⟩,fun z hz=>by have:=h.kids z hz;omega⟩,fun hk=>?_⟩,fun hk=>?_,fun hk=>h.bind hk⟩,tW.2 h.inc⟩
   ·obtain ⟨a,b,c,d⟩:=h.choice hk
    exact ⟨⟨⟨U,U⟩,c⟩,fun hl=>by omega⟩
   ·obtain ⟨a,b⟩:=h.seq hk
    refine ⟨U,fun he=>?_⟩;rcases b with b | ⟨b,c⟩
    ·rw [b] at he;cases he
    ·exact ⟨b,U⟩
  rw [if_neg (by simp [hf]),if_pos h.valid,if_pos h.numbers]
structure qK (t:List GN)(j:Nat):Prop where
 node:dJ j (t.getD j default)
 len:(aM t).getD j 0<=256
 size:(bK t).getD j 0<=1024
 many:(t.getD j default).kind=4->((aD t).getD ((t.getD j default).kids.getD 0 0).toNat default).many=false
 vals:(t.getD j default).kind=4->((aD t).getD ((t.getD j default).kids.getD 0 0).toNat default).vals=(t.getD j default).values
theorem mF {t:List GN}{j:Nat}:cS t j=0 ↔ qK t j:=by
 unfold cS
 constructor
 ·intro h
  split at h
  ·next hn =>
   split at h
   ·omega
   ·next hl =>
    split at h
    ·next hk =>
     unfold gS at h
     split at h
     ·omega
     ·next hm =>
      split at h
      ·next hs=>exact ⟨kD.1 hn,U,U,fun _=>by simpa using hm,fun _=>rJ.1 hs⟩
      ·omega
    ·next hk=>exact ⟨kD.1 hn,U,U,fun h=>absurd h hk,fun h=>absurd h hk⟩
  ·next hn=>exact absurd h hn
 ·intro h
  rw [if_pos (kD.2 h.node),if_neg (by have:=h.len;have:=h.size;omega)]
  split
  ·next hk =>
   unfold gS;rw [if_neg (by rw [h.many hk];simp),if_pos (rJ.2 (h.vals hk))]
  ·rfl
theorem bD.at_ {t:List GN}{i j:Nat}(h:bD t i)(hj:j<i):qK t j:=mF.1 (h.2.2 j hj)
theorem bD.mono {t:List GN}{i j:Nat}(h:bD t i)(hj:j<=i):bD t j:=⟨ie,h.2.1,fun k hk=>h.2.2 k U⟩
theorem fI {t:List GN}:cC t=0 ↔ bD t t.length:=by
 unfold cC bD
 constructor
 ·intro h
  split at h
  ·omega
  ·next hl=>exact ⟨Nat.le_refl _,U,fun j hj=>(jK t 0 t.length).1 h j U U⟩
 ·rintro ⟨_,h1,h2⟩
  rw [if_neg U];exact (jK t 0 t.length).2 (fun j _ hj=>h2 j U)
theorem cW {x:GN}(h:bF x=true):x.lo<=x.hi∧-4611686018427387904<=x.lo∧x.hi<=4611686018427387904∧x.hi<x.lo+1099511627776:=by
 unfold bF uU at h;simp only [Bool.and_eq_true,Bool.not_eq_true',Bool.or_eq_false_iff,decide_eq_false_iff_not] at h;omega
theorem dL (lo:Int)(n:Nat):(dZ lo n).length=n:=by
 induction n generalizing lo with
 | zero=>rfl
 | succ n ih=>simp [dZ,ih]
theorem iB {lo:Int}{n:Nat}{v:GV}:v ∈ dZ lo n ↔ ∃ k:Int,lo<=k∧k<lo+n∧v=.mk 0 k ByteArray.empty []:=by
 induction n generalizing lo with
 | zero=>simp only [dZ,List.not_mem_nil,false_iff];rintro ⟨k,h1,h2,_⟩;omega
 | succ n ih =>
  simp only [dZ,List.mem_cons,ih]
  constructor
  ·rintro (h | ⟨k,h1,h2,h3⟩)
   ·exact ⟨lo,U,U,h⟩
   ·exact ⟨k,U,U,h3⟩
  ·rintro ⟨k,h1,h2,h3⟩
   by_cases hk:k=lo
   ·subst hk;exact .inl h3
   ·exact .inr ⟨k,U,U,h3⟩
theorem aHu (a b:Int):cH (.mk 0 a ByteArray.empty []) (.mk 0 b ByteArray.empty [])=iN a b:=by
 simp only [cH,cU];rw [lC rfl,pZ rfl];simp only [if_true]
 split
 ·next h=>exact h.symm
 ·rfl
theorem aB3 (lo:Int)(n:Nat):Inc (dZ lo n):=by
 induction n generalizing lo with
 | zero=>exact .nil
 | succ n ih =>
  refine List.pairwise_cons.2 ⟨fun y hy=>?_,ih _⟩;obtain ⟨k,h1,h2,rfl⟩:=iB.1 hy;unfold ltV;rw [aHu,fU];omega
abbrev aQ3 (l:List (List GV)):Prop:=l.Pairwise (fun a b=>cU a b<0)
theorem rZ {a b:List GV}(h:a.length=b.length)(x y:GV):cU (a ++ [x]) (b ++ [y])=if cU a b=0 then cH x y else cU a b:=by
 induction a generalizing b with
 | nil =>
  cases b with
  | nil=>simp only [List.nil_append,cU,if_true];split <;> omega
  | cons _ _=>simp at h
 | cons u us ih =>
  cases b with
  | nil=>simp at h
  | cons v vs =>
   simp only [List.cons_append,cU];rw [ih ex]
   by_cases h0:cH u v=0
   ·simp [h0]
   ·simp [h0]
theorem gE (rows:List (List GV))(vals:List GV):(eS rows vals).length=rows.length*vals.length:=by
 unfold eS
 induction rows with
 | nil=>simp
 | cons r rs ih=>simp only [List.flatMap_cons,List.length_append,List.length_map,ih,List.length_cons,Nat.add_mul];omega
theorem jR {rows:List (List GV)}{vals:List GV}{r:List GV}:r ∈ eS rows vals ↔ ∃ q ∈ rows,∃ v ∈ vals,r=q ++ [v]:=by
 unfold eS;simp only [List.mem_flatMap,List.mem_map]
 constructor
 ·rintro ⟨q,hq,v,hv,rfl⟩;exact ⟨q,hq,v,hv,rfl⟩
 ·rintro ⟨q,hq,v,hv,rfl⟩;exact ⟨q,hq,v,hv,rfl⟩
theorem aDl {rows:List (List GV)}{vals:List GV}{n:Nat}(hr:aQ3 rows)(hn:∀ r ∈ rows,r.length=n)(hv:Inc vals) :
  aQ3 (eS rows vals)∧∀ r ∈ eS rows vals,r.length=n+1:=by
 refine ⟨?_,fun r h=>by obtain ⟨q,hq,v,_,rfl⟩:=jR.1 h;simp [hn q hq]⟩;unfold eS
 induction rows with
 | nil=>simp
 | cons q qs ih =>
  rw [List.flatMap_cons];have hq:=List.pairwise_cons.1 hr;refine List.pairwise_append.2 ⟨?_,ih hq.2 (fun r h=>hn r (by simp [h])),?_⟩
  ·rw [List.pairwise_map]
   refine hv.imp (fun {a b} h=>?_);rw [rZ rfl,aCn,if_pos rfl];exact h
  ·intro a ha b hb
   obtain ⟨v,_,rfl⟩:=List.mem_map.1 ha;obtain ⟨r,hr,hb⟩:=List.mem_flatMap.1 hb;obtain ⟨u,_,rfl⟩:=List.mem_map.1 hb;have h1:=hq.1 r hr;rw [rZ (by rw [hn q Y,hn r (by simp [hr])])];rw [if_neg U];exact h1
theorem aD2 (s:ByteArray)(a b:List GV):cH (bW s a) (bW s b)=cU a b:=by
 unfold bW
 split <;> simp [cH,lC,pZ]
theorem wK (s:ByteArray){rows:List (List GV)}(h:aQ3 rows):Inc (rows.map (bW s)):=by
 rw [Inc,List.pairwise_map];exact h.imp (fun {a b} h=>by unfold ltV;rw [aD2];exact h)
structure LOK (l:GL):Prop where
 none_:l.many=true->l.vals=[]
 inc:Inc l.vals
 some_:l.many=false->l.vals ≠ []
 few:l.vals.length<=1024
theorem Inc.nil:Inc []:=List.Pairwise.nil
theorem LOK.many_:LOK ⟨[],true⟩:=⟨fun _=>rfl,Inc.nil,fun h=>(by cases h),Nat.zero_le _⟩
theorem mU {before:List GL}:∀ (zs:List Int)(rows:List (List GV))(n:Nat),(∀ z ∈ zs,LOK (before.getD z.toNat default))->aQ3 rows->(∀ r ∈ rows,r.length=n)->rows ≠ []->rows.length<=1024 ->
  ∀ out,bO before rows zs=some out->aQ3 out∧out ≠ []∧out.length<=1024∧(∀ r ∈ out,r.length=n+zs.length)
 | [],rows,n,_,h1,h2,h3,h4,out,h=>by
  simp only [bO,Option.some.injEq] at h;subst h;exact ⟨h1,h3,h4,h2⟩
 | z :: zs,rows,n,hz,h1,h2,h3,h4,out,h=>by
  simp only [bO] at h
  split at h
  ·cases h
  ·next hm =>
   have hl:=hz z Y
   have hmf:(before.getD z.toNat default).many=false:=by
    cases e:(before.getD z.toNat default).many
    ·rfl
    ·exact absurd (.inl e) hm
   have hne:=hl.some_ hmf;obtain ⟨h5,h6⟩:=aDl h1 h2 hl.inc;have hlen:=gE rows (before.getD z.toNat default).vals;have hpos:0<rows.length*(before.getD z.toNat default).vals.length:=Nat.mul_pos (List.length_pos_iff.2 h3) (List.length_pos_iff.2 hne);obtain ⟨a,b,c,d⟩:=mU zs _ (n+1) (fun y hy=>hz y ao) h5 h6 (by intro e;rw [e] at hlen;rw [<- hlen] at hpos;exact absurd hpos am) (by rw [hlen];omega) out h;exact ⟨a,b,c,fun r hr=>by rw [d r hr];simp;omega⟩
theorem yF {before:List GL}{bind:Bool}:∀ (zs:List Int)(k:Nat)(out:List GV)(m:Bool),(∀ z ∈ zs,LOK (before.getD z.toNat default))->Inc out->(m=false->out.length<=1024) ->
  (out ≠ []∨m=true∨(if bind=true∧k=0 then 2<=zs.length else 1<=zs.length))->LOK (jC before bind k out m zs)
 | [],k,out,m,_,h1,h2,h3=>by
  simp only [jC]
  split
  ·exact LOK.many_
  ·next hm =>
   have hmf:m=false:=by simpa using hm
   refine ⟨fun h=>(by cases h),h1,fun _=>?_,h2 hmf⟩;rcases h3 with h3 | h3 | h3
   ·exact h3
   ·exact absurd h3 hm
   ·split at h3 <;> simp at h3
 | z :: zs,k,out,m,hz,h1,h2,h3=>by
  simp only [jC]
  split
  ·next hb =>
   refine yF zs (k+1) out m (fun y hy=>hz y ao) h1 h2 ?_;rcases h3 with h3 | h3 | h3
   ·exact .inl h3
   ·exact .inr (.inl h3)
   ·rw [if_pos hb] at h3
    refine .inr (.inr ?_);rw [if_neg U];simp at h3;omega
  ·next hb =>
   have hl:=hz z Y;refine yF zs (k+1) _ _ (fun y hy=>hz y ao) (jL _) ?_ ?_
   ·intro h
    simp only [Bool.or_eq_false_iff,decide_eq_false_iff_not] at h;omega
   ·cases e:(before.getD z.toNat default).many
    ·left
     have hne:=hl.some_ e;intro h0;obtain ⟨v,hv⟩:=List.exists_mem_of_ne_nil _ hne;have:=(eQ (out ++ (before.getD z.toNat default).vals) v).2 (List.mem_append_right _ hv);rw [h0] at this;simp at this
    ·right;left;simp
theorem gH {t:List GN}{j:Nat}(hj:j<t.length){z:Int}(hz:0<=z∧z<(j:Int)):(aD (t.take j)).getD z.toNat default=(aD t).getD z.toNat default:=by
 unfold aD;rw [gJ _ _ _ U];have h:z.toNat<j:=by omega
 simp [List.getD,h]
theorem iG {t:List GN}{j:Nat}(hj:j<t.length):(aD t).getD j default=cG (aD (t.take j)) (t.getD j default):=oI cG default t hj
theorem lX {t:List GN}{i:Nat}(h:bD t i):∀ j,j<i->LOK ((aD t).getD j default):=by
 intro j
 induction j using Nat.strongRecOn with
 | ind j ih =>
  intro hj;have hjt:j<t.length:=by have:=h.1;omega
  have hc:=h.at_ hj;rw [iG hjt];generalize hx:t.getD j default=x at *;have hn:dJ j x:=by have:=hc.node;rw [hx] at this;exact this
  have hk:∀ z ∈ x.kids,LOK ((aD (t.take j)).getD z.toNat default):=by
   intro z hz;have hz':=hn.kids z hz;rw [gH hjt hz'];exact ih z.toNat U U
  unfold cG
  split
  ·exact ⟨fun h=>(by cases h),List.pairwise_singleton _ _,fun _=>by simp,Y⟩
  ·split
   ·have hr:=cW hn.numbers
    split
    ·exact LOK.many_
    ·refine ⟨fun h=>(by cases h),aB3 _ _,fun _ e=>?_,?_⟩
     ·have:=dL x.lo (x.hi - x.lo+1).toNat
      have e':dZ x.lo (x.hi - x.lo+1).toNat=[]:=e;rw [e'] at this;simp at this;omega
     ·show (dZ x.lo (x.hi - x.lo+1).toNat).length<=1024
      rw [dL];omega
   ·split
    ·unfold vN
     split
     ·exact LOK.many_
     ·next rows hrows =>
      obtain ⟨a,b,c,d⟩:=mU x.kids [[]] 0 hk (List.pairwise_singleton _ _) Y Y Y rows hrows;have hi:=wK x.name a;refine ⟨fun h=>(by cases h),jL _,fun _=>?_,?_⟩
      ·show eN _ ≠ []
       rw [oB hi];simpa using b
      ·show (eN _).length<=1024
       rw [oB hi];simpa using c
    ·next h0 h1 h3 =>
     refine yF _ _ _ _ hk Inc.nil (fun _=>Nat.zero_le _) (.inr (.inr ?_));have hkd:=hn.kind
     by_cases h2:x.kind=2
     ·rw [if_neg (by simp [h2])]
      have:=(hn.choice h2).1;omega
     ·have h4:x.kind=4:=by omega
      rw [if_pos (by simp [h4])];have hb:=hn.bind h4;have hm:=hc.many ib;have hv:=hc.vals ib;rw [hx] at hm hv;have hz:x.kids.getD 0 0 ∈ x.kids:=aF U;have hz':=hn.kids _ hz;have hl:=ih (x.kids.getD 0 0).toNat U U;have:=hl.some_ hm;rw [hv] at this;have:=List.length_pos_iff.2 this;omega
theorem fE {t:List GN}{i:Nat}(h:bD t i){j:Nat}(hj:j<i):(t.getD j default).kids.length<=1025∧(t.getD j default).values.length<=1024∧((t.getD j default).kind=4->1<=(t.getD j default).values.length):=by
 have hc:=h.at_ hj;have hn:=hc.node;generalize hx:t.getD j default=x at *;have hu:=hn.unused;unfold gT unA unB unC at hu;simp only [Bool.and_eq_true,Bool.not_eq_true',Bool.or_eq_false_iff,Bool.and_eq_false_imp,Bool.or_eq_true,decide_eq_false_iff_not,decide_eq_true_eq,Bool.not_eq_false'] at hu;have hkd:=hn.kind
 by_cases h4:x.kind=4
 ·have hb:=hn.bind h4
  have hm:=hc.many ib;have hv:=hc.vals ib;rw [hx] at hm hv;have hz:x.kids.getD 0 0 ∈ x.kids:=aF U;have hz':=hn.kids _ hz;have hl:=lX h (x.kids.getD 0 0).toNat U;have h1:=hl.some_ hm;have h2:=hl.few;rw [hv] at h1 h2;have:=List.length_pos_iff.2 h1;exact ⟨U,h2,fun _=>by omega⟩
 ·have hv:x.values.length=0:=by
   have:=hu.1.2.2 h4;omega
  refine ⟨?_,U,fun h=>absurd h h4⟩
  by_cases h2:x.kind=2
  ·have:=hn.choice h2;omega
  by_cases h3:x.kind=3
  ·have:=hn.seq h3;omega
  have:x.kids.length=0:=by
   rcases hu.2 with ⟨a,b⟩ | h
   ·omega
   ·omega
  omega
end Go.Proofs.YtkoeecdjijfjnaaGreat
