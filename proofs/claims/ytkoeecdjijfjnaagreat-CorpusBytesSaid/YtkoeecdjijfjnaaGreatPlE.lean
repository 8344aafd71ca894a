/- Contracts and laws. Conditions: none. -/
import Derived.Test.YtkoeecdjijfjnaaGreatPlA
import Derived.Test.YtkoeecdjijfjnaaGreatB6
set_option linter.all false
set_option maxRecDepth 100000
set_option maxHeartbeats 8000000
namespace Go.Proofs.YtkoeecdjijfjnaaGreat
open Go.RowKit
def fmA (x:GN)(bf:Bool):Bool:=!bf || decide (x.kind<0) || decide (4<x.kind)
def fmK (i z:Int):Bool:=decide (z<0) || decide (i<=z)
def fmC (x:GN):Bool:=decide (x.kind=2) && (decide ((x.kids:Int)<1) || decide (256<(x.kids:Int)) || !decide (x.weights.length=x.kids) || (decide (0<x.labels.length) && !decide (x.labels.length=x.kids)))
def fmS (x:GN)(bc:Bool):Bool:=(decide (x.kind=3) && (decide (256<(x.kids:Int)) || (!aU x.name && (!bc || decide (16<(x.kids:Int)))))) || (decide (x.kind=4) && !decide (x.kids.length=(x.values.length+1)))
def sF:List GV->Bool
 | a :: b :: l=>decide (cJ a b<0) && sF (b :: l)
 | _=>true
def eH (i:Int)(x:GN):Bool:=!fmA x (fV x) && (x.kids.all (fun z=>!fmK i z)) && !fmC x && !fmS x (qR x.name) && sF x.values
def aZu (i:Int)(x:GN)(W:World)(k:Value)(wr:World):Prop:=∃ j:Nat,j<=x.kids.length∧k=↑j∧W=wr∧(x.kids.all (fun z=>!fmK i z))=((x.kids.drop j).all (fun z=>!fmK i z))
def aZt (x:GN)(W:World)(k:Value)(wr:World):Prop:=∃ j:Nat,1<=j∧j<=x.values.length+1∧k=↑j∧Ext W wr∧sF x.values=sF (x.values.drop (j - 1))
theorem oO {l}(h:l.length<=1):sF l=true:=by
 match l,h with
 | [],_=>rfl
 | [_],_=>rfl
theorem sI (i:Int)(x a P w)(hx:NAt w P x a) :
  qg 108 #[↑i,fU x a] w (dI (eH i x) w):=by
 have HX:=a4b hx;have HF:=a4b (show eH i x=(!fmA x (fV x) && (x.kids.all (fun z=>!fmK i z)) && !fmC x && !fmS x (qR x.name) && sF x.values) from rfl);obtain ⟨hkl,hkc⟩:=hx.kids.le;obtain ⟨hvl,hvc⟩:=hx.values.le;have HNM:=a4b hx.name;clear hx;go_enter Tryz.func108,Tryz.ntmps108;go_wp2_with fail;refine (aEz x a _).mono ?_;rintro e w1 ⟨rfl,hx1⟩;have HBX:=a4b ((aw w 87 (aK x a).toArray).ext hx1);have HE:=a4b (((aq w).alloc' _).trans' hx1);clear hx1;have hb0:=HBX.out.cell' (u:=↑x.kind) 0 rfl;have hb1:=HBX.out.cell' (u:=x.name) 1 rfl;have hb4:=HBX.out.cell' (u:=.slice a.wA x.weights a.wc) 4 rfl;have hb5:=HBX.out.cell' (u:=.slice a.lA x.labels a.lc) 5 rfl;have hb6:=HBX.out.cell' (u:=.slice a.vA x.values a.vc) 6 rfl;have hb7:=HBX.out.cell' (u:=.slice a.kA x.kids a.kc) 7 rfl;generalize fV x=bf at *;go_upto_region 2 with fail;go_cut [5,23] (fun _ s wx=>s=.bool (fmA x bf)∧w1=wx)
 case first =>
  by_cases hf:bf=true
  ·by_cases hkn:x.kind<0
   ·have t0kn:decide (x.kind<0)=true:=a4e hkn
    go_wp2_with fail;go_meet;exact ⟨congrArg Value.bool (by unfold fmA;rw [hf,(show decide (x.kind<0)=true from a4e I)];try rfl),rfl⟩
   ·have t0kn:decide (x.kind<0)=false:=a4f hkn
    by_cases hkp:4<x.kind
    ·have t0kp:decide (4<x.kind)=true:=a4e hkp
     go_wp2_with fail;go_meet;exact ⟨congrArg Value.bool (by unfold fmA;rw [hf,(show decide (x.kind<0)=false from a4f I),(show decide (4<x.kind)=true from a4e I)];try rfl),rfl⟩
    ·have t0kp:decide (4<x.kind)=false:=a4f hkp
     go_wp2_with fail;go_meet;exact ⟨congrArg Value.bool (by unfold fmA;rw [hf,(show decide (x.kind<0)=false from a4f I),(show decide (4<x.kind)=false from a4f I)];try rfl),rfl⟩
  ·have t0f:bf=false:=by simpa using hf
   go_wp2_with fail;go_meet;exact ⟨congrArg Value.bool (by unfold fmA;rw [(Bool.eq_false_iff.2 hf)];try rfl),rfl⟩
 case rest =>
  obtain ⟨rfl,rfl⟩:=hcut;generalize fmA x bf=b2 at *;cases b2
  ·go_wp2_with fail
   go_loopw [6] (fun k wr=>aZu i x w1 k wr) (fun k _=>x.kids.length - (intOf k).toNat)
   case atStart=>exact ⟨0,af _,rfl,rfl,rfl⟩
   case round =>
    obtain ⟨j,hj,rfl,rfl,ht⟩:=hrel;have HT:=a4b ht;clear ht;by_cases hlt:j<x.kids
    ·obtain ⟨b1,o1,e1,-,-,g1⟩:=(HX.out.kids.ext HE.out).get hlt
     have HD:=a4b (HT.out.trans (by rw [aH 0 hlt,List.all_cons]));rw [e1] at hb7;clear e1;generalize x.kids.getD j 0=z at *;go_upto_region 7 with fail;go_cut [45] (fun s wx=>s=.bool (fmK i z)∧w1=wx)
     case first =>
      by_cases hz0:z<0
      ·have t0z0:decide (z<0)=true:=a4e hz0
       go_wp2_with fail;go_meet;exact ⟨congrArg Value.bool (by unfold fmK;rw [(show decide (z<0)=true from a4e I)];try rfl),rfl⟩
      ·have t0z0:decide (z<0)=false:=a4f hz0
       by_cases hzi:i<=z
       ·have t0zi:decide (i<=z)=true:=a4e hzi
        go_wp2_with fail;go_meet;exact ⟨congrArg Value.bool (by unfold fmK;rw [(show decide (z<0)=false from a4f I),(show decide (i<=z)=true from a4e I)];try rfl),rfl⟩
       ·have t0zi:decide (i<=z)=false:=a4f hzi
        go_wp2_with fail;go_meet;exact ⟨congrArg Value.bool (by unfold fmK;rw [(show decide (z<0)=false from a4f I),(show decide (i<=z)=false from a4f I)];try rfl),rfl⟩
     case rest =>
      obtain ⟨rfl,rfl⟩:=hcut;generalize fmK i z=b7 at *;cases b7
      ·go_wp2_with fail
       go_roundw
       case rel=>exact ⟨j+1,I,by go_num,rfl,HD.out.trans O⟩
       case measure=>simp [intOf];omega
      ·go_wp2_with fail
       go_ret;exact ⟨aC (by rw [HF.out,HD.out];simp),HE.out⟩
    ·have HKT:=a4b (show (x.kids.all (fun z=>!fmK i z))=true by rw [HT.out,drop_nil I];rfl)
     clear HT;go_upto_region 10 with fail;go_cut [79] (fun s wx=>s=.bool (fmC x)∧w1=wx)
     case first =>
      by_cases hk2:x.kind=2
      ·have t0k2:(x.kind == 2)=true:=a4d hk2
       have Hk2:=a4b hk2;clear hk2;by_cases hn1:(x.kids:Int)<1
       ·have t0n1:decide ((x.kids:Int)<1)=true:=a4e hn1
        go_wp2_with fail;go_meet;exact ⟨congrArg Value.bool (by unfold fmC;rw [a4e Hk2.out,(show decide ((x.kids:Int)<1)=true from a4e I)];try rfl),rfl⟩
       ·have t0n1:decide ((x.kids:Int)<1)=false:=a4f hn1
        by_cases hn256:256<(x.kids:Int)
        ·have t0n256:decide (256<(x.kids:Int))=true:=a4e hn256
         go_wp2_with fail;go_meet;exact ⟨congrArg Value.bool (by unfold fmC;rw [a4e Hk2.out,(show decide ((x.kids:Int)<1)=false from a4f I),(show decide (256<(x.kids:Int))=true from a4e I)];try rfl),rfl⟩
        ·have t0n256:decide (256<(x.kids:Int))=false:=a4f hn256
         by_cases hwn:x.weights.length=x.kids
         ·have t0wn:((x.weights:Int) != (x.kids:Int))=false:=by rw [bne_eq_false_iff_eq];omega
          have Hwn:=a4b hwn;clear hwn;by_cases hl0:0<x.labels.length
          ·have t0l0:decide (0<(x.labels:Int))=true:=a4e I
           have t2l0:((x.labels:Int) != 0)=true:=bne_iff_ne.2 I;by_cases hln:x.labels.length=x.kids
           ·have t0ln:((x.labels:Int) != (x.kids:Int))=false:=by rw [bne_eq_false_iff_eq];omega
            have Hln:=a4b hln;clear hln;go_wp2_with fail;go_meet;exact ⟨congrArg Value.bool (by unfold fmC;rw [a4e Hk2.out,(show decide ((x.kids:Int)<1)=false from a4f I),(show decide (256<(x.kids:Int))=false from a4f I),a4e Hwn.out,a4e hl0,a4e Hln.out];try rfl),rfl⟩
           ·have t0ln:((x.labels:Int) != (x.kids:Int))=true:=bne_iff_ne.2 I
            go_wp2_with fail;go_meet;exact ⟨congrArg Value.bool (by unfold fmC;rw [a4e Hk2.out,(show decide ((x.kids:Int)<1)=false from a4f I),(show decide (256<(x.kids:Int))=false from a4f I),a4e Hwn.out,a4e hl0,a4f hln];try rfl),rfl⟩
          ·have t0l0:decide (0<(x.labels:Int))=false:=a4f I
           have t2l0:((x.labels:Int) != 0)=false:=ig;go_wp2_with fail;go_meet;exact ⟨congrArg Value.bool (by unfold fmC;rw [a4e Hk2.out,(show decide ((x.kids:Int)<1)=false from a4f I),(show decide (256<(x.kids:Int))=false from a4f I),a4e Hwn.out,a4f hl0];try rfl),rfl⟩
         ·have t0wn:((x.weights:Int) != (x.kids:Int))=true:=bne_iff_ne.2 I
          go_wp2_with fail;go_meet;exact ⟨congrArg Value.bool (by unfold fmC;rw [a4e Hk2.out,(show decide ((x.kids:Int)<1)=false from a4f I),(show decide (256<(x.kids:Int))=false from a4f I),a4f hwn];try rfl),rfl⟩
      ·have t0k2:(x.kind == 2)=false:=a4c hk2
       go_wp2_with fail;go_meet;exact ⟨congrArg Value.bool (by unfold fmC;rw [a4f hk2];try rfl),rfl⟩
     case rest =>
      obtain ⟨rfl,rfl⟩:=hcut;generalize fmC x=b10 at *;cases b10
      ·go_wp2_with fail
       refine (uB _ _ HNM.out).mono ?_;rintro e w' ⟨rfl,rfl⟩;generalize qR x.name=bc at *;go_upto_region 13 with fail;go_cut [8,115] (fun _ s wx=>s=.bool (fmS x bc)∧w1=wx)
       case first =>
        by_cases hk3:x.kind=3
        ·have t0k3:(x.kind == 3)=true:=a4d hk3
         have hk4:¬ x.kind=4:=I;have t0k4:(x.kind == 4)=false:=a4c hk4;have Hk3:=a4b hk3;clear hk3;by_cases hm256:256<(x.kids:Int)
         ·have t0m256:decide (256<(x.kids:Int))=true:=a4e hm256
          go_wp2_with fail;go_meet;exact ⟨congrArg Value.bool (by unfold fmS;rw [a4e Hk3.out,(show decide (256<(x.kids:Int))=true from a4e I)];try rfl),rfl⟩
         ·have t0m256:decide (256<(x.kids:Int))=false:=a4f hm256
          by_cases hnm:x.name.toList=[]
          ·have t0nm:x.name.toList.isEmpty=true:=by rw [hnm];rfl
           go_wp2_with fail;go_meet;exact ⟨congrArg Value.bool (by unfold fmS;rw [a4f hk4,a4e Hk3.out,(show decide (256<(x.kids:Int))=false from a4f I),hU hnm];try rfl),rfl⟩
          ·have t0nm:x.name.toList.isEmpty=false:=by simpa using hnm
           by_cases hcp:bc=true
           ·by_cases hm16:16<(x.kids:Int)
            ·have t0m16:decide (16<(x.kids:Int))=true:=a4e hm16
             go_wp2_with fail;go_meet;exact ⟨congrArg Value.bool (by unfold fmS;rw [a4e Hk3.out,(show decide (256<(x.kids:Int))=false from a4f I),hY hnm,hcp,(show decide (16<(x.kids:Int))=true from a4e I)];try rfl),rfl⟩
            ·have t0m16:decide (16<(x.kids:Int))=false:=a4f hm16
             go_wp2_with fail;go_meet;exact ⟨congrArg Value.bool (by unfold fmS;rw [a4f hk4,a4e Hk3.out,(show decide (256<(x.kids:Int))=false from a4f I),hY hnm,hcp,(show decide (16<(x.kids:Int))=false from a4f I)];try rfl),rfl⟩
           ·have t0cp:bc=false:=by simpa using hcp
            go_wp2_with fail;go_meet;exact ⟨congrArg Value.bool (by unfold fmS;rw [a4e Hk3.out,(show decide (256<(x.kids:Int))=false from a4f I),hY hnm,(Bool.eq_false_iff.2 hcp)];try rfl),rfl⟩
        ·have t0k3:(x.kind == 3)=false:=a4c hk3
         by_cases hk4:x.kind=4
         ·have t0k4:(x.kind == 4)=true:=a4d hk4
          have Hk4:=a4b hk4;clear hk4;by_cases hvn:x.kids.length=(x.values.length+1)
          ·have t0vn:((x.kids:Int) != ((x.values:Int)+1))=false:=by rw [bne_eq_false_iff_eq];omega
           have Hvn:=a4b hvn;clear hvn;go_wp2_with fail;go_meet;exact ⟨congrArg Value.bool (by unfold fmS;rw [a4f hk3,a4e Hk4.out,a4e Hvn.out];try rfl),rfl⟩
          ·have t0vn:((x.kids:Int) != ((x.values:Int)+1))=true:=bne_iff_ne.2 I
           go_wp2_with fail;go_meet;exact ⟨congrArg Value.bool (by unfold fmS;rw [a4f hk3,a4e Hk4.out,a4f hvn];try rfl),rfl⟩
         ·have t0k4:(x.kind == 4)=false:=a4c hk4
          go_wp2_with fail;go_meet;exact ⟨congrArg Value.bool (by unfold fmS;rw [a4f hk3,a4f hk4];try rfl),rfl⟩
       case rest =>
        obtain ⟨rfl,rfl⟩:=hcut;generalize fmS x bc=b13 at *;cases b13
        ·go_wp2_with fail
         go_loopw [9] (fun k wr=>aZt x w1 k wr) (fun k _=>x.values.length+1 - (intOf k).toNat)
         case atStart=>exact ⟨1,I,I,rfl,aq _,rfl⟩
         case round =>
          obtain ⟨j,hj1,hj2,rfl,hxr,ht⟩:=hrel;have HT:=a4b ht;have HXR:=a4b hxr;have hr6:=aA hxr hb6;clear ht hxr;by_cases hlt':j<x.values
          ·obtain ⟨q,rfl⟩:∃ q,j=q+1:=⟨j - 1,I⟩
           have hq:q<x.values.length:=I;obtain ⟨v1,o1,A1,d1,e1,-,hv1,g10,g11,g12,g13⟩:=(HX.out.values.ext (HE.out.trans' HXR.out)).get hq;obtain ⟨v2,o2,A2,d2,e2,-,hv2,g20,g21,g22,g23⟩:=(HX.out.values.ext (HE.out.trans' HXR.out)).get hlt';rw [e1] at e2 hr6;injection e2 with e2;injection e2 with e21 e22;subst e21 e22
           have HD:=a4b (show sF x.values=(decide (cJ (x.values.getD q default) (x.values.getD (q+1) default)<0) && sF (x.values.drop (q+1))) by
            rw [HT.out,Nat.add_sub_cancel,aH default hq,aH default hlt'];rfl)
           have HV1:=a4b hv1;have HV2:=a4b hv2;clear e1 hv1 hv2;generalize x.values.getD q default=y1 at *;generalize x.values.getD (q+1) default=y2 at *;have hq1:(0:Int)<=(q:Int)+1:=by omega
           have hq2:((q:Int)+1).toNat=q+1:=I;have hq3:IntKind.i64.wrap ((q:Int)+1 - 1)=(q:Int):=by rw [IntWalk.i64_in _ I];omega
           have hq4:IntKind.i64.wrap (q:Int)=(q:Int):=IntWalk.i64_in _ I;have hq5:wrap64 (q:Int)=(q:Int):=IntWalk.wrap64_in _ I;go_wp2_with fail;go_still_tail 11,U;clear hq1 hq2 hq3 hq4 hq5;go_wp2_with fail;refine (gP y1 y2 A1 A2 d1 d2 P P _ (HV1.out.ext (aq _).drew') (HV2.out.ext (aq _).drew')).mono ?_;rintro e w2 ⟨rfl,hx2⟩;have HX2:=a4b (HXR.out.trans' ((aq _).drew'.trans' hx2));clear hx2;by_cases hz:cJ y1 y2<0
           ·have tz:decide (0<=cJ y1 y2)=false:=a4f I
            have HZ:=a4b hz;go_wp2_with fail;go_roundw
            case rel=>exact ⟨q+2,I,I,by go_num,HX2.out,i5⟩
            case measure=>simp [intOf];omega
           ·have tz:decide (0<=cJ y1 y2)=true:=a4e I
            have HZ:=a4b hz;go_wp2_with fail;go_ret;exact ⟨aC (by rw [HF.out,HD.out,a4f (show ¬ cJ y1 y2<0 by have:=HZ.out;omega)];simp),HE.out.trans' HX2.out⟩
          ·have HZ:=a4b (show sF x.values=true by rw [HT.out];exact oO jr)
           go_wp2_with fail;go_ret;exact ⟨aC (by rw [HF.out,HKT.out,HZ.out];rfl),HE.out.trans' HXR.out⟩
        ·go_wp2_with fail
         go_ret;exact ⟨aC (by rw [HF.out];simp),HE.out⟩
      ·go_wp2_with fail
       go_ret;exact ⟨aC (by rw [HF.out];simp),HE.out⟩
  ·go_wp2_with fail
   go_ret;exact ⟨aC (by rw [HF.out];rfl),HE.out⟩
theorem pM (v):∀ l i,∃ a b,l=a ++ b∧(cH v i l).1=i+a.length∧(∀ y ∈ a,ltV y v) ∧
  (((cH v i l).2=true∧∃ c,b=v :: c)∨((cH v i l).2=false∧(b=[]∨∃ y c,b=y :: c∧ltV v y)))
 | [],i=>⟨[],[],rfl,by simp [cH],O,.inr ⟨by simp [cH],.inl rfl⟩⟩
 | x :: xs,i=>by
  by_cases h:cJ x v<0
  ·obtain ⟨a,b,e,h1,h2,h3⟩:=pM v xs (i+1)
   refine ⟨x :: a,b,gh,?_,?_,?_⟩
   ·simp only [cH,if_pos h,h1,ai];omega
   ·intro y hy
    rcases ao.1 hy with rfl | hy
    ·exact h
    ·exact h2 y hy
   ·simp only [cH,if_pos h];exact h3
  ·refine ⟨[],x :: xs,rfl,by simp [cH,if_neg h],O,?_⟩
   simp only [cH,if_neg h];by_cases h0:cJ x v=0
   ·exact .inl ⟨iw,xs,by rw [fR x v h0]⟩
   ·exact .inr ⟨iw,.inr ⟨x,xs,rfl,by unfold ltV;have:=nM x v;omega⟩⟩
theorem sO (l v):∃ a b,l=a ++ b∧(cU l v).1=a.length∧(∀ y ∈ a,ltV y v) ∧
  (((cU l v).2=true∧∃ c,b=v :: c)∨((cU l v).2=false∧(b=[]∨∃ y c,b=y :: c∧ltV v y))):=by
 obtain ⟨a,b,h1,h2,h3⟩:=pM v l 0;exact ⟨a,b,h1,by unfold cU;omega,h3⟩
theorem jZ {l v}(hl:Inc l)(hv:v ∈ l):(cU l v).2=true∧(cU l v).1<l∧l.getD (cU l v).1 default=v:=by
 obtain ⟨a,b,e,h1,h2,h3⟩:=sO l v;rcases h3 with ⟨h3,c,rfl⟩ | ⟨h3,h4⟩
 ·refine ⟨h3,by rw [h1,e];simp,?_⟩
  rw [h1,e];simp
 ·exfalso
  rw [e] at hv hl;have hl':=List.pairwise_append.1 hl;rcases ap.1 hv with hv | hv
  ·exact (h2 v hv).irr
  ·rcases h4 with rfl | ⟨y,c,rfl,h4⟩
   ·simp at hv
   ·rcases ao.1 hv with rfl | hv
    ·exact h4.irr
    ·exact (h4.tr ((List.pairwise_cons.1 hl'.2.1).1 v hv)).irr
theorem aLl {l v}(hl:Inc l):Inc (aJr l v)∧∀ y,y ∈ aJr l v ↔ y=v∨y ∈ l:=by
 obtain ⟨a,b,e,h1,h2,h3⟩:=sO l v;unfold aJr;rcases h3 with ⟨h3,c,rfl⟩ | ⟨h3,h4⟩
 ·rw [if_pos h3]
  refine ⟨hl,fun y=>⟨.inr,?_⟩⟩;rintro (rfl | h)
  ·rw [e];simp
  ·exact h
 ·rw [if_neg (by rw [h3];simp),h1,e,List.take_left' rfl,List.drop_left' rfl]
  rw [e] at hl;have hl':=List.pairwise_append.1 hl
  have hb:∀ y ∈ b,ltV v y:=by
   intro y hy;rcases h4 with rfl | ⟨z,c,rfl,h4⟩
   ·simp at hy
   ·rcases ao.1 hy with rfl | hy
    ·exact h4
    ·exact h4.tr ((List.pairwise_cons.1 hl'.2.1).1 y hy)
  refine ⟨List.pairwise_append.2 ⟨hl'.1,List.pairwise_cons.2 ⟨hb,hl'.2.1⟩,?_⟩,fun y=>by simp;constructor <;> (intro h;rcases h with h | h | h <;> simp [h])⟩;intro x hx y hy;rcases ao.1 hy with rfl | hy
  ·exact h2 x hx
  ·exact (h2 x hx).tr (hb y hy)
theorem jQ:∀ l out,Inc out->Inc (eS out l)∧∀ y,y ∈ eS out l ↔ y ∈ out∨y ∈ l
 | [],out,h=>⟨h,fun y=>by simp [eS]⟩
 | x :: xs,out,h=>by
  obtain ⟨h1,h2⟩:=aLl (v:=x) h;obtain ⟨h3,h4⟩:=jQ xs (aJr out x) h1;refine ⟨h3,fun y=>?_⟩;simp only [eS];rw [h4,h2,ao];constructor
  ·rintro ((h | h) | h)
   ·exact .inr (.inl h)
   ·exact .inl h
   ·exact .inr (.inr h)
  ·rintro (h | h | h)
   ·exact .inl (.inr h)
   ·exact .inl (.inl h)
   ·exact .inr h
theorem jP (l):Inc (eM l):=(jQ l [] .nil).1
theorem eR (l y):y ∈ eM l ↔ y ∈ l:=by have:=(jQ l [] .nil).2 y;simpa [eM] using this
theorem qF {l}(h:Inc l):eM l=l:=Inc.ext (jP l) h (eR l)
theorem pH:∀ l out,(eS out l).length<=out+l
 | [],out=>by simp [eS]
 | x :: xs,out=>by
  have h1:=pH xs (aJr out x);have h2:=aLk out x;simp only [eS,ai];omega
theorem zJ (l):(eM l).length<=l:=by have:=pH l [];simpa [eM] using this
theorem xJ:∀ {l},sF l=true ↔ Inc l
 | []=>by simp [sF]
 | [_]=>by simp [sF]
 | a :: b :: l=>by
  simp only [sF,Bool.and_eq_true,decide_eq_true_eq];rw [xJ (l:=b :: l)];show _ ↔ List.Pairwise ltV (a :: b :: l);rw [List.pairwise_cons];constructor
  ·rintro ⟨h1,h2⟩
   refine ⟨?_,h2⟩;intro y hy;rcases ao.1 hy with rfl | hy
   ·exact h1
   ·exact ltV.tr h1 ((List.pairwise_cons.1 h2).1 y hy)
  ·rintro ⟨h1,h2⟩
   exact ⟨h1 b O,h2⟩
theorem aC3:∀ {a b:List GV},a.length=b->(a.zip b).all (fun p=>decide (cJ p.1 p.2=0))=true->a=b
 | [],[],_,_=>rfl
 | x :: xs,y :: ys,h,k=>by
  simp only [List.zip_cons_cons,List.all_cons,Bool.and_eq_true,decide_eq_true_eq] at k;rw [fR x y k.1,aC3 fw k.2]
 | [],_ :: _,h,_=>by simp at h
 | _ :: _,[],h,_=>by simp at h
theorem aC2:∀ (a:List GV),(a.zip a).all (fun p=>decide (cJ p.1 p.2=0))=true
 | []=>rfl
 | x :: xs=>by simp only [List.zip_cons_cons,List.all_cons,tB,aC2 xs];rfl
theorem uK {a b}:eB a b=true ↔ a=b:=by
 unfold eB;simp only [Bool.and_eq_true,decide_eq_true_eq];constructor
 ·rintro ⟨h1,h2⟩;exact aC3 h1 h2
 ·rintro rfl;exact ⟨rfl,aC2 a⟩
section
variable {P:Program}
theorem aJ (w:World){ops:Array Oper}{rest:List Oper}{o:Oper}{a:Act}{Q:Exit->Act->World->Prop}(hgd:o.guard=none)(s x:Operand)(t:TypeId)
  (ho:o.op=.call { callee:=.builtin .append,args:=#[s,x],argTypes:=#[t,t] })
  (B:Nat)(e:TypeId)(i:TypeInfo)(z:Value)(size bytes:Nat)(ht:P.underlying t=some (.slice e))(hi:P.info? e=some i)(hz:i.zero=some z)
  (hsize:i.size=size)(hby:i.bytes=bytes)(hzs:z.cells.size=size)(hsz:0<size)
  (v:Value)(n:Nat)(xs:List Value)(hs:a.eval s=v)(hown:w.ownsRow B e size v n xs)
  (S:Nat->Prop)(A:Option Addr)(m c:Nat)(news:List Value)(hx:a.eval x=.slice A m c)(hr:Sl w S size A m news)(h1:∀ u ∈ news,u.oneCell'=true)
  (h63:n+m<=1000000000000)(hbytes:(n+m)*bytes<=140737488355328)(hbase:B<=w)
  (h:∀ v' w',w'.ownsRow B e size v' (n+m) (xs ++ news)->Below B w w'->wpList P ops Q rest (a.put o.dst v') w'):wpList P ops Q (o :: rest) a w :=
 aN w hgd s x t ho B e i z size bytes ht hi hz hsize hby hzs hsz v n xs hs hown S A m c news hx hr h1 h63 hbytes hbase fun v' w' h2 h3 _ =>
  h v' w' h2 ⟨h3.os,h3.tape,h3.output,h3.size,fun k hk=>h3.block k I (fun e=>by have:=hown.block_ge e.symm;omega)⟩
end
theorem Sl.len_cast {w P size A n m cs}(h:Sl w P size A n cs)(e:n=m):Sl w P size A m cs:=e ▸ h
def cG:List GV->Int
 | []=>0
 | v :: vs=>if dO v=0 then cG vs else dO v
def bK (x:GN):List GV:=if x.kind=0 then x.value :: x.values else x.values
def iE (i:Int)(x:GN):Int :=
 if eH i x=false then 1 else if cG (bK x)=0 then (if bG x then 0 else 5) else cG (bK x)
def aJi (l:List GV)(W:World)(k:Value)(wr:World):Prop:=∃ j:Nat,j<=l.length∧k=↑j∧Ext W wr∧cG l=cG (l.drop j)
theorem aP0 (i:Int)(x a P w)(hx:NAt w P x a)(hvl:x.values.length<=1000000000)(hk:x.kind=0) :
  qg 57 #[↑i,fU x a] w (dI (.int .i64 (iE i x)) w):=by
 have HX:=a4b hx;have HN:=a4b (show iE i x=if eH i x=false then 1 else if cG (bK x)=0 then (if bG x then 0 else 5) else cG (bK x) from rfl);have HOV:=a4b (show bK x=[x.value] ++ x.values by unfold bK;rw [if_pos hk];rfl);have t0:(x.kind == 0)=true:=a4d hk;obtain ⟨hvl1,hvl2⟩:=hx.values.le;clear hx hk;obtain ⟨i0,hi,hz0,hz1,hz2⟩:=info_parts Tryz.info85;have HI:=a4b hi;clear hi;go_enter Tryz.func57,Tryz.ntmps57;go_wp2_with fail;refine (sI i x a P _ (HX.out.ext ((aq _).alloc' _))).mono ?_;rintro e w1 ⟨rfl,hx1⟩;have HBX:=a4b ((aw w 87 (aK x a).toArray).ext hx1);have HE:=a4b (((aq w).alloc' _).trans' hx1);clear hx1;have hb0:=HBX.out.cell' (u:=↑x.kind) 0 rfl;have hb6:=HBX.out.cell' (u:=.slice a.vA x.values a.vc) 6 rfl;have hb8:=HBX.out.cell' (u:=↑x.value.kind) 8 rfl;have hb9:=HBX.out.cell' (u:=↑x.value.n) 9 rfl;have hb10:=HBX.out.cell' (u:=x.value.s) 10 rfl;have hb11:=HBX.out.cell' (u:=.slice a.xA x.value.kids a.xc) 11 rfl;generalize eH i x=bf at *;cases bf
 ·go_wp2_with fail
  go_ret;exact ⟨aI (by rw [HN.out];rfl),HE.out⟩
 ·have lw:=HBX.out.lt
  obtain ⟨vA,vc,css,ev,_,_,hvs,hvr⟩:=(HX.out.values.ext HE.out);injection ev with ev1 _ ev2;rw [<- ev1] at hvs;have HVS:=a4b hvs;have HVR:=a4b hvr;clear ev1 ev2 hvs hvr
  go_wp2_with (first
   | (at_builtin;refine aJ _ rfl (.tmp 18) (.tmp 21) 83 ba w1 85 i0 _ 4 56 Tryz.underlying83 HI.out hz0 hz1 hz2 rfl I qn 0 [] rfl (aP _ _ _ _) (fun _=>True) (qp w1) 1 1 [x.value.kind,x.value.n,x.value.s,.slice a.xA x.value.kids a.xc] rfl (Sl.new w1 _ _ _ _ rfl) cd I I O ?_;intro v2 w2 ho2 hbl2;have hw2:Below w1 w1 w2:=((Below.refl _ w1).alloc (ab _) _).trans hbl2;have hc6:qc w2 w 6 (.slice a.vA x.values a.vc):=(hw2.cell (p:=qt w 6) lw).trans hb6;clear hbl2)
   | (at_builtin;refine aJ _ rfl (.tmp 23) (.tmp 25) 83 ba w1 85 i0 _ 4 56 Tryz.underlying83 HI.out hz0 hz1 hz2 rfl I v2 _ _ rfl ho2 P a.vA x.values a.vc css rfl (HVS.out.ext hw2) HVR.out.oneCell I I hw2.size ?_;intro v3 w3 ho3 hbl3;have hw3:Below w1 w1 w3:=hw2.trans hbl3;clear hbl3 hc6))
  have hw3':Ext w1 w3:=hw3;have HW3:=a4b hw3';clear hw3'
  have HVL:=a4b (show bT w3 (fun b=>P b∨w1<=b) v3 (bK x) by
   rw [HOV.out];obtain ⟨A,c,e,h1,h2,h3⟩:=Sl.of_own ho3;unfold maxLen at h2;refine ⟨A,c,_,by rw [e];congr 1;simp;omega,bh,⟨bh,h2⟩,(h3 _ (fun b hb=>.inr (ho3.block_ge hb))).len_cast bh,?_⟩;exact RVs.keep (P:=P) (fun _ _ _=>rfl) (fun _ h=>.inl h) (RVs.append (RVs.append (show RVs w3 P [] [] from rfl) (RVs.one ((HX.out.value.ext (HE.out.trans' HW3.out)).rv))) (RVs.keep (aB.of_ext HW3.out) (fun _ h=>h) HVR.out)))
  clear ho3 hw3 ho2 hw2;obtain ⟨AL,cL,eL,hL1,hL2⟩:=HVL.out.form;subst eL;go_loopw [7] (fun k wr=>aJi (bK x) w3 k wr) (fun k _=>(bK x).length - (intOf k).toNat)
  case atStart=>exact ⟨0,af _,rfl,aq _,rfl⟩
  case round =>
   obtain ⟨j,hj,rfl,hxr,ht⟩:=hrel;have HT:=a4b ht;have HXR:=a4b hxr;clear ht hxr;by_cases hlt:j<(bK x)
   ·obtain ⟨b1,o1,A1,d1,rfl,-,hv1,g10,g11,g12,g13⟩:=(HVL.out.ext HXR.out).get hlt
    have HD:=a4b (show cG (bK x)=if dO ((bK x).getD j default)=0 then cG ((bK x).drop (j+1)) else dO ((bK x).getD j default) by
     rw [HT.out,aH default hlt];rfl)
    have HV1:=a4b hv1;clear hv1;generalize (bK x).getD j default=y at *;go_wp2_with fail;refine (mO y A1 d1 _ _ HV1.out).mono ?_;rintro e w4 ⟨rfl,hx4⟩;have HX4:=a4b (HXR.out.trans' hx4);clear hx4;by_cases hz:dO y=0
    ·have HZ:=a4b hz
     have tz:(dO y != 0)=false:=er;clear hz;go_wp2_with fail;go_roundw
     case rel=>exact ⟨j+1,I,by go_num,HX4.out,i6⟩
     case measure=>simp [intOf];omega
    ·have HZ:=a4b hz
     have tz:(dO y != 0)=true:=bne_iff_ne.2 hz;have HN2:=a4b (show iE i x=dO y by rw [HN.out,if_neg O,HD.out,if_neg hz,if_neg hz]);clear hz;go_wp2_with fail;go_ret;exact ⟨aI HN2.out.symm,HE.out.trans' (HW3.out.trans' HX4.out)⟩
   ·have HN2:=a4b (show iE i x=if bG x then 0 else 5 by
     rw [HN.out,if_neg O,HT.out,drop_nil I];rfl)
    have BX:=a4b (HBX.out.ext (HW3.out.trans' HXR.out));have x0:=BX.out.cell' (u:=↑x.kind) 0 rfl;have x1:=BX.out.cell' (u:=x.name) 1 rfl;have x2:=BX.out.cell' (u:=↑x.lo) 2 rfl;have x3:=BX.out.cell' (u:=↑x.hi) 3 rfl;have x4:=BX.out.cell' (u:=.slice a.wA x.weights a.wc) 4 rfl;have x5:=BX.out.cell' (u:=.slice a.lA x.labels a.lc) 5 rfl;have x6:=BX.out.cell' (u:=.slice a.vA x.values a.vc) 6 rfl;have x7:=BX.out.cell' (u:=.slice a.kA x.kids a.kc) 7 rfl;have x8:=BX.out.cell' (u:=↑x.value.kind) 8 rfl;have x9:=BX.out.cell' (u:=↑x.value.n) 9 rfl;have x10:=BX.out.cell' (u:=x.value.s) 10 rfl;have x11:=BX.out.cell' (u:=.slice a.xA x.value.kids a.xc) 11 rfl;go_wp2_with fail;refine (rR x a P _ (HX.out.ext (HE.out.trans' (HW3.out.trans' HXR.out)))).mono ?_;rintro e w4 ⟨rfl,hx4⟩;have HX4:=a4b ((HE.out.trans' (HW3.out.trans' HXR.out)).trans' hx4);clear hx4;generalize bG x=bn at *;cases bn
    ·go_wp2_with fail
     go_ret;exact ⟨aI ja,HX4.out⟩
    ·go_wp2_with fail
     go_ret;exact ⟨aI ja,HX4.out⟩
theorem aPz (i:Int)(x a P w)(hx:NAt w P x a)(hvl:x.values.length<=1000000000)(hk:¬ x.kind=0) :
  qg 57 #[↑i,fU x a] w (dI (.int .i64 (iE i x)) w):=by
 have HX:=a4b hx;have HN:=a4b (show iE i x=if eH i x=false then 1 else if cG (bK x)=0 then (if bG x then 0 else 5) else cG (bK x) from rfl);have HOV:=a4b (show bK x=x.values by unfold bK;rw [if_neg hk]);have t0:(x.kind == 0)=false:=a4c hk;obtain ⟨hvl1,hvl2⟩:=hx.values.le;clear hx hk;obtain ⟨i0,hi,hz0,hz1,hz2⟩:=info_parts Tryz.info85;have HI:=a4b hi;clear hi;go_enter Tryz.func57,Tryz.ntmps57;go_wp2_with fail;refine (sI i x a P _ (HX.out.ext ((aq _).alloc' _))).mono ?_;rintro e w1 ⟨rfl,hx1⟩;have HBX:=a4b ((aw w 87 (aK x a).toArray).ext hx1);have HE:=a4b (((aq w).alloc' _).trans' hx1);clear hx1;have hb0:=HBX.out.cell' (u:=↑x.kind) 0 rfl;have hb6:=HBX.out.cell' (u:=.slice a.vA x.values a.vc) 6 rfl;generalize eH i x=bf at *;cases bf
 ·go_wp2_with fail
  go_ret;exact ⟨aI (by rw [HN.out];rfl),HE.out⟩
 ·obtain ⟨vA,vc,css,ev,_,_,hvs,hvr⟩:=(HX.out.values.ext HE.out)
  injection ev with ev1 _ ev2;rw [<- ev1] at hvs;have HVS:=a4b hvs;have HVR:=a4b hvr;clear ev1 ev2 hvs hvr;go_wp2_with (at_builtin;refine aJ _ rfl (.tmp 23) (.tmp 25) 83 ba w1 85 i0 _ 4 56 Tryz.underlying83 HI.out hz0 hz1 hz2 rfl I qn 0 [] rfl (aP _ _ _ _) P a.vA x.values a.vc css rfl HVS.out HVR.out.oneCell I I (ab _) ?_;intro v3 w3 ho3 hbl3;have hw3:Below w1 w1 w3:=hbl3;clear hbl3);have hw3':Ext w1 w3:=hw3;have HW3:=a4b hw3';clear hw3'
  have HVL:=a4b (show bT w3 (fun b=>P b∨w1<=b) v3 (bK x) by
   rw [HOV.out];obtain ⟨A,c,e,h1,h2,h3⟩:=Sl.of_own ho3;unfold maxLen at h2;refine ⟨A,c,_,by rw [e];congr 1;omega,I,⟨I,h2⟩,(h3 _ (fun b hb=>.inr (ho3.block_ge hb))).len_cast I,?_⟩;exact RVs.keep (P:=P) (fun _ _ _=>rfl) (fun _ h=>.inl h) (RVs.append (show RVs w3 P [] [] from rfl) (RVs.keep (aB.of_ext HW3.out) (fun _ h=>h) HVR.out)))
  clear ho3 hw3;obtain ⟨AL,cL,eL,hL1,hL2⟩:=HVL.out.form;subst eL;go_loopw [7] (fun k wr=>aJi (bK x) w3 k wr) (fun k _=>(bK x).length - (intOf k).toNat)
  case atStart=>exact ⟨0,af _,rfl,aq _,rfl⟩
  case round =>
   obtain ⟨j,hj,rfl,hxr,ht⟩:=hrel;have HT:=a4b ht;have HXR:=a4b hxr;clear ht hxr;by_cases hlt:j<(bK x)
   ·obtain ⟨b1,o1,A1,d1,rfl,-,hv1,g10,g11,g12,g13⟩:=(HVL.out.ext HXR.out).get hlt
    have HD:=a4b (show cG (bK x)=if dO ((bK x).getD j default)=0 then cG ((bK x).drop (j+1)) else dO ((bK x).getD j default) by
     rw [HT.out,aH default hlt];rfl)
    have HV1:=a4b hv1;clear hv1;generalize (bK x).getD j default=y at *;go_wp2_with fail;refine (mO y A1 d1 _ _ HV1.out).mono ?_;rintro e w4 ⟨rfl,hx4⟩;have HX4:=a4b (HXR.out.trans' hx4);clear hx4;by_cases hz:dO y=0
    ·have HZ:=a4b hz
     have tz:(dO y != 0)=false:=er;clear hz;go_wp2_with fail;go_roundw
     case rel=>exact ⟨j+1,I,by go_num,HX4.out,i6⟩
     case measure=>simp [intOf];omega
    ·have HZ:=a4b hz
     have tz:(dO y != 0)=true:=bne_iff_ne.2 hz;have HN2:=a4b (show iE i x=dO y by rw [HN.out,if_neg O,HD.out,if_neg hz,if_neg hz]);clear hz;go_wp2_with fail;go_ret;exact ⟨aI HN2.out.symm,HE.out.trans' (HW3.out.trans' HX4.out)⟩
   ·have HN2:=a4b (show iE i x=if bG x then 0 else 5 by
     rw [HN.out,if_neg O,HT.out,drop_nil I];rfl)
    have BX:=a4b (HBX.out.ext (HW3.out.trans' HXR.out));have x0:=BX.out.cell' (u:=↑x.kind) 0 rfl;have x1:=BX.out.cell' (u:=x.name) 1 rfl;have x2:=BX.out.cell' (u:=↑x.lo) 2 rfl;have x3:=BX.out.cell' (u:=↑x.hi) 3 rfl;have x4:=BX.out.cell' (u:=.slice a.wA x.weights a.wc) 4 rfl;have x5:=BX.out.cell' (u:=.slice a.lA x.labels a.lc) 5 rfl;have x6:=BX.out.cell' (u:=.slice a.vA x.values a.vc) 6 rfl;have x7:=BX.out.cell' (u:=.slice a.kA x.kids a.kc) 7 rfl;have x8:=BX.out.cell' (u:=↑x.value.kind) 8 rfl;have x9:=BX.out.cell' (u:=↑x.value.n) 9 rfl;have x10:=BX.out.cell' (u:=x.value.s) 10 rfl;have x11:=BX.out.cell' (u:=.slice a.xA x.value.kids a.xc) 11 rfl;go_wp2_with fail;refine (rR x a P _ (HX.out.ext (HE.out.trans' (HW3.out.trans' HXR.out)))).mono ?_;rintro e w4 ⟨rfl,hx4⟩;have HX4:=a4b ((HE.out.trans' (HW3.out.trans' HXR.out)).trans' hx4);clear hx4;generalize bG x=bn at *;cases bn
    ·go_wp2_with fail
     go_ret;exact ⟨aI ja,HX4.out⟩
    ·go_wp2_with fail
     go_ret;exact ⟨aI ja,HX4.out⟩
theorem aLa (i:Int)(x a P w)(hx:NAt w P x a)(hvl:x.values.length<=1000000000) :
  qg 57 #[↑i,fU x a] w (dI (.int .i64 (iE i x)) w):=by
 by_cases hk:x.kind=0
 ·exact aP0 i x a P w hx hvl hk
 ·exact aPz i x a P w hx hvl hk
structure GL where
 vals:List GV
 many:Bool
instance:Inhabited GL:=⟨⟨[],false⟩⟩
def dZ (lo:Int):Nat->List GV
 | 0=>[]
 | n+1=>.mk 0 lo ByteArray.empty [] :: dZ (lo+1) n
def eT (rows:List (List GV))(vals:List GV):List (List GV):=rows.flatMap (fun r=>vals.map (fun v=>r ++ [v]))
def bL (before:List GL):List (List GV)->List Int->Option (List (List GV))
 | rows,[]=>some rows
 | rows,z :: zs=>if (before.getD z.toNat default).many=true∨1024<rows.length*(before.getD z.toNat default).vals.length then none
   else bL before (eT rows (before.getD z.toNat default).vals) zs
def zL (x:GN)(before:List GL):GL :=
 match bL before [[]] x.kids with
 | none=>⟨[],true⟩
 | some rows=>⟨eM (rows.map (bX x.name)),false⟩
def jH (before:List GL)(bind:Bool):Nat->List GV->Bool->List Int->GL
 | _,out,m,[]=>if m then ⟨[],true⟩ else ⟨out,false⟩
 | k,out,m,z :: zs=>if bind=true∧k=0 then jH before bind (k+1) out m zs
   else jH before bind (k+1) (eM (out ++ (before.getD z.toNat default).vals)) (m || (before.getD z.toNat default).many || decide (1024<(eM (out ++ (before.getD z.toNat default).vals)).length)) zs
def cI (before:List GL)(x:GN):GL :=
 if x.kind=0 then ⟨[x.value],false⟩
 else if x.kind=1 then (if 1024<=x.hi - x.lo then ⟨[],true⟩ else ⟨dZ x.lo (x.hi - x.lo+1).toNat,false⟩)
 else if x.kind=3 then zL x before
 else jH before (decide (x.kind=4)) 0 [] false x.kids
def jJ {β:Type}(f:List β->GN->β):List β->List GN->List β
 | acc,[]=>acc
 | acc,x :: xs=>jJ f (acc ++ [f acc x]) xs
theorem lY {β}(f):∀ a b (acc:List β),jJ f acc (a ++ b)=jJ f (jJ f acc a) b
 | [],_,_=>rfl
 | x :: xs,b,acc=>by simp only [List.cons_append,jJ];exact lY f xs b _
theorem eF {β}(f):∀ a (acc:List β),(jJ f acc a).length=acc+a
 | [],_=>rfl
 | x :: xs,acc=>by simp only [jJ];rw [eF f xs];simp;omega
theorem aEj {β}(f):∀ a (acc:List β),∃ l,jJ f acc a=acc ++ l
 | [],acc=>⟨[],by simp [jJ]⟩
 | x :: xs,acc=>by
  obtain ⟨l,h⟩:=aEj f xs (acc ++ [f acc x]);exact ⟨f acc x :: l,by simp only [jJ];rw [h];simp⟩
theorem gX {β}(f:List β->GN->β)(l:List GN)(i:Nat)(hi:i<=l):jJ f [] (l.take i)=(jJ f [] l).take i:=by
 have h:=lY f (l.take i) (l.drop i) [];rw [List.take_append_drop] at h;obtain ⟨r,hr⟩:=aEj f (l.drop i) (jJ f [] (l.take i));rw [h,hr,List.take_left'];rw [eF];simp;omega
theorem iS {β}(f:List β->GN->β)(l x):jJ f [] (l ++ [x])=jJ f [] l ++ [f (jJ f [] l) x]:=by
 rw [lY];rfl
theorem qS {β}(f:List β->GN->β)(d)(l:List GN){i:Nat}(hi:i<l):(jJ f [] l).getD i d=f (jJ f [] (l.take i)) (l.getD i default):=by
 have h:=gX f l (i+1) I;rw [aR default hi,iS] at h;have hl:(jJ f [] (l.take i))=i:=by rw [eF];simp;omega
 have h2:((jJ f [] l).take (i+1)).getD i d=(jJ f [] l).getD i d:=by simp [List.getD]
 rw [<- h2,<- h];have:(jJ f [] (l.take i) ++ [f (jJ f [] (l.take i)) (l.getD i default)]).getD (jJ f [] (l.take i)) d=f (jJ f [] (l.take i)) (l.getD i default):=by simp
 rw [hl] at this;exact this
def aF (l:List GN):List GL:=jJ cI [] l
def aM (l:List GN):List Int:=jJ gZ [] l
def bH (l:List GN):List Int:=jJ jK [] l
def iB (t:List GN)(x:GN):Int :=
 if ((aF t).getD (x.kids.getD 0 0).toNat default).many then 4
 else if eB ((aF t).getD (x.kids.getD 0 0).toNat default).vals x.values then 0 else 1
def cP (t:List GN)(i:Nat):Int :=
 if iE i (t.getD i default)=0 then
  (if 256<(aM t).getD i 0∨1024<(bH t).getD i 0 then 4
   else if (t.getD i default).kind=4 then iB t (t.getD i default) else 0)
 else iE i (t.getD i default)
def cW (t:List GN):Nat->Nat->Int
 | _,0=>0
 | i,n+1=>if cP t i=0 then cW t (i+1) n else cP t i
def aY (t:List GN):Int:=if 4096<t.length then 4 else cW t 0 t
theorem jO:∀ t i n,cW t i n=0 ↔ ∀ j,i<=j->j<i+n->cP t j=0
 | _,i,0=>by simp only [cW,true_iff];intro j h1 h2;omega
 | t,i,n+1=>by
  simp only [cW];by_cases h:cP t i=0
  ·rw [if_pos h,jO t (i+1) n]
   constructor
   ·intro h1 j h2 h3
    rcases Nat.eq_or_lt_of_le h2 with rfl | h2
    ·exact h
    ·exact h1 j I I
   ·intro h1 j h2 h3
    exact h1 j I I
  ·rw [if_neg h]
   constructor
   ·intro h1;exact absurd h1 h
   ·intro h1;exact absurd (h1 i I I) h
def bD (t:List GN)(i:Nat):Prop:=i<=t∧t.length<=4096∧∀ j,j<i->cP t j=0
structure dV (j:Nat)(x:GN):Prop where
 kind:0<=x.kind∧x.kind<=4
 unused:fV x=true
 kids:∀ z ∈ x.kids,0<=z∧z<(j:Int)
 choice:x.kind=2->1<=x.kids.length∧x.kids.length<=256∧x.weights.length=x.kids∧(x.labels.length=0∨x.labels.length=x.kids)
 seq:x.kind=3->x.kids.length<=256∧(aU x.name=true∨(qR x.name=true∧x.kids.length<=16))
 bind:x.kind=4->x.kids.length=x.values+1
 inc:Inc x.values
 valid:cG (bK x)=0
 numbers:bG x=true
theorem kH {j:Nat}{x}:iE j x=0 ↔ dV j x:=by
 unfold iE;constructor
 ·intro h
  split at h
  ·omega
  ·next hf =>
   rw [Bool.not_eq_false] at hf;split at h
   ·next hv =>
    split at h
    ·next hn =>
     unfold eH fmA fmC fmS fmK at hf;simp only [Bool.and_eq_true,Bool.not_eq_true',Bool.or_eq_false_iff,Bool.and_eq_false_imp,decide_eq_false_iff_not,decide_eq_true_eq,Bool.not_eq_false',List.all_eq_true] at hf;obtain ⟨⟨⟨⟨⟨⟨h1,h2⟩,h3⟩,h4⟩,h5⟩,h6,h7⟩,h8⟩:=hf;refine ⟨⟨I,I⟩,h1,fun z hz=>?_,fun hk=>?_,fun hk=>?_,fun hk=>?_,xJ.1 h8,hv,hn⟩
     ·have:=h4 z hz;omega
     ·obtain ⟨⟨⟨a,b⟩,c⟩,d⟩:=h5 hk
      refine ⟨I,I,c,?_⟩;by_cases hl:x.labels.length=0
      ·exact .inl hl
      ·exact .inr (d I)
     ·obtain ⟨a,b⟩:=h6 hk
      refine ⟨I,?_⟩;by_cases he:aU x.name=true
      ·exact .inl he
      ·obtain ⟨c,d⟩:=b (by simpa using he)
       exact .inr ⟨c,I⟩
     ·exact h7 hk
    ·omega
   ·omega
 ·intro h
  have hf:eH j x=true:=by
   unfold eH fmA fmC fmS fmK;simp only [Bool.and_eq_true,Bool.not_eq_true',Bool.or_eq_false_iff,Bool.and_eq_false_imp,decide_eq_false_iff_not,decide_eq_true_eq,Bool.not_eq_false',List.all_eq_true];refine ⟨⟨⟨⟨⟨⟨h.unused,by have:=h.kind;omega⟩,by have:=h.kind;omega⟩,fun z hz=>by have:=h.kids z hz;omega⟩,fun hk=>?_⟩,fun hk=>?_,fun hk=>h.bind hk⟩,xJ.2 h.inc⟩
   ·obtain ⟨a,b,c,d⟩:=h.choice hk
    exact ⟨⟨⟨I,I⟩,c⟩,fun hl=>by omega⟩
   ·obtain ⟨a,b⟩:=h.seq hk
    refine ⟨I,fun he=>?_⟩;rcases b with b | ⟨b,c⟩
    ·rw [b] at he;cases he
    ·exact ⟨b,I⟩
  rw [if_neg (by simp [hf]),if_pos h.valid,if_pos h.numbers]
structure yQ (t:List GN)(j:Nat):Prop where
 node:dV j (t.getD j default)
 len:(aM t).getD j 0<=256
 size:(bH t).getD j 0<=1024
 many:(t.getD j default).kind=4->((aF t).getD ((t.getD j default).kids.getD 0 0).toNat default).many=false
 vals:(t.getD j default).kind=4->((aF t).getD ((t.getD j default).kids.getD 0 0).toNat default).vals=(t.getD j default).values
theorem nR {t j}:cP t j=0 ↔ yQ t j:=by
 unfold cP;constructor
 ·intro h
  split at h
  ·next hn =>
   split at h
   ·omega
   ·next hl =>
    split at h
    ·next hk =>
     unfold iB at h;split at h
     ·omega
     ·next hm =>
      split at h
      ·next hs=>exact ⟨kH.1 hn,I,I,fun _=>by simpa using hm,fun _=>uK.1 hs⟩
      ·omega
    ·next hk=>exact ⟨kH.1 hn,I,I,fun h=>absurd h hk,fun h=>absurd h hk⟩
  ·next hn=>exact absurd h hn
 ·intro h
  rw [if_pos (kH.2 h.node),if_neg (by have:=h.len;have:=h.size;omega)];split
  ·next hk =>
   unfold iB;rw [if_neg (by rw [h.many hk];simp),if_pos (uK.2 (h.vals hk))]
  ·rfl
theorem bD.at_ {t i j}(h:bD t i)(hj:j<i):yQ t j:=nR.1 (h.2.2 j hj)
theorem bD.mono {t i j}(h:bD t i)(hj:j<=i):bD t j:=⟨ji,h.2.1,fun k hk=>h.2.2 k I⟩
theorem eE {t}:aY t=0 ↔ bD t t.length:=by
 unfold aY bD;constructor
 ·intro h
  split at h
  ·omega
  ·next hl=>exact ⟨ab _,I,fun j hj=>(jO t 0 t).1 h j I I⟩
 ·rintro ⟨_,h1,h2⟩
  rw [if_neg I];exact (jO t 0 t).2 (fun j _ hj=>h2 j I)
theorem cS {x}(h:bG x=true):x.lo<=x.hi∧-4611686018427387904<=x.lo∧x.hi<=4611686018427387904∧x.hi<x.lo+1099511627776:=by
 unfold bG yR at h;simp only [Bool.and_eq_true,Bool.not_eq_true',Bool.or_eq_false_iff,decide_eq_false_iff_not] at h;omega
theorem dL (lo n):(dZ lo n)=n:=by
 induction n generalizing lo with
 | zero=>rfl
 | succ n ih=>simp [dZ,ih]
theorem iI {lo n v}:v ∈ dZ lo n ↔ ∃ k,lo<=k∧k<lo+n∧v=.mk 0 k ByteArray.empty []:=by
 induction n generalizing lo with
 | zero=>simp only [dZ,List.not_mem_nil,false_iff];rintro ⟨k,h1,h2,_⟩;omega
 | succ n ih =>
  simp only [dZ,ao,ih];constructor
  ·rintro (h | ⟨k,h1,h2,h3⟩)
   ·exact ⟨lo,I,I,h⟩
   ·exact ⟨k,I,I,h3⟩
  ·rintro ⟨k,h1,h2,h3⟩
   by_cases hk:k=lo
   ·subst hk;exact .inl h3
   ·exact .inr ⟨k,I,I,h3⟩
theorem aL9 (a b):cJ (.mk 0 a ByteArray.empty []) (.mk 0 b ByteArray.empty [])=iU a b:=by
 simp only [cJ,cR];rw [lX rfl,tD rfl];simp only [if_true];split
 ·next h=>exact h.symm
 ·rfl
theorem aE8 (lo n):Inc (dZ lo n):=by
 induction n generalizing lo with
 | zero=>exact .nil
 | succ n ih =>
  refine List.pairwise_cons.2 ⟨fun y hy=>?_,ih _⟩;obtain ⟨k,h1,h2,rfl⟩:=iI.1 hy;unfold ltV;rw [aL9,fK];omega
abbrev aWh (l:List (List GV)):Prop:=l.Pairwise (fun a b=>cR a b<0)
theorem vI {a b:List GV}(h:a.length=b)(x y):cR (a ++ [x]) (b ++ [y])=if cR a b=0 then cJ x y else cR a b:=by
 induction a generalizing b with
 | nil =>
  cases b with
  | nil=>simp only [List.nil_append,cR,if_true];split <;> omega
  | cons _ _=>simp at h
 | cons u us ih =>
  cases b with
  | nil=>simp at h
  | cons v vs =>
   simp only [List.cons_append,cR];rw [ih fw];by_cases h0:cJ u v=0
   ·simp [h0]
   ·simp [h0]
theorem gO (rows vals):(eT rows vals).length=rows*vals:=by
 unfold eT
 induction rows with
 | nil=>simp
 | cons r rs ih=>simp only [List.flatMap_cons,aa,List.length_map,ih,ai,Nat.add_mul];omega
theorem jV {rows vals r}:r ∈ eT rows vals ↔ ∃ q ∈ rows,∃ v ∈ vals,r=q ++ [v]:=by
 unfold eT;simp only [List.mem_flatMap,List.mem_map];constructor
 ·rintro ⟨q,hq,v,hv,rfl⟩;exact ⟨q,hq,v,hv,rfl⟩
 ·rintro ⟨q,hq,v,hv,rfl⟩;exact ⟨q,hq,v,hv,rfl⟩
theorem aG4 {rows vals n}(hr:aWh rows)(hn:∀ r ∈ rows,r.length=n)(hv:Inc vals) :
  aWh (eT rows vals)∧∀ r ∈ eT rows vals,r.length=n+1:=by
 refine ⟨?_,fun r h=>by obtain ⟨q,hq,v,_,rfl⟩:=jV.1 h;simp [hn q hq]⟩;unfold eT
 induction rows with
 | nil=>simp
 | cons q qs ih =>
  rw [List.flatMap_cons];have hq:=List.pairwise_cons.1 hr;refine List.pairwise_append.2 ⟨?_,ih hq.2 (fun r h=>hn r (by simp [h])),?_⟩
  ·rw [List.pairwise_map]
   refine hv.imp (fun {a b} h=>?_);rw [vI rfl,aF2,if_pos rfl];exact h
  ·intro a ha b hb
   obtain ⟨v,_,rfl⟩:=List.mem_map.1 ha;obtain ⟨r,hr,hb⟩:=List.mem_flatMap.1 hb;obtain ⟨u,_,rfl⟩:=List.mem_map.1 hb;have h1:=hq.1 r hr;rw [vI (by rw [hn q O,hn r (by simp [hr])])];rw [if_neg I];exact h1
theorem aHi (s a b):cJ (bX s a) (bX s b)=cR a b:=by
 unfold bX;split <;> simp [cJ,lX,tD]
theorem aAg (s){rows}(h:aWh rows):Inc (rows.map (bX s)):=by
 rw [Inc,List.pairwise_map];exact h.imp (fun {a b} h=>by unfold ltV;rw [aHi];exact h)
structure LOK (l:GL):Prop where
 none_:l.many=true->l.vals=[]
 inc:Inc l.vals
 some_:l.many=false->l.vals ≠ []
 few:l.vals.length<=1024
theorem Inc.nil:Inc []:=List.Pairwise.nil
theorem LOK.many_:LOK ⟨[],true⟩:=⟨fun _=>rfl,Inc.nil,fun h=>(by cases h),af _⟩
theorem oK {before}:∀ zs rows n,(∀ z ∈ zs,LOK (before.getD z.toNat default))->aWh rows->(∀ r ∈ rows,r.length=n)->rows ≠ []->rows.length<=1024 ->
  ∀ out,bL before rows zs=some out->aWh out∧out ≠ []∧out.length<=1024∧(∀ r ∈ out,r.length=n+zs)
 | [],rows,n,_,h1,h2,h3,h4,out,h=>by
  simp only [bL,Option.some.injEq] at h;subst h;exact ⟨h1,h3,h4,h2⟩
 | z :: zs,rows,n,hz,h1,h2,h3,h4,out,h=>by
  simp only [bL] at h;split at h
  ·cases h
  ·next hm =>
   have hl:=hz z O
   have hmf:(before.getD z.toNat default).many=false:=by
    cases e:(before.getD z.toNat default).many
    ·rfl
    ·exact absurd (.inl e) hm
   have hne:=hl.some_ hmf;obtain ⟨h5,h6⟩:=aG4 h1 h2 hl.inc;have hlen:=gO rows (before.getD z.toNat default).vals;have hpos:0<rows.length*(before.getD z.toNat default).vals.length:=Nat.mul_pos (List.length_pos_iff.2 h3) (List.length_pos_iff.2 hne);obtain ⟨a,b,c,d⟩:=oK zs _ (n+1) (fun y hy=>hz y db) h5 h6 (by intro e;rw [e] at hlen;rw [<- hlen] at hpos;exact absurd hpos cq) (by rw [hlen];omega) out h;exact ⟨a,b,c,fun r hr=>by rw [d r hr];simp;omega⟩
theorem aBu {before bind}:∀ zs k out m,(∀ z ∈ zs,LOK (before.getD z.toNat default))->Inc out->(m=false->out.length<=1024) ->
  (out ≠ []∨m=true∨(if bind=true∧k=0 then 2<=zs.length else 1<=zs.length))->LOK (jH before bind k out m zs)
 | [],k,out,m,_,h1,h2,h3=>by
  simp only [jH];split
  ·exact LOK.many_
  ·next hm =>
   have hmf:m=false:=by simpa using hm
   refine ⟨fun h=>(by cases h),h1,fun _=>?_,h2 hmf⟩;rcases h3 with h3 | h3 | h3
   ·exact h3
   ·exact absurd h3 hm
   ·split at h3 <;> simp at h3
 | z :: zs,k,out,m,hz,h1,h2,h3=>by
  simp only [jH];split
  ·next hb =>
   refine aBu zs (k+1) out m (fun y hy=>hz y db) h1 h2 ?_;rcases h3 with h3 | h3 | h3
   ·exact .inl h3
   ·exact .inr (.inl h3)
   ·rw [if_pos hb] at h3
    refine .inr (.inr ?_);rw [if_neg I];simp at h3;omega
  ·next hb =>
   have hl:=hz z O;refine aBu zs (k+1) _ _ (fun y hy=>hz y db) (jP _) ?_ ?_
   ·intro h
    simp only [Bool.or_eq_false_iff,decide_eq_false_iff_not] at h;omega
   ·cases e:(before.getD z.toNat default).many
    ·left
     have hne:=hl.some_ e;intro h0;obtain ⟨v,hv⟩:=List.exists_mem_of_ne_nil _ hne;have:=(eR (out ++ (before.getD z.toNat default).vals) v).2 (List.mem_append_right _ hv);rw [h0] at this;simp at this
    ·right;left;simp
theorem gT {t:List GN}{j:Nat}(hj:j<t){z}(hz:0<=z∧z<(j:Int)):(aF (t.take j)).getD z.toNat default=(aF t).getD z.toNat default:=by
 unfold aF;rw [gX _ _ _ I];have h:z.toNat<j:=by omega
 simp [List.getD,h]
theorem iN {t:List GN}{j:Nat}(hj:j<t):(aF t).getD j default=cI (aF (t.take j)) (t.getD j default):=qS cI default t hj
theorem mT {t i}(h:bD t i):∀ j,j<i->LOK ((aF t).getD j default):=by
 intro j
 induction j using Nat.strongRecOn with
 | ind j ih =>
  intro hj;have hjt:j<t:=by have:=h.1;omega
  have hc:=h.at_ hj;rw [iN hjt];generalize hx:t.getD j default=x at *;have hn:dV j x:=by have:=hc.node;rw [hx] at this;exact this
  have hk:∀ z ∈ x.kids,LOK ((aF (t.take j)).getD z.toNat default):=by
   intro z hz;have hz':=hn.kids z hz;rw [gT hjt hz'];exact ih z.toNat I I
  unfold cI;split
  ·exact ⟨fun h=>(by cases h),List.pairwise_singleton _ _,fun _=>by simp,O⟩
  ·split
   ·have hr:=cS hn.numbers
    split
    ·exact LOK.many_
    ·refine ⟨fun h=>(by cases h),aE8 _ _,fun _ e=>?_,?_⟩
     ·have:=dL x.lo (x.hi - x.lo+1).toNat
      have e':dZ x.lo (x.hi - x.lo+1).toNat=[]:=e;rw [e'] at this;simp at this;omega
     ·show (dZ x.lo (x.hi - x.lo+1).toNat).length<=1024
      rw [dL];omega
   ·split
    ·unfold zL
     split
     ·exact LOK.many_
     ·next rows hrows =>
      obtain ⟨a,b,c,d⟩:=oK x.kids [[]] 0 hk (List.pairwise_singleton _ _) O O O rows hrows;have hi:=aAg x.name a;refine ⟨fun h=>(by cases h),jP _,fun _=>?_,?_⟩
      ·show eM _ ≠ []
       rw [qF hi];simpa using b
      ·show (eM _).length<=1024
       rw [qF hi];simpa using c
    ·next h0 h1 h3 =>
     refine aBu _ _ _ _ hk Inc.nil (fun _=>af _) (.inr (.inr ?_));have hkd:=hn.kind;by_cases h2:x.kind=2
     ·rw [if_neg jg]
      have:=(hn.choice h2).1;omega
     ·have h4:x.kind=4:=by omega
      rw [if_pos (by simp [h4])];have hb:=hn.bind h4;have hm:=hc.many jb;have hv:=hc.vals jb;rw [hx] at hm hv;have hz:x.kids.getD 0 0 ∈ x.kids:=aD I;have hz':=hn.kids _ hz;have hl:=ih (x.kids.getD 0 0).toNat I I;have:=hl.some_ hm;rw [hv] at this;have:=List.length_pos_iff.2 this;omega
theorem eX {t i}(h:bD t i){j}(hj:j<i):(t.getD j default).kids.length<=1025∧(t.getD j default).values.length<=1024∧((t.getD j default).kind=4->1<=(t.getD j default).values.length):=by
 have hc:=h.at_ hj;have hn:=hc.node;generalize hx:t.getD j default=x at *;have hu:=hn.unused;unfold fV unA unB unC at hu;simp only [Bool.and_eq_true,Bool.not_eq_true',Bool.or_eq_false_iff,Bool.and_eq_false_imp,Bool.or_eq_true,decide_eq_false_iff_not,decide_eq_true_eq,Bool.not_eq_false'] at hu;have hkd:=hn.kind;by_cases h4:x.kind=4
 ·have hb:=hn.bind h4
  have hm:=hc.many jb;have hv:=hc.vals jb;rw [hx] at hm hv;have hz:x.kids.getD 0 0 ∈ x.kids:=aD I;have hz':=hn.kids _ hz;have hl:=mT h (x.kids.getD 0 0).toNat I;have h1:=hl.some_ hm;have h2:=hl.few;rw [hv] at h1 h2;have:=List.length_pos_iff.2 h1;exact ⟨I,h2,fun _=>by omega⟩
 ·have hv:x.values.length=0:=by
   have:=hu.1.2.2 h4;omega
  refine ⟨?_,I,fun h=>absurd h h4⟩;by_cases h2:x.kind=2
  ·have:=hn.choice h2;omega
  by_cases h3:x.kind=3
  ·have:=hn.seq h3;omega
  have:x.kids.length=0:=by
   rcases hu.2 with ⟨a,b⟩ | h
   ·omega
   ·omega
  omega
