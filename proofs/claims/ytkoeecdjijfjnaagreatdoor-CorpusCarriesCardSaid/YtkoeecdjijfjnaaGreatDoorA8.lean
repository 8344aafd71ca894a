/- Contracts and laws. Conditions: none. -/
import Derived.Test.YtkoeecdjijfjnaaGreatDoorA7
set_option linter.all false
set_option maxRecDepth 100000
set_option maxHeartbeats 8000000
namespace Go.Proofs.YtkoeecdjijfjnaaGreatDoor
open Go.RowKit
mutual
def dV (p:GV->Bool):GV->Bool
 | .mk k n s l=>p (.mk k n s l) && eT p l
def eT (p:GV->Bool):List GV->Bool
 | []=>true
 | x :: xs=>dV p x && eT p xs
end
theorem cH (p:GV->Bool)(x:GV):dV p x=(p x && eT p x.kids):=by
 obtain ⟨k,n,s,l⟩:=x;simp only [dV,GV.kids]
theorem eD (p:GV->Bool)(x:GV)(xs:List GV):eT p (x :: xs)=(dV p x && eT p xs):=by simp only [eT]
theorem dX (p:GV->Bool):eT p []=true:=by simp only [eT]
mutual
def rsz:GV->Int
 | .mk _ _ _ l=>zT 1 l
def zT:Int->List GV->Int
 | n,[]=>n
 | n,x :: xs=>zT (wrap64 (n+rsz x)) xs
end
theorem nX (x:GV):rsz x=zT 1 x.kids:=by obtain ⟨k,n,s,l⟩:=x;simp only [rsz,GV.kids]
theorem gQ (n:Int)(x:GV)(xs:List GV):zT n (x :: xs)=zT (wrap64 (n+rsz x)) xs:=by simp only [zT]
theorem fM (n:Int):zT n []=n:=by simp only [zT]
def wT (N:Nat):Prop:=∀ (x:GV)(A:Option Addr)(c:Nat)(P:Nat->Prop)(w:World),gsz x<N->VAt w P x A c ->
  qg 58 #[cN x A c] w (dE (.int .i64 (rsz x)) w)
def Ds (x:GV)(W:World)(n i:Value)(wr:World):Prop:=∃ (k:Nat)(m:Int),k<=x.kids∧i=↑k∧n=↑m∧Ext W wr∧rsz x=zT m (x.kids.drop k)
theorem xZ (N:Nat)(hS:wT N):wT (N+1):=by
 intro x A c P w hN hx;have HX:=aYf hx;have HN:=aYf (show ∀ z ∈ x.kids,gsz z<N from fun z hz=>by have:=iL hz;omega);have HC:=aYf (nX x);have hx5:=hx.cap;clear hx;go_enter Tryz.func58,Tryz.ntmps58;go_wp2_with fail;have HX0:Hid (Ext w (w.alloc (qk (qh x A c) 58))):=(aq _).alloc' _;have hb1:=(aw w 58 (qh x A c)).cell' (u:=.slice A x.kids c) 3 rfl;generalize w.alloc (qk (qh x A c) 58)=W at *;go_loopw [3,4] (fun n i wr=>Ds x W n i wr) (fun _ i _=>x.kids.length - (intOf i).toNat)
 case atStart=>exact ⟨0,1,af _,rfl,rfl,aq _,HC.out⟩
 case round =>
  obtain ⟨k,m,hk,rfl,rfl,hx,ht⟩:=hrel;have HT:=aYf ht;have hc1:=aA hx hb1;have HW:=aYf hx;have HXK:=aYf (HX.out.kids.ext (HX0.out.trans' hx));clear ht hx;by_cases hlt:k<x.kids
  ·have HD:=aYf (show rsz x=zT m (x.kids.getD k default :: x.kids.drop (k+1)) by rw [HT.out,<- aJ default hlt])
   obtain ⟨b1,o1,c1,A1,d1,e1,-,-,-,hv1,g10,g11,g12,g13⟩:=HXK.out.at_ hlt;cases e1;have HM:=aYf (HN.out _ (aC (d:=default) hlt));have HV1:=aYf hv1;clear hv1 HXK hb1;generalize x.kids.getD k default=x1 at *;go_wp2_with fail;refine (hS x1 A1 d1 P _ HM.out HV1.out).mono ?_;rintro e w1 ⟨rfl,hx1⟩;have HX1:=aYf (HW.out.trans' hx1);clear hx1;go_wp2_with fail;go_roundw
   case rel=>exact ⟨k+1,_,I,by go_num,rfl,HX1.out,by rw [HD.out,gQ]⟩
   case measure=>simp [intOf];omega
  ·go_wp2_with fail
   go_ret;exact ⟨aK (by rw [HT.out,drop_nil I,fM]),HX0.out.trans' HW.out⟩
theorem Es (N:Nat):wT N:=by
 induction N with
 | zero=>intro x A c P w hN;omega
 | succ N ih=>exact xZ N ih
theorem pW (x:GV)(A:Option Addr)(c:Nat)(P:Nat->Prop)(w:World)(hx:VAt w P x A c) :
  qg 58 #[cN x A c] w (dE (.int .i64 (rsz x)) w):=Es (gsz x+1) x A c P w I hx
def iM (f:Nat)(r:Bool->Bool)(p:GV->Bool)(N:Nat):Prop:=∀ (x:GV)(A:Option Addr)(c:Nat)(P:Nat->Prop)(w:World),gsz x<N->VAt w P x A c ->
  qg f #[cN x A c] w (dE (r (dV p x)) w)
def rX (p:GV->Bool)(x:GV)(W:World)(i:Value)(wr:World):Prop:=∃ (k:Nat),k<=x.kids∧i=↑k∧Ext W wr∧dV p x=eT p (x.kids.drop k)
def cD (x:GV):Bool:=!(decide (x.kind=2∧256<x.kids.length) || decide (x.kind=3∧16<x.kids.length))
theorem xY (N:Nat)(hS:iM 87 (! ·) cD N):iM 87 (! ·) cD (N+1):=by
 intro x A c P w hN hx;have HX:=aYf hx;have HN:=aYf (show ∀ z ∈ x.kids,gsz z<N from fun z hz=>by have:=iL hz;omega);have hx5:=hx.cap;clear hx;by_cases h2:x.kind=2
 ·have t2:(x.kind == 2)=true:=aYh h2
  have t3:(x.kind == 3)=false:=aYg I;by_cases hw:256<x.kids.length
  ·have HC:=aYf (show dV cD x=false by rw [cH];simp [cD,h2,hw])
   clear h2;go_enter Tryz.func87,Tryz.ntmps87;go_wp2_with fail;go_ret;exact ⟨aD (by rw [HC.out];rfl),(aq _).alloc' _⟩
  ·have HC:=aYf (show dV cD x=eT cD (x.kids.drop 0) by rw [cH];simp [cD,h2,hw])
   have td:decide (256<(x.kids:Int))=false:=bh;clear h2;go_enter Tryz.func87,Tryz.ntmps87;go_wp2_with fail;have HX0:Hid (Ext w (w.alloc (qk (qh x A c) 58))):=(aq _).alloc' _;have hb1:=(aw w 58 (qh x A c)).cell' (u:=.slice A x.kids c) 3 rfl;generalize w.alloc (qk (qh x A c) 58)=W at *;go_loopw [3] (fun i wr=>rX cD x W i wr) (fun i _=>x.kids.length - (intOf i).toNat)
   case atStart=>exact ⟨0,af _,rfl,aq _,HC.out⟩
   case round =>
    obtain ⟨k,hk,rfl,hx,ht⟩:=hrel;have HT:=aYf ht;have hc1:=aA hx hb1;have HW:=aYf hx;have HXK:=aYf (HX.out.kids.ext (HX0.out.trans' hx));clear ht hx;by_cases hlt:k<x.kids
    ·have HD:=aYf (show dV cD x=eT cD (x.kids.getD k default :: x.kids.drop (k+1)) by rw [HT.out,<- aJ default hlt])
     obtain ⟨b1,o1,c1,A1,d1,e1,-,-,-,hv1,g10,g11,g12,g13⟩:=HXK.out.at_ hlt;cases e1;have HM:=aYf (HN.out _ (aC (d:=default) hlt));have HV1:=aYf hv1;clear hv1 HXK hb1;generalize x.kids.getD k default=x1 at *;go_wp2_with fail;refine (hS x1 A1 d1 P _ HM.out HV1.out).mono ?_;rintro e w1 ⟨rfl,hx1⟩;have HX1:=aYf (HW.out.trans' hx1);clear hx1;have HDC:=aYf (HD.out.trans (eD _ _ _));generalize dV cD x1=bb at *;cases bb
     ·go_wp2_with fail
      go_ret;exact ⟨aD ei,HX0.out.trans' HX1.out⟩
     ·go_wp2_with fail
      go_roundw
      case rel=>exact ⟨k+1,I,by go_num,HX1.out,ei⟩
      case measure=>simp [intOf];omega
    ·go_wp2_with fail
     go_ret;exact ⟨aD ib,HX0.out.trans' HW.out⟩
 by_cases h3:x.kind=3
 ·have t2:(x.kind == 2)=false:=aYg I
  have t3:(x.kind == 3)=true:=aYh h3;by_cases hw:16<x.kids.length
  ·have HC:=aYf (show dV cD x=false by rw [cH];simp [cD,h3,hw])
   clear h2 h3;go_enter Tryz.func87,Tryz.ntmps87;go_wp2_with fail;go_ret;exact ⟨aD (by rw [HC.out];rfl),(aq _).alloc' _⟩
  ·have HC:=aYf (show dV cD x=eT cD (x.kids.drop 0) by rw [cH];simp [cD,h3,hw])
   have td:decide (16<(x.kids:Int))=false:=bh;clear h2 h3;go_enter Tryz.func87,Tryz.ntmps87;go_wp2_with fail;have HX0:Hid (Ext w (w.alloc (qk (qh x A c) 58))):=(aq _).alloc' _;have hb1:=(aw w 58 (qh x A c)).cell' (u:=.slice A x.kids c) 3 rfl;generalize w.alloc (qk (qh x A c) 58)=W at *;go_loopw [3] (fun i wr=>rX cD x W i wr) (fun i _=>x.kids.length - (intOf i).toNat)
   case atStart=>exact ⟨0,af _,rfl,aq _,HC.out⟩
   case round =>
    obtain ⟨k,hk,rfl,hx,ht⟩:=hrel;have HT:=aYf ht;have hc1:=aA hx hb1;have HW:=aYf hx;have HXK:=aYf (HX.out.kids.ext (HX0.out.trans' hx));clear ht hx;by_cases hlt:k<x.kids
    ·have HD:=aYf (show dV cD x=eT cD (x.kids.getD k default :: x.kids.drop (k+1)) by rw [HT.out,<- aJ default hlt])
     obtain ⟨b1,o1,c1,A1,d1,e1,-,-,-,hv1,g10,g11,g12,g13⟩:=HXK.out.at_ hlt;cases e1;have HM:=aYf (HN.out _ (aC (d:=default) hlt));have HV1:=aYf hv1;clear hv1 HXK hb1;generalize x.kids.getD k default=x1 at *;go_wp2_with fail;refine (hS x1 A1 d1 P _ HM.out HV1.out).mono ?_;rintro e w1 ⟨rfl,hx1⟩;have HX1:=aYf (HW.out.trans' hx1);clear hx1;have HDC:=aYf (HD.out.trans (eD _ _ _));generalize dV cD x1=bb at *;cases bb
     ·go_wp2_with fail
      go_ret;exact ⟨aD ei,HX0.out.trans' HX1.out⟩
     ·go_wp2_with fail
      go_roundw
      case rel=>exact ⟨k+1,I,by go_num,HX1.out,ei⟩
      case measure=>simp [intOf];omega
    ·go_wp2_with fail
     go_ret;exact ⟨aD ib,HX0.out.trans' HW.out⟩
 ·have t2:(x.kind == 2)=false:=aYg I
  have t3:(x.kind == 3)=false:=aYg I
  ·have HC:=aYf (show dV cD x=eT cD (x.kids.drop 0) by rw [cH];simp [cD,h2,h3])
   clear h2 h3;go_enter Tryz.func87,Tryz.ntmps87;go_wp2_with fail;have HX0:Hid (Ext w (w.alloc (qk (qh x A c) 58))):=(aq _).alloc' _;have hb1:=(aw w 58 (qh x A c)).cell' (u:=.slice A x.kids c) 3 rfl;generalize w.alloc (qk (qh x A c) 58)=W at *;go_loopw [3] (fun i wr=>rX cD x W i wr) (fun i _=>x.kids.length - (intOf i).toNat)
   case atStart=>exact ⟨0,af _,rfl,aq _,HC.out⟩
   case round =>
    obtain ⟨k,hk,rfl,hx,ht⟩:=hrel;have HT:=aYf ht;have hc1:=aA hx hb1;have HW:=aYf hx;have HXK:=aYf (HX.out.kids.ext (HX0.out.trans' hx));clear ht hx;by_cases hlt:k<x.kids
    ·have HD:=aYf (show dV cD x=eT cD (x.kids.getD k default :: x.kids.drop (k+1)) by rw [HT.out,<- aJ default hlt])
     obtain ⟨b1,o1,c1,A1,d1,e1,-,-,-,hv1,g10,g11,g12,g13⟩:=HXK.out.at_ hlt;cases e1;have HM:=aYf (HN.out _ (aC (d:=default) hlt));have HV1:=aYf hv1;clear hv1 HXK hb1;generalize x.kids.getD k default=x1 at *;go_wp2_with fail;refine (hS x1 A1 d1 P _ HM.out HV1.out).mono ?_;rintro e w1 ⟨rfl,hx1⟩;have HX1:=aYf (HW.out.trans' hx1);clear hx1;have HDC:=aYf (HD.out.trans (eD _ _ _));generalize dV cD x1=bb at *;cases bb
     ·go_wp2_with fail
      go_ret;exact ⟨aD ei,HX0.out.trans' HX1.out⟩
     ·go_wp2_with fail
      go_roundw
      case rel=>exact ⟨k+1,I,by go_num,HX1.out,ei⟩
      case measure=>simp [intOf];omega
    ·go_wp2_with fail
     go_ret;exact ⟨aD ib,HX0.out.trans' HW.out⟩
theorem I2 (N:Nat):iM 87 (! ·) cD N:=by
 induction N with
 | zero=>intro x A c P w hN;omega
 | succ N ih=>exact xY N ih
theorem vE (N:Nat)(x:GV)(A:Option Addr)(c:Nat)(P:Nat->Prop)(w:World)(hN:gsz x<N+1)(hx:VAt w P x A c)(hk:x.kind=0)(he:¬ x.s.toList=[]) :
  qg 86 #[cN x A c] w (dE (dV aG x) w):=by
 have HSZ:=aYf hx.s;clear hx;have t0:(x.kind == 0)=true:=aYh hk;have he1:x.s.toList.isEmpty=false:=by simpa using he
 have HC:=aYf (show dV aG x=false by rw [cH];simp [aG,bF,hk,he]);clear hk;go_enter Tryz.func86,Tryz.ntmps86;go_wp2_with (go_at_call 115;refine (aX _ _ HSZ.out).mono ?_;rintro e w' ⟨rfl,rfl⟩);go_ret;exact ⟨aD et,(aq _).alloc' _⟩
theorem vD (N:Nat)(x:GV)(A:Option Addr)(c:Nat)(P:Nat->Prop)(w:World)(hN:gsz x<N+1)(hx:VAt w P x A c)(hk:x.kind=0)(he:x.s.toList=[])(hl:0<x.kids.length) :
  qg 86 #[cN x A c] w (dE (dV aG x) w):=by
 have HSZ:=aYf hx.s;clear hx;have t0:(x.kind == 0)=true:=aYh hk;have HC:=aYf (show dV aG x=false by rw [cH];simp [aG,bF,hk,he,Nat.ne_of_gt hl]);clear hk;go_enter Tryz.func86,Tryz.ntmps86;go_wp2_with (go_at_call 115;refine (aX _ _ HSZ.out).mono ?_;rintro e w' ⟨rfl,rfl⟩);go_ret;exact ⟨aD et,(aq _).alloc' _⟩
theorem yE (N:Nat)(_:iM 86 (fun b=>b) aG N)(x:GV)(A:Option Addr)(c:Nat)(P:Nat->Prop)(w:World)(hN:gsz x<N+1)(hx:VAt w P x A c)(hk:x.kind=0)(he:x.s.toList=[])(hl:x.kids.length<=0) :
  qg 86 #[cN x A c] w (dE (dV aG x) w):=by
 have HSZ:=aYf hx.s;clear hx;have t0:(x.kind == 0)=true:=aYh hk;have t1:(x.kind == 1)=false:=aYg I;have t2:(x.kind == 2)=false:=aYg I;have t3:(x.kind == 3)=false:=aYg I;have HC:=aYf (show dV aG x=eT aG (x.kids.drop 0) by rw [cH];simp [aG,bF,hk,he,List.length_eq_zero_iff.1 (Nat.le_zero.1 hl)];try omega);have hlo:decide (x.kind<0)=false:=by simp;omega
 have hhi:decide (3<x.kind)=false:=bh;clear hk;go_enter Tryz.func86,Tryz.ntmps86;go_wp2_with (go_at_call 115;refine (aX _ _ HSZ.out).mono ?_;rintro e w' ⟨rfl,rfl⟩);have HX0:Hid (Ext w (w.alloc (qk (qh x A c) 58))):=(aq _).alloc' _;have hb1:=(aw w 58 (qh x A c)).cell' (u:=.slice A x.kids c) 3 rfl;generalize w.alloc (qk (qh x A c) 58)=W at *;go_loopw [4] (fun i wr=>rX aG x W i wr) (fun i _=>x.kids.length - (intOf i).toNat)
 case atStart=>exact ⟨0,af _,rfl,aq _,HC.out⟩
 case round =>
  obtain ⟨k,hk,rfl,hx,ht⟩:=hrel;have HT:=aYf ht;have hc1:=aA hx hb1;have HW:=aYf hx;clear ht hx;by_cases hlt:k<x.kids
  ·exact absurd hlt I
  ·go_wp2_with fail
   go_ret;exact ⟨aD fx,HX0.out.trans' HW.out⟩
theorem vC (N:Nat)(x:GV)(A:Option Addr)(c:Nat)(P:Nat->Prop)(w:World)(hN:gsz x<N+1)(hx:VAt w P x A c)(hk:x.kind=1)(he:¬ x.s.toList=[]) :
  qg 86 #[cN x A c] w (dE (dV aG x) w):=by
 have HSZ:=aYf hx.s;clear hx;have t0:(x.kind == 0)=false:=aYg I;have t1:(x.kind == 1)=true:=aYh hk;have he1:x.s.toList.isEmpty=false:=by simpa using he
 have HC:=aYf (show dV aG x=false by rw [cH];simp [aG,bF,hk,he]);clear hk;go_enter Tryz.func86,Tryz.ntmps86;go_wp2_with (go_at_call 115;refine (aX _ _ HSZ.out).mono ?_;rintro e w' ⟨rfl,rfl⟩);go_ret;exact ⟨aD et,(aq _).alloc' _⟩
theorem vB (N:Nat)(x:GV)(A:Option Addr)(c:Nat)(P:Nat->Prop)(w:World)(hN:gsz x<N+1)(hx:VAt w P x A c)(hk:x.kind=1)(he:x.s.toList=[])(hl:0<x.kids.length) :
  qg 86 #[cN x A c] w (dE (dV aG x) w):=by
 have HSZ:=aYf hx.s;clear hx;have t0:(x.kind == 0)=false:=aYg I;have t1:(x.kind == 1)=true:=aYh hk;have HC:=aYf (show dV aG x=false by rw [cH];simp [aG,bF,hk,he,Nat.ne_of_gt hl]);clear hk;go_enter Tryz.func86,Tryz.ntmps86;go_wp2_with (go_at_call 115;refine (aX _ _ HSZ.out).mono ?_;rintro e w' ⟨rfl,rfl⟩);go_ret;exact ⟨aD et,(aq _).alloc' _⟩
theorem uY (N:Nat)(x:GV)(A:Option Addr)(c:Nat)(P:Nat->Prop)(w:World)(hN:gsz x<N+1)(hx:VAt w P x A c)(hk:x.kind=1)(he:x.s.toList=[])(hl:x.kids.length<=0)(hn:x.n<0) :
  qg 86 #[cN x A c] w (dE (dV aG x) w):=by
 have HSZ:=aYf hx.s;clear hx;have t0:(x.kind == 0)=false:=aYg I;have t1:(x.kind == 1)=true:=aYh hk;have HC:=aYf (show dV aG x=false by rw [cH];simp [aG,bF,hk,he,List.length_eq_zero_iff.1 (Nat.le_zero.1 hl),show ¬ x.n=0 by omega,show ¬ x.n=1 by omega]);clear hk;go_enter Tryz.func86,Tryz.ntmps86;go_wp2_with (go_at_call 115;refine (aX _ _ HSZ.out).mono ?_;rintro e w' ⟨rfl,rfl⟩);go_ret;exact ⟨aD et,(aq _).alloc' _⟩
theorem uZ (N:Nat)(x:GV)(A:Option Addr)(c:Nat)(P:Nat->Prop)(w:World)(hN:gsz x<N+1)(hx:VAt w P x A c)(hk:x.kind=1)(he:x.s.toList=[])(hl:x.kids.length<=0)(hn:1<x.n) :
  qg 86 #[cN x A c] w (dE (dV aG x) w):=by
 have HSZ:=aYf hx.s;clear hx;have t0:(x.kind == 0)=false:=aYg I;have t1:(x.kind == 1)=true:=aYh hk;have hn0:decide (x.n<0)=false:=by first | exact aYi I | exact aYj I
 have HC:=aYf (show dV aG x=false by rw [cH];simp [aG,bF,hk,he,List.length_eq_zero_iff.1 (Nat.le_zero.1 hl),show ¬ x.n=0 by omega,show ¬ x.n=1 by omega]);clear hk;go_enter Tryz.func86,Tryz.ntmps86;go_wp2_with (go_at_call 115;refine (aX _ _ HSZ.out).mono ?_;rintro e w' ⟨rfl,rfl⟩);go_ret;exact ⟨aD et,(aq _).alloc' _⟩
theorem yD (N:Nat)(_:iM 86 (fun b=>b) aG N)(x:GV)(A:Option Addr)(c:Nat)(P:Nat->Prop)(w:World)(hN:gsz x<N+1)(hx:VAt w P x A c)(hk:x.kind=1)(he:x.s.toList=[])(hl:x.kids.length<=0)(hn:0<=x.n)(hn2:x.n<=1) :
  qg 86 #[cN x A c] w (dE (dV aG x) w):=by
 have HSZ:=aYf hx.s;clear hx;have t0:(x.kind == 0)=false:=aYg I;have t1:(x.kind == 1)=true:=aYh hk;have t2:(x.kind == 2)=false:=aYg I;have t3:(x.kind == 3)=false:=aYg I;have hn0:decide (x.n<0)=false:=by first | exact aYi I | exact aYj I
 have hn1:decide (1<x.n)=false:=by first | exact aYi I | exact aYj I
 have HC:=aYf (show dV aG x=eT aG (x.kids.drop 0) by rw [cH];simp [aG,bF,hk,he,List.length_eq_zero_iff.1 (Nat.le_zero.1 hl)];try omega);have hlo:decide (x.kind<0)=false:=by simp;omega
 have hhi:decide (3<x.kind)=false:=bh;clear hk;go_enter Tryz.func86,Tryz.ntmps86;go_wp2_with (go_at_call 115;refine (aX _ _ HSZ.out).mono ?_;rintro e w' ⟨rfl,rfl⟩);have HX0:Hid (Ext w (w.alloc (qk (qh x A c) 58))):=(aq _).alloc' _;have hb1:=(aw w 58 (qh x A c)).cell' (u:=.slice A x.kids c) 3 rfl;generalize w.alloc (qk (qh x A c) 58)=W at *;go_loopw [4] (fun i wr=>rX aG x W i wr) (fun i _=>x.kids.length - (intOf i).toNat)
 case atStart=>exact ⟨0,af _,rfl,aq _,HC.out⟩
 case round =>
  obtain ⟨k,hk,rfl,hx,ht⟩:=hrel;have HT:=aYf ht;have hc1:=aA hx hb1;have HW:=aYf hx;clear ht hx;by_cases hlt:k<x.kids
  ·exact absurd hlt I
  ·go_wp2_with fail
   go_ret;exact ⟨aD fx,HX0.out.trans' HW.out⟩
theorem uX (N:Nat)(x:GV)(A:Option Addr)(c:Nat)(P:Nat->Prop)(w:World)(hN:gsz x<N+1)(hx:VAt w P x A c)(hk:x.kind=2)(he:¬ x.s.toList=[]) :
  qg 86 #[cN x A c] w (dE (dV aG x) w):=by
 have HSZ:=aYf hx.s;clear hx;have t0:(x.kind == 0)=false:=aYg I;have t1:(x.kind == 1)=false:=aYg I;have t2:(x.kind == 2)=true:=aYh hk;have he1:x.s.toList.isEmpty=false:=by simpa using he
 have HC:=aYf (show dV aG x=false by rw [cH];simp [aG,bF,hk,he]);clear hk;go_enter Tryz.func86,Tryz.ntmps86;go_wp2_with (go_at_call 115;refine (aX _ _ HSZ.out).mono ?_;rintro e w' ⟨rfl,rfl⟩);go_ret;exact ⟨aD et,(aq _).alloc' _⟩
theorem uW (N:Nat)(x:GV)(A:Option Addr)(c:Nat)(P:Nat->Prop)(w:World)(hN:gsz x<N+1)(hx:VAt w P x A c)(hk:x.kind=2)(he:x.s.toList=[])(hn:¬ x.n=0) :
  qg 86 #[cN x A c] w (dE (dV aG x) w):=by
 have HSZ:=aYf hx.s;clear hx;have t0:(x.kind == 0)=false:=aYg I;have t1:(x.kind == 1)=false:=aYg I;have t2:(x.kind == 2)=true:=aYh hk;have hne:(x.n != 0)=true:=bne_iff_ne.2 hn;have HC:=aYf (show dV aG x=false by rw [cH];simp [aG,bF,hk,he,hn]);clear hk;go_enter Tryz.func86,Tryz.ntmps86;go_wp2_with (go_at_call 115;refine (aX _ _ HSZ.out).mono ?_;rintro e w' ⟨rfl,rfl⟩);go_ret;exact ⟨aD et,(aq _).alloc' _⟩
theorem yC (N:Nat)(hS:iM 86 (fun b=>b) aG N)(x:GV)(A:Option Addr)(c:Nat)(P:Nat->Prop)(w:World)(hN:gsz x<N+1)(hx:VAt w P x A c)(hk:x.kind=2)(he:x.s.toList=[])(hn:x.n=0) :
  qg 86 #[cN x A c] w (dE (dV aG x) w):=by
 have HX:=aYf hx;have HN:=aYf (show ∀ z ∈ x.kids,gsz z<N from fun z hz=>by have:=iL hz;omega);have HSZ:=aYf hx.s;have hx5:=hx.cap;clear hx;have t0:(x.kind == 0)=false:=aYg I;have t1:(x.kind == 1)=false:=aYg I;have t2:(x.kind == 2)=true:=aYh hk;have t3:(x.kind == 3)=false:=aYg I;have hne:(x.n != 0)=false:=by simp [hn]
 have HC:=aYf (show dV aG x=eT aG (x.kids.drop 0) by rw [cH];simp [aG,bF,hk,he,hn];try omega);have hlo:decide (x.kind<0)=false:=by simp;omega
 have hhi:decide (3<x.kind)=false:=bh;clear hk hn;go_enter Tryz.func86,Tryz.ntmps86;go_wp2_with (go_at_call 115;refine (aX _ _ HSZ.out).mono ?_;rintro e w' ⟨rfl,rfl⟩);have HX0:Hid (Ext w (w.alloc (qk (qh x A c) 58))):=(aq _).alloc' _;have hb1:=(aw w 58 (qh x A c)).cell' (u:=.slice A x.kids c) 3 rfl;generalize w.alloc (qk (qh x A c) 58)=W at *;go_loopw [4] (fun i wr=>rX aG x W i wr) (fun i _=>x.kids.length - (intOf i).toNat)
 case atStart=>exact ⟨0,af _,rfl,aq _,HC.out⟩
 case round =>
  obtain ⟨k,hk,rfl,hx,ht⟩:=hrel;have HT:=aYf ht;have hc1:=aA hx hb1;have HW:=aYf hx;have HXK:=aYf (HX.out.kids.ext (HX0.out.trans' hx));clear ht hx;by_cases hlt:k<x.kids
  ·have HD:=aYf (show dV aG x=eT aG (x.kids.getD k default :: x.kids.drop (k+1)) by rw [HT.out,<- aJ default hlt])
   obtain ⟨b1,o1,c1,A1,d1,e1,-,-,-,hv1,g10,g11,g12,g13⟩:=HXK.out.at_ hlt;cases e1;have HM:=aYf (HN.out _ (aC (d:=default) hlt));have HV1:=aYf hv1;clear hv1 HXK hb1;generalize x.kids.getD k default=x1 at *;go_wp2_with fail;refine (hS x1 A1 d1 P _ HM.out HV1.out).mono ?_;rintro e w1 ⟨rfl,hx1⟩;have HX1:=aYf (HW.out.trans' hx1);clear hx1;have HDC:=aYf (HD.out.trans (eD _ _ _));generalize dV aG x1=bb at *;cases bb
   ·go_wp2_with fail
    go_ret;exact ⟨aD ei,HX0.out.trans' HX1.out⟩
   ·go_wp2_with fail
    go_roundw
    case rel=>exact ⟨k+1,I,by go_num,HX1.out,ei⟩
    case measure=>simp [intOf];omega
  ·go_wp2_with fail
   go_ret;exact ⟨aD fx,HX0.out.trans' HW.out⟩
theorem uV (N:Nat)(x:GV)(A:Option Addr)(c:Nat)(P:Nat->Prop)(w:World)(hN:gsz x<N+1)(hx:VAt w P x A c)(hk:x.kind=3)(he:rO x.s=false) :
  qg 86 #[cN x A c] w (dE (dV aG x) w):=by
 have HSZ:=aYf hx.s;clear hx;have t0:(x.kind == 0)=false:=aYg I;have t1:(x.kind == 1)=false:=aYg I;have t2:(x.kind == 2)=false:=aYg I;have t3:(x.kind == 3)=true:=aYh hk;have HC:=aYf (show dV aG x=false by rw [cH];simp [aG,hk,he]);clear hk;go_enter Tryz.func86,Tryz.ntmps86;go_wp2_with (go_at_call 115;refine (aX _ _ HSZ.out).mono ?_;rintro e w' ⟨rfl,rfl⟩);go_ret;exact ⟨aD et,(aq _).alloc' _⟩
theorem uU (N:Nat)(x:GV)(A:Option Addr)(c:Nat)(P:Nat->Prop)(w:World)(hN:gsz x<N+1)(hx:VAt w P x A c)(hk:x.kind=3)(he:rO x.s=true)(hn:¬ x.n=0) :
  qg 86 #[cN x A c] w (dE (dV aG x) w):=by
 have HSZ:=aYf hx.s;clear hx;have t0:(x.kind == 0)=false:=aYg I;have t1:(x.kind == 1)=false:=aYg I;have t2:(x.kind == 2)=false:=aYg I;have t3:(x.kind == 3)=true:=aYh hk;have hne:(x.n != 0)=true:=bne_iff_ne.2 hn;have HC:=aYf (show dV aG x=false by rw [cH];simp [aG,hk,he,hn]);clear hk;go_enter Tryz.func86,Tryz.ntmps86;go_wp2_with (go_at_call 115;refine (aX _ _ HSZ.out).mono ?_;rintro e w' ⟨rfl,rfl⟩);go_ret;exact ⟨aD et,(aq _).alloc' _⟩
theorem yB (N:Nat)(hS:iM 86 (fun b=>b) aG N)(x:GV)(A:Option Addr)(c:Nat)(P:Nat->Prop)(w:World)(hN:gsz x<N+1)(hx:VAt w P x A c)(hk:x.kind=3)(he:rO x.s=true)(hn:x.n=0) :
  qg 86 #[cN x A c] w (dE (dV aG x) w):=by
 have HX:=aYf hx;have HN:=aYf (show ∀ z ∈ x.kids,gsz z<N from fun z hz=>by have:=iL hz;omega);have HSZ:=aYf hx.s;have hx5:=hx.cap;clear hx;have t0:(x.kind == 0)=false:=aYg I;have t1:(x.kind == 1)=false:=aYg I;have t2:(x.kind == 2)=false:=aYg I;have t3:(x.kind == 3)=true:=aYh hk;have hne:(x.n != 0)=false:=by simp [hn]
 have HC:=aYf (show dV aG x=eT aG (x.kids.drop 0) by rw [cH];simp [aG,hk,he,hn];try omega);have hlo:decide (x.kind<0)=false:=by simp;omega
 have hhi:decide (3<x.kind)=false:=bh;clear hk hn;go_enter Tryz.func86,Tryz.ntmps86;go_wp2_with (go_at_call 115;refine (aX _ _ HSZ.out).mono ?_;rintro e w' ⟨rfl,rfl⟩);have HX0:Hid (Ext w (w.alloc (qk (qh x A c) 58))):=(aq _).alloc' _;have hb1:=(aw w 58 (qh x A c)).cell' (u:=.slice A x.kids c) 3 rfl;generalize w.alloc (qk (qh x A c) 58)=W at *;go_loopw [4] (fun i wr=>rX aG x W i wr) (fun i _=>x.kids.length - (intOf i).toNat)
 case atStart=>exact ⟨0,af _,rfl,aq _,HC.out⟩
 case round =>
  obtain ⟨k,hk,rfl,hx,ht⟩:=hrel;have HT:=aYf ht;have hc1:=aA hx hb1;have HW:=aYf hx;have HXK:=aYf (HX.out.kids.ext (HX0.out.trans' hx));clear ht hx;by_cases hlt:k<x.kids
  ·have HD:=aYf (show dV aG x=eT aG (x.kids.getD k default :: x.kids.drop (k+1)) by rw [HT.out,<- aJ default hlt])
   obtain ⟨b1,o1,c1,A1,d1,e1,-,-,-,hv1,g10,g11,g12,g13⟩:=HXK.out.at_ hlt;cases e1;have HM:=aYf (HN.out _ (aC (d:=default) hlt));have HV1:=aYf hv1;clear hv1 HXK hb1;generalize x.kids.getD k default=x1 at *;go_wp2_with fail;refine (hS x1 A1 d1 P _ HM.out HV1.out).mono ?_;rintro e w1 ⟨rfl,hx1⟩;have HX1:=aYf (HW.out.trans' hx1);clear hx1;have HDC:=aYf (HD.out.trans (eD _ _ _));generalize dV aG x1=bb at *;cases bb
   ·go_wp2_with fail
    go_ret;exact ⟨aD ei,HX0.out.trans' HX1.out⟩
   ·go_wp2_with fail
    go_roundw
    case rel=>exact ⟨k+1,I,by go_num,HX1.out,ei⟩
    case measure=>simp [intOf];omega
  ·go_wp2_with fail
   go_ret;exact ⟨aD fx,HX0.out.trans' HW.out⟩
theorem yA (N:Nat)(x:GV)(A:Option Addr)(c:Nat)(P:Nat->Prop)(w:World)(hN:gsz x<N+1)(hx:VAt w P x A c)(hk:x.kind<0) :
  qg 86 #[cN x A c] w (dE (dV aG x) w):=by
 have HSZ:=aYf hx.s;clear hx;have t0:(x.kind == 0)=false:=aYg I;have t1:(x.kind == 1)=false:=aYg I;have t2:(x.kind == 2)=false:=aYg I;have t3:(x.kind == 3)=false:=aYg I;have HC:=aYf (show dV aG x=false by rw [cH];simp [aG,show ¬ x.kind=0 by omega,show ¬ x.kind=1 by omega,show ¬ x.kind=2 by omega,show ¬ x.kind=3 by omega]);go_enter Tryz.func86,Tryz.ntmps86;go_wp2_with (go_at_call 115;refine (aX _ _ HSZ.out).mono ?_;rintro e w' ⟨rfl,rfl⟩);go_ret;exact ⟨aD et,(aq _).alloc' _⟩
theorem yF (N:Nat)(x:GV)(A:Option Addr)(c:Nat)(P:Nat->Prop)(w:World)(hN:gsz x<N+1)(hx:VAt w P x A c)(hk:3<x.kind) :
  qg 86 #[cN x A c] w (dE (dV aG x) w):=by
 have HSZ:=aYf hx.s;clear hx;have t0:(x.kind == 0)=false:=aYg I;have t1:(x.kind == 1)=false:=aYg I;have t2:(x.kind == 2)=false:=aYg I;have t3:(x.kind == 3)=false:=aYg I;have hlo:decide (x.kind<0)=false:=by simp;omega
 have HC:=aYf (show dV aG x=false by rw [cH];simp [aG,show ¬ x.kind=0 by omega,show ¬ x.kind=1 by omega,show ¬ x.kind=2 by omega,show ¬ x.kind=3 by omega]);go_enter Tryz.func86,Tryz.ntmps86;go_wp2_with (go_at_call 115;refine (aX _ _ HSZ.out).mono ?_;rintro e w' ⟨rfl,rfl⟩);go_ret;exact ⟨aD et,(aq _).alloc' _⟩
