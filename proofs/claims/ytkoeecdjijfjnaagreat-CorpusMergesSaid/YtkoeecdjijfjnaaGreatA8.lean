/- Contracts of functions, plain laws. Conditions: none. -/
import Derived.Test.YtkoeecdjijfjnaaGreatA7
set_option maxRecDepth 100000
set_option maxHeartbeats 8000000
namespace Go.Proofs.YtkoeecdjijfjnaaGreat
open Go.RowKit
mutual
def dU (p:GV->Bool):GV->Bool
 | .mk k n s l=>p (.mk k n s l) && eP p l
def eP (p:GV->Bool):List GV->Bool
 | []=>true
 | x :: xs=>dU p x && eP p xs
end
theorem cC (p:GV->Bool)(x:GV):dU p x=(p x && eP p x.kids):=by
 obtain ⟨k,n,s,l⟩:=x;simp only [dU,GV.kids]
theorem eC (p:GV->Bool)(x:GV)(xs:List GV):eP p (x :: xs)=(dU p x && eP p xs):=by simp only [eP]
theorem dY (p:GV->Bool):eP p []=true:=by simp only [eP]
mutual
def rsz:GV->Int
 | .mk _ _ _ l=>xE 1 l
def xE:Int->List GV->Int
 | n,[]=>n
 | n,x :: xs=>xE (wrap64 (n+rsz x)) xs
end
theorem mU (x:GV):rsz x=xE 1 x.kids:=by obtain ⟨k,n,s,l⟩:=x;simp only [rsz,GV.kids]
theorem gG (n:Int)(x:GV)(xs:List GV):xE n (x :: xs)=xE (wrap64 (n+rsz x)) xs:=by simp only [xE]
theorem fM (n:Int):xE n []=n:=by simp only [xE]
def tZ (N:Nat):Prop:=∀ (x:GV)(A:Option Addr)(c:Nat)(P:Nat->Prop)(w:World),gsz x<N->VAt w P x A c ->
  Calls Tryz.prog 111 #[dS x A c] w (cT (.int .i64 (rsz x)) w)
def aPq (x:GV)(W:World)(n i:Value)(wr:World):Prop:=∃ (k:Nat)(m:Int),k<=x.kids.length∧i=↑k∧n=↑m∧Ext W wr∧rsz x=xE m (x.kids.drop k)
theorem vD (N:Nat)(hS:tZ N):tZ (N+1):=by
 intro x A c P w hN hx;have HX:=aZv hx;have HN:=aZv (show ∀ z ∈ x.kids,gsz z<N from fun z hz=>by have:=cP hz;omega);have HC:=aZv (mU x);have hx4:=hx.len;have hx5:=hx.cap;clear hx;go_enter Tryz.func111,Tryz.ntmps111;go_wp2_with fail;have HX0:Hid (Ext w (w.alloc (.cells #[↑x.kind,↑x.n,.string x.s,.slice A x.kids.length c] 85))):=(Ext.refl _).alloc' _;have hb1:=(Blk.new w 85 #[↑x.kind,↑x.n,.string x.s,.slice A x.kids.length c]).cell' (u:=.slice A x.kids.length c) 3 rfl;generalize w.alloc (.cells #[↑x.kind,↑x.n,.string x.s,.slice A x.kids.length c] 85)=W at *;go_loopw [3,4] (fun n i wr=>aPq x W n i wr) (fun _ i _=>x.kids.length - (intOf i).toNat)
 case atStart=>exact ⟨0,1,Nat.zero_le _,rfl,rfl,Ext.refl _,HC.out⟩
 case round =>
  obtain ⟨k,m,hk,rfl,rfl,hx,ht⟩:=hrel;have HT:=aZv ht;have hc1:=aA hx hb1;have HW:=aZv hx;have HXK:=aZv (HX.out.kids.ext (HX0.out.trans' hx));clear ht hx
  by_cases hlt:k<x.kids.length
  ·have HD:=aZv (show rsz x=xE m (x.kids.getD k default :: x.kids.drop (k+1)) by rw [HT.out,<- aF default hlt])
   obtain ⟨b1,o1,c1,A1,d1,e1,-,-,-,hv1,g10,g11,g12,g13⟩:=HXK.out.at_ hlt
   cases e1
   have HM:=aZv (HN.out _ (aD (d:=default) hlt));have HV1:=aZv hv1;clear hv1 HXK hb1;generalize x.kids.getD k default=x1 at *;go_wp2_with fail;refine (hS x1 A1 d1 P _ HM.out HV1.out).mono ?_;rintro e w1 ⟨rfl,hx1⟩;have HX1:=aZv (HW.out.trans' hx1);clear hx1;go_wp2_with fail;go_roundw
   case rel=>exact ⟨k+1,_,D,by go_num,rfl,HX1.out,by rw [HD.out,gG]⟩
   case measure=>simp [intOf];omega
  ·go_wp2_with fail
   go_ret;exact ⟨aL (by rw [HT.out,drop_nil D,fM]),HX0.out.trans' HW.out⟩
theorem xW (N:Nat):tZ N:=by
 induction N with
 | zero=>intro x A c P w hN;omega
 | succ N ih=>exact vD N ih
theorem oN (x:GV)(A:Option Addr)(c:Nat)(P:Nat->Prop)(w:World)(hx:VAt w P x A c) :
  Calls Tryz.prog 111 #[dS x A c] w (cT (.int .i64 (rsz x)) w):=xW (gsz x+1) x A c P w D hx
def gZ (f:Nat)(r:Bool->Bool)(p:GV->Bool)(N:Nat):Prop:=∀ (x:GV)(A:Option Addr)(c:Nat)(P:Nat->Prop)(w:World),gsz x<N->VAt w P x A c ->
  Calls Tryz.prog f #[dS x A c] w (cT (.bool (r (dU p x))) w)
def qD (p:GV->Bool)(x:GV)(W:World)(i:Value)(wr:World):Prop:=∃ (k:Nat),k<=x.kids.length∧i=↑k∧Ext W wr∧dU p x=eP p (x.kids.drop k)
def cA (x:GV):Bool:=!(decide (x.kind=2∧256<x.kids.length) || decide (x.kind=3∧16<x.kids.length))
theorem vC (N:Nat)(hS:gZ 153 (! ·) cA N):gZ 153 (! ·) cA (N+1):=by
 intro x A c P w hN hx;have HX:=aZv hx;have HN:=aZv (show ∀ z ∈ x.kids,gsz z<N from fun z hz=>by have:=cP hz;omega);have hx4:=hx.len;have hx5:=hx.cap;clear hx
 by_cases h2:x.kind=2
 ·have t2:(x.kind == 2)=true:=aZx h2
  have t3:(x.kind == 3)=false:=aZw D
  by_cases hw:256<x.kids.length
  ·have HC:=aZv (show dU cA x=false by rw [cC];simp [cA,h2,hw])
   clear h2;go_enter Tryz.func153,Tryz.ntmps153;go_wp2_with fail;go_ret;exact ⟨aC (by rw [HC.out];rfl),(Ext.refl _).alloc' _⟩
  ·have HC:=aZv (show dU cA x=eP cA (x.kids.drop 0) by rw [cC];simp [cA,h2,hw])
   have td:decide (256<(x.kids.length:Int))=false:=aa
   clear h2;go_enter Tryz.func153,Tryz.ntmps153;go_wp2_with fail;have HX0:Hid (Ext w (w.alloc (.cells #[↑x.kind,↑x.n,.string x.s,.slice A x.kids.length c] 85))):=(Ext.refl _).alloc' _;have hb1:=(Blk.new w 85 #[↑x.kind,↑x.n,.string x.s,.slice A x.kids.length c]).cell' (u:=.slice A x.kids.length c) 3 rfl;generalize w.alloc (.cells #[↑x.kind,↑x.n,.string x.s,.slice A x.kids.length c] 85)=W at *;go_loopw [3] (fun i wr=>qD cA x W i wr) (fun i _=>x.kids.length - (intOf i).toNat)
   case atStart=>exact ⟨0,Nat.zero_le _,rfl,Ext.refl _,HC.out⟩
   case round =>
    obtain ⟨k,hk,rfl,hx,ht⟩:=hrel;have HT:=aZv ht;have hc1:=aA hx hb1;have HW:=aZv hx;have HXK:=aZv (HX.out.kids.ext (HX0.out.trans' hx));clear ht hx
    by_cases hlt:k<x.kids.length
    ·have HD:=aZv (show dU cA x=eP cA (x.kids.getD k default :: x.kids.drop (k+1)) by rw [HT.out,<- aF default hlt])
     obtain ⟨b1,o1,c1,A1,d1,e1,-,-,-,hv1,g10,g11,g12,g13⟩:=HXK.out.at_ hlt
     cases e1
     have HM:=aZv (HN.out _ (aD (d:=default) hlt));have HV1:=aZv hv1;clear hv1 HXK hb1;generalize x.kids.getD k default=x1 at *;go_wp2_with fail;refine (hS x1 A1 d1 P _ HM.out HV1.out).mono ?_;rintro e w1 ⟨rfl,hx1⟩;have HX1:=aZv (HW.out.trans' hx1);clear hx1;have HDC:=aZv (HD.out.trans (eC _ _ _));generalize dU cA x1=bb at *
     cases bb
     ·go_wp2_with fail
      go_ret;exact ⟨aC cj,HX0.out.trans' HX1.out⟩
     ·go_wp2_with fail
      go_roundw
      case rel=>exact ⟨k+1,D,by go_num,HX1.out,cj⟩
      case measure=>simp [intOf];omega
    ·go_wp2_with fail
     go_ret;exact ⟨aC ff,HX0.out.trans' HW.out⟩
 by_cases h3:x.kind=3
 ·have t2:(x.kind == 2)=false:=aZw D
  have t3:(x.kind == 3)=true:=aZx h3
  by_cases hw:16<x.kids.length
  ·have HC:=aZv (show dU cA x=false by rw [cC];simp [cA,h3,hw])
   clear h2 h3;go_enter Tryz.func153,Tryz.ntmps153;go_wp2_with fail;go_ret;exact ⟨aC (by rw [HC.out];rfl),(Ext.refl _).alloc' _⟩
  ·have HC:=aZv (show dU cA x=eP cA (x.kids.drop 0) by rw [cC];simp [cA,h3,hw])
   have td:decide (16<(x.kids.length:Int))=false:=aa
   clear h2 h3;go_enter Tryz.func153,Tryz.ntmps153;go_wp2_with fail;have HX0:Hid (Ext w (w.alloc (.cells #[↑x.kind,↑x.n,.string x.s,.slice A x.kids.length c] 85))):=(Ext.refl _).alloc' _;have hb1:=(Blk.new w 85 #[↑x.kind,↑x.n,.string x.s,.slice A x.kids.length c]).cell' (u:=.slice A x.kids.length c) 3 rfl;generalize w.alloc (.cells #[↑x.kind,↑x.n,.string x.s,.slice A x.kids.length c] 85)=W at *;go_loopw [3] (fun i wr=>qD cA x W i wr) (fun i _=>x.kids.length - (intOf i).toNat)
   case atStart=>exact ⟨0,Nat.zero_le _,rfl,Ext.refl _,HC.out⟩
   case round =>
    obtain ⟨k,hk,rfl,hx,ht⟩:=hrel;have HT:=aZv ht;have hc1:=aA hx hb1;have HW:=aZv hx;have HXK:=aZv (HX.out.kids.ext (HX0.out.trans' hx));clear ht hx
    by_cases hlt:k<x.kids.length
    ·have HD:=aZv (show dU cA x=eP cA (x.kids.getD k default :: x.kids.drop (k+1)) by rw [HT.out,<- aF default hlt])
     obtain ⟨b1,o1,c1,A1,d1,e1,-,-,-,hv1,g10,g11,g12,g13⟩:=HXK.out.at_ hlt
     cases e1
     have HM:=aZv (HN.out _ (aD (d:=default) hlt));have HV1:=aZv hv1;clear hv1 HXK hb1;generalize x.kids.getD k default=x1 at *;go_wp2_with fail;refine (hS x1 A1 d1 P _ HM.out HV1.out).mono ?_;rintro e w1 ⟨rfl,hx1⟩;have HX1:=aZv (HW.out.trans' hx1);clear hx1;have HDC:=aZv (HD.out.trans (eC _ _ _));generalize dU cA x1=bb at *
     cases bb
     ·go_wp2_with fail
      go_ret;exact ⟨aC cj,HX0.out.trans' HX1.out⟩
     ·go_wp2_with fail
      go_roundw
      case rel=>exact ⟨k+1,D,by go_num,HX1.out,cj⟩
      case measure=>simp [intOf];omega
    ·go_wp2_with fail
     go_ret;exact ⟨aC ff,HX0.out.trans' HW.out⟩
 ·have t2:(x.kind == 2)=false:=aZw D
  have t3:(x.kind == 3)=false:=aZw D
  ·have HC:=aZv (show dU cA x=eP cA (x.kids.drop 0) by rw [cC];simp [cA,h2,h3])
   clear h2 h3;go_enter Tryz.func153,Tryz.ntmps153;go_wp2_with fail;have HX0:Hid (Ext w (w.alloc (.cells #[↑x.kind,↑x.n,.string x.s,.slice A x.kids.length c] 85))):=(Ext.refl _).alloc' _;have hb1:=(Blk.new w 85 #[↑x.kind,↑x.n,.string x.s,.slice A x.kids.length c]).cell' (u:=.slice A x.kids.length c) 3 rfl;generalize w.alloc (.cells #[↑x.kind,↑x.n,.string x.s,.slice A x.kids.length c] 85)=W at *;go_loopw [3] (fun i wr=>qD cA x W i wr) (fun i _=>x.kids.length - (intOf i).toNat)
   case atStart=>exact ⟨0,Nat.zero_le _,rfl,Ext.refl _,HC.out⟩
   case round =>
    obtain ⟨k,hk,rfl,hx,ht⟩:=hrel;have HT:=aZv ht;have hc1:=aA hx hb1;have HW:=aZv hx;have HXK:=aZv (HX.out.kids.ext (HX0.out.trans' hx));clear ht hx
    by_cases hlt:k<x.kids.length
    ·have HD:=aZv (show dU cA x=eP cA (x.kids.getD k default :: x.kids.drop (k+1)) by rw [HT.out,<- aF default hlt])
     obtain ⟨b1,o1,c1,A1,d1,e1,-,-,-,hv1,g10,g11,g12,g13⟩:=HXK.out.at_ hlt
     cases e1
     have HM:=aZv (HN.out _ (aD (d:=default) hlt));have HV1:=aZv hv1;clear hv1 HXK hb1;generalize x.kids.getD k default=x1 at *;go_wp2_with fail;refine (hS x1 A1 d1 P _ HM.out HV1.out).mono ?_;rintro e w1 ⟨rfl,hx1⟩;have HX1:=aZv (HW.out.trans' hx1);clear hx1;have HDC:=aZv (HD.out.trans (eC _ _ _));generalize dU cA x1=bb at *
     cases bb
     ·go_wp2_with fail
      go_ret;exact ⟨aC cj,HX0.out.trans' HX1.out⟩
     ·go_wp2_with fail
      go_roundw
      case rel=>exact ⟨k+1,D,by go_num,HX1.out,cj⟩
      case measure=>simp [intOf];omega
    ·go_wp2_with fail
     go_ret;exact ⟨aC ff,HX0.out.trans' HW.out⟩
theorem xU (N:Nat):gZ 153 (! ·) cA N:=by
 induction N with
 | zero=>intro x A c P w hN;omega
 | succ N ih=>exact vC N ih
theorem sW (N:Nat)(x:GV)(A:Option Addr)(c:Nat)(P:Nat->Prop)(w:World)(hN:gsz x<N+1)(hx:VAt w P x A c)(hk:x.kind=0)(he:¬ x.s.toList=[]) :
  Calls Tryz.prog 152 #[dS x A c] w (cT (.bool (dU aH x)) w):=by
 have HX:=aZv hx;have HN:=aZv (show ∀ z ∈ x.kids,gsz z<N from fun z hz=>by have:=cP hz;omega);have HSZ:=aZv hx.s;have hx4:=hx.len;have hx5:=hx.cap;clear hx;have t0:(x.kind == 0)=true:=aZx hk;have t1:(x.kind == 1)=false:=aZw D;have t2:(x.kind == 2)=false:=aZw D;have t3:(x.kind == 3)=false:=aZw D;have he1:x.s.toList.isEmpty=false:=by simpa using he
 have HC:=aZv (show dU aH x=false by rw [cC];simp [aH,aY,hk,he]);clear hk;go_enter Tryz.func152,Tryz.ntmps152;go_wp2_with (go_at_call 187;refine (aW _ _ HSZ.out).mono ?_;rintro e w' ⟨rfl,rfl⟩);go_ret;exact ⟨aC dh,(Ext.refl _).alloc' _⟩
theorem sV (N:Nat)(x:GV)(A:Option Addr)(c:Nat)(P:Nat->Prop)(w:World)(hN:gsz x<N+1)(hx:VAt w P x A c)(hk:x.kind=0)(he:x.s.toList=[])(hl:0<x.kids.length) :
  Calls Tryz.prog 152 #[dS x A c] w (cT (.bool (dU aH x)) w):=by
 have HX:=aZv hx;have HN:=aZv (show ∀ z ∈ x.kids,gsz z<N from fun z hz=>by have:=cP hz;omega);have HSZ:=aZv hx.s;have hx4:=hx.len;have hx5:=hx.cap;clear hx;have t0:(x.kind == 0)=true:=aZx hk;have t1:(x.kind == 1)=false:=aZw D;have t2:(x.kind == 2)=false:=aZw D;have t3:(x.kind == 3)=false:=aZw D;have he1:x.s.toList.isEmpty=true:=by simp [he]
 have hl1:decide (0<(x.kids.length:Int))=true:=aZy D;have HC:=aZv (show dU aH x=false by rw [cC];simp [aH,aY,hk,he,Nat.ne_of_gt hl]);clear hk;go_enter Tryz.func152,Tryz.ntmps152;go_wp2_with (go_at_call 187;refine (aW _ _ HSZ.out).mono ?_;rintro e w' ⟨rfl,rfl⟩);go_ret;exact ⟨aC dh,(Ext.refl _).alloc' _⟩
theorem vI (N:Nat)(_:gZ 152 (fun b=>b) aH N)(x:GV)(A:Option Addr)(c:Nat)(P:Nat->Prop)(w:World)(hN:gsz x<N+1)(hx:VAt w P x A c)(hk:x.kind=0)(he:x.s.toList=[])(hl:x.kids.length<=0) :
  Calls Tryz.prog 152 #[dS x A c] w (cT (.bool (dU aH x)) w):=by
 have HX:=aZv hx;have HN:=aZv (show ∀ z ∈ x.kids,gsz z<N from fun z hz=>by have:=cP hz;omega);have HSZ:=aZv hx.s;have hx4:=hx.len;have hx5:=hx.cap;clear hx;have t0:(x.kind == 0)=true:=aZx hk;have t1:(x.kind == 1)=false:=aZw D;have t2:(x.kind == 2)=false:=aZw D;have t3:(x.kind == 3)=false:=aZw D;have he1:x.s.toList.isEmpty=true:=by simp [he]
 have hl1:decide (0<(x.kids.length:Int))=false:=aZz D;have HC:=aZv (show dU aH x=eP aH (x.kids.drop 0) by rw [cC];simp [aH,aY,hk,he,List.length_eq_zero_iff.1 (Nat.le_zero.1 hl)];try omega);have hlo:decide (x.kind<0)=false:=by simp;omega
 have hhi:decide (3<x.kind)=false:=aa
 clear hk;go_enter Tryz.func152,Tryz.ntmps152;go_wp2_with (go_at_call 187;refine (aW _ _ HSZ.out).mono ?_;rintro e w' ⟨rfl,rfl⟩);have HX0:Hid (Ext w (w.alloc (.cells #[↑x.kind,↑x.n,.string x.s,.slice A x.kids.length c] 85))):=(Ext.refl _).alloc' _;have hb1:=(Blk.new w 85 #[↑x.kind,↑x.n,.string x.s,.slice A x.kids.length c]).cell' (u:=.slice A x.kids.length c) 3 rfl;generalize w.alloc (.cells #[↑x.kind,↑x.n,.string x.s,.slice A x.kids.length c] 85)=W at *;go_loopw [4] (fun i wr=>qD aH x W i wr) (fun i _=>x.kids.length - (intOf i).toNat)
 case atStart=>exact ⟨0,Nat.zero_le _,rfl,Ext.refl _,HC.out⟩
 case round =>
  obtain ⟨k,hk,rfl,hx,ht⟩:=hrel;have HT:=aZv ht;have hc1:=aA hx hb1;have HW:=aZv hx;have HXK:=aZv (HX.out.kids.ext (HX0.out.trans' hx));clear ht hx
  by_cases hlt:k<x.kids.length
  ·exact absurd hlt D
  ·go_wp2_with fail
   go_ret;exact ⟨aC d9,HX0.out.trans' HW.out⟩
theorem sU (N:Nat)(x:GV)(A:Option Addr)(c:Nat)(P:Nat->Prop)(w:World)(hN:gsz x<N+1)(hx:VAt w P x A c)(hk:x.kind=1)(he:¬ x.s.toList=[]) :
  Calls Tryz.prog 152 #[dS x A c] w (cT (.bool (dU aH x)) w):=by
 have HX:=aZv hx;have HN:=aZv (show ∀ z ∈ x.kids,gsz z<N from fun z hz=>by have:=cP hz;omega);have HSZ:=aZv hx.s;have hx4:=hx.len;have hx5:=hx.cap;clear hx;have t0:(x.kind == 0)=false:=aZw D;have t1:(x.kind == 1)=true:=aZx hk;have t2:(x.kind == 2)=false:=aZw D;have t3:(x.kind == 3)=false:=aZw D;have he1:x.s.toList.isEmpty=false:=by simpa using he
 have HC:=aZv (show dU aH x=false by rw [cC];simp [aH,aY,hk,he]);clear hk;go_enter Tryz.func152,Tryz.ntmps152;go_wp2_with (go_at_call 187;refine (aW _ _ HSZ.out).mono ?_;rintro e w' ⟨rfl,rfl⟩);go_ret;exact ⟨aC dh,(Ext.refl _).alloc' _⟩
theorem sS (N:Nat)(x:GV)(A:Option Addr)(c:Nat)(P:Nat->Prop)(w:World)(hN:gsz x<N+1)(hx:VAt w P x A c)(hk:x.kind=1)(he:x.s.toList=[])(hl:0<x.kids.length) :
  Calls Tryz.prog 152 #[dS x A c] w (cT (.bool (dU aH x)) w):=by
 have HX:=aZv hx;have HN:=aZv (show ∀ z ∈ x.kids,gsz z<N from fun z hz=>by have:=cP hz;omega);have HSZ:=aZv hx.s;have hx4:=hx.len;have hx5:=hx.cap;clear hx;have t0:(x.kind == 0)=false:=aZw D;have t1:(x.kind == 1)=true:=aZx hk;have t2:(x.kind == 2)=false:=aZw D;have t3:(x.kind == 3)=false:=aZw D;have he1:x.s.toList.isEmpty=true:=by simp [he]
 have hl1:decide (0<(x.kids.length:Int))=true:=aZy D;have HC:=aZv (show dU aH x=false by rw [cC];simp [aH,aY,hk,he,Nat.ne_of_gt hl]);clear hk;go_enter Tryz.func152,Tryz.ntmps152;go_wp2_with (go_at_call 187;refine (aW _ _ HSZ.out).mono ?_;rintro e w' ⟨rfl,rfl⟩);go_ret;exact ⟨aC dh,(Ext.refl _).alloc' _⟩
theorem sQ (N:Nat)(x:GV)(A:Option Addr)(c:Nat)(P:Nat->Prop)(w:World)(hN:gsz x<N+1)(hx:VAt w P x A c)(hk:x.kind=1)(he:x.s.toList=[])(hl:x.kids.length<=0)(hn:x.n<0) :
  Calls Tryz.prog 152 #[dS x A c] w (cT (.bool (dU aH x)) w):=by
 have HX:=aZv hx;have HN:=aZv (show ∀ z ∈ x.kids,gsz z<N from fun z hz=>by have:=cP hz;omega);have HSZ:=aZv hx.s;have hx4:=hx.len;have hx5:=hx.cap;clear hx;have t0:(x.kind == 0)=false:=aZw D;have t1:(x.kind == 1)=true:=aZx hk;have t2:(x.kind == 2)=false:=aZw D;have t3:(x.kind == 3)=false:=aZw D;have he1:x.s.toList.isEmpty=true:=by simp [he]
 have hl1:decide (0<(x.kids.length:Int))=false:=aZz D;have hn0:decide (x.n<0)=true:=by first | exact aZy D | exact aZz D
 have HC:=aZv (show dU aH x=false by rw [cC];simp [aH,aY,hk,he,List.length_eq_zero_iff.1 (Nat.le_zero.1 hl),show ¬ x.n=0 by omega,show ¬ x.n=1 by omega]);clear hk;go_enter Tryz.func152,Tryz.ntmps152;go_wp2_with (go_at_call 187;refine (aW _ _ HSZ.out).mono ?_;rintro e w' ⟨rfl,rfl⟩);go_ret;exact ⟨aC dh,(Ext.refl _).alloc' _⟩
theorem sR (N:Nat)(x:GV)(A:Option Addr)(c:Nat)(P:Nat->Prop)(w:World)(hN:gsz x<N+1)(hx:VAt w P x A c)(hk:x.kind=1)(he:x.s.toList=[])(hl:x.kids.length<=0)(hn:1<x.n) :
  Calls Tryz.prog 152 #[dS x A c] w (cT (.bool (dU aH x)) w):=by
 have HX:=aZv hx;have HN:=aZv (show ∀ z ∈ x.kids,gsz z<N from fun z hz=>by have:=cP hz;omega);have HSZ:=aZv hx.s;have hx4:=hx.len;have hx5:=hx.cap;clear hx;have t0:(x.kind == 0)=false:=aZw D;have t1:(x.kind == 1)=true:=aZx hk;have t2:(x.kind == 2)=false:=aZw D;have t3:(x.kind == 3)=false:=aZw D;have he1:x.s.toList.isEmpty=true:=by simp [he]
 have hl1:decide (0<(x.kids.length:Int))=false:=aZz D;have hn0:decide (x.n<0)=false:=by first | exact aZy D | exact aZz D
 have hn1:decide (1<x.n)=true:=fz
 have HC:=aZv (show dU aH x=false by rw [cC];simp [aH,aY,hk,he,List.length_eq_zero_iff.1 (Nat.le_zero.1 hl),show ¬ x.n=0 by omega,show ¬ x.n=1 by omega]);clear hk;go_enter Tryz.func152,Tryz.ntmps152;go_wp2_with (go_at_call 187;refine (aW _ _ HSZ.out).mono ?_;rintro e w' ⟨rfl,rfl⟩);go_ret;exact ⟨aC dh,(Ext.refl _).alloc' _⟩
theorem vH (N:Nat)(_:gZ 152 (fun b=>b) aH N)(x:GV)(A:Option Addr)(c:Nat)(P:Nat->Prop)(w:World)(hN:gsz x<N+1)(hx:VAt w P x A c)(hk:x.kind=1)(he:x.s.toList=[])(hl:x.kids.length<=0)(hn:0<=x.n)(hn2:x.n<=1) :
  Calls Tryz.prog 152 #[dS x A c] w (cT (.bool (dU aH x)) w):=by
 have HX:=aZv hx;have HN:=aZv (show ∀ z ∈ x.kids,gsz z<N from fun z hz=>by have:=cP hz;omega);have HSZ:=aZv hx.s;have hx4:=hx.len;have hx5:=hx.cap;clear hx;have t0:(x.kind == 0)=false:=aZw D;have t1:(x.kind == 1)=true:=aZx hk;have t2:(x.kind == 2)=false:=aZw D;have t3:(x.kind == 3)=false:=aZw D;have he1:x.s.toList.isEmpty=true:=by simp [he]
 have hl1:decide (0<(x.kids.length:Int))=false:=aZz D;have hn0:decide (x.n<0)=false:=by first | exact aZy D | exact aZz D
 have hn1:decide (1<x.n)=false:=fz
 have HC:=aZv (show dU aH x=eP aH (x.kids.drop 0) by rw [cC];simp [aH,aY,hk,he,List.length_eq_zero_iff.1 (Nat.le_zero.1 hl)];try omega);have hlo:decide (x.kind<0)=false:=by simp;omega
 have hhi:decide (3<x.kind)=false:=aa
 clear hk;go_enter Tryz.func152,Tryz.ntmps152;go_wp2_with (go_at_call 187;refine (aW _ _ HSZ.out).mono ?_;rintro e w' ⟨rfl,rfl⟩);have HX0:Hid (Ext w (w.alloc (.cells #[↑x.kind,↑x.n,.string x.s,.slice A x.kids.length c] 85))):=(Ext.refl _).alloc' _;have hb1:=(Blk.new w 85 #[↑x.kind,↑x.n,.string x.s,.slice A x.kids.length c]).cell' (u:=.slice A x.kids.length c) 3 rfl;generalize w.alloc (.cells #[↑x.kind,↑x.n,.string x.s,.slice A x.kids.length c] 85)=W at *;go_loopw [4] (fun i wr=>qD aH x W i wr) (fun i _=>x.kids.length - (intOf i).toNat)
 case atStart=>exact ⟨0,Nat.zero_le _,rfl,Ext.refl _,HC.out⟩
 case round =>
  obtain ⟨k,hk,rfl,hx,ht⟩:=hrel;have HT:=aZv ht;have hc1:=aA hx hb1;have HW:=aZv hx;have HXK:=aZv (HX.out.kids.ext (HX0.out.trans' hx));clear ht hx
  by_cases hlt:k<x.kids.length
  ·exact absurd hlt D
  ·go_wp2_with fail
   go_ret;exact ⟨aC d9,HX0.out.trans' HW.out⟩
theorem sP (N:Nat)(x:GV)(A:Option Addr)(c:Nat)(P:Nat->Prop)(w:World)(hN:gsz x<N+1)(hx:VAt w P x A c)(hk:x.kind=2)(he:¬ x.s.toList=[]) :
  Calls Tryz.prog 152 #[dS x A c] w (cT (.bool (dU aH x)) w):=by
 have HX:=aZv hx;have HN:=aZv (show ∀ z ∈ x.kids,gsz z<N from fun z hz=>by have:=cP hz;omega);have HSZ:=aZv hx.s;have hx4:=hx.len;have hx5:=hx.cap;clear hx;have t0:(x.kind == 0)=false:=aZw D;have t1:(x.kind == 1)=false:=aZw D;have t2:(x.kind == 2)=true:=aZx hk;have t3:(x.kind == 3)=false:=aZw D;have he1:x.s.toList.isEmpty=false:=by simpa using he
 have HC:=aZv (show dU aH x=false by rw [cC];simp [aH,aY,hk,he]);clear hk;go_enter Tryz.func152,Tryz.ntmps152;go_wp2_with (go_at_call 187;refine (aW _ _ HSZ.out).mono ?_;rintro e w' ⟨rfl,rfl⟩);go_ret;exact ⟨aC dh,(Ext.refl _).alloc' _⟩
theorem sO (N:Nat)(x:GV)(A:Option Addr)(c:Nat)(P:Nat->Prop)(w:World)(hN:gsz x<N+1)(hx:VAt w P x A c)(hk:x.kind=2)(he:x.s.toList=[])(hn:¬ x.n=0) :
  Calls Tryz.prog 152 #[dS x A c] w (cT (.bool (dU aH x)) w):=by
 have HX:=aZv hx;have HN:=aZv (show ∀ z ∈ x.kids,gsz z<N from fun z hz=>by have:=cP hz;omega);have HSZ:=aZv hx.s;have hx4:=hx.len;have hx5:=hx.cap;clear hx;have t0:(x.kind == 0)=false:=aZw D;have t1:(x.kind == 1)=false:=aZw D;have t2:(x.kind == 2)=true:=aZx hk;have t3:(x.kind == 3)=false:=aZw D;have he1:x.s.toList.isEmpty=true:=by simp [he]
 have hne:(x.n != 0)=true:=bne_iff_ne.2 hn;have HC:=aZv (show dU aH x=false by rw [cC];simp [aH,aY,hk,he,hn]);clear hk;go_enter Tryz.func152,Tryz.ntmps152;go_wp2_with (go_at_call 187;refine (aW _ _ HSZ.out).mono ?_;rintro e w' ⟨rfl,rfl⟩);go_ret;exact ⟨aC dh,(Ext.refl _).alloc' _⟩
theorem vG (N:Nat)(hS:gZ 152 (fun b=>b) aH N)(x:GV)(A:Option Addr)(c:Nat)(P:Nat->Prop)(w:World)(hN:gsz x<N+1)(hx:VAt w P x A c)(hk:x.kind=2)(he:x.s.toList=[])(hn:x.n=0) :
  Calls Tryz.prog 152 #[dS x A c] w (cT (.bool (dU aH x)) w):=by
 have HX:=aZv hx;have HN:=aZv (show ∀ z ∈ x.kids,gsz z<N from fun z hz=>by have:=cP hz;omega);have HSZ:=aZv hx.s;have hx4:=hx.len;have hx5:=hx.cap;clear hx;have t0:(x.kind == 0)=false:=aZw D;have t1:(x.kind == 1)=false:=aZw D;have t2:(x.kind == 2)=true:=aZx hk;have t3:(x.kind == 3)=false:=aZw D;have he1:x.s.toList.isEmpty=true:=by simp [he]
 have hne:(x.n != 0)=false:=by simp [hn]
 have HNN:=aZv hn;have HC:=aZv (show dU aH x=eP aH (x.kids.drop 0) by rw [cC];simp [aH,aY,hk,he,hn];try omega);have hlo:decide (x.kind<0)=false:=by simp;omega
 have hhi:decide (3<x.kind)=false:=aa
 clear hk hn;go_enter Tryz.func152,Tryz.ntmps152;go_wp2_with (go_at_call 187;refine (aW _ _ HSZ.out).mono ?_;rintro e w' ⟨rfl,rfl⟩);have HX0:Hid (Ext w (w.alloc (.cells #[↑x.kind,↑x.n,.string x.s,.slice A x.kids.length c] 85))):=(Ext.refl _).alloc' _;have hb1:=(Blk.new w 85 #[↑x.kind,↑x.n,.string x.s,.slice A x.kids.length c]).cell' (u:=.slice A x.kids.length c) 3 rfl;generalize w.alloc (.cells #[↑x.kind,↑x.n,.string x.s,.slice A x.kids.length c] 85)=W at *;go_loopw [4] (fun i wr=>qD aH x W i wr) (fun i _=>x.kids.length - (intOf i).toNat)
 case atStart=>exact ⟨0,Nat.zero_le _,rfl,Ext.refl _,HC.out⟩
 case round =>
  obtain ⟨k,hk,rfl,hx,ht⟩:=hrel;have HT:=aZv ht;have hc1:=aA hx hb1;have HW:=aZv hx;have HXK:=aZv (HX.out.kids.ext (HX0.out.trans' hx));clear ht hx
  by_cases hlt:k<x.kids.length
  ·have HD:=aZv (show dU aH x=eP aH (x.kids.getD k default :: x.kids.drop (k+1)) by rw [HT.out,<- aF default hlt])
   obtain ⟨b1,o1,c1,A1,d1,e1,-,-,-,hv1,g10,g11,g12,g13⟩:=HXK.out.at_ hlt
   cases e1
   have HM:=aZv (HN.out _ (aD (d:=default) hlt));have HV1:=aZv hv1;clear hv1 HXK hb1;generalize x.kids.getD k default=x1 at *;go_wp2_with fail;refine (hS x1 A1 d1 P _ HM.out HV1.out).mono ?_;rintro e w1 ⟨rfl,hx1⟩;have HX1:=aZv (HW.out.trans' hx1);clear hx1;have HDC:=aZv (HD.out.trans (eC _ _ _));generalize dU aH x1=bb at *
   cases bb
   ·go_wp2_with fail
    go_ret;exact ⟨aC cj,HX0.out.trans' HX1.out⟩
   ·go_wp2_with fail
    go_roundw
    case rel=>exact ⟨k+1,D,by go_num,HX1.out,cj⟩
    case measure=>simp [intOf];omega
  ·go_wp2_with fail
   go_ret;exact ⟨aC d9,HX0.out.trans' HW.out⟩
theorem sM (N:Nat)(x:GV)(A:Option Addr)(c:Nat)(P:Nat->Prop)(w:World)(hN:gsz x<N+1)(hx:VAt w P x A c)(hk:x.kind=3)(he:pW x.s=false) :
  Calls Tryz.prog 152 #[dS x A c] w (cT (.bool (dU aH x)) w):=by
 have HX:=aZv hx;have HN:=aZv (show ∀ z ∈ x.kids,gsz z<N from fun z hz=>by have:=cP hz;omega);have HSZ:=aZv hx.s;have hx4:=hx.len;have hx5:=hx.cap;clear hx;have t0:(x.kind == 0)=false:=aZw D;have t1:(x.kind == 1)=false:=aZw D;have t2:(x.kind == 2)=false:=aZw D;have t3:(x.kind == 3)=true:=aZx hk;have HC:=aZv (show dU aH x=false by rw [cC];simp [aH,hk,he]);clear hk;go_enter Tryz.func152,Tryz.ntmps152;go_wp2_with (go_at_call 187;refine (aW _ _ HSZ.out).mono ?_;rintro e w' ⟨rfl,rfl⟩);go_ret;exact ⟨aC dh,(Ext.refl _).alloc' _⟩
theorem sL (N:Nat)(x:GV)(A:Option Addr)(c:Nat)(P:Nat->Prop)(w:World)(hN:gsz x<N+1)(hx:VAt w P x A c)(hk:x.kind=3)(he:pW x.s=true)(hn:¬ x.n=0) :
  Calls Tryz.prog 152 #[dS x A c] w (cT (.bool (dU aH x)) w):=by
 have HX:=aZv hx;have HN:=aZv (show ∀ z ∈ x.kids,gsz z<N from fun z hz=>by have:=cP hz;omega);have HSZ:=aZv hx.s;have hx4:=hx.len;have hx5:=hx.cap;clear hx;have t0:(x.kind == 0)=false:=aZw D;have t1:(x.kind == 1)=false:=aZw D;have t2:(x.kind == 2)=false:=aZw D;have t3:(x.kind == 3)=true:=aZx hk;have hne:(x.n != 0)=true:=bne_iff_ne.2 hn;have HC:=aZv (show dU aH x=false by rw [cC];simp [aH,hk,he,hn]);clear hk;go_enter Tryz.func152,Tryz.ntmps152;go_wp2_with (go_at_call 187;refine (aW _ _ HSZ.out).mono ?_;rintro e w' ⟨rfl,rfl⟩);go_ret;exact ⟨aC dh,(Ext.refl _).alloc' _⟩
theorem vF (N:Nat)(hS:gZ 152 (fun b=>b) aH N)(x:GV)(A:Option Addr)(c:Nat)(P:Nat->Prop)(w:World)(hN:gsz x<N+1)(hx:VAt w P x A c)(hk:x.kind=3)(he:pW x.s=true)(hn:x.n=0) :
  Calls Tryz.prog 152 #[dS x A c] w (cT (.bool (dU aH x)) w):=by
 have HX:=aZv hx;have HN:=aZv (show ∀ z ∈ x.kids,gsz z<N from fun z hz=>by have:=cP hz;omega);have HSZ:=aZv hx.s;have hx4:=hx.len;have hx5:=hx.cap;clear hx;have t0:(x.kind == 0)=false:=aZw D;have t1:(x.kind == 1)=false:=aZw D;have t2:(x.kind == 2)=false:=aZw D;have t3:(x.kind == 3)=true:=aZx hk;have hne:(x.n != 0)=false:=by simp [hn]
 have HNN:=aZv hn;have HC:=aZv (show dU aH x=eP aH (x.kids.drop 0) by rw [cC];simp [aH,hk,he,hn];try omega);have hlo:decide (x.kind<0)=false:=by simp;omega
 have hhi:decide (3<x.kind)=false:=aa
 clear hk hn;go_enter Tryz.func152,Tryz.ntmps152;go_wp2_with (go_at_call 187;refine (aW _ _ HSZ.out).mono ?_;rintro e w' ⟨rfl,rfl⟩);have HX0:Hid (Ext w (w.alloc (.cells #[↑x.kind,↑x.n,.string x.s,.slice A x.kids.length c] 85))):=(Ext.refl _).alloc' _;have hb1:=(Blk.new w 85 #[↑x.kind,↑x.n,.string x.s,.slice A x.kids.length c]).cell' (u:=.slice A x.kids.length c) 3 rfl;generalize w.alloc (.cells #[↑x.kind,↑x.n,.string x.s,.slice A x.kids.length c] 85)=W at *;go_loopw [4] (fun i wr=>qD aH x W i wr) (fun i _=>x.kids.length - (intOf i).toNat)
 case atStart=>exact ⟨0,Nat.zero_le _,rfl,Ext.refl _,HC.out⟩
 case round =>
  obtain ⟨k,hk,rfl,hx,ht⟩:=hrel;have HT:=aZv ht;have hc1:=aA hx hb1;have HW:=aZv hx;have HXK:=aZv (HX.out.kids.ext (HX0.out.trans' hx));clear ht hx
  by_cases hlt:k<x.kids.length
  ·have HD:=aZv (show dU aH x=eP aH (x.kids.getD k default :: x.kids.drop (k+1)) by rw [HT.out,<- aF default hlt])
   obtain ⟨b1,o1,c1,A1,d1,e1,-,-,-,hv1,g10,g11,g12,g13⟩:=HXK.out.at_ hlt
   cases e1
   have HM:=aZv (HN.out _ (aD (d:=default) hlt));have HV1:=aZv hv1;clear hv1 HXK hb1;generalize x.kids.getD k default=x1 at *;go_wp2_with fail;refine (hS x1 A1 d1 P _ HM.out HV1.out).mono ?_;rintro e w1 ⟨rfl,hx1⟩;have HX1:=aZv (HW.out.trans' hx1);clear hx1;have HDC:=aZv (HD.out.trans (eC _ _ _));generalize dU aH x1=bb at *
   cases bb
   ·go_wp2_with fail
    go_ret;exact ⟨aC cj,HX0.out.trans' HX1.out⟩
   ·go_wp2_with fail
    go_roundw
    case rel=>exact ⟨k+1,D,by go_num,HX1.out,cj⟩
    case measure=>simp [intOf];omega
  ·go_wp2_with fail
   go_ret;exact ⟨aC d9,HX0.out.trans' HW.out⟩
theorem vE (N:Nat)(x:GV)(A:Option Addr)(c:Nat)(P:Nat->Prop)(w:World)(hN:gsz x<N+1)(hx:VAt w P x A c)(hk:x.kind<0) :
  Calls Tryz.prog 152 #[dS x A c] w (cT (.bool (dU aH x)) w):=by
 have HX:=aZv hx;have HN:=aZv (show ∀ z ∈ x.kids,gsz z<N from fun z hz=>by have:=cP hz;omega);have HSZ:=aZv hx.s;have hx4:=hx.len;have hx5:=hx.cap;clear hx;have t0:(x.kind == 0)=false:=aZw D;have t1:(x.kind == 1)=false:=aZw D;have t2:(x.kind == 2)=false:=aZw D;have t3:(x.kind == 3)=false:=aZw D;have HC:=aZv (show dU aH x=false by rw [cC];simp [aH,show ¬ x.kind=0 by omega,show ¬ x.kind=1 by omega,show ¬ x.kind=2 by omega,show ¬ x.kind=3 by omega]);go_enter Tryz.func152,Tryz.ntmps152;go_wp2_with (go_at_call 187;refine (aW _ _ HSZ.out).mono ?_;rintro e w' ⟨rfl,rfl⟩);go_ret;exact ⟨aC dh,(Ext.refl _).alloc' _⟩
theorem vJ (N:Nat)(x:GV)(A:Option Addr)(c:Nat)(P:Nat->Prop)(w:World)(hN:gsz x<N+1)(hx:VAt w P x A c)(hk:3<x.kind) :
  Calls Tryz.prog 152 #[dS x A c] w (cT (.bool (dU aH x)) w):=by
 have HX:=aZv hx;have HN:=aZv (show ∀ z ∈ x.kids,gsz z<N from fun z hz=>by have:=cP hz;omega);have HSZ:=aZv hx.s;have hx4:=hx.len;have hx5:=hx.cap;clear hx;have t0:(x.kind == 0)=false:=aZw D;have t1:(x.kind == 1)=false:=aZw D;have t2:(x.kind == 2)=false:=aZw D;have t3:(x.kind == 3)=false:=aZw D;have hlo:decide (x.kind<0)=false:=by simp;omega
 have HC:=aZv (show dU aH x=false by rw [cC];simp [aH,show ¬ x.kind=0 by omega,show ¬ x.kind=1 by omega,show ¬ x.kind=2 by omega,show ¬ x.kind=3 by omega]);go_enter Tryz.func152,Tryz.ntmps152;go_wp2_with (go_at_call 187;refine (aW _ _ HSZ.out).mono ?_;rintro e w' ⟨rfl,rfl⟩);go_ret;exact ⟨aC dh,(Ext.refl _).alloc' _⟩
end Go.Proofs.YtkoeecdjijfjnaaGreat
