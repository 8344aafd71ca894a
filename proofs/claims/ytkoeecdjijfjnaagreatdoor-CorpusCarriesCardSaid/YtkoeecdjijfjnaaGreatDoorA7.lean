/- Contracts and laws. Conditions: none. -/
import Derived.Laws.EntriesVeiled
import Derived.Test.YtkoeecdjijfjnaaGreatDoorA3
set_option linter.all false
set_option maxRecDepth 100000
set_option maxHeartbeats 8000000
namespace Go.Proofs.YtkoeecdjijfjnaaGreatDoor
open Go.RowKit
mutual
def vis {σ:Type}(f:σ->GV->σ × Bool):σ->GV->σ × Bool
 | s,.mk k n t l=>if (f s (.mk k n t l)).2 then sS f (f s (.mk k n t l)).1 l else ((f s (.mk k n t l)).1,false)
def sS {σ:Type}(f:σ->GV->σ × Bool):σ->List GV->σ × Bool
 | s,[]=>(s,true)
 | s,x :: xs=>if (vis f s x).2 then sS f (vis f s x).1 xs else ((vis f s x).1,false)
end
theorem oc {σ:Type}(f:σ->GV->σ × Bool)(s:σ)(x:GV):vis f s x=if (f s x).2 then sS f (f s x).1 x.kids else ((f s x).1,false):=by
 obtain ⟨k,n,t,l⟩:=x;simp only [vis,GV.kids]
theorem oU {σ:Type}(f:σ->GV->σ × Bool)(s:σ):sS f s []=(s,true):=by simp only [sS]
theorem lU {σ:Type}(f:σ->GV->σ × Bool)(s:σ)(x:GV)(xs:List GV):sS f s (x :: xs)=if (vis f s x).2 then sS f (vis f s x).1 xs else ((vis f s x).1,false):=by
 simp only [sS]
structure ld {σ:Type}(F:Nat)(caps:Array Value)(M:Nat->Prop)(St:σ->World->Prop)(f:σ->GV->σ × Bool):Prop where
 calls:∀ (s:σ) (x:GV) (A:Option Addr) (c:Nat) (d:Int) (P:Nat->Prop) (w:World),(∀ b,P b->¬ M b)->St s w->VAt w P x A c ->
  qg F (#[cN x A c,↑d] ++ caps) w (fun e w'=>e=.returned (.bool (f s x).2)∧Fr M w w'∧St (f s x).1 w')
 keep:∀ (s:σ) (w w':World),St s w->Ext w w'->St s w'
def rR {σ:Type}(M:Nat->Prop)(St:σ->World->Prop)(r:σ × Bool)(w:World)(e:Ending)(w':World):Prop :=
 e=.returned r.2∧Fr M w w'∧St r.1 w'
def nR {σ:Type}(F:Nat)(caps:Array Value)(M:Nat->Prop)(St:σ->World->Prop)(f:σ->GV->σ × Bool)(N:Nat):Prop :=
 ∀ (s:σ) (x:GV) (A:Option Addr) (c:Nat) (d:Int) (P:Nat->Prop) (w:World) (bs bw:Nat),gsz x<N->(∀ b,P b->¬ M b)->(∀ b,M b->b<w)->St s w->VAt w P x A c ->
  Blk w bs 184 #[.func (.func F) #[] caps]->Blk w bw 184 #[.func (.func 139) #[] #[qp bs,qp bw]]->¬ M bs->¬ M bw ->
  qg 139 #[cN x A c,↑d,qp bs,qp bw] w (rR M St (vis f s x) w)
def AP {σ:Type}(f:σ->GV->σ × Bool)(M:Nat->Prop)(St:σ->World->Prop)(s0:σ)(l:List GV)(W:World)(i:Value)(wr:World):Prop :=
 ∃ (k:Nat) (s:σ),k<=l∧i=↑k∧Fr M W wr∧St s wr∧sS f s0 l=sS f s (l.drop k)
theorem CX {σ:Type}(g0:Nat)(M:Nat->Prop)(St:σ->World->Prop)(f:σ->GV->σ × Bool)(hF:ld 127 #[qp g0] M St f)(N:Nat)
  (hS:nR 127 #[qp g0] M St f N):nR 127 #[qp g0] M St f (N+1):=by
 intro s x A c d P w bs bw hN hP hM hs hx hbs hbw hms hmw;have HX:=aYf hx;have HP:=aYf hP;have HM:=aYf hM;have HSt:=aYf hs;have HBS:=aYf hbs;have HBW:=aYf hbw;have HMS:=aYf hms;have HMW:=aYf hmw;have hc1:=hbs.cell' 0 rfl;have hl1:=hbs.lt;have HV:=aYf (oc f s x);have HC:=aYf (hF.calls s x A c d P);have HN:=aYf (show ∀ z ∈ x.kids,gsz z<N from fun z hz=>by have:=iL hz;omega);have hx5:=hx.cap;clear hx hP hM hs hbs hbw hms hmw;generalize hfx:f s x=r at *;clear hfx;obtain ⟨s1,b1⟩:=r;go_enter Tryz.func139,Tryz.ntmps139;go_wp2_with fail;refine (HC.out _ HP.out (hF.keep _ _ _ HSt.out ((aq _).alloc' _)) (HX.out.ext ((aq _).alloc' _))).mono ?_;rintro e w1 ⟨rfl,hf1,hs1⟩;have HM0:=aYf (show ¬ M w.heap.size from fun h=>by have:=HM.out _ h;omega);have hbox:=((aw w 58 (qh x A c)).fr hf1 HM0.out);have HBOX:=aYf hbox;have hc3:=hbox.cell' 3 rfl;have HF1:=aYf (((au M w).alloc (qk (qh x A c) 58)).trans hf1);have HS1:=aYf hs1;clear hf1 hs1 hbox HC;cases b1
 ·go_wp2_with fail
  go_ret;unfold rR;rw [HV.out];exact ⟨rfl,HF1.out,HS1.out⟩
 ·have HVT:=aYf (HV.out.trans (if_pos rfl))
  go_wp2_with fail;go_loopw [17] (fun i wr=>AP f M St s1 x.kids w1 i wr) (fun i _=>x.kids.length - (intOf i).toNat)
  case atStart=>exact ⟨0,s1,af _,rfl,au _ _,HS1.out,rfl⟩
  case round =>
   obtain ⟨k,s2,hk,rfl,hfr,hs2,ht⟩:=hrel;have HT:=aYf ht;have HS2:=aYf hs2;have HFR:=aYf (HF1.out.trans hfr);have HF0:=aYf hfr;have hfr':=HFR.out;clear hfr hs2 ht;by_cases hlt:k<x.kids
   ·have HXK:=aYf (HX.out.kids.keep (aB.of_fr hfr' HP.out) (fun _ h=>h))
    obtain ⟨b1,o1,c1,A1,d1,e1,-,-,-,hv1,g10,g11,g12,g13⟩:=HXK.out.at_ hlt;cases e1;have HV1:=aYf hv1;have HM1:=aYf (HN.out _ (aC (d:=default) hlt));have HD:=aYf (show sS f s1 x.kids=sS f s2 (x.kids.getD k default :: x.kids.drop (k+1)) by rw [HT.out,<- aJ default hlt]);have HBS2:=aYf (HBS.out.fr hfr' HMS.out);have HBW2:=aYf (HBW.out.fr hfr' HMW.out);have hw0:=HBW2.out.cell' 0 rfl;have hl2:=HBW2.out.lt;have HM2:=aYf (show ∀ b,M b->b<wr+1 from fun b hb=>by have:=HM.out b hb;have:=hfr'.size;omega);clear hv1 hfr' HXK;generalize x.kids.getD k default=y at *;go_wp2_with fail;refine (hS s2 y A1 d1 _ P _ bs bw HM1.out HP.out (by simpa using HM2.out) (hF.keep _ _ _ HS2.out ((aq _).alloc' _)) (HV1.out.ext ((aq _).alloc' _)) (HBS2.out.alloc _) (HBW2.out.alloc _) HMS.out HMW.out).mono ?_;rintro e w2 ⟨rfl,hf2,hs3⟩;have HF2:=aYf ((HFR.out.alloc _).trans hf2);have HFW:=aYf ((HF0.out.alloc _).trans hf2);have HS3:=aYf hs3;clear hf2 hs3;have HDC:=aYf (HD.out.trans (lU f s2 y _));generalize hvy:vis f s2 y=r2 at *;clear hvy;obtain ⟨s3,b3⟩:=r2;cases b3
    ·go_wp2_with fail
     go_ret;unfold rR;rw [HVT.out,HDC.out];exact ⟨rfl,HF2.out,HS3.out⟩
    ·go_wp2_with fail
     go_roundw
     case rel=>exact ⟨k+1,s3,I,by go_num,HFW.out,HS3.out,HDC.out.trans U⟩
     case measure=>simp [intOf];omega
   ·have HZ:=aYf (show sS f s1 x.kids=(s2,true) by rw [HT.out,drop_nil I,oU])
    clear hfr';go_wp2_with fail;go_ret;unfold rR;rw [HVT.out,HZ.out];exact ⟨rfl,HFR.out,HS2.out⟩
theorem Eq {σ:Type}(g0:Nat)(M:Nat->Prop)(St:σ->World->Prop)(f:σ->GV->σ × Bool)(hF:ld 127 #[qp g0] M St f)(N:Nat):nR 127 #[qp g0] M St f N:=by
 induction N with
 | zero=>intro s x A c d P w bs bw hN;omega
 | succ N ih=>exact CX g0 M St f hF N ih
theorem DH {σ:Type}(g0 g1 g2:Nat)(M:Nat->Prop)(St:σ->World->Prop)(f:σ->GV->σ × Bool)(hF:ld 124 #[qp g0,qp g1,qp g2] M St f)(N:Nat)
  (hS:nR 124 #[qp g0,qp g1,qp g2] M St f N):nR 124 #[qp g0,qp g1,qp g2] M St f (N+1):=by
 intro s x A c d P w bs bw hN hP hM hs hx hbs hbw hms hmw;have HX:=aYf hx;have HP:=aYf hP;have HM:=aYf hM;have HSt:=aYf hs;have HBS:=aYf hbs;have HBW:=aYf hbw;have HMS:=aYf hms;have HMW:=aYf hmw;have hc1:=hbs.cell' 0 rfl;have hl1:=hbs.lt;have HV:=aYf (oc f s x);have HC:=aYf (hF.calls s x A c d P);have HN:=aYf (show ∀ z ∈ x.kids,gsz z<N from fun z hz=>by have:=iL hz;omega);have hx5:=hx.cap;clear hx hP hM hs hbs hbw hms hmw;generalize hfx:f s x=r at *;clear hfx;obtain ⟨s1,b1⟩:=r;go_enter Tryz.func139,Tryz.ntmps139;go_wp2_with fail;refine (HC.out _ HP.out (hF.keep _ _ _ HSt.out ((aq _).alloc' _)) (HX.out.ext ((aq _).alloc' _))).mono ?_;rintro e w1 ⟨rfl,hf1,hs1⟩;have HM0:=aYf (show ¬ M w.heap.size from fun h=>by have:=HM.out _ h;omega);have hbox:=((aw w 58 (qh x A c)).fr hf1 HM0.out);have HBOX:=aYf hbox;have hc3:=hbox.cell' 3 rfl;have HF1:=aYf (((au M w).alloc (qk (qh x A c) 58)).trans hf1);have HS1:=aYf hs1;clear hf1 hs1 hbox HC;cases b1
 ·go_wp2_with fail
  go_ret;unfold rR;rw [HV.out];exact ⟨rfl,HF1.out,HS1.out⟩
 ·have HVT:=aYf (HV.out.trans (if_pos rfl))
  go_wp2_with fail;go_loopw [17] (fun i wr=>AP f M St s1 x.kids w1 i wr) (fun i _=>x.kids.length - (intOf i).toNat)
  case atStart=>exact ⟨0,s1,af _,rfl,au _ _,HS1.out,rfl⟩
  case round =>
   obtain ⟨k,s2,hk,rfl,hfr,hs2,ht⟩:=hrel;have HT:=aYf ht;have HS2:=aYf hs2;have HFR:=aYf (HF1.out.trans hfr);have HF0:=aYf hfr;have hfr':=HFR.out;clear hfr hs2 ht;by_cases hlt:k<x.kids
   ·have HXK:=aYf (HX.out.kids.keep (aB.of_fr hfr' HP.out) (fun _ h=>h))
    obtain ⟨b1,o1,c1,A1,d1,e1,-,-,-,hv1,g10,g11,g12,g13⟩:=HXK.out.at_ hlt;cases e1;have HV1:=aYf hv1;have HM1:=aYf (HN.out _ (aC (d:=default) hlt));have HD:=aYf (show sS f s1 x.kids=sS f s2 (x.kids.getD k default :: x.kids.drop (k+1)) by rw [HT.out,<- aJ default hlt]);have HBS2:=aYf (HBS.out.fr hfr' HMS.out);have HBW2:=aYf (HBW.out.fr hfr' HMW.out);have hw0:=HBW2.out.cell' 0 rfl;have hl2:=HBW2.out.lt;have HM2:=aYf (show ∀ b,M b->b<wr+1 from fun b hb=>by have:=HM.out b hb;have:=hfr'.size;omega);clear hv1 hfr' HXK;generalize x.kids.getD k default=y at *;go_wp2_with fail;refine (hS s2 y A1 d1 _ P _ bs bw HM1.out HP.out (by simpa using HM2.out) (hF.keep _ _ _ HS2.out ((aq _).alloc' _)) (HV1.out.ext ((aq _).alloc' _)) (HBS2.out.alloc _) (HBW2.out.alloc _) HMS.out HMW.out).mono ?_;rintro e w2 ⟨rfl,hf2,hs3⟩;have HF2:=aYf ((HFR.out.alloc _).trans hf2);have HFW:=aYf ((HF0.out.alloc _).trans hf2);have HS3:=aYf hs3;clear hf2 hs3;have HDC:=aYf (HD.out.trans (lU f s2 y _));generalize hvy:vis f s2 y=r2 at *;clear hvy;obtain ⟨s3,b3⟩:=r2;cases b3
    ·go_wp2_with fail
     go_ret;unfold rR;rw [HVT.out,HDC.out];exact ⟨rfl,HF2.out,HS3.out⟩
    ·go_wp2_with fail
     go_roundw
     case rel=>exact ⟨k+1,s3,I,by go_num,HFW.out,HS3.out,HDC.out.trans U⟩
     case measure=>simp [intOf];omega
   ·have HZ:=aYf (show sS f s1 x.kids=(s2,true) by rw [HT.out,drop_nil I,oU])
    clear hfr';go_wp2_with fail;go_ret;unfold rR;rw [HVT.out,HZ.out];exact ⟨rfl,HFR.out,HS2.out⟩
theorem DW {σ:Type}(g0 g1 g2:Nat)(M:Nat->Prop)(St:σ->World->Prop)(f:σ->GV->σ × Bool)(hF:ld 124 #[qp g0,qp g1,qp g2] M St f)(N:Nat):nR 124 #[qp g0,qp g1,qp g2] M St f N:=by
 induction N with
 | zero=>intro s x A c d P w bs bw hN;omega
 | succ N ih=>exact DH g0 g1 g2 M St f hF N ih
def jP (n:Int):Bool:=decide (97<=n∧n<=122∨65<=n∧n<=90∨48<=n∧n<=57∨n=95)
theorem Ea (n:Int)(w:World) :
  Calls Tryz.prog 146 #[.int .u8 n] w fun e w'=>e=.returned (jP n)∧w=w':=by
 go_enter Tryz.func146,Tryz.ntmps146;go_wp2
 all_goals
  go_ret;refine ⟨aD ?_,rfl⟩;rw [Bool.eq_iff_iff];simp [jP];try omega
theorem qG (n:Int):((n<48∨(58<=n∧n<=64)∨(91<=n∧n<=94)∨(96<=n∧n<=96)∨122<n)∧jP n=false) ∨
  (((48<=n∧n<=57)∨(65<=n∧n<=90)∨(95<=n∧n<=95)∨(97<=n∧n<=122))∧jP n=true):=by
 by_cases h:jP n=true
 ·refine .inr ⟨?_,h⟩
  have:=of_decide_eq_true (by unfold jP at h;exact h);omega
 ·refine .inl ⟨?_,ie⟩
  have h':jP n=false:=ie;unfold jP at h';have:=of_decide_eq_false h';omega
def rO (s:ByteArray):Bool:=decide (1<=s.size∧s.size<=16∧65<=((s.data.toList.getD 0 0).toNat:Int)∧((s.data.toList.getD 0 0).toNat:Int)<=90) && s.data.toList.all (fun c=>jP c.toNat)
theorem dL (s:ByteArray)(k:Nat)(h:k<s.size):s[k]=s.data.toList.getD k 0:=by
 have h':k<s.data.size:=h
 have e:s.data.toList.getD k 0=s.data[k]:=by
  rw [List.getD_eq_getElem?_getD,Array.getElem?_toList,Array.getElem?_eq_getElem h'];rfl
 rw [e];rfl
theorem gC {s:ByteArray}(h:s.size=0∨16<s.size∨((s.data.toList.getD 0 0).toNat:Int)<65∨90<((s.data.toList.getD 0 0).toNat:Int)):rO s=false:=by
 unfold rO;rw [aYj I];rfl
theorem kP (s:ByteArray):s.data.toList=s.size:=U
theorem sW (s:ByteArray):s.toList=s.size:=by rw [ByteArray.toList_eq];exact kP s
theorem sE {s:ByteArray}(h:¬ s.size=0):s.toList.isEmpty=false:=by
 have h1:=sW s;cases hl:s.toList with
 | nil=>rw [hl] at h1;exact absurd h1.symm h
 | cons a l=>rfl
def pj (s:ByteArray)(lo:Nat)(w:World)(i:Value)(wr:World):Prop:=∃ k:Nat,lo<=k∧k<=s.size∧i=↑k∧wr=w∧rO s=(s.data.toList.drop k).all (fun c=>jP c.toNat)
theorem wP {s:ByteArray}(h0:¬ s.size=0)(h1:¬ 16<s.size)(h2:65<=((s.data.toList.getD 0 0).toNat:Int))(h3:((s.data.toList.getD 0 0).toNat:Int)<=90) :
  rO s=(s.data.toList.drop 0).all (fun c=>jP c.toNat):=by
 unfold rO;rw [aYi I];rfl
theorem Mj {s:ByteArray}(h0:¬ s.size=0)(h1:¬ 16<s.size)(h2:65<=((s.data.toList.getD 0 0).toNat:Int))(h3:((s.data.toList.getD 0 0).toNat:Int)<=90) :
  rO s=(s.data.toList.drop 1).all (fun c=>jP c.toNat):=by
 rw [wP h0 h1 h2 h3,aJ 0 (show 0<s.data.toList.length by rw [kP];omega)];simp only [List.all_cons];rw [show jP ((s.data.toList.getD 0 0).toNat:Int)=true by unfold jP;rw [aYi];omega];rfl
theorem jI {s:ByteArray}{k:Nat}(h:k<s.size)(p:UInt8->Bool):(s.data.toList.drop k).all p=(p s[k] && (s.data.toList.drop (k+1)).all p):=by
 rw [aJ 0 (show k<s.data.toList by rw [kP];exact h),dL s k h];rfl
theorem Fc (s:ByteArray)(w:World)(hs:s.size<=17592186044416) :
  Calls Tryz.prog 140 #[s] w fun e w'=>e=.returned (rO s)∧w=w':=by
 by_cases h0:s.size=0
 ·have h0':s.toList.isEmpty=true:=by
   have h1:=sW s;cases hl:s.toList with
   | nil=>rfl
   | cons a l=>rw [hl] at h1;simp at h1;omega
  have HC:=aYf (gC (s:=s) (.inl h0));clear h0;go_enter Tryz.func140,Tryz.ntmps140;go_wp2_with fail;go_ret;exact ⟨aD HC.out.symm,rfl⟩
 have h0':=sE h0;have h00:0<s.size:=by omega
 by_cases h1:16<s.size
 ·have HC:=aYf (gC (s:=s) (.inr (.inl h1)))
  clear h0;go_enter Tryz.func140,Tryz.ntmps140;go_wp2_with fail;go_ret;exact ⟨aD HC.out.symm,rfl⟩
 by_cases h2:((s[0]).toNat:Int)<65
 ·have HC:=aYf (gC (s:=s) (.inr (.inr (.inl jb))))
  clear h0;go_enter Tryz.func140,Tryz.ntmps140;go_wp2_with fail;go_ret;exact ⟨aD HC.out.symm,rfl⟩
 by_cases h3:90<((s[0]).toNat:Int)
 ·have HC:=aYf (gC (s:=s) (.inr (.inr (.inr jc))))
  clear h0;go_enter Tryz.func140,Tryz.ntmps140;go_wp2_with fail;go_ret;exact ⟨aD HC.out.symm,rfl⟩
 have HC:=aYf (Mj h0 h1 fj fj);have t1:decide (16<(s.size:Int))=false:=by simp;omega
 clear h0;go_enter Tryz.func140,Tryz.ntmps140;go_wp2_with fail;go_loopw [3] (fun i wr=>pj s 1 w i wr) (fun i _=>s.size - (intOf i).toNat)
 case atStart=>exact ⟨1,I,I,rfl,rfl,HC.out⟩
 case round =>
  obtain ⟨k,hk1,hk,rfl,rfl,hc⟩:=hrel;have HK:=aYf hc;clear hc;by_cases hlt:k<s.size
  ·have HA:=aYf (HK.out.trans (jI hlt _))
   go_wp2_with fail;refine (Ea _ _).mono ?_;rintro e w' ⟨rfl,rfl⟩;go_wp2_with fail
   ·have hz':(!jP ((s[k]).toNat:Int))=true:=by assumption
    have hz:jP ((s[k]).toNat:Int)=false:=by simpa using hz'
    go_ret;exact ⟨aD (by rw [HA.out,hz];rfl),rfl⟩
   ·have hz':(!jP ((s[k]).toNat:Int))=false:=by assumption
    have hz:jP ((s[k]).toNat:Int)=true:=by simpa using hz'
    go_roundw
    case rel=>exact ⟨k+1,I,I,by go_num,rfl,by rw [HA.out,hz];rfl⟩
    case measure=>simp [intOf];omega
  ·go_wp2_with fail
   go_ret;exact ⟨aD gi,rfl⟩
theorem aX (s:ByteArray)(w:World)(hs:s.size<=17592186044416) :
  Calls Tryz.prog 115 #[s] w fun e w'=>e=.returned (rO s)∧w=w':=by
 by_cases h0:s.size=0
 ·have t0:decide ((s.size:Int)<1)=true:=by simp [h0]
  have HC:=aYf (gC (s:=s) (.inl h0));clear h0;go_enter Tryz.func115,Tryz.ntmps115;go_wp2_with fail;go_ret;exact ⟨aD HC.out.symm,rfl⟩
 have t0:decide ((s.size:Int)<1)=false:=bh;have h00:0<s.size:=I;by_cases h1:16<s.size
 ·have HC:=aYf (gC (s:=s) (.inr (.inl h1)))
  clear h0;go_enter Tryz.func115,Tryz.ntmps115;go_wp2_with fail;go_ret;exact ⟨aD HC.out.symm,rfl⟩
 by_cases h2:((s[0]).toNat:Int)<65
 ·have HC:=aYf (gC (s:=s) (.inr (.inr (.inl jb))))
  clear h0;go_enter Tryz.func115,Tryz.ntmps115;go_wp2_with fail;go_ret;exact ⟨aD HC.out.symm,rfl⟩
 by_cases h3:90<((s[0]).toNat:Int)
 ·have HC:=aYf (gC (s:=s) (.inr (.inr (.inr jc))))
  clear h0;go_enter Tryz.func115,Tryz.ntmps115;go_wp2_with fail;go_ret;exact ⟨aD HC.out.symm,rfl⟩
 have HC:=aYf (wP h0 h1 fj fj);have t1:decide (16<(s.size:Int))=false:=by simp;omega
 clear h0;go_enter Tryz.func115,Tryz.ntmps115;go_wp2_with fail;go_loopw [3] (fun i wr=>pj s 0 w i wr) (fun i _=>s.size - (intOf i).toNat)
 case atStart=>exact ⟨0,I,I,rfl,rfl,HC.out⟩
 case round =>
  obtain ⟨k,hk1,hk,rfl,rfl,hc⟩:=hrel;have HK:=aYf hc;clear hc;by_cases hlt:k<s.size
  ·have HA:=aYf (HK.out.trans (jI hlt _))
   rcases qG ((s[k]).toNat:Int) with ⟨hp,hz⟩ | ⟨hp,hz⟩
   ·have HA2:=aYf (HA.out.trans (by rw [hz,Bool.false_and]))
    clear hz HA;rcases hp with hp | ⟨hp,hp'⟩ | ⟨hp,hp'⟩ | ⟨hp,hp'⟩ | hp
    all_goals
     first | have d122:decide (((s[k]).toNat:Int)<=122)=true:=aYi I | have d122:decide (((s[k]).toNat:Int)<=122)=false:=aYj I
     first | have d90:decide (((s[k]).toNat:Int)<=90)=true:=aYi I | have d90:decide (((s[k]).toNat:Int)<=90)=false:=aYj I
     first | have d57:decide (((s[k]).toNat:Int)<=57)=true:=aYi I | have d57:decide (((s[k]).toNat:Int)<=57)=false:=aYj I
     first | have dn:(((s[k]).toNat:Int) != 95)=true:=bne_iff_ne.2 I | have dn:(((s[k]).toNat:Int) != 95)=false:=by rw [bne_eq_false_iff_eq];omega
     first | have de:(((s[k]).toNat:Int) == 95)=false:=aYg I | have de:(((s[k]).toNat:Int) == 95)=true:=aYh I
     go_wp2_with fail;go_ret;exact ⟨aD HA2.out.symm,rfl⟩
   ·have HA2:=aYf (HA.out.trans (by rw [hz,Bool.true_and]))
    clear hz HA;rcases hp with ⟨hp,hp'⟩ | ⟨hp,hp'⟩ | ⟨hp,hp'⟩ | ⟨hp,hp'⟩
    all_goals
     first | have d122:decide (((s[k]).toNat:Int)<=122)=true:=aYi I | have d122:decide (((s[k]).toNat:Int)<=122)=false:=aYj I
     first | have d90:decide (((s[k]).toNat:Int)<=90)=true:=aYi I | have d90:decide (((s[k]).toNat:Int)<=90)=false:=aYj I
     first | have d57:decide (((s[k]).toNat:Int)<=57)=true:=aYi I | have d57:decide (((s[k]).toNat:Int)<=57)=false:=aYj I
     first | have dn:(((s[k]).toNat:Int) != 95)=true:=bne_iff_ne.2 I | have dn:(((s[k]).toNat:Int) != 95)=false:=by rw [bne_eq_false_iff_eq];omega
     first | have de:(((s[k]).toNat:Int) == 95)=false:=aYg I | have de:(((s[k]).toNat:Int) == 95)=true:=aYh I
     go_wp2_with fail;go_roundw
     case rel=>exact ⟨k+1,I,I,by go_num,rfl,HA2.out⟩
     case measure=>simp [intOf];omega
  ·go_wp2_with fail
   go_ret;exact ⟨aD gi,rfl⟩
theorem sN (s:ByteArray)(w:World)(hs:s.size<=17592186044416) :
  Calls Tryz.prog 84 #[s] w fun e w'=>e=.returned (rO s)∧w=w':=by
 by_cases h0:s.size=0
 ·have t0:((s.size:Int) == 0)=true:=by simp [h0]
  have HC:=aYf (gC (s:=s) (.inl h0));clear h0;go_enter Tryz.func84,Tryz.ntmps84;go_wp2_with fail;go_ret;exact ⟨aD HC.out.symm,rfl⟩
 have t0:((s.size:Int) == 0)=false:=aYg I;have h00:0<s.size:=by omega
 by_cases h1:16<s.size
 ·have HC:=aYf (gC (s:=s) (.inr (.inl h1)))
  clear h0;go_enter Tryz.func84,Tryz.ntmps84;go_wp2_with fail;go_ret;exact ⟨aD HC.out.symm,rfl⟩
 by_cases h2:((s[0]).toNat:Int)<65
 ·have HC:=aYf (gC (s:=s) (.inr (.inr (.inl jb))))
  clear h0;go_enter Tryz.func84,Tryz.ntmps84;go_wp2_with fail;go_ret;exact ⟨aD HC.out.symm,rfl⟩
 by_cases h3:90<((s[0]).toNat:Int)
 ·have HC:=aYf (gC (s:=s) (.inr (.inr (.inr jc))))
  clear h0;go_enter Tryz.func84,Tryz.ntmps84;go_wp2_with fail;go_ret;exact ⟨aD HC.out.symm,rfl⟩
 have HC:=aYf (wP h0 h1 fj fj);have t1:decide (16<(s.size:Int))=false:=by simp;omega
 clear h0;go_enter Tryz.func84,Tryz.ntmps84;go_wp2_with fail;go_loopw [3] (fun i wr=>pj s 0 w i wr) (fun i _=>s.size - (intOf i).toNat)
 case atStart=>exact ⟨0,I,I,rfl,rfl,HC.out⟩
 case round =>
  obtain ⟨k,hk1,hk,rfl,rfl,hc⟩:=hrel;have HK:=aYf hc;clear hc;by_cases hlt:k<s.size
  ·have HA:=aYf (HK.out.trans (jI hlt _))
   rcases qG ((s[k]).toNat:Int) with ⟨hp,hz⟩ | ⟨hp,hz⟩
   ·have HA2:=aYf (HA.out.trans (by rw [hz,Bool.false_and]))
    clear hz HA;rcases hp with hp | ⟨hp,hp'⟩ | ⟨hp,hp'⟩ | ⟨hp,hp'⟩ | hp
    all_goals
     first | have d122:decide (((s[k]).toNat:Int)<=122)=true:=aYi I | have d122:decide (((s[k]).toNat:Int)<=122)=false:=aYj I
     first | have d90:decide (((s[k]).toNat:Int)<=90)=true:=aYi I | have d90:decide (((s[k]).toNat:Int)<=90)=false:=aYj I
     first | have d57:decide (((s[k]).toNat:Int)<=57)=true:=aYi I | have d57:decide (((s[k]).toNat:Int)<=57)=false:=aYj I
     first | have dn:(((s[k]).toNat:Int) != 95)=true:=bne_iff_ne.2 I | have dn:(((s[k]).toNat:Int) != 95)=false:=by rw [bne_eq_false_iff_eq];omega
     first | have de:(((s[k]).toNat:Int) == 95)=false:=aYg I | have de:(((s[k]).toNat:Int) == 95)=true:=aYh I
     go_wp2_with fail;go_ret;exact ⟨aD HA2.out.symm,rfl⟩
   ·have HA2:=aYf (HA.out.trans (by rw [hz,Bool.true_and]))
    clear hz HA;rcases hp with ⟨hp,hp'⟩ | ⟨hp,hp'⟩ | ⟨hp,hp'⟩ | ⟨hp,hp'⟩
    all_goals
     first | have d122:decide (((s[k]).toNat:Int)<=122)=true:=aYi I | have d122:decide (((s[k]).toNat:Int)<=122)=false:=aYj I
     first | have d90:decide (((s[k]).toNat:Int)<=90)=true:=aYi I | have d90:decide (((s[k]).toNat:Int)<=90)=false:=aYj I
     first | have d57:decide (((s[k]).toNat:Int)<=57)=true:=aYi I | have d57:decide (((s[k]).toNat:Int)<=57)=false:=aYj I
     first | have dn:(((s[k]).toNat:Int) != 95)=true:=bne_iff_ne.2 I | have dn:(((s[k]).toNat:Int) != 95)=false:=by rw [bne_eq_false_iff_eq];omega
     first | have de:(((s[k]).toNat:Int) == 95)=false:=aYg I | have de:(((s[k]).toNat:Int) == 95)=true:=aYh I
     go_wp2_with fail;go_roundw
     case rel=>exact ⟨k+1,I,I,by go_num,rfl,HA2.out⟩
     case measure=>simp [intOf];omega
  ·go_wp2_with fail
   go_ret;exact ⟨aD gi,rfl⟩
def bF (s:ByteArray):Bool:=s.toList.isEmpty
def qU (x:GV):Bool:=decide (x.kids.length<=256) && (decide (x.kind ≠ 3) || decide (x.kids.length<=16))
def aG (x:GV):Bool :=
 if x.kind=0 then bF x.s && decide (x.kids.length=0)
 else if x.kind=1 then decide (x.n=0∨x.n=1) && bF x.s && decide (x.kids.length=0)
 else if x.kind=2 then decide (x.n=0) && bF x.s
 else if x.kind=3 then decide (x.n=0) && rO x.s
 else false
theorem Cx (x:GV)(A:Option Addr)(c:Nat)(w:World)(h2:x.kids<=c)(_:x.kids.length<=17592186044416∧c<=9223372036854775807) :
  qg 126 #[cN x A c] w (dE (qU x) w):=by
 obtain ⟨k,n,s,l⟩:=x;have HF:=aYf (show qU (.mk k n s l)=(decide (l.length<=256) && (decide (k ≠ 3) || decide (l.length<=16))) from rfl);simp only [GV.kids] at h2;change qg 126 #[.agg #[↑k,↑n,s,.slice A l c]] w _;go_enter Tryz.func126,Tryz.ntmps126;go_wp2_with fail
 all_goals
  go_ret;refine ⟨aD ?_,(aq _).alloc' _⟩;rw [HF.out,Bool.eq_iff_iff]
  simp_all
  try omega
theorem Fm (x:GV)(A:Option Addr)(c:Nat)(w:World)(h1:x.s.size<=17592186044416)(h2:x.kids<=c)(_:x.kids.length<=17592186044416∧c<=9223372036854775807) :
  qg 125 #[cN x A c] w (dE (aG x) w):=by
 obtain ⟨k,n,s,l⟩:=x;simp only [GV.kids,GV.s] at h1 h2;have HF:=aYf (show aG (.mk k n s l)=(if k=0 then bF s && decide (l.length=0) else if k=1 then decide (n=0∨n=1) && bF s && decide (l.length=0) else if k=2 then decide (n=0) && bF s else if k=3 then decide (n=0) && rO s else false) from rfl);change qg 125 #[.agg #[↑k,↑n,s,.slice A l c]] w _;go_enter Tryz.func125,Tryz.ntmps125;go_wp2_with (go_at_call 140;refine (Fc _ _ h1).mono ?_;rintro e w' ⟨rfl,rfl⟩)
 all_goals
  go_ret;refine ⟨aD ?_,(aq _).alloc' _⟩;rw [HF.out,Bool.eq_iff_iff]
  simp_all [bF]
  try omega
def xW:Int × Bool × Bool->GV->(Int × Bool × Bool) × Bool
 | (n,g,m),x=>((wrap64 (n+1),g && aG x,m && qU x),g && aG x)
def StV (b0 b1 b2:Nat)(s:Int × Bool × Bool)(w:World):Prop :=
 Blk w b0 3 #[.int .i64 s.1]∧Blk w b1 4 #[s.2.1]∧Blk w b2 4 #[s.2.2]
theorem It (b0 b1 b2:Nat)(h01:b0 ≠ b1)(h02:b0 ≠ b2)(h12:b1 ≠ b2) :
  ld 124 #[qp b0,qp b1,qp b2] (fun b=>b=b0∨b=b1∨b=b2) (StV b0 b1 b2) xW:=by
 refine ⟨?_,fun s w w' h hx=>⟨h.1.ext hx,h.2.1.ext hx,h.2.2.ext hx⟩⟩;rintro ⟨n,g,m⟩ x A c d P w hP ⟨k0,k1,k2⟩ hx;have HX:=aYf hx;have K0:=aYf k0;have K1:=aYf k1;have K2:=aYf k2;have c0:=k0.cell' (u:=↑n) 0 rfl;have c1:=k1.cell' (u:=g) 0 rfl;have c2:=k2.cell' (u:=m) 0 rfl;have f0:=k0.frozen 0;have f1:=k1.frozen 0;have f2:=k2.frozen 0;have l0:=k0.lt;have l1:=k1.lt;have l2:=k2.lt;clear k0 k1 k2 hx hP;simp only [xW];show qg 124 #[cN x A c,↑d,qp b0,qp b1,qp b2] w _;have HFR:=aYf (show Fr (fun b=>b=b0∨b=b1∨b=b2) w w from au _ _);cases g
 ·cases m
  ·go_enter Tryz.func124,Tryz.ntmps124
   go_wp2_with fail;go_ret;refine ⟨rfl,?_,?_,?_,?_⟩
   ·exact (((HFR.out.setCell (p:=qp b0) (.inl (.inl rfl)) _).setCell (p:=qp b1) (.inl (.inr (.inl rfl))) _).setCell (p:=qp b2) (.inl (.inr (.inr rfl))) _).alloc _
   ·exact (((K0.out.set_ 0 _).far (p:=qp b1) h01 _).far (p:=qp b2) h02 _).alloc _
   ·exact (((K1.out.far (p:=qp b0) h01.symm _).set_ 0 _).far (p:=qp b2) h12 _).alloc _
   ·exact (((K2.out.far (p:=qp b0) h02.symm _).far (p:=qp b1) h12.symm _).set_ 0 _).alloc _
  ·go_enter Tryz.func124,Tryz.ntmps124
   go_wp2_with fail;refine (Cx x A c _ HX.out.len HX.out.cap).mono ?_;rintro e w1 ⟨rfl,hx1⟩;have B0:=aYf ((((K0.out.set_ 0 (.int .i64 (wrap64 (n+1)))).far (p:=qp b1) h01 false).alloc (qk (qh x A c) 58)).ext hx1);have B1:=aYf ((((K1.out.far (p:=qp b0) h01.symm (.int .i64 (wrap64 (n+1)))).set_ 0 false).alloc (qk (qh x A c) 58)).ext hx1);have B2:=aYf ((((K2.out.far (p:=qp b0) h02.symm (.int .i64 (wrap64 (n+1)))).far (p:=qp b1) h12.symm false).alloc (qk (qh x A c) 58)).ext hx1);have FR:=aYf ((((HFR.out.setCell (p:=qp b0) (.inl (.inl rfl)) (.int .i64 (wrap64 (n+1)))).setCell (p:=qp b1) (.inl (.inr (.inl rfl))) false).alloc (qk (qh x A c) 58)).trans (ar hx1));have d1:=B1.out.cell' (u:=false) 0 rfl;have d2:=B2.out.cell' (u:=true) 0 rfl;have q2:=B2.out.frozen 0;clear hx1;go_wp2_with fail;go_ret;refine ⟨rfl,?_,?_,?_,?_⟩
   ·exact FR.out.setCell (p:=qp b2) (.inl (.inr (.inr rfl))) _
   ·exact B0.out.far (p:=qp b2) h02 _
   ·exact B1.out.far (p:=qp b2) h12 _
   ·exact B2.out.set_ 0 _
 ·go_enter Tryz.func124,Tryz.ntmps124
  go_wp2_with fail;refine (Fm x A c _ HX.out.s HX.out.len HX.out.cap).mono ?_;rintro e w1 ⟨rfl,hx1⟩;have B0:=aYf (((K0.out.set_ 0 (.int .i64 (wrap64 (n+1)))).alloc (qk (qh x A c) 58)).ext hx1);have B1:=aYf (((K1.out.far (p:=qp b0) h01.symm (.int .i64 (wrap64 (n+1)))).alloc (qk (qh x A c) 58)).ext hx1);have B2:=aYf (((K2.out.far (p:=qp b0) h02.symm (.int .i64 (wrap64 (n+1)))).alloc (qk (qh x A c) 58)).ext hx1);have BX:=aYf ((az (w.setCell (qp b0) (.int .i64 (wrap64 (n+1)))) 58 (qh x A c) (g:=w.heap.size) ic).ext hx1);have FR:=aYf (((HFR.out.setCell (p:=qp b0) (.inl (.inl rfl)) (.int .i64 (wrap64 (n+1)))).alloc (qk (qh x A c) 58)).trans (ar hx1));have d1:=B1.out.cell' (u:=true) 0 rfl;have q1:=B1.out.frozen 0;have d2:=B2.out.cell' (u:=m) 0 rfl;have q2:=B2.out.frozen 0;have x0:=BX.out.cell' (u:=↑x.kind) 0 rfl;have x1:=BX.out.cell' (u:=↑x.n) 1 rfl;have x2:=BX.out.cell' (u:=x.s) 2 rfl;have x3:=BX.out.cell' (u:=.slice A x.kids c) 3 rfl;clear hx1 c0 c1 c2 f0 f1 f2;cases m
  ·go_wp2_with fail
   go_ret;refine ⟨rfl,?_,?_,?_,?_⟩
   ·exact (FR.out.setCell (p:=qp b1) (.inl (.inr (.inl rfl))) _).setCell (p:=qp b2) (.inl (.inr (.inr rfl))) _
   ·exact (B0.out.far (p:=qp b1) h01 _).far (p:=qp b2) h02 _
   ·exact (B1.out.set_ 0 _).far (p:=qp b2) h12 _
   ·exact (B2.out.far (p:=qp b1) h12.symm _).set_ 0 _
  ·go_wp2_with fail
   refine (Cx x A c _ HX.out.len HX.out.cap).mono ?_;rintro e w2 ⟨rfl,hx2⟩;have C0:=aYf ((B0.out.far (p:=qp b1) h01 (aG x)).ext hx2);have C1:=aYf ((B1.out.set_ 0 (aG x)).ext hx2);have C2:=aYf ((B2.out.far (p:=qp b1) h12.symm (aG x)).ext hx2);have FR2:=aYf ((FR.out.setCell (p:=qp b1) (.inl (.inr (.inl rfl))) (aG x)).trans (ar hx2));have e1:=C1.out.cell' (u:=(aG x)) 0 rfl;have e2:=C2.out.cell' (u:=true) 0 rfl;have r2:=C2.out.frozen 0;clear hx2;go_wp2_with fail;go_ret;refine ⟨rfl,?_,?_,?_,?_⟩
   ·exact FR2.out.setCell (p:=qp b2) (.inl (.inr (.inr rfl))) _
   ·exact C0.out.far (p:=qp b2) h02 _
   ·exact C1.out.far (p:=qp b2) h12 _
   ·exact C2.out.set_ 0 _
def BU {σ:Type}(M:Nat->Prop)(St:σ->World->Prop)(r:σ)(w:World)(e:Ending)(w':World):Prop :=
 e=.returned (.tuple #[])∧Fr M w w'∧St r w'
theorem xK {σ:Type}(g0 g1 g2:Nat)(M:Nat->Prop)(St:σ->World->Prop)(f:σ->GV->σ × Bool)(hF:ld 124 #[qp g0,qp g1,qp g2] M St f)
  (s:σ)(x:GV)(A:Option Addr)(c:Nat)(P:Nat->Prop)(w:World)(hP:∀ b,P b->¬ M b)(hM:∀ b,M b->b<w)(hs:St s w)(hx:VAt w P x A c) :
  qg 123 #[cN x A c,.func (.func 124) #[] #[qp g0,qp g1,qp g2]] w (BU M St (vis f s x).1 w):=by
 have HX:=aYf hx;have HP:=aYf hP;have HM:=aYf hM;have HS:=aYf hs;clear hx hP hM hs;go_enter Tryz.func123,Tryz.ntmps123;go_wp2_with fail;refine (DW g0 g1 g2 M St f hF (gsz x+1) s x A c 1 P _ (w+1) (w+2) I HP.out (fun b hb=>by have:=HM.out b hb;simp;omega) (hF.keep _ _ _ HS.out (((((aq _).alloc' _).alloc' _).alloc' _))) (HX.out.ext (((((aq _).alloc' _).alloc' _).alloc' _))) ?_ ?_ ?_ ?_).mono ?_
 ·exact (az _ _ _ U).alloc _
 ·exact az _ _ _ U
 ·exact fun h=>by have:=HM.out _ h;omega
 ·exact fun h=>by have:=HM.out _ h;omega
 rintro e w1 ⟨rfl,hf1,hs1⟩;have HF1:=aYf ((ar (((((aq w).alloc' _).alloc' _).alloc' _))).trans hf1);have HS1:=aYf hs1;clear hf1 hs1;go_wp2_with fail;go_end0;exact ⟨rfl,HF1.out,HS1.out⟩
theorem xJ {σ:Type}(g0:Nat)(M:Nat->Prop)(St:σ->World->Prop)(f:σ->GV->σ × Bool)(hF:ld 127 #[qp g0] M St f)
  (s:σ)(x:GV)(A:Option Addr)(c:Nat)(P:Nat->Prop)(w:World)(hP:∀ b,P b->¬ M b)(hM:∀ b,M b->b<w)(hs:St s w)(hx:VAt w P x A c) :
  qg 123 #[cN x A c,.func (.func 127) #[] #[qp g0]] w (BU M St (vis f s x).1 w):=by
 have HX:=aYf hx;have HP:=aYf hP;have HM:=aYf hM;have HS:=aYf hs;clear hx hP hM hs;go_enter Tryz.func123,Tryz.ntmps123;go_wp2_with fail;refine (Eq g0 M St f hF (gsz x+1) s x A c 1 P _ (w+1) (w+2) I HP.out (fun b hb=>by have:=HM.out b hb;simp;omega) (hF.keep _ _ _ HS.out (((((aq _).alloc' _).alloc' _).alloc' _))) (HX.out.ext (((((aq _).alloc' _).alloc' _).alloc' _))) ?_ ?_ ?_ ?_).mono ?_
 ·exact (az _ _ _ U).alloc _
 ·exact az _ _ _ U
 ·exact fun h=>by have:=HM.out _ h;omega
 ·exact fun h=>by have:=HM.out _ h;omega
 rintro e w1 ⟨rfl,hf1,hs1⟩;have HF1:=aYf ((ar (((((aq w).alloc' _).alloc' _).alloc' _))).trans hf1);have HS1:=aYf hs1;clear hf1 hs1;go_wp2_with fail;go_end0;exact ⟨rfl,HF1.out,HS1.out⟩
def kx:Int->GV->Int × Bool
 | n,_=>(wrap64 (n+1),true)
def StS (b0:Nat)(s:Int)(w:World):Prop:=Blk w b0 3 #[↑s]
theorem IL (b0:Nat):ld 127 #[qp b0] (fun b=>b=b0) (StS b0) kx:=by
 refine ⟨?_,fun s w w' h hx=>Blk.ext h hx⟩;rintro n x A c d P w hP k0 hx;have k0':Blk w b0 3 #[↑n]:=k0;have K0:=aYf k0';have c0:=k0'.cell' (u:=↑n) 0 rfl;have f0:=k0'.frozen 0;have l0:=k0'.lt;clear k0 k0' hx hP;simp only [kx];show qg 127 #[cN x A c,↑d,qp b0] w _;go_enter Tryz.func127,Tryz.ntmps127;go_wp2_with fail;go_ret;refine ⟨rfl,?_,?_⟩
 ·exact ((au (fun b=>b=b0) w).setCell (p:=qp b0) (.inl rfl) _).alloc _
 ·exact (K0.out.set_ 0 _).alloc _
def eW (x:GV):Int :=
 if (vis xW (0,true,true) x).1.2.1=false then 1
 else if (vis xW (0,true,true) x).1.2.2=false∨1024<(vis xW (0,true,true) x).1.1 then 4
 else 0
theorem sB (x:GV)(A:Option Addr)(c:Nat)(P:Nat->Prop)(w:World)(hP:∀ b,P b->b<w)(hx:VAt w P x A c) :
  qg 101 #[cN x A c] w (dE (.int .i64 (vis kx 0 x).1) w):=by
 have HX:=aYf hx;have HP:=aYf hP;clear hx hP;go_enter Tryz.func101,Tryz.ntmps101;go_wp2_with fail;refine (xJ (w+1) (fun b=>b=w.heap.size+1) (StS (w+1)) kx (IL _) 0 x A c P _ ?_ ?_ ?_ (HX.out.ext ((((aq _).alloc' _).alloc' _)))).mono ?_
 ·rintro b hb rfl
  have:=HP.out _ hb;omega
 ·rintro b rfl
  simp
 ·exact az _ _ _ U
 rintro e w1 ⟨rfl,hf1,hs1⟩;have hs2:Blk w1 (w+1) 3 #[.int .i64 (vis kx 0 x).1]:=hs1;have c0:=hs2.cell' (u:=.int .i64 (vis kx 0 x).1) 0 rfl;have HF1:=aYf (((ar ((((aq w).alloc' _).alloc' _))).trans hf1));clear hf1 hs1 hs2;go_wp2_with fail;go_ret;exact ⟨rfl,HF1.out.new_ext (fun b hb=>by rw [hb];omega)⟩
theorem gN (x:GV)(A:Option Addr)(c:Nat)(P:Nat->Prop)(w:World)(hP:∀ b,P b->b<w)(hx:VAt w P x A c) :
  qg 100 #[cN x A c] w (dE (.int .i64 (eW x)) w):=by
 have HX:=aYf hx;have HP:=aYf hP
 have HV:=aYf (show eW x=if (vis xW (0,true,true) x).1.2.1=false then 1
  else if (vis xW (0,true,true) x).1.2.2=false∨1024<(vis xW (0,true,true) x).1.1 then 4 else 0 from rfl)
 clear hx hP;go_enter Tryz.func100,Tryz.ntmps100;go_wp2_with fail;refine (xK (w+1) (w+2) (w+3) (fun b=>b=w.heap.size+1∨b=w.heap.size+2∨b=w.heap.size+3) (StV _ _ _) xW (It _ _ _ I I I) (0,true,true) x A c P _ ?_ ?_ ?_ (HX.out.ext ((((((aq _).alloc' _).alloc' _).alloc' _).alloc' _)))).mono ?_
 ·rintro b hb h
  have:=HP.out _ hb;omega
 ·rintro b h
  simp;omega
 ·exact ⟨((az _ _ _ U).alloc _).alloc _,(az _ _ _ U).alloc _,az _ _ _ U⟩
 generalize vis xW (0,true,true) x=r at *;obtain ⟨⟨n,g,m⟩,b⟩:=r;rintro e w1 ⟨rfl,hf1,hs1,hs2,hs3⟩;have c0:=hs1.cell' (u:=↑n) 0 rfl;have c1:=hs2.cell' (u:=g) 0 rfl;have c2:=hs3.cell' (u:=m) 0 rfl;have HF1:=aYf (((ar ((((((aq w).alloc' _).alloc' _).alloc' _).alloc' _))).trans hf1).new_ext (fun b hb=>by omega));clear hf1 hs1 hs2 hs3;cases g
 ·go_wp2_with fail
  go_ret;exact ⟨aK jr,HF1.out⟩
 ·cases m
  ·go_wp2_with fail
   go_ret;exact ⟨aK jr,HF1.out⟩
  ·go_wp2_with fail
   all_goals
    go_ret;refine ⟨aK ?_,HF1.out⟩;rw [HV.out]
    simp_all
    try omega
