/- Contracts of functions. Conditions: none. -/
import Derived.Laws.EntriesVeiled
import Derived.Test.YtkoeecdjijfjnaaGreatA3
set_option maxRecDepth 100000
set_option maxHeartbeats 8000000
namespace Go.Proofs.YtkoeecdjijfjnaaGreat
open Go.RowKit
mutual
def vis {σ:Type}(f:σ->GV->σ × Bool):σ->GV->σ × Bool
 | s,.mk k n t l=>if (f s (.mk k n t l)).2 then rE f (f s (.mk k n t l)).1 l else ((f s (.mk k n t l)).1,false)
def rE {σ:Type}(f:σ->GV->σ × Bool):σ->List GV->σ × Bool
 | s,[]=>(s,true)
 | s,x :: xs=>if (vis f s x).2 then rE f (vis f s x).1 xs else ((vis f s x).1,false)
end
theorem zW {σ:Type}(f:σ->GV->σ × Bool)(s:σ)(x:GV):vis f s x=if (f s x).2 then rE f (f s x).1 x.kids else ((f s x).1,false):=by
 obtain ⟨k,n,t,l⟩:=x;simp only [vis,GV.kids]
theorem oA {σ:Type}(f:σ->GV->σ × Bool)(s:σ):rE f s []=(s,true):=by simp only [rE]
theorem lI {σ:Type}(f:σ->GV->σ × Bool)(s:σ)(x:GV)(xs:List GV):rE f s (x :: xs)=if (vis f s x).2 then rE f (vis f s x).1 xs else ((vis f s x).1,false):=by
 simp only [rE]
structure aI7 {σ:Type}(F:Nat)(caps:Array Value)(M:Nat->Prop)(St:σ->World->Prop)(f:σ->GV->σ × Bool):Prop where
 calls:∀ (s:σ) (x:GV) (A:Option Addr) (c:Nat) (d:Int) (P:Nat->Prop) (w:World),(∀ b,P b->¬ M b)->St s w->VAt w P x A c ->
  Calls Tryz.prog F (#[eF x A c,↑d] ++ caps) w (fun e w'=>e=.returned (.bool (f s x).2)∧Fr M w w'∧St (f s x).1 w')
 keep:∀ (s:σ) (w w':World),St s w->Ext w w'->St s w'
def qG {σ:Type}(M:Nat->Prop)(St:σ->World->Prop)(r:σ × Bool)(w:World)(e:Ending)(w':World):Prop :=
 e=.returned (.bool r.2)∧Fr M w w'∧St r.1 w'
def nF {σ:Type}(F:Nat)(caps:Array Value)(M:Nat->Prop)(St:σ->World->Prop)(f:σ->GV->σ × Bool)(N:Nat):Prop :=
 ∀ (s:σ) (x:GV) (A:Option Addr) (c:Nat) (d:Int) (P:Nat->Prop) (w:World) (bs bw:Nat),gsz x<N->(∀ b,P b->¬ M b)->(∀ b,M b->b<w.heap.size)->St s w->VAt w P x A c ->
  Blk w bs 239 #[.func (.func F) #[] caps]->Blk w bw 239 #[.func (.func 200) #[] #[.pointer (some ⟨bs,0,none⟩),.pointer (some ⟨bw,0,none⟩)]]->¬ M bs->¬ M bw ->
  Calls Tryz.prog 200 #[eF x A c,↑d,.pointer (some ⟨bs,0,none⟩),.pointer (some ⟨bw,0,none⟩)] w (qG M St (vis f s x) w)
def aI3 {σ:Type}(f:σ->GV->σ × Bool)(M:Nat->Prop)(St:σ->World->Prop)(s0:σ)(l:List GV)(W:World)(i:Value)(wr:World):Prop :=
 ∃ (k:Nat) (s:σ),k<=l.length∧i=↑k∧Fr M W wr∧St s wr∧rE f s0 l=rE f s (l.drop k)
theorem yB {σ:Type}(g0:Nat)(M:Nat->Prop)(St:σ->World->Prop)(f:σ->GV->σ × Bool)(hF:aI7 180 #[.pointer (some ⟨g0,0,none⟩)] M St f)(N:Nat)
  (hS:nF 180 #[.pointer (some ⟨g0,0,none⟩)] M St f N):nF 180 #[.pointer (some ⟨g0,0,none⟩)] M St f (N+1):=by
 intro s x A c d P w bs bw hN hP hM hs hx hbs hbw hms hmw;have HX:=aYl hx;have HP:=aYl hP;have HM:=aYl hM;have HSt:=aYl hs;have HBS:=aYl hbs;have HBW:=aYl hbw;have HMS:=aYl hms;have HMW:=aYl hmw;have hc1:=hbs.cell' 0 rfl;have hl1:=hbs.lt;have HV:=aYl (zW f s x);have HC:=aYl (hF.calls s x A c d P);have HN:=aYl (show ∀ z ∈ x.kids,gsz z<N from fun z hz=>by have:=gX hz;omega);have hx5:=hx.cap;clear hx hP hM hs hbs hbw hms hmw;generalize hfx:f s x=r at *;clear hfx;obtain ⟨s1,b1⟩:=r;go_enter Tryz.func200,Tryz.ntmps200;go_wp2_with fail;refine (HC.out _ HP.out (hF.keep _ _ _ HSt.out ((Ext.refl _).alloc' _)) (HX.out.ext ((Ext.refl _).alloc' _))).mono ?_;rintro e w1 ⟨rfl,hf1,hs1⟩;have HM0:=aYl (show ¬ M w.heap.size from fun h=>by have:=HM.out _ h;omega);have hbox:=((Blk.new w 85 #[↑x.kind,↑x.n,.string x.s,.slice A x.kids.length c]).fr hf1 HM0.out);have HBOX:=aYl hbox;have hc3:=hbox.cell' 3 rfl;have HF1:=aYl (((Fr.refl M w).alloc (.cells #[↑x.kind,↑x.n,.string x.s,.slice A x.kids.length c] 85)).trans hf1);have HS1:=aYl hs1;clear hf1 hs1 hbox HC
 cases b1
 ·go_wp2_with fail
  go_ret;unfold qG;rw [HV.out];exact ⟨rfl,HF1.out,HS1.out⟩
 ·have HVT:=aYl (HV.out.trans (if_pos rfl))
  go_wp2_with fail;go_loopw [17] (fun i wr=>aI3 f M St s1 x.kids w1 i wr) (fun i _=>x.kids.length - (intOf i).toNat)
  case atStart=>exact ⟨0,s1,Nat.zero_le _,rfl,Fr.refl _ _,HS1.out,rfl⟩
  case round =>
   obtain ⟨k,s2,hk,rfl,hfr,hs2,ht⟩:=hrel;have HT:=aYl ht;have HS2:=aYl hs2;have HFR:=aYl (HF1.out.trans hfr);have HF0:=aYl hfr;have hfr':=HFR.out;clear hfr hs2 ht
   by_cases hlt:k<x.kids.length
   ·have HXK:=aYl (HX.out.kids.keep (aB.of_fr hfr' HP.out) (fun _ h=>h))
    obtain ⟨b1,o1,c1,A1,d1,e1,-,-,-,hv1,g10,g11,g12,g13⟩:=HXK.out.at_ hlt
    cases e1
    have HV1:=aYl hv1;have HM1:=aYl (HN.out _ (aF (d:=default) hlt));have HD:=aYl (show rE f s1 x.kids=rE f s2 (x.kids.getD k default :: x.kids.drop (k+1)) by rw [HT.out,<- aG default hlt]);have HBS2:=aYl (HBS.out.fr hfr' HMS.out);have HBW2:=aYl (HBW.out.fr hfr' HMW.out);have hw0:=HBW2.out.cell' 0 rfl;have hl2:=HBW2.out.lt;have HM2:=aYl (show ∀ b,M b->b<wr.heap.size+1 from fun b hb=>by have:=HM.out b hb;have:=hfr'.size;omega);clear hv1 hfr' HXK;generalize x.kids.getD k default=y at *;go_wp2_with fail;refine (hS s2 y A1 d1 _ P _ bs bw HM1.out HP.out (by simpa using HM2.out) (hF.keep _ _ _ HS2.out ((Ext.refl _).alloc' _)) (HV1.out.ext ((Ext.refl _).alloc' _)) (HBS2.out.alloc _) (HBW2.out.alloc _) HMS.out HMW.out).mono ?_;rintro e w2 ⟨rfl,hf2,hs3⟩;have HF2:=aYl ((HFR.out.alloc _).trans hf2);have HFW:=aYl ((HF0.out.alloc _).trans hf2);have HS3:=aYl hs3;clear hf2 hs3;have HDC:=aYl (HD.out.trans (lI f s2 y _));generalize hvy:vis f s2 y=r2 at *;clear hvy;obtain ⟨s3,b3⟩:=r2
    cases b3
    ·go_wp2_with fail
     go_ret;unfold qG;rw [HVT.out,HDC.out];exact ⟨rfl,HF2.out,HS3.out⟩
    ·go_wp2_with fail
     go_roundw
     case rel=>exact ⟨k+1,s3,U,by go_num,HFW.out,HS3.out,HDC.out.trans Y⟩
     case measure=>simp [intOf];omega
   ·have HZ:=aYl (show rE f s1 x.kids=(s2,true) by rw [HT.out,drop_nil U,oA])
    clear hfr';go_wp2_with fail;go_ret;unfold qG;rw [HVT.out,HZ.out];exact ⟨rfl,HFR.out,HS2.out⟩
theorem aBr {σ:Type}(g0:Nat)(M:Nat->Prop)(St:σ->World->Prop)(f:σ->GV->σ × Bool)(hF:aI7 180 #[.pointer (some ⟨g0,0,none⟩)] M St f)(N:Nat):nF 180 #[.pointer (some ⟨g0,0,none⟩)] M St f N:=by
 induction N with
 | zero=>intro s x A c d P w bs bw hN;omega
 | succ N ih=>exact yB g0 M St f hF N ih
theorem yC {σ:Type}(g0 g1 g2:Nat)(M:Nat->Prop)(St:σ->World->Prop)(f:σ->GV->σ × Bool)(hF:aI7 177 #[.pointer (some ⟨g0,0,none⟩),.pointer (some ⟨g1,0,none⟩),.pointer (some ⟨g2,0,none⟩)] M St f)(N:Nat)
  (hS:nF 177 #[.pointer (some ⟨g0,0,none⟩),.pointer (some ⟨g1,0,none⟩),.pointer (some ⟨g2,0,none⟩)] M St f N):nF 177 #[.pointer (some ⟨g0,0,none⟩),.pointer (some ⟨g1,0,none⟩),.pointer (some ⟨g2,0,none⟩)] M St f (N+1):=by
 intro s x A c d P w bs bw hN hP hM hs hx hbs hbw hms hmw;have HX:=aYl hx;have HP:=aYl hP;have HM:=aYl hM;have HSt:=aYl hs;have HBS:=aYl hbs;have HBW:=aYl hbw;have HMS:=aYl hms;have HMW:=aYl hmw;have hc1:=hbs.cell' 0 rfl;have hl1:=hbs.lt;have HV:=aYl (zW f s x);have HC:=aYl (hF.calls s x A c d P);have HN:=aYl (show ∀ z ∈ x.kids,gsz z<N from fun z hz=>by have:=gX hz;omega);have hx5:=hx.cap;clear hx hP hM hs hbs hbw hms hmw;generalize hfx:f s x=r at *;clear hfx;obtain ⟨s1,b1⟩:=r;go_enter Tryz.func200,Tryz.ntmps200;go_wp2_with fail;refine (HC.out _ HP.out (hF.keep _ _ _ HSt.out ((Ext.refl _).alloc' _)) (HX.out.ext ((Ext.refl _).alloc' _))).mono ?_;rintro e w1 ⟨rfl,hf1,hs1⟩;have HM0:=aYl (show ¬ M w.heap.size from fun h=>by have:=HM.out _ h;omega);have hbox:=((Blk.new w 85 #[↑x.kind,↑x.n,.string x.s,.slice A x.kids.length c]).fr hf1 HM0.out);have HBOX:=aYl hbox;have hc3:=hbox.cell' 3 rfl;have HF1:=aYl (((Fr.refl M w).alloc (.cells #[↑x.kind,↑x.n,.string x.s,.slice A x.kids.length c] 85)).trans hf1);have HS1:=aYl hs1;clear hf1 hs1 hbox HC
 cases b1
 ·go_wp2_with fail
  go_ret;unfold qG;rw [HV.out];exact ⟨rfl,HF1.out,HS1.out⟩
 ·have HVT:=aYl (HV.out.trans (if_pos rfl))
  go_wp2_with fail;go_loopw [17] (fun i wr=>aI3 f M St s1 x.kids w1 i wr) (fun i _=>x.kids.length - (intOf i).toNat)
  case atStart=>exact ⟨0,s1,Nat.zero_le _,rfl,Fr.refl _ _,HS1.out,rfl⟩
  case round =>
   obtain ⟨k,s2,hk,rfl,hfr,hs2,ht⟩:=hrel;have HT:=aYl ht;have HS2:=aYl hs2;have HFR:=aYl (HF1.out.trans hfr);have HF0:=aYl hfr;have hfr':=HFR.out;clear hfr hs2 ht
   by_cases hlt:k<x.kids.length
   ·have HXK:=aYl (HX.out.kids.keep (aB.of_fr hfr' HP.out) (fun _ h=>h))
    obtain ⟨b1,o1,c1,A1,d1,e1,-,-,-,hv1,g10,g11,g12,g13⟩:=HXK.out.at_ hlt
    cases e1
    have HV1:=aYl hv1;have HM1:=aYl (HN.out _ (aF (d:=default) hlt));have HD:=aYl (show rE f s1 x.kids=rE f s2 (x.kids.getD k default :: x.kids.drop (k+1)) by rw [HT.out,<- aG default hlt]);have HBS2:=aYl (HBS.out.fr hfr' HMS.out);have HBW2:=aYl (HBW.out.fr hfr' HMW.out);have hw0:=HBW2.out.cell' 0 rfl;have hl2:=HBW2.out.lt;have HM2:=aYl (show ∀ b,M b->b<wr.heap.size+1 from fun b hb=>by have:=HM.out b hb;have:=hfr'.size;omega);clear hv1 hfr' HXK;generalize x.kids.getD k default=y at *;go_wp2_with fail;refine (hS s2 y A1 d1 _ P _ bs bw HM1.out HP.out (by simpa using HM2.out) (hF.keep _ _ _ HS2.out ((Ext.refl _).alloc' _)) (HV1.out.ext ((Ext.refl _).alloc' _)) (HBS2.out.alloc _) (HBW2.out.alloc _) HMS.out HMW.out).mono ?_;rintro e w2 ⟨rfl,hf2,hs3⟩;have HF2:=aYl ((HFR.out.alloc _).trans hf2);have HFW:=aYl ((HF0.out.alloc _).trans hf2);have HS3:=aYl hs3;clear hf2 hs3;have HDC:=aYl (HD.out.trans (lI f s2 y _));generalize hvy:vis f s2 y=r2 at *;clear hvy;obtain ⟨s3,b3⟩:=r2
    cases b3
    ·go_wp2_with fail
     go_ret;unfold qG;rw [HVT.out,HDC.out];exact ⟨rfl,HF2.out,HS3.out⟩
    ·go_wp2_with fail
     go_roundw
     case rel=>exact ⟨k+1,s3,U,by go_num,HFW.out,HS3.out,HDC.out.trans Y⟩
     case measure=>simp [intOf];omega
   ·have HZ:=aYl (show rE f s1 x.kids=(s2,true) by rw [HT.out,drop_nil U,oA])
    clear hfr';go_wp2_with fail;go_ret;unfold qG;rw [HVT.out,HZ.out];exact ⟨rfl,HFR.out,HS2.out⟩
theorem aBs {σ:Type}(g0 g1 g2:Nat)(M:Nat->Prop)(St:σ->World->Prop)(f:σ->GV->σ × Bool)(hF:aI7 177 #[.pointer (some ⟨g0,0,none⟩),.pointer (some ⟨g1,0,none⟩),.pointer (some ⟨g2,0,none⟩)] M St f)(N:Nat):nF 177 #[.pointer (some ⟨g0,0,none⟩),.pointer (some ⟨g1,0,none⟩),.pointer (some ⟨g2,0,none⟩)] M St f N:=by
 induction N with
 | zero=>intro s x A c d P w bs bw hN;omega
 | succ N ih=>exact yC g0 g1 g2 M St f hF N ih
def jI (n:Int):Bool:=decide (97<=n∧n<=122∨65<=n∧n<=90∨48<=n∧n<=57∨n=95)
theorem aCd (n:Int)(w:World) :
  Calls Tryz.prog 216 #[.int .u8 n] w fun e w'=>e=.returned (.bool (jI n))∧w=w':=by
 go_enter Tryz.func216,Tryz.ntmps216;go_wp2
 all_goals
  go_ret;refine ⟨aC ?_,rfl⟩;rw [Bool.eq_iff_iff];simp [jI]
  try omega
theorem pI (n:Int):((n<48∨(58<=n∧n<=64)∨(91<=n∧n<=94)∨(96<=n∧n<=96)∨122<n)∧jI n=false) ∨
  (((48<=n∧n<=57)∨(65<=n∧n<=90)∨(95<=n∧n<=95)∨(97<=n∧n<=122))∧jI n=true):=by
 by_cases h:jI n=true
 ·refine .inr ⟨?_,h⟩
  have:=of_decide_eq_true (by unfold jI at h;exact h);omega
 ·refine .inl ⟨?_,ex⟩
  have h':jI n=false:=ex
  unfold jI at h';have:=of_decide_eq_false h';omega
def qD (s:ByteArray):Bool:=decide (1<=s.size∧s.size<=16∧65<=((s.data.toList.getD 0 0).toNat:Int)∧((s.data.toList.getD 0 0).toNat:Int)<=90) && s.data.toList.all (fun c=>jI c.toNat)
theorem dE (s:ByteArray)(k:Nat)(h:k<s.size):s[k]=s.data.toList.getD k 0:=by
 have h':k<s.data.size:=h
 have e:s.data.toList.getD k 0=s.data[k]:=by
  rw [List.getD_eq_getElem?_getD,Array.getElem?_toList,Array.getElem?_eq_getElem h']
  rfl
 rw [e]
 rfl
theorem fQ {s:ByteArray}(h:s.size=0∨16<s.size∨((s.data.toList.getD 0 0).toNat:Int)<65∨90<((s.data.toList.getD 0 0).toNat:Int)):qD s=false:=by
 unfold qD;rw [aYp U]
 rfl
theorem kI (s:ByteArray):s.data.toList.length=s.size:=Y
theorem rH (s:ByteArray):s.toList.length=s.size:=by rw [ByteArray.toList_eq];exact kI s
theorem qR {s:ByteArray}(h:¬ s.size=0):s.toList.isEmpty=false:=by
 have h1:=rH s
 cases hl:s.toList with
 | nil=>rw [hl] at h1;exact absurd h1.symm h
 | cons a l=>rfl
def aF1 (s:ByteArray)(lo:Nat)(w:World)(i:Value)(wr:World):Prop:=∃ k:Nat,lo<=k∧k<=s.size∧i=↑k∧wr=w∧qD s=(s.data.toList.drop k).all (fun c=>jI c.toNat)
theorem uL {s:ByteArray}(h0:¬ s.size=0)(h1:¬ 16<s.size)(h2:65<=((s.data.toList.getD 0 0).toNat:Int))(h3:((s.data.toList.getD 0 0).toNat:Int)<=90) :
  qD s=(s.data.toList.drop 0).all (fun c=>jI c.toNat):=by
 unfold qD;rw [aYo U]
 rfl
theorem aFf {s:ByteArray}(h0:¬ s.size=0)(h1:¬ 16<s.size)(h2:65<=((s.data.toList.getD 0 0).toNat:Int))(h3:((s.data.toList.getD 0 0).toNat:Int)<=90) :
  qD s=(s.data.toList.drop 1).all (fun c=>jI c.toNat):=by
 rw [uL h0 h1 h2 h3,aG 0 (show 0<s.data.toList.length by rw [kI];omega)];simp only [List.all_cons];rw [show jI ((s.data.toList.getD 0 0).toNat:Int)=true by unfold jI;rw [aYo];omega]
 rfl
theorem iY {s:ByteArray}{k:Nat}(h:k<s.size)(p:UInt8->Bool):(s.data.toList.drop k).all p=(p s[k] && (s.data.toList.drop (k+1)).all p):=by
 rw [aG 0 (show k<s.data.toList.length by rw [kI];exact h),dE s k h]
 rfl
theorem zK (s:ByteArray)(w:World)(hs:s.size<=17592186044416) :
  Calls Tryz.prog 201 #[.string s] w fun e w'=>e=.returned (.bool (qD s))∧w=w':=by
 by_cases h0:s.size=0
 ·have h0':s.toList.isEmpty=true:=by
   have h1:=rH s
   cases hl:s.toList with
   | nil=>rfl
   | cons a l=>rw [hl] at h1;simp at h1;omega
  have HC:=aYl (fQ (s:=s) (.inl h0));clear h0;go_enter Tryz.func201,Tryz.ntmps201;go_wp2_with fail;go_ret;exact ⟨aC HC.out.symm,rfl⟩
 have h0':=qR h0;have h00:0<s.size:=by omega
 by_cases h1:16<s.size
 ·have HC:=aYl (fQ (s:=s) (.inr (.inl h1)))
  clear h0;go_enter Tryz.func201,Tryz.ntmps201;go_wp2_with fail;go_ret;exact ⟨aC HC.out.symm,rfl⟩
 by_cases h2:((s[0]).toNat:Int)<65
 ·have HC:=aYl (fQ (s:=s) (.inr (.inr (.inl fw))))
  clear h0;go_enter Tryz.func201,Tryz.ntmps201;go_wp2_with fail;go_ret;exact ⟨aC HC.out.symm,rfl⟩
 by_cases h3:90<((s[0]).toNat:Int)
 ·have HC:=aYl (fQ (s:=s) (.inr (.inr (.inr fx))))
  clear h0;go_enter Tryz.func201,Tryz.ntmps201;go_wp2_with fail;go_ret;exact ⟨aC HC.out.symm,rfl⟩
 have HC:=aYl (aFf h0 h1 du du);have t1:decide (16<(s.size:Int))=false:=by simp;omega
 clear h0;go_enter Tryz.func201,Tryz.ntmps201;go_wp2_with fail;go_loopw [3] (fun i wr=>aF1 s 1 w i wr) (fun i _=>s.size - (intOf i).toNat)
 case atStart=>exact ⟨1,U,U,rfl,rfl,HC.out⟩
 case round =>
  obtain ⟨k,hk1,hk,rfl,rfl,hc⟩:=hrel;have HK:=aYl hc;clear hc
  by_cases hlt:k<s.size
  ·have HA:=aYl (HK.out.trans (iY hlt _))
   go_wp2_with fail;refine (aCd _ _).mono ?_;rintro e w' ⟨rfl,rfl⟩;go_wp2_with fail
   ·have hz':(!jI ((s[k]).toNat:Int))=true:=by assumption
    have hz:jI ((s[k]).toNat:Int)=false:=by simpa using hz'
    go_ret;exact ⟨aC (by rw [HA.out,hz];rfl),rfl⟩
   ·have hz':(!jI ((s[k]).toNat:Int))=false:=by assumption
    have hz:jI ((s[k]).toNat:Int)=true:=by simpa using hz'
    go_roundw
    case rel=>exact ⟨k+1,U,U,by go_num,rfl,by rw [HA.out,hz];rfl⟩
    case measure=>simp [intOf];omega
  ·go_wp2_with fail
   go_ret;exact ⟨aC em,rfl⟩
theorem aT (s:ByteArray)(w:World)(hs:s.size<=17592186044416) :
  Calls Tryz.prog 187 #[.string s] w fun e w'=>e=.returned (.bool (qD s))∧w=w':=by
 by_cases h0:s.size=0
 ·have t0:decide ((s.size:Int)<1)=true:=by simp [h0]
  have HC:=aYl (fQ (s:=s) (.inl h0));clear h0;go_enter Tryz.func187,Tryz.ntmps187;go_wp2_with fail;go_ret;exact ⟨aC HC.out.symm,rfl⟩
 have t0:decide ((s.size:Int)<1)=false:=ab
 have h00:0<s.size:=U
 by_cases h1:16<s.size
 ·have HC:=aYl (fQ (s:=s) (.inr (.inl h1)))
  clear h0;go_enter Tryz.func187,Tryz.ntmps187;go_wp2_with fail;go_ret;exact ⟨aC HC.out.symm,rfl⟩
 by_cases h2:((s[0]).toNat:Int)<65
 ·have HC:=aYl (fQ (s:=s) (.inr (.inr (.inl fw))))
  clear h0;go_enter Tryz.func187,Tryz.ntmps187;go_wp2_with fail;go_ret;exact ⟨aC HC.out.symm,rfl⟩
 by_cases h3:90<((s[0]).toNat:Int)
 ·have HC:=aYl (fQ (s:=s) (.inr (.inr (.inr fx))))
  clear h0;go_enter Tryz.func187,Tryz.ntmps187;go_wp2_with fail;go_ret;exact ⟨aC HC.out.symm,rfl⟩
 have HC:=aYl (uL h0 h1 du du);have t1:decide (16<(s.size:Int))=false:=by simp;omega
 clear h0;go_enter Tryz.func187,Tryz.ntmps187;go_wp2_with fail;go_loopw [3] (fun i wr=>aF1 s 0 w i wr) (fun i _=>s.size - (intOf i).toNat)
 case atStart=>exact ⟨0,U,U,rfl,rfl,HC.out⟩
 case round =>
  obtain ⟨k,hk1,hk,rfl,rfl,hc⟩:=hrel;have HK:=aYl hc;clear hc
  by_cases hlt:k<s.size
  ·have HA:=aYl (HK.out.trans (iY hlt _))
   rcases pI ((s[k]).toNat:Int) with ⟨hp,hz⟩ | ⟨hp,hz⟩
   ·have HA2:=aYl (HA.out.trans (by rw [hz,Bool.false_and]))
    clear hz HA;rcases hp with hp | ⟨hp,hp'⟩ | ⟨hp,hp'⟩ | ⟨hp,hp'⟩ | hp
    all_goals
     first | have d122:decide (((s[k]).toNat:Int)<=122)=true:=aYo U | have d122:decide (((s[k]).toNat:Int)<=122)=false:=aYp U
     first | have d90:decide (((s[k]).toNat:Int)<=90)=true:=aYo U | have d90:decide (((s[k]).toNat:Int)<=90)=false:=aYp U
     first | have d57:decide (((s[k]).toNat:Int)<=57)=true:=aYo U | have d57:decide (((s[k]).toNat:Int)<=57)=false:=aYp U
     first | have dn:(((s[k]).toNat:Int) != 95)=true:=bne_iff_ne.2 U | have dn:(((s[k]).toNat:Int) != 95)=false:=by rw [bne_eq_false_iff_eq];omega
     first | have de:(((s[k]).toNat:Int) == 95)=false:=aYm U | have de:(((s[k]).toNat:Int) == 95)=true:=aYn U
     go_wp2_with fail;go_ret;exact ⟨aC HA2.out.symm,rfl⟩
   ·have HA2:=aYl (HA.out.trans (by rw [hz,Bool.true_and]))
    clear hz HA;rcases hp with ⟨hp,hp'⟩ | ⟨hp,hp'⟩ | ⟨hp,hp'⟩ | ⟨hp,hp'⟩
    all_goals
     first | have d122:decide (((s[k]).toNat:Int)<=122)=true:=aYo U | have d122:decide (((s[k]).toNat:Int)<=122)=false:=aYp U
     first | have d90:decide (((s[k]).toNat:Int)<=90)=true:=aYo U | have d90:decide (((s[k]).toNat:Int)<=90)=false:=aYp U
     first | have d57:decide (((s[k]).toNat:Int)<=57)=true:=aYo U | have d57:decide (((s[k]).toNat:Int)<=57)=false:=aYp U
     first | have dn:(((s[k]).toNat:Int) != 95)=true:=bne_iff_ne.2 U | have dn:(((s[k]).toNat:Int) != 95)=false:=by rw [bne_eq_false_iff_eq];omega
     first | have de:(((s[k]).toNat:Int) == 95)=false:=aYm U | have de:(((s[k]).toNat:Int) == 95)=true:=aYn U
     go_wp2_with fail;go_roundw
     case rel=>exact ⟨k+1,U,U,by go_num,rfl,HA2.out⟩
     case measure=>simp [intOf];omega
  ·go_wp2_with fail
   go_ret;exact ⟨aC em,rfl⟩
theorem rA (s:ByteArray)(w:World)(hs:s.size<=17592186044416) :
  Calls Tryz.prog 151 #[.string s] w fun e w'=>e=.returned (.bool (qD s))∧w=w':=by
 by_cases h0:s.size=0
 ·have t0:((s.size:Int) == 0)=true:=by simp [h0]
  have HC:=aYl (fQ (s:=s) (.inl h0));clear h0;go_enter Tryz.func151,Tryz.ntmps151;go_wp2_with fail;go_ret;exact ⟨aC HC.out.symm,rfl⟩
 have t0:((s.size:Int) == 0)=false:=aYm U;have h00:0<s.size:=by omega
 by_cases h1:16<s.size
 ·have HC:=aYl (fQ (s:=s) (.inr (.inl h1)))
  clear h0;go_enter Tryz.func151,Tryz.ntmps151;go_wp2_with fail;go_ret;exact ⟨aC HC.out.symm,rfl⟩
 by_cases h2:((s[0]).toNat:Int)<65
 ·have HC:=aYl (fQ (s:=s) (.inr (.inr (.inl fw))))
  clear h0;go_enter Tryz.func151,Tryz.ntmps151;go_wp2_with fail;go_ret;exact ⟨aC HC.out.symm,rfl⟩
 by_cases h3:90<((s[0]).toNat:Int)
 ·have HC:=aYl (fQ (s:=s) (.inr (.inr (.inr fx))))
  clear h0;go_enter Tryz.func151,Tryz.ntmps151;go_wp2_with fail;go_ret;exact ⟨aC HC.out.symm,rfl⟩
 have HC:=aYl (uL h0 h1 du du);have t1:decide (16<(s.size:Int))=false:=by simp;omega
 clear h0;go_enter Tryz.func151,Tryz.ntmps151;go_wp2_with fail;go_loopw [3] (fun i wr=>aF1 s 0 w i wr) (fun i _=>s.size - (intOf i).toNat)
 case atStart=>exact ⟨0,U,U,rfl,rfl,HC.out⟩
 case round =>
  obtain ⟨k,hk1,hk,rfl,rfl,hc⟩:=hrel;have HK:=aYl hc;clear hc
  by_cases hlt:k<s.size
  ·have HA:=aYl (HK.out.trans (iY hlt _))
   rcases pI ((s[k]).toNat:Int) with ⟨hp,hz⟩ | ⟨hp,hz⟩
   ·have HA2:=aYl (HA.out.trans (by rw [hz,Bool.false_and]))
    clear hz HA;rcases hp with hp | ⟨hp,hp'⟩ | ⟨hp,hp'⟩ | ⟨hp,hp'⟩ | hp
    all_goals
     first | have d122:decide (((s[k]).toNat:Int)<=122)=true:=aYo U | have d122:decide (((s[k]).toNat:Int)<=122)=false:=aYp U
     first | have d90:decide (((s[k]).toNat:Int)<=90)=true:=aYo U | have d90:decide (((s[k]).toNat:Int)<=90)=false:=aYp U
     first | have d57:decide (((s[k]).toNat:Int)<=57)=true:=aYo U | have d57:decide (((s[k]).toNat:Int)<=57)=false:=aYp U
     first | have dn:(((s[k]).toNat:Int) != 95)=true:=bne_iff_ne.2 U | have dn:(((s[k]).toNat:Int) != 95)=false:=by rw [bne_eq_false_iff_eq];omega
     first | have de:(((s[k]).toNat:Int) == 95)=false:=aYm U | have de:(((s[k]).toNat:Int) == 95)=true:=aYn U
     go_wp2_with fail;go_ret;exact ⟨aC HA2.out.symm,rfl⟩
   ·have HA2:=aYl (HA.out.trans (by rw [hz,Bool.true_and]))
    clear hz HA;rcases hp with ⟨hp,hp'⟩ | ⟨hp,hp'⟩ | ⟨hp,hp'⟩ | ⟨hp,hp'⟩
    all_goals
     first | have d122:decide (((s[k]).toNat:Int)<=122)=true:=aYo U | have d122:decide (((s[k]).toNat:Int)<=122)=false:=aYp U
     first | have d90:decide (((s[k]).toNat:Int)<=90)=true:=aYo U | have d90:decide (((s[k]).toNat:Int)<=90)=false:=aYp U
     first | have d57:decide (((s[k]).toNat:Int)<=57)=true:=aYo U | have d57:decide (((s[k]).toNat:Int)<=57)=false:=aYp U
     first | have dn:(((s[k]).toNat:Int) != 95)=true:=bne_iff_ne.2 U | have dn:(((s[k]).toNat:Int) != 95)=false:=by rw [bne_eq_false_iff_eq];omega
     first | have de:(((s[k]).toNat:Int) == 95)=false:=aYm U | have de:(((s[k]).toNat:Int) == 95)=true:=aYn U
     go_wp2_with fail;go_roundw
     case rel=>exact ⟨k+1,U,U,by go_num,rfl,HA2.out⟩
     case measure=>simp [intOf];omega
  ·go_wp2_with fail
   go_ret;exact ⟨aC em,rfl⟩
def aY (s:ByteArray):Bool:=s.toList.isEmpty
def pS (x:GV):Bool:=decide (x.kids.length<=256) && (decide (x.kind ≠ 3) || decide (x.kids.length<=16))
def aE (x:GV):Bool :=
 if x.kind=0 then aY x.s && decide (x.kids.length=0)
 else if x.kind=1 then decide (x.n=0∨x.n=1) && aY x.s && decide (x.kids.length=0)
 else if x.kind=2 then decide (x.n=0) && aY x.s
 else if x.kind=3 then decide (x.n=0) && qD x.s
 else false
theorem aAw (x:GV)(A:Option Addr)(c:Nat)(w:World)(h2:x.kids.length<=c)(_:x.kids.length<=17592186044416∧c<=9223372036854775807) :
  Calls Tryz.prog 179 #[eF x A c] w (dV (.bool (pS x)) w):=by
 obtain ⟨k,n,s,l⟩:=x;have HF:=aYl (show pS (.mk k n s l)=(decide (l.length<=256) && (decide (k ≠ 3) || decide (l.length<=16))) from rfl);simp only [GV.kids] at h2
 change Calls Tryz.prog 179 #[.agg #[↑k,↑n,.string s,.slice A l.length c]] w _
 go_enter Tryz.func179,Tryz.ntmps179;go_wp2_with fail
 all_goals
  go_ret;refine ⟨aC ?_,(Ext.refl _).alloc' _⟩;rw [HF.out,Bool.eq_iff_iff]
  simp_all
  try omega
theorem aCf (x:GV)(A:Option Addr)(c:Nat)(w:World)(h1:x.s.size<=17592186044416)(h2:x.kids.length<=c)(_:x.kids.length<=17592186044416∧c<=9223372036854775807) :
  Calls Tryz.prog 178 #[eF x A c] w (dV (.bool (aE x)) w):=by
 obtain ⟨k,n,s,l⟩:=x;simp only [GV.kids,GV.s] at h1 h2;have HF:=aYl (show aE (.mk k n s l)=(if k=0 then aY s && decide (l.length=0) else if k=1 then decide (n=0∨n=1) && aY s && decide (l.length=0) else if k=2 then decide (n=0) && aY s else if k=3 then decide (n=0) && qD s else false) from rfl)
 change Calls Tryz.prog 178 #[.agg #[↑k,↑n,.string s,.slice A l.length c]] w _
 go_enter Tryz.func178,Tryz.ntmps178;go_wp2_with (go_at_call 201;refine (zK _ _ h1).mono ?_;rintro e w' ⟨rfl,rfl⟩)
 all_goals
  go_ret;refine ⟨aC ?_,(Ext.refl _).alloc' _⟩;rw [HF.out,Bool.eq_iff_iff]
  simp_all [aY]
  try omega
def vO:Int × Bool × Bool->GV->(Int × Bool × Bool) × Bool
 | (n,g,m),x=>((wrap64 (n+1),g && aE x,m && pS x),g && aE x)
def StV (b0 b1 b2:Nat)(s:Int × Bool × Bool)(w:World):Prop :=
 Blk w b0 3 #[.int .i64 s.1]∧Blk w b1 4 #[.bool s.2.1]∧Blk w b2 4 #[.bool s.2.2]
theorem aRi (b0 b1 b2:Nat)(h01:b0 ≠ b1)(h02:b0 ≠ b2)(h12:b1 ≠ b2) :
  aI7 177 #[.pointer (some ⟨b0,0,none⟩),.pointer (some ⟨b1,0,none⟩),.pointer (some ⟨b2,0,none⟩)] (fun b=>b=b0∨b=b1∨b=b2) (StV b0 b1 b2) vO:=by
 refine ⟨?_,fun s w w' h hx=>⟨h.1.ext hx,h.2.1.ext hx,h.2.2.ext hx⟩⟩;rintro ⟨n,g,m⟩ x A c d P w hP ⟨k0,k1,k2⟩ hx;have HX:=aYl hx;have K0:=aYl k0;have K1:=aYl k1;have K2:=aYl k2;have c0:=k0.cell' (u:=↑n) 0 rfl;have c1:=k1.cell' (u:=.bool g) 0 rfl;have c2:=k2.cell' (u:=.bool m) 0 rfl;have f0:=k0.frozen 0;have f1:=k1.frozen 0;have f2:=k2.frozen 0;have l0:=k0.lt;have l1:=k1.lt;have l2:=k2.lt;clear k0 k1 k2 hx hP;simp only [vO]
 show Calls Tryz.prog 177 #[eF x A c,↑d,.pointer (some ⟨b0,0,none⟩),.pointer (some ⟨b1,0,none⟩),.pointer (some ⟨b2,0,none⟩)] w _
 have HFR:=aYl (show Fr (fun b=>b=b0∨b=b1∨b=b2) w w from Fr.refl _ _)
 cases g
 ·cases m
  ·go_enter Tryz.func177,Tryz.ntmps177
   go_wp2_with fail;go_ret;refine ⟨rfl,?_,?_,?_,?_⟩
   ·exact (((HFR.out.setCell (p:=⟨b0,0,none⟩) (.inl (.inl rfl)) _).setCell (p:=⟨b1,0,none⟩) (.inl (.inr (.inl rfl))) _).setCell (p:=⟨b2,0,none⟩) (.inl (.inr (.inr rfl))) _).alloc _
   ·exact (((K0.out.set_ 0 _).far (p:=⟨b1,0,none⟩) h01 _).far (p:=⟨b2,0,none⟩) h02 _).alloc _
   ·exact (((K1.out.far (p:=⟨b0,0,none⟩) h01.symm _).set_ 0 _).far (p:=⟨b2,0,none⟩) h12 _).alloc _
   ·exact (((K2.out.far (p:=⟨b0,0,none⟩) h02.symm _).far (p:=⟨b1,0,none⟩) h12.symm _).set_ 0 _).alloc _
  ·go_enter Tryz.func177,Tryz.ntmps177
   go_wp2_with fail;refine (aAw x A c _ HX.out.len HX.out.cap).mono ?_;rintro e w1 ⟨rfl,hx1⟩;have B0:=aYl ((((K0.out.set_ 0 (.int .i64 (wrap64 (n+1)))).far (p:=⟨b1,0,none⟩) h01 (.bool false)).alloc (.cells #[↑x.kind,↑x.n,.string x.s,.slice A x.kids.length c] 85)).ext hx1);have B1:=aYl ((((K1.out.far (p:=⟨b0,0,none⟩) h01.symm (.int .i64 (wrap64 (n+1)))).set_ 0 (.bool false)).alloc (.cells #[↑x.kind,↑x.n,.string x.s,.slice A x.kids.length c] 85)).ext hx1);have B2:=aYl ((((K2.out.far (p:=⟨b0,0,none⟩) h02.symm (.int .i64 (wrap64 (n+1)))).far (p:=⟨b1,0,none⟩) h12.symm (.bool false)).alloc (.cells #[↑x.kind,↑x.n,.string x.s,.slice A x.kids.length c] 85)).ext hx1);have FR:=aYl ((((HFR.out.setCell (p:=⟨b0,0,none⟩) (.inl (.inl rfl)) (.int .i64 (wrap64 (n+1)))).setCell (p:=⟨b1,0,none⟩) (.inl (.inr (.inl rfl))) (.bool false)).alloc (.cells #[↑x.kind,↑x.n,.string x.s,.slice A x.kids.length c] 85)).trans (Fr.of_ext hx1));have d1:=B1.out.cell' (u:=.bool false) 0 rfl;have d2:=B2.out.cell' (u:=.bool true) 0 rfl;have q2:=B2.out.frozen 0;clear hx1;go_wp2_with fail;go_ret;refine ⟨rfl,?_,?_,?_,?_⟩
   ·exact FR.out.setCell (p:=⟨b2,0,none⟩) (.inl (.inr (.inr rfl))) _
   ·exact B0.out.far (p:=⟨b2,0,none⟩) h02 _
   ·exact B1.out.far (p:=⟨b2,0,none⟩) h12 _
   ·exact B2.out.set_ 0 _
 ·go_enter Tryz.func177,Tryz.ntmps177
  go_wp2_with fail;refine (aCf x A c _ HX.out.s HX.out.len HX.out.cap).mono ?_;rintro e w1 ⟨rfl,hx1⟩;have B0:=aYl (((K0.out.set_ 0 (.int .i64 (wrap64 (n+1)))).alloc (.cells #[↑x.kind,↑x.n,.string x.s,.slice A x.kids.length c] 85)).ext hx1);have B1:=aYl (((K1.out.far (p:=⟨b0,0,none⟩) h01.symm (.int .i64 (wrap64 (n+1)))).alloc (.cells #[↑x.kind,↑x.n,.string x.s,.slice A x.kids.length c] 85)).ext hx1);have B2:=aYl (((K2.out.far (p:=⟨b0,0,none⟩) h02.symm (.int .i64 (wrap64 (n+1)))).alloc (.cells #[↑x.kind,↑x.n,.string x.s,.slice A x.kids.length c] 85)).ext hx1);have BX:=aYl ((Blk.new' (w.setCell ⟨b0,0,none⟩ (.int .i64 (wrap64 (n+1)))) 85 #[↑x.kind,↑x.n,.string x.s,.slice A x.kids.length c] (g:=w.heap.size) eh).ext hx1);have FR:=aYl (((HFR.out.setCell (p:=⟨b0,0,none⟩) (.inl (.inl rfl)) (.int .i64 (wrap64 (n+1)))).alloc (.cells #[↑x.kind,↑x.n,.string x.s,.slice A x.kids.length c] 85)).trans (Fr.of_ext hx1));have d1:=B1.out.cell' (u:=.bool true) 0 rfl;have q1:=B1.out.frozen 0;have d2:=B2.out.cell' (u:=.bool m) 0 rfl;have q2:=B2.out.frozen 0;have x0:=BX.out.cell' (u:=↑x.kind) 0 rfl
  have x1:=BX.out.cell' (u:=↑x.n) 1 rfl;have x2:=BX.out.cell' (u:=.string x.s) 2 rfl;have x3:=BX.out.cell' (u:=.slice A x.kids.length c) 3 rfl;clear hx1 c0 c1 c2 f0 f1 f2
  cases m
  ·go_wp2_with fail
   go_ret;refine ⟨rfl,?_,?_,?_,?_⟩
   ·exact (FR.out.setCell (p:=⟨b1,0,none⟩) (.inl (.inr (.inl rfl))) _).setCell (p:=⟨b2,0,none⟩) (.inl (.inr (.inr rfl))) _
   ·exact (B0.out.far (p:=⟨b1,0,none⟩) h01 _).far (p:=⟨b2,0,none⟩) h02 _
   ·exact (B1.out.set_ 0 _).far (p:=⟨b2,0,none⟩) h12 _
   ·exact (B2.out.far (p:=⟨b1,0,none⟩) h12.symm _).set_ 0 _
  ·go_wp2_with fail
   refine (aAw x A c _ HX.out.len HX.out.cap).mono ?_;rintro e w2 ⟨rfl,hx2⟩;have C0:=aYl ((B0.out.far (p:=⟨b1,0,none⟩) h01 (.bool (aE x))).ext hx2);have C1:=aYl ((B1.out.set_ 0 (.bool (aE x))).ext hx2);have C2:=aYl ((B2.out.far (p:=⟨b1,0,none⟩) h12.symm (.bool (aE x))).ext hx2);have FR2:=aYl ((FR.out.setCell (p:=⟨b1,0,none⟩) (.inl (.inr (.inl rfl))) (.bool (aE x))).trans (Fr.of_ext hx2));have e1:=C1.out.cell' (u:=.bool (aE x)) 0 rfl;have e2:=C2.out.cell' (u:=.bool true) 0 rfl;have r2:=C2.out.frozen 0;clear hx2;go_wp2_with fail;go_ret;refine ⟨rfl,?_,?_,?_,?_⟩
   ·exact FR2.out.setCell (p:=⟨b2,0,none⟩) (.inl (.inr (.inr rfl))) _
   ·exact C0.out.far (p:=⟨b2,0,none⟩) h02 _
   ·exact C1.out.far (p:=⟨b2,0,none⟩) h12 _
   ·exact C2.out.set_ 0 _
def aBf {σ:Type}(M:Nat->Prop)(St:σ->World->Prop)(r:σ)(w:World)(e:Ending)(w':World):Prop :=
 e=.returned (.tuple #[])∧Fr M w w'∧St r w'
theorem vD {σ:Type}(g0 g1 g2:Nat)(M:Nat->Prop)(St:σ->World->Prop)(f:σ->GV->σ × Bool)(hF:aI7 177 #[.pointer (some ⟨g0,0,none⟩),.pointer (some ⟨g1,0,none⟩),.pointer (some ⟨g2,0,none⟩)] M St f)
  (s:σ)(x:GV)(A:Option Addr)(c:Nat)(P:Nat->Prop)(w:World)(hP:∀ b,P b->¬ M b)(hM:∀ b,M b->b<w.heap.size)(hs:St s w)(hx:VAt w P x A c) :
  Calls Tryz.prog 176 #[eF x A c,.func (.func 177) #[] #[.pointer (some ⟨g0,0,none⟩),.pointer (some ⟨g1,0,none⟩),.pointer (some ⟨g2,0,none⟩)]] w (aBf M St (vis f s x).1 w):=by
 have HX:=aYl hx;have HP:=aYl hP;have HM:=aYl hM;have HS:=aYl hs;clear hx hP hM hs;go_enter Tryz.func176,Tryz.ntmps176;go_wp2_with fail;refine (aBs g0 g1 g2 M St f hF (gsz x+1) s x A c 1 P _ (w.heap.size+1) (w.heap.size+2) U HP.out (fun b hb=>by have:=HM.out b hb;simp;omega) (hF.keep _ _ _ HS.out (((((Ext.refl _).alloc' _).alloc' _).alloc' _))) (HX.out.ext (((((Ext.refl _).alloc' _).alloc' _).alloc' _))) ?_ ?_ ?_ ?_).mono ?_
 ·exact (Blk.new' _ _ _ Y).alloc _
 ·exact Blk.new' _ _ _ Y
 ·exact fun h=>by have:=HM.out _ h;omega
 ·exact fun h=>by have:=HM.out _ h;omega
 rintro e w1 ⟨rfl,hf1,hs1⟩;have HF1:=aYl ((Fr.of_ext (((((Ext.refl w).alloc' _).alloc' _).alloc' _))).trans hf1);have HS1:=aYl hs1;clear hf1 hs1;go_wp2_with fail;go_end0;exact ⟨rfl,HF1.out,HS1.out⟩
theorem vC {σ:Type}(g0:Nat)(M:Nat->Prop)(St:σ->World->Prop)(f:σ->GV->σ × Bool)(hF:aI7 180 #[.pointer (some ⟨g0,0,none⟩)] M St f)
  (s:σ)(x:GV)(A:Option Addr)(c:Nat)(P:Nat->Prop)(w:World)(hP:∀ b,P b->¬ M b)(hM:∀ b,M b->b<w.heap.size)(hs:St s w)(hx:VAt w P x A c) :
  Calls Tryz.prog 176 #[eF x A c,.func (.func 180) #[] #[.pointer (some ⟨g0,0,none⟩)]] w (aBf M St (vis f s x).1 w):=by
 have HX:=aYl hx;have HP:=aYl hP;have HM:=aYl hM;have HS:=aYl hs;clear hx hP hM hs;go_enter Tryz.func176,Tryz.ntmps176;go_wp2_with fail;refine (aBr g0 M St f hF (gsz x+1) s x A c 1 P _ (w.heap.size+1) (w.heap.size+2) U HP.out (fun b hb=>by have:=HM.out b hb;simp;omega) (hF.keep _ _ _ HS.out (((((Ext.refl _).alloc' _).alloc' _).alloc' _))) (HX.out.ext (((((Ext.refl _).alloc' _).alloc' _).alloc' _))) ?_ ?_ ?_ ?_).mono ?_
 ·exact (Blk.new' _ _ _ Y).alloc _
 ·exact Blk.new' _ _ _ Y
 ·exact fun h=>by have:=HM.out _ h;omega
 ·exact fun h=>by have:=HM.out _ h;omega
 rintro e w1 ⟨rfl,hf1,hs1⟩;have HF1:=aYl ((Fr.of_ext (((((Ext.refl w).alloc' _).alloc' _).alloc' _))).trans hf1);have HS1:=aYl hs1;clear hf1 hs1;go_wp2_with fail;go_end0;exact ⟨rfl,HF1.out,HS1.out⟩
def aF4:Int->GV->Int × Bool
 | n,_=>(wrap64 (n+1),true)
def StS (b0:Nat)(s:Int)(w:World):Prop:=Blk w b0 3 #[↑s]
theorem aRj (b0:Nat):aI7 180 #[.pointer (some ⟨b0,0,none⟩)] (fun b=>b=b0) (StS b0) aF4:=by
 refine ⟨?_,fun s w w' h hx=>Blk.ext h hx⟩;rintro n x A c d P w hP k0 hx;have k0':Blk w b0 3 #[↑n]:=k0;have K0:=aYl k0';have c0:=k0'.cell' (u:=↑n) 0 rfl;have f0:=k0'.frozen 0;have l0:=k0'.lt;clear k0 k0' hx hP;simp only [aF4]
 show Calls Tryz.prog 180 #[eF x A c,↑d,.pointer (some ⟨b0,0,none⟩)] w _
 go_enter Tryz.func180,Tryz.ntmps180;go_wp2_with fail;go_ret;refine ⟨rfl,?_,?_⟩
 ·exact ((Fr.refl (fun b=>b=b0) w).setCell (p:=⟨b0,0,none⟩) (.inl rfl) _).alloc _
 ·exact (K0.out.set_ 0 _).alloc _
def eP (x:GV):Int :=
 if (vis vO (0,true,true) x).1.2.1=false then 1
 else if (vis vO (0,true,true) x).1.2.2=false∨1024<(vis vO (0,true,true) x).1.1 then 4
 else 0
theorem qP (x:GV)(A:Option Addr)(c:Nat)(P:Nat->Prop)(w:World)(hP:∀ b,P b->b<w.heap.size)(hx:VAt w P x A c) :
  Calls Tryz.prog 136 #[eF x A c] w (dV (.int .i64 (vis aF4 0 x).1) w):=by
 have HX:=aYl hx;have HP:=aYl hP;clear hx hP;go_enter Tryz.func136,Tryz.ntmps136;go_wp2_with fail;refine (vC (w.heap.size+1) (fun b=>b=w.heap.size+1) (StS (w.heap.size+1)) aF4 (aRj _) 0 x A c P _ ?_ ?_ ?_ (HX.out.ext ((((Ext.refl _).alloc' _).alloc' _)))).mono ?_
 ·rintro b hb rfl
  have:=HP.out _ hb;omega
 ·rintro b rfl
  simp
 ·exact Blk.new' _ _ _ Y
 rintro e w1 ⟨rfl,hf1,hs1⟩;have hs2:Blk w1 (w.heap.size+1) 3 #[.int .i64 (vis aF4 0 x).1]:=hs1;have c0:=hs2.cell' (u:=.int .i64 (vis aF4 0 x).1) 0 rfl;have HF1:=aYl (((Fr.of_ext ((((Ext.refl w).alloc' _).alloc' _))).trans hf1));clear hf1 hs1 hs2;go_wp2_with fail;go_ret;exact ⟨rfl,HF1.out.new_ext (fun b hb=>by rw [hb];omega)⟩
theorem gA (x:GV)(A:Option Addr)(c:Nat)(P:Nat->Prop)(w:World)(hP:∀ b,P b->b<w.heap.size)(hx:VAt w P x A c) :
  Calls Tryz.prog 135 #[eF x A c] w (dV (.int .i64 (eP x)) w):=by
 have HX:=aYl hx;have HP:=aYl hP
 have HV:=aYl (show eP x=if (vis vO (0,true,true) x).1.2.1=false then 1
  else if (vis vO (0,true,true) x).1.2.2=false∨1024<(vis vO (0,true,true) x).1.1 then 4 else 0 from rfl)
 clear hx hP;go_enter Tryz.func135,Tryz.ntmps135;go_wp2_with fail;refine (vD (w.heap.size+1) (w.heap.size+2) (w.heap.size+3) (fun b=>b=w.heap.size+1∨b=w.heap.size+2∨b=w.heap.size+3) (StV _ _ _) vO (aRi _ _ _ U U U) (0,true,true) x A c P _ ?_ ?_ ?_ (HX.out.ext ((((((Ext.refl _).alloc' _).alloc' _).alloc' _).alloc' _)))).mono ?_
 ·rintro b hb h
  have:=HP.out _ hb;omega
 ·rintro b h
  simp;omega
 ·exact ⟨((Blk.new' _ _ _ Y).alloc _).alloc _,(Blk.new' _ _ _ Y).alloc _,Blk.new' _ _ _ Y⟩
 generalize vis vO (0,true,true) x=r at *;obtain ⟨⟨n,g,m⟩,b⟩:=r;rintro e w1 ⟨rfl,hf1,hs1,hs2,hs3⟩;have c0:=hs1.cell' (u:=↑n) 0 rfl;have c1:=hs2.cell' (u:=.bool g) 0 rfl;have c2:=hs3.cell' (u:=.bool m) 0 rfl;have HF1:=aYl (((Fr.of_ext ((((((Ext.refl w).alloc' _).alloc' _).alloc' _).alloc' _))).trans hf1).new_ext (fun b hb=>by omega));clear hf1 hs1 hs2 hs3
 cases g
 ·go_wp2_with fail
  go_ret;exact ⟨aH gv,HF1.out⟩
 ·cases m
  ·go_wp2_with fail
   go_ret;exact ⟨aH gv,HF1.out⟩
  ·go_wp2_with fail
   all_goals
    go_ret;refine ⟨aH ?_,HF1.out⟩;rw [HV.out]
    simp_all
    try omega
mutual
def dR (p:GV->Bool):GV->Bool
 | .mk k n s l=>p (.mk k n s l) && eO p l
def eO (p:GV->Bool):List GV->Bool
 | []=>true
 | x :: xs=>dR p x && eO p xs
end
theorem bZ (p:GV->Bool)(x:GV):dR p x=(p x && eO p x.kids):=by
 obtain ⟨k,n,s,l⟩:=x;simp only [dR,GV.kids]
theorem dY (p:GV->Bool)(x:GV)(xs:List GV):eO p (x :: xs)=(dR p x && eO p xs):=by simp only [eO]
theorem dU (p:GV->Bool):eO p []=true:=by simp only [eO]
mutual
def rsz:GV->Int
 | .mk _ _ _ l=>xQ 1 l
def xQ:Int->List GV->Int
 | n,[]=>n
 | n,x :: xs=>xQ (wrap64 (n+rsz x)) xs
end
theorem nJ (x:GV):rsz x=xQ 1 x.kids:=by obtain ⟨k,n,s,l⟩:=x;simp only [rsz,GV.kids]
theorem gD (n:Int)(x:GV)(xs:List GV):xQ n (x :: xs)=xQ (wrap64 (n+rsz x)) xs:=by simp only [xQ]
theorem fD (n:Int):xQ n []=n:=by simp only [xQ]
def uQ (N:Nat):Prop:=∀ (x:GV)(A:Option Addr)(c:Nat)(P:Nat->Prop)(w:World),gsz x<N->VAt w P x A c ->
  Calls Tryz.prog 111 #[eF x A c] w (dV (.int .i64 (rsz x)) w)
def aL3 (x:GV)(W:World)(n i:Value)(wr:World):Prop:=∃ (k:Nat)(m:Int),k<=x.kids.length∧i=↑k∧n=↑m∧Ext W wr∧rsz x=xQ m (x.kids.drop k)
theorem vR (N:Nat)(hS:uQ N):uQ (N+1):=by
 intro x A c P w hN hx;have HX:=aYl hx;have HN:=aYl (show ∀ z ∈ x.kids,gsz z<N from fun z hz=>by have:=gX hz;omega);have HC:=aYl (nJ x);have hx5:=hx.cap;clear hx;go_enter Tryz.func111,Tryz.ntmps111;go_wp2_with fail;have HX0:Hid (Ext w (w.alloc (.cells #[↑x.kind,↑x.n,.string x.s,.slice A x.kids.length c] 85))):=(Ext.refl _).alloc' _;have hb1:=(Blk.new w 85 #[↑x.kind,↑x.n,.string x.s,.slice A x.kids.length c]).cell' (u:=.slice A x.kids.length c) 3 rfl;generalize w.alloc (.cells #[↑x.kind,↑x.n,.string x.s,.slice A x.kids.length c] 85)=W at *;go_loopw [3,4] (fun n i wr=>aL3 x W n i wr) (fun _ i _=>x.kids.length - (intOf i).toNat)
 case atStart=>exact ⟨0,1,Nat.zero_le _,rfl,rfl,Ext.refl _,HC.out⟩
 case round =>
  obtain ⟨k,m,hk,rfl,rfl,hx,ht⟩:=hrel;have HT:=aYl ht;have hc1:=aA hx hb1;have HW:=aYl hx;have HXK:=aYl (HX.out.kids.ext (HX0.out.trans' hx));clear ht hx
  by_cases hlt:k<x.kids.length
  ·have HD:=aYl (show rsz x=xQ m (x.kids.getD k default :: x.kids.drop (k+1)) by rw [HT.out,<- aG default hlt])
   obtain ⟨b1,o1,c1,A1,d1,e1,-,-,-,hv1,g10,g11,g12,g13⟩:=HXK.out.at_ hlt
   cases e1
   have HM:=aYl (HN.out _ (aF (d:=default) hlt));have HV1:=aYl hv1;clear hv1 HXK hb1;generalize x.kids.getD k default=x1 at *;go_wp2_with fail;refine (hS x1 A1 d1 P _ HM.out HV1.out).mono ?_;rintro e w1 ⟨rfl,hx1⟩;have HX1:=aYl (HW.out.trans' hx1);clear hx1;go_wp2_with fail;go_roundw
   case rel=>exact ⟨k+1,_,U,by go_num,rfl,HX1.out,by rw [HD.out,gD]⟩
   case measure=>simp [intOf];omega
  ·go_wp2_with fail
   go_ret;exact ⟨aH (by rw [HT.out,drop_nil U,fD]),HX0.out.trans' HW.out⟩
theorem yN (N:Nat):uQ N:=by
 induction N with
 | zero=>intro x A c P w hN;omega
 | succ N ih=>exact vR N ih
theorem oY (x:GV)(A:Option Addr)(c:Nat)(P:Nat->Prop)(w:World)(hx:VAt w P x A c) :
  Calls Tryz.prog 111 #[eF x A c] w (dV (.int .i64 (rsz x)) w):=yN (gsz x+1) x A c P w U hx
def gY (f:Nat)(r:Bool->Bool)(p:GV->Bool)(N:Nat):Prop:=∀ (x:GV)(A:Option Addr)(c:Nat)(P:Nat->Prop)(w:World),gsz x<N->VAt w P x A c ->
  Calls Tryz.prog f #[eF x A c] w (dV (.bool (r (dR p x))) w)
def qM (p:GV->Bool)(x:GV)(W:World)(i:Value)(wr:World):Prop:=∃ (k:Nat),k<=x.kids.length∧i=↑k∧Ext W wr∧dR p x=eO p (x.kids.drop k)
def bX (x:GV):Bool:=!(decide (x.kind=2∧256<x.kids.length) || decide (x.kind=3∧16<x.kids.length))
theorem vQ (N:Nat)(hS:gY 153 (! ·) bX N):gY 153 (! ·) bX (N+1):=by
 intro x A c P w hN hx;have HX:=aYl hx;have HN:=aYl (show ∀ z ∈ x.kids,gsz z<N from fun z hz=>by have:=gX hz;omega);have hx5:=hx.cap;clear hx
 by_cases h2:x.kind=2
 ·have t2:(x.kind == 2)=true:=aYn h2
  have t3:(x.kind == 3)=false:=aYm U
  by_cases hw:256<x.kids.length
  ·have HC:=aYl (show dR bX x=false by rw [bZ];simp [bX,h2,hw])
   clear h2;go_enter Tryz.func153,Tryz.ntmps153;go_wp2_with fail;go_ret;exact ⟨aC (by rw [HC.out];rfl),(Ext.refl _).alloc' _⟩
  ·have HC:=aYl (show dR bX x=eO bX (x.kids.drop 0) by rw [bZ];simp [bX,h2,hw])
   have td:decide (256<(x.kids.length:Int))=false:=ab
   clear h2;go_enter Tryz.func153,Tryz.ntmps153;go_wp2_with fail;have HX0:Hid (Ext w (w.alloc (.cells #[↑x.kind,↑x.n,.string x.s,.slice A x.kids.length c] 85))):=(Ext.refl _).alloc' _;have hb1:=(Blk.new w 85 #[↑x.kind,↑x.n,.string x.s,.slice A x.kids.length c]).cell' (u:=.slice A x.kids.length c) 3 rfl;generalize w.alloc (.cells #[↑x.kind,↑x.n,.string x.s,.slice A x.kids.length c] 85)=W at *;go_loopw [3] (fun i wr=>qM bX x W i wr) (fun i _=>x.kids.length - (intOf i).toNat)
   case atStart=>exact ⟨0,Nat.zero_le _,rfl,Ext.refl _,HC.out⟩
   case round =>
    obtain ⟨k,hk,rfl,hx,ht⟩:=hrel;have HT:=aYl ht;have hc1:=aA hx hb1;have HW:=aYl hx;have HXK:=aYl (HX.out.kids.ext (HX0.out.trans' hx));clear ht hx
    by_cases hlt:k<x.kids.length
    ·have HD:=aYl (show dR bX x=eO bX (x.kids.getD k default :: x.kids.drop (k+1)) by rw [HT.out,<- aG default hlt])
     obtain ⟨b1,o1,c1,A1,d1,e1,-,-,-,hv1,g10,g11,g12,g13⟩:=HXK.out.at_ hlt
     cases e1
     have HM:=aYl (HN.out _ (aF (d:=default) hlt));have HV1:=aYl hv1;clear hv1 HXK hb1;generalize x.kids.getD k default=x1 at *;go_wp2_with fail;refine (hS x1 A1 d1 P _ HM.out HV1.out).mono ?_;rintro e w1 ⟨rfl,hx1⟩;have HX1:=aYl (HW.out.trans' hx1);clear hx1;have HDC:=aYl (HD.out.trans (dY _ _ _));generalize dR bX x1=bb at *
     cases bb
     ·go_wp2_with fail
      go_ret;exact ⟨aC cm,HX0.out.trans' HX1.out⟩
     ·go_wp2_with fail
      go_roundw
      case rel=>exact ⟨k+1,U,by go_num,HX1.out,cm⟩
      case measure=>simp [intOf];omega
    ·go_wp2_with fail
     go_ret;exact ⟨aC er,HX0.out.trans' HW.out⟩
 by_cases h3:x.kind=3
 ·have t2:(x.kind == 2)=false:=aYm U
  have t3:(x.kind == 3)=true:=aYn h3
  by_cases hw:16<x.kids.length
  ·have HC:=aYl (show dR bX x=false by rw [bZ];simp [bX,h3,hw])
   clear h2 h3;go_enter Tryz.func153,Tryz.ntmps153;go_wp2_with fail;go_ret;exact ⟨aC (by rw [HC.out];rfl),(Ext.refl _).alloc' _⟩
  ·have HC:=aYl (show dR bX x=eO bX (x.kids.drop 0) by rw [bZ];simp [bX,h3,hw])
   have td:decide (16<(x.kids.length:Int))=false:=ab
   clear h2 h3;go_enter Tryz.func153,Tryz.ntmps153;go_wp2_with fail;have HX0:Hid (Ext w (w.alloc (.cells #[↑x.kind,↑x.n,.string x.s,.slice A x.kids.length c] 85))):=(Ext.refl _).alloc' _;have hb1:=(Blk.new w 85 #[↑x.kind,↑x.n,.string x.s,.slice A x.kids.length c]).cell' (u:=.slice A x.kids.length c) 3 rfl;generalize w.alloc (.cells #[↑x.kind,↑x.n,.string x.s,.slice A x.kids.length c] 85)=W at *;go_loopw [3] (fun i wr=>qM bX x W i wr) (fun i _=>x.kids.length - (intOf i).toNat)
   case atStart=>exact ⟨0,Nat.zero_le _,rfl,Ext.refl _,HC.out⟩
   case round =>
    obtain ⟨k,hk,rfl,hx,ht⟩:=hrel;have HT:=aYl ht;have hc1:=aA hx hb1;have HW:=aYl hx;have HXK:=aYl (HX.out.kids.ext (HX0.out.trans' hx));clear ht hx
    by_cases hlt:k<x.kids.length
    ·have HD:=aYl (show dR bX x=eO bX (x.kids.getD k default :: x.kids.drop (k+1)) by rw [HT.out,<- aG default hlt])
     obtain ⟨b1,o1,c1,A1,d1,e1,-,-,-,hv1,g10,g11,g12,g13⟩:=HXK.out.at_ hlt
     cases e1
     have HM:=aYl (HN.out _ (aF (d:=default) hlt));have HV1:=aYl hv1;clear hv1 HXK hb1;generalize x.kids.getD k default=x1 at *;go_wp2_with fail;refine (hS x1 A1 d1 P _ HM.out HV1.out).mono ?_;rintro e w1 ⟨rfl,hx1⟩;have HX1:=aYl (HW.out.trans' hx1);clear hx1;have HDC:=aYl (HD.out.trans (dY _ _ _));generalize dR bX x1=bb at *
     cases bb
     ·go_wp2_with fail
      go_ret;exact ⟨aC cm,HX0.out.trans' HX1.out⟩
     ·go_wp2_with fail
      go_roundw
      case rel=>exact ⟨k+1,U,by go_num,HX1.out,cm⟩
      case measure=>simp [intOf];omega
    ·go_wp2_with fail
     go_ret;exact ⟨aC er,HX0.out.trans' HW.out⟩
 ·have t2:(x.kind == 2)=false:=aYm U
  have t3:(x.kind == 3)=false:=aYm U
  ·have HC:=aYl (show dR bX x=eO bX (x.kids.drop 0) by rw [bZ];simp [bX,h2,h3])
   clear h2 h3;go_enter Tryz.func153,Tryz.ntmps153;go_wp2_with fail;have HX0:Hid (Ext w (w.alloc (.cells #[↑x.kind,↑x.n,.string x.s,.slice A x.kids.length c] 85))):=(Ext.refl _).alloc' _;have hb1:=(Blk.new w 85 #[↑x.kind,↑x.n,.string x.s,.slice A x.kids.length c]).cell' (u:=.slice A x.kids.length c) 3 rfl;generalize w.alloc (.cells #[↑x.kind,↑x.n,.string x.s,.slice A x.kids.length c] 85)=W at *;go_loopw [3] (fun i wr=>qM bX x W i wr) (fun i _=>x.kids.length - (intOf i).toNat)
   case atStart=>exact ⟨0,Nat.zero_le _,rfl,Ext.refl _,HC.out⟩
   case round =>
    obtain ⟨k,hk,rfl,hx,ht⟩:=hrel;have HT:=aYl ht;have hc1:=aA hx hb1;have HW:=aYl hx;have HXK:=aYl (HX.out.kids.ext (HX0.out.trans' hx));clear ht hx
    by_cases hlt:k<x.kids.length
    ·have HD:=aYl (show dR bX x=eO bX (x.kids.getD k default :: x.kids.drop (k+1)) by rw [HT.out,<- aG default hlt])
     obtain ⟨b1,o1,c1,A1,d1,e1,-,-,-,hv1,g10,g11,g12,g13⟩:=HXK.out.at_ hlt
     cases e1
     have HM:=aYl (HN.out _ (aF (d:=default) hlt));have HV1:=aYl hv1;clear hv1 HXK hb1;generalize x.kids.getD k default=x1 at *;go_wp2_with fail;refine (hS x1 A1 d1 P _ HM.out HV1.out).mono ?_;rintro e w1 ⟨rfl,hx1⟩;have HX1:=aYl (HW.out.trans' hx1);clear hx1;have HDC:=aYl (HD.out.trans (dY _ _ _));generalize dR bX x1=bb at *
     cases bb
     ·go_wp2_with fail
      go_ret;exact ⟨aC cm,HX0.out.trans' HX1.out⟩
     ·go_wp2_with fail
      go_roundw
      case rel=>exact ⟨k+1,U,by go_num,HX1.out,cm⟩
      case measure=>simp [intOf];omega
    ·go_wp2_with fail
     go_ret;exact ⟨aC er,HX0.out.trans' HW.out⟩
theorem yL (N:Nat):gY 153 (! ·) bX N:=by
 induction N with
 | zero=>intro x A c P w hN;omega
 | succ N ih=>exact vQ N ih
theorem tJ (N:Nat)(x:GV)(A:Option Addr)(c:Nat)(P:Nat->Prop)(w:World)(_:gsz x<N+1)(hx:VAt w P x A c)(hk:x.kind=0)(he:¬ x.s.toList=[]) :
  Calls Tryz.prog 152 #[eF x A c] w (dV (.bool (dR aE x)) w):=by
 have HSZ:=aYl hx.s;clear hx;have t0:(x.kind == 0)=true:=aYn hk;have he1:x.s.toList.isEmpty=false:=by simpa using he
 have HC:=aYl (show dR aE x=false by rw [bZ];simp [aE,aY,hk,he]);clear hk;go_enter Tryz.func152,Tryz.ntmps152;go_wp2_with (go_at_call 187;refine (aT _ _ HSZ.out).mono ?_;rintro e w' ⟨rfl,rfl⟩);go_ret;exact ⟨aC db,(Ext.refl _).alloc' _⟩
theorem tI (N:Nat)(x:GV)(A:Option Addr)(c:Nat)(P:Nat->Prop)(w:World)(_:gsz x<N+1)(hx:VAt w P x A c)(hk:x.kind=0)(he:x.s.toList=[])(hl:0<x.kids.length) :
  Calls Tryz.prog 152 #[eF x A c] w (dV (.bool (dR aE x)) w):=by
 have HSZ:=aYl hx.s;clear hx;have t0:(x.kind == 0)=true:=aYn hk;have HC:=aYl (show dR aE x=false by rw [bZ];simp [aE,aY,hk,he,Nat.ne_of_gt hl]);clear hk;go_enter Tryz.func152,Tryz.ntmps152;go_wp2_with (go_at_call 187;refine (aT _ _ HSZ.out).mono ?_;rintro e w' ⟨rfl,rfl⟩);go_ret;exact ⟨aC db,(Ext.refl _).alloc' _⟩
theorem vW (N:Nat)(_:gY 152 (fun b=>b) aE N)(x:GV)(A:Option Addr)(c:Nat)(P:Nat->Prop)(w:World)(_:gsz x<N+1)(hx:VAt w P x A c)(hk:x.kind=0)(he:x.s.toList=[])(hl:x.kids.length<=0) :
  Calls Tryz.prog 152 #[eF x A c] w (dV (.bool (dR aE x)) w):=by
 have HSZ:=aYl hx.s;clear hx;have t0:(x.kind == 0)=true:=aYn hk;have t1:(x.kind == 1)=false:=aYm U;have t2:(x.kind == 2)=false:=aYm U;have t3:(x.kind == 3)=false:=aYm U;have HC:=aYl (show dR aE x=eO aE (x.kids.drop 0) by rw [bZ];simp [aE,aY,hk,he,List.length_eq_zero_iff.1 (Nat.le_zero.1 hl)];try omega);have hlo:decide (x.kind<0)=false:=by simp;omega
 have hhi:decide (3<x.kind)=false:=ab
 clear hk;go_enter Tryz.func152,Tryz.ntmps152;go_wp2_with (go_at_call 187;refine (aT _ _ HSZ.out).mono ?_;rintro e w' ⟨rfl,rfl⟩);have HX0:Hid (Ext w (w.alloc (.cells #[↑x.kind,↑x.n,.string x.s,.slice A x.kids.length c] 85))):=(Ext.refl _).alloc' _;have hb1:=(Blk.new w 85 #[↑x.kind,↑x.n,.string x.s,.slice A x.kids.length c]).cell' (u:=.slice A x.kids.length c) 3 rfl;generalize w.alloc (.cells #[↑x.kind,↑x.n,.string x.s,.slice A x.kids.length c] 85)=W at *;go_loopw [4] (fun i wr=>qM aE x W i wr) (fun i _=>x.kids.length - (intOf i).toNat)
 case atStart=>exact ⟨0,Nat.zero_le _,rfl,Ext.refl _,HC.out⟩
 case round =>
  obtain ⟨k,hk,rfl,hx,ht⟩:=hrel;have HT:=aYl ht;have hc1:=aA hx hb1;have HW:=aYl hx;clear ht hx
  by_cases hlt:k<x.kids.length
  ·exact absurd hlt U
  ·go_wp2_with fail
   go_ret;exact ⟨aC ed,HX0.out.trans' HW.out⟩
theorem tH (N:Nat)(x:GV)(A:Option Addr)(c:Nat)(P:Nat->Prop)(w:World)(_:gsz x<N+1)(hx:VAt w P x A c)(hk:x.kind=1)(he:¬ x.s.toList=[]) :
  Calls Tryz.prog 152 #[eF x A c] w (dV (.bool (dR aE x)) w):=by
 have HSZ:=aYl hx.s;clear hx;have t0:(x.kind == 0)=false:=aYm U;have t1:(x.kind == 1)=true:=aYn hk;have he1:x.s.toList.isEmpty=false:=by simpa using he
 have HC:=aYl (show dR aE x=false by rw [bZ];simp [aE,aY,hk,he]);clear hk;go_enter Tryz.func152,Tryz.ntmps152;go_wp2_with (go_at_call 187;refine (aT _ _ HSZ.out).mono ?_;rintro e w' ⟨rfl,rfl⟩);go_ret;exact ⟨aC db,(Ext.refl _).alloc' _⟩
theorem tG (N:Nat)(x:GV)(A:Option Addr)(c:Nat)(P:Nat->Prop)(w:World)(_:gsz x<N+1)(hx:VAt w P x A c)(hk:x.kind=1)(he:x.s.toList=[])(hl:0<x.kids.length) :
  Calls Tryz.prog 152 #[eF x A c] w (dV (.bool (dR aE x)) w):=by
 have HSZ:=aYl hx.s;clear hx;have t0:(x.kind == 0)=false:=aYm U;have t1:(x.kind == 1)=true:=aYn hk;have HC:=aYl (show dR aE x=false by rw [bZ];simp [aE,aY,hk,he,Nat.ne_of_gt hl]);clear hk;go_enter Tryz.func152,Tryz.ntmps152;go_wp2_with (go_at_call 187;refine (aT _ _ HSZ.out).mono ?_;rintro e w' ⟨rfl,rfl⟩);go_ret;exact ⟨aC db,(Ext.refl _).alloc' _⟩
theorem tE (N:Nat)(x:GV)(A:Option Addr)(c:Nat)(P:Nat->Prop)(w:World)(_:gsz x<N+1)(hx:VAt w P x A c)(hk:x.kind=1)(he:x.s.toList=[])(hl:x.kids.length<=0)(hn:x.n<0) :
  Calls Tryz.prog 152 #[eF x A c] w (dV (.bool (dR aE x)) w):=by
 have HSZ:=aYl hx.s;clear hx;have t0:(x.kind == 0)=false:=aYm U;have t1:(x.kind == 1)=true:=aYn hk;have HC:=aYl (show dR aE x=false by rw [bZ];simp [aE,aY,hk,he,List.length_eq_zero_iff.1 (Nat.le_zero.1 hl),show ¬ x.n=0 by omega,show ¬ x.n=1 by omega]);clear hk;go_enter Tryz.func152,Tryz.ntmps152;go_wp2_with (go_at_call 187;refine (aT _ _ HSZ.out).mono ?_;rintro e w' ⟨rfl,rfl⟩);go_ret;exact ⟨aC db,(Ext.refl _).alloc' _⟩
theorem tF (N:Nat)(x:GV)(A:Option Addr)(c:Nat)(P:Nat->Prop)(w:World)(_:gsz x<N+1)(hx:VAt w P x A c)(hk:x.kind=1)(he:x.s.toList=[])(hl:x.kids.length<=0)(hn:1<x.n) :
  Calls Tryz.prog 152 #[eF x A c] w (dV (.bool (dR aE x)) w):=by
 have HSZ:=aYl hx.s;clear hx;have t0:(x.kind == 0)=false:=aYm U;have t1:(x.kind == 1)=true:=aYn hk;have hn0:decide (x.n<0)=false:=by first | exact aYo U | exact aYp U
 have HC:=aYl (show dR aE x=false by rw [bZ];simp [aE,aY,hk,he,List.length_eq_zero_iff.1 (Nat.le_zero.1 hl),show ¬ x.n=0 by omega,show ¬ x.n=1 by omega]);clear hk;go_enter Tryz.func152,Tryz.ntmps152;go_wp2_with (go_at_call 187;refine (aT _ _ HSZ.out).mono ?_;rintro e w' ⟨rfl,rfl⟩);go_ret;exact ⟨aC db,(Ext.refl _).alloc' _⟩
theorem vV (N:Nat)(_:gY 152 (fun b=>b) aE N)(x:GV)(A:Option Addr)(c:Nat)(P:Nat->Prop)(w:World)(_:gsz x<N+1)(hx:VAt w P x A c)(hk:x.kind=1)(he:x.s.toList=[])(hl:x.kids.length<=0)(hn:0<=x.n)(hn2:x.n<=1) :
  Calls Tryz.prog 152 #[eF x A c] w (dV (.bool (dR aE x)) w):=by
 have HSZ:=aYl hx.s;clear hx;have t0:(x.kind == 0)=false:=aYm U;have t1:(x.kind == 1)=true:=aYn hk;have t2:(x.kind == 2)=false:=aYm U;have t3:(x.kind == 3)=false:=aYm U;have hn0:decide (x.n<0)=false:=by first | exact aYo U | exact aYp U
 have hn1:decide (1<x.n)=false:=by first | exact aYo U | exact aYp U
 have HC:=aYl (show dR aE x=eO aE (x.kids.drop 0) by rw [bZ];simp [aE,aY,hk,he,List.length_eq_zero_iff.1 (Nat.le_zero.1 hl)];try omega);have hlo:decide (x.kind<0)=false:=by simp;omega
 have hhi:decide (3<x.kind)=false:=ab
 clear hk;go_enter Tryz.func152,Tryz.ntmps152;go_wp2_with (go_at_call 187;refine (aT _ _ HSZ.out).mono ?_;rintro e w' ⟨rfl,rfl⟩);have HX0:Hid (Ext w (w.alloc (.cells #[↑x.kind,↑x.n,.string x.s,.slice A x.kids.length c] 85))):=(Ext.refl _).alloc' _;have hb1:=(Blk.new w 85 #[↑x.kind,↑x.n,.string x.s,.slice A x.kids.length c]).cell' (u:=.slice A x.kids.length c) 3 rfl;generalize w.alloc (.cells #[↑x.kind,↑x.n,.string x.s,.slice A x.kids.length c] 85)=W at *;go_loopw [4] (fun i wr=>qM aE x W i wr) (fun i _=>x.kids.length - (intOf i).toNat)
 case atStart=>exact ⟨0,Nat.zero_le _,rfl,Ext.refl _,HC.out⟩
 case round =>
  obtain ⟨k,hk,rfl,hx,ht⟩:=hrel;have HT:=aYl ht;have hc1:=aA hx hb1;have HW:=aYl hx;clear ht hx
  by_cases hlt:k<x.kids.length
  ·exact absurd hlt U
  ·go_wp2_with fail
   go_ret;exact ⟨aC ed,HX0.out.trans' HW.out⟩
theorem tD (N:Nat)(x:GV)(A:Option Addr)(c:Nat)(P:Nat->Prop)(w:World)(_:gsz x<N+1)(hx:VAt w P x A c)(hk:x.kind=2)(he:¬ x.s.toList=[]) :
  Calls Tryz.prog 152 #[eF x A c] w (dV (.bool (dR aE x)) w):=by
 have HSZ:=aYl hx.s;clear hx;have t0:(x.kind == 0)=false:=aYm U;have t1:(x.kind == 1)=false:=aYm U;have t2:(x.kind == 2)=true:=aYn hk;have he1:x.s.toList.isEmpty=false:=by simpa using he
 have HC:=aYl (show dR aE x=false by rw [bZ];simp [aE,aY,hk,he]);clear hk;go_enter Tryz.func152,Tryz.ntmps152;go_wp2_with (go_at_call 187;refine (aT _ _ HSZ.out).mono ?_;rintro e w' ⟨rfl,rfl⟩);go_ret;exact ⟨aC db,(Ext.refl _).alloc' _⟩
theorem tC (N:Nat)(x:GV)(A:Option Addr)(c:Nat)(P:Nat->Prop)(w:World)(_:gsz x<N+1)(hx:VAt w P x A c)(hk:x.kind=2)(he:x.s.toList=[])(hn:¬ x.n=0) :
  Calls Tryz.prog 152 #[eF x A c] w (dV (.bool (dR aE x)) w):=by
 have HSZ:=aYl hx.s;clear hx;have t0:(x.kind == 0)=false:=aYm U;have t1:(x.kind == 1)=false:=aYm U;have t2:(x.kind == 2)=true:=aYn hk;have hne:(x.n != 0)=true:=bne_iff_ne.2 hn;have HC:=aYl (show dR aE x=false by rw [bZ];simp [aE,aY,hk,he,hn]);clear hk;go_enter Tryz.func152,Tryz.ntmps152;go_wp2_with (go_at_call 187;refine (aT _ _ HSZ.out).mono ?_;rintro e w' ⟨rfl,rfl⟩);go_ret;exact ⟨aC db,(Ext.refl _).alloc' _⟩
theorem vU (N:Nat)(hS:gY 152 (fun b=>b) aE N)(x:GV)(A:Option Addr)(c:Nat)(P:Nat->Prop)(w:World)(hN:gsz x<N+1)(hx:VAt w P x A c)(hk:x.kind=2)(he:x.s.toList=[])(hn:x.n=0) :
  Calls Tryz.prog 152 #[eF x A c] w (dV (.bool (dR aE x)) w):=by
 have HX:=aYl hx;have HN:=aYl (show ∀ z ∈ x.kids,gsz z<N from fun z hz=>by have:=gX hz;omega);have HSZ:=aYl hx.s;have hx5:=hx.cap;clear hx;have t0:(x.kind == 0)=false:=aYm U;have t1:(x.kind == 1)=false:=aYm U;have t2:(x.kind == 2)=true:=aYn hk;have t3:(x.kind == 3)=false:=aYm U;have hne:(x.n != 0)=false:=by simp [hn]
 have HC:=aYl (show dR aE x=eO aE (x.kids.drop 0) by rw [bZ];simp [aE,aY,hk,he,hn];try omega);have hlo:decide (x.kind<0)=false:=by simp;omega
 have hhi:decide (3<x.kind)=false:=ab
 clear hk hn;go_enter Tryz.func152,Tryz.ntmps152;go_wp2_with (go_at_call 187;refine (aT _ _ HSZ.out).mono ?_;rintro e w' ⟨rfl,rfl⟩);have HX0:Hid (Ext w (w.alloc (.cells #[↑x.kind,↑x.n,.string x.s,.slice A x.kids.length c] 85))):=(Ext.refl _).alloc' _;have hb1:=(Blk.new w 85 #[↑x.kind,↑x.n,.string x.s,.slice A x.kids.length c]).cell' (u:=.slice A x.kids.length c) 3 rfl;generalize w.alloc (.cells #[↑x.kind,↑x.n,.string x.s,.slice A x.kids.length c] 85)=W at *;go_loopw [4] (fun i wr=>qM aE x W i wr) (fun i _=>x.kids.length - (intOf i).toNat)
 case atStart=>exact ⟨0,Nat.zero_le _,rfl,Ext.refl _,HC.out⟩
 case round =>
  obtain ⟨k,hk,rfl,hx,ht⟩:=hrel;have HT:=aYl ht;have hc1:=aA hx hb1;have HW:=aYl hx;have HXK:=aYl (HX.out.kids.ext (HX0.out.trans' hx));clear ht hx
  by_cases hlt:k<x.kids.length
  ·have HD:=aYl (show dR aE x=eO aE (x.kids.getD k default :: x.kids.drop (k+1)) by rw [HT.out,<- aG default hlt])
   obtain ⟨b1,o1,c1,A1,d1,e1,-,-,-,hv1,g10,g11,g12,g13⟩:=HXK.out.at_ hlt
   cases e1
   have HM:=aYl (HN.out _ (aF (d:=default) hlt));have HV1:=aYl hv1;clear hv1 HXK hb1;generalize x.kids.getD k default=x1 at *;go_wp2_with fail;refine (hS x1 A1 d1 P _ HM.out HV1.out).mono ?_;rintro e w1 ⟨rfl,hx1⟩;have HX1:=aYl (HW.out.trans' hx1);clear hx1;have HDC:=aYl (HD.out.trans (dY _ _ _));generalize dR aE x1=bb at *
   cases bb
   ·go_wp2_with fail
    go_ret;exact ⟨aC cm,HX0.out.trans' HX1.out⟩
   ·go_wp2_with fail
    go_roundw
    case rel=>exact ⟨k+1,U,by go_num,HX1.out,cm⟩
    case measure=>simp [intOf];omega
  ·go_wp2_with fail
   go_ret;exact ⟨aC ed,HX0.out.trans' HW.out⟩
theorem tB (N:Nat)(x:GV)(A:Option Addr)(c:Nat)(P:Nat->Prop)(w:World)(_:gsz x<N+1)(hx:VAt w P x A c)(hk:x.kind=3)(he:qD x.s=false) :
  Calls Tryz.prog 152 #[eF x A c] w (dV (.bool (dR aE x)) w):=by
 have HSZ:=aYl hx.s;clear hx;have t0:(x.kind == 0)=false:=aYm U;have t1:(x.kind == 1)=false:=aYm U;have t2:(x.kind == 2)=false:=aYm U;have t3:(x.kind == 3)=true:=aYn hk;have HC:=aYl (show dR aE x=false by rw [bZ];simp [aE,hk,he]);clear hk;go_enter Tryz.func152,Tryz.ntmps152;go_wp2_with (go_at_call 187;refine (aT _ _ HSZ.out).mono ?_;rintro e w' ⟨rfl,rfl⟩);go_ret;exact ⟨aC db,(Ext.refl _).alloc' _⟩
theorem tA (N:Nat)(x:GV)(A:Option Addr)(c:Nat)(P:Nat->Prop)(w:World)(_:gsz x<N+1)(hx:VAt w P x A c)(hk:x.kind=3)(he:qD x.s=true)(hn:¬ x.n=0) :
  Calls Tryz.prog 152 #[eF x A c] w (dV (.bool (dR aE x)) w):=by
 have HSZ:=aYl hx.s;clear hx;have t0:(x.kind == 0)=false:=aYm U;have t1:(x.kind == 1)=false:=aYm U;have t2:(x.kind == 2)=false:=aYm U;have t3:(x.kind == 3)=true:=aYn hk;have hne:(x.n != 0)=true:=bne_iff_ne.2 hn;have HC:=aYl (show dR aE x=false by rw [bZ];simp [aE,hk,he,hn]);clear hk;go_enter Tryz.func152,Tryz.ntmps152;go_wp2_with (go_at_call 187;refine (aT _ _ HSZ.out).mono ?_;rintro e w' ⟨rfl,rfl⟩);go_ret;exact ⟨aC db,(Ext.refl _).alloc' _⟩
theorem vT (N:Nat)(hS:gY 152 (fun b=>b) aE N)(x:GV)(A:Option Addr)(c:Nat)(P:Nat->Prop)(w:World)(hN:gsz x<N+1)(hx:VAt w P x A c)(hk:x.kind=3)(he:qD x.s=true)(hn:x.n=0) :
  Calls Tryz.prog 152 #[eF x A c] w (dV (.bool (dR aE x)) w):=by
 have HX:=aYl hx;have HN:=aYl (show ∀ z ∈ x.kids,gsz z<N from fun z hz=>by have:=gX hz;omega);have HSZ:=aYl hx.s;have hx5:=hx.cap;clear hx;have t0:(x.kind == 0)=false:=aYm U;have t1:(x.kind == 1)=false:=aYm U;have t2:(x.kind == 2)=false:=aYm U;have t3:(x.kind == 3)=true:=aYn hk;have hne:(x.n != 0)=false:=by simp [hn]
 have HC:=aYl (show dR aE x=eO aE (x.kids.drop 0) by rw [bZ];simp [aE,hk,he,hn];try omega);have hlo:decide (x.kind<0)=false:=by simp;omega
 have hhi:decide (3<x.kind)=false:=ab
 clear hk hn;go_enter Tryz.func152,Tryz.ntmps152;go_wp2_with (go_at_call 187;refine (aT _ _ HSZ.out).mono ?_;rintro e w' ⟨rfl,rfl⟩);have HX0:Hid (Ext w (w.alloc (.cells #[↑x.kind,↑x.n,.string x.s,.slice A x.kids.length c] 85))):=(Ext.refl _).alloc' _;have hb1:=(Blk.new w 85 #[↑x.kind,↑x.n,.string x.s,.slice A x.kids.length c]).cell' (u:=.slice A x.kids.length c) 3 rfl;generalize w.alloc (.cells #[↑x.kind,↑x.n,.string x.s,.slice A x.kids.length c] 85)=W at *;go_loopw [4] (fun i wr=>qM aE x W i wr) (fun i _=>x.kids.length - (intOf i).toNat)
 case atStart=>exact ⟨0,Nat.zero_le _,rfl,Ext.refl _,HC.out⟩
 case round =>
  obtain ⟨k,hk,rfl,hx,ht⟩:=hrel;have HT:=aYl ht;have hc1:=aA hx hb1;have HW:=aYl hx;have HXK:=aYl (HX.out.kids.ext (HX0.out.trans' hx));clear ht hx
  by_cases hlt:k<x.kids.length
  ·have HD:=aYl (show dR aE x=eO aE (x.kids.getD k default :: x.kids.drop (k+1)) by rw [HT.out,<- aG default hlt])
   obtain ⟨b1,o1,c1,A1,d1,e1,-,-,-,hv1,g10,g11,g12,g13⟩:=HXK.out.at_ hlt
   cases e1
   have HM:=aYl (HN.out _ (aF (d:=default) hlt));have HV1:=aYl hv1;clear hv1 HXK hb1;generalize x.kids.getD k default=x1 at *;go_wp2_with fail;refine (hS x1 A1 d1 P _ HM.out HV1.out).mono ?_;rintro e w1 ⟨rfl,hx1⟩;have HX1:=aYl (HW.out.trans' hx1);clear hx1;have HDC:=aYl (HD.out.trans (dY _ _ _));generalize dR aE x1=bb at *
   cases bb
   ·go_wp2_with fail
    go_ret;exact ⟨aC cm,HX0.out.trans' HX1.out⟩
   ·go_wp2_with fail
    go_roundw
    case rel=>exact ⟨k+1,U,by go_num,HX1.out,cm⟩
    case measure=>simp [intOf];omega
  ·go_wp2_with fail
   go_ret;exact ⟨aC ed,HX0.out.trans' HW.out⟩
theorem vS (N:Nat)(x:GV)(A:Option Addr)(c:Nat)(P:Nat->Prop)(w:World)(_:gsz x<N+1)(hx:VAt w P x A c)(hk:x.kind<0) :
  Calls Tryz.prog 152 #[eF x A c] w (dV (.bool (dR aE x)) w):=by
 have HSZ:=aYl hx.s;clear hx;have t0:(x.kind == 0)=false:=aYm U;have t1:(x.kind == 1)=false:=aYm U;have t2:(x.kind == 2)=false:=aYm U;have t3:(x.kind == 3)=false:=aYm U;have HC:=aYl (show dR aE x=false by rw [bZ];simp [aE,show ¬ x.kind=0 by omega,show ¬ x.kind=1 by omega,show ¬ x.kind=2 by omega,show ¬ x.kind=3 by omega]);go_enter Tryz.func152,Tryz.ntmps152;go_wp2_with (go_at_call 187;refine (aT _ _ HSZ.out).mono ?_;rintro e w' ⟨rfl,rfl⟩);go_ret;exact ⟨aC db,(Ext.refl _).alloc' _⟩
theorem vX (N:Nat)(x:GV)(A:Option Addr)(c:Nat)(P:Nat->Prop)(w:World)(_:gsz x<N+1)(hx:VAt w P x A c)(hk:3<x.kind) :
  Calls Tryz.prog 152 #[eF x A c] w (dV (.bool (dR aE x)) w):=by
 have HSZ:=aYl hx.s;clear hx;have t0:(x.kind == 0)=false:=aYm U;have t1:(x.kind == 1)=false:=aYm U;have t2:(x.kind == 2)=false:=aYm U;have t3:(x.kind == 3)=false:=aYm U;have hlo:decide (x.kind<0)=false:=by simp;omega
 have HC:=aYl (show dR aE x=false by rw [bZ];simp [aE,show ¬ x.kind=0 by omega,show ¬ x.kind=1 by omega,show ¬ x.kind=2 by omega,show ¬ x.kind=3 by omega]);go_enter Tryz.func152,Tryz.ntmps152;go_wp2_with (go_at_call 187;refine (aT _ _ HSZ.out).mono ?_;rintro e w' ⟨rfl,rfl⟩);go_ret;exact ⟨aC db,(Ext.refl _).alloc' _⟩
end Go.Proofs.YtkoeecdjijfjnaaGreat
