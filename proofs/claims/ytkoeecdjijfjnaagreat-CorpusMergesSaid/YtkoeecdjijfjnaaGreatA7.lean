/- Contracts of functions, plain laws. Conditions: none. -/
import Derived.Laws.EntriesVeiled
import Derived.Test.YtkoeecdjijfjnaaGreatA3
set_option maxRecDepth 100000
set_option maxHeartbeats 8000000
namespace Go.Proofs.YtkoeecdjijfjnaaGreat
open Go.RowKit
mutual
def vis {σ:Type}(f:σ->GV->σ × Bool):σ->GV->σ × Bool
 | s,.mk k n t l=>if (f s (.mk k n t l)).2 then qS f (f s (.mk k n t l)).1 l else ((f s (.mk k n t l)).1,false)
def qS {σ:Type}(f:σ->GV->σ × Bool):σ->List GV->σ × Bool
 | s,[]=>(s,true)
 | s,x :: xs=>if (vis f s x).2 then qS f (vis f s x).1 xs else ((vis f s x).1,false)
end
theorem yZ {σ:Type}(f:σ->GV->σ × Bool)(s:σ)(x:GV):vis f s x=if (f s x).2 then qS f (f s x).1 x.kids else ((f s x).1,false):=by
 obtain ⟨k,n,t,l⟩:=x;simp only [vis,GV.kids]
theorem nN {σ:Type}(f:σ->GV->σ × Bool)(s:σ):qS f s []=(s,true):=by simp only [qS]
theorem kY {σ:Type}(f:σ->GV->σ × Bool)(s:σ)(x:GV)(xs:List GV):qS f s (x :: xs)=if (vis f s x).2 then qS f (vis f s x).1 xs else ((vis f s x).1,false):=by
 simp only [qS]
structure aLg {σ:Type}(F:Nat)(caps:Array Value)(M:Nat->Prop)(St:σ->World->Prop)(f:σ->GV->σ × Bool):Prop where
 calls:∀ (s:σ) (x:GV) (A:Option Addr) (c:Nat) (d:Int) (P:Nat->Prop) (w:World),(∀ b,P b->¬ M b)->St s w->VAt w P x A c ->
  Calls Tryz.prog F (#[dS x A c,↑d] ++ caps) w (fun e w'=>e=.returned (.bool (f s x).2)∧Fr M w w'∧St (f s x).1 w')
 keep:∀ (s:σ) (w w':World),St s w->Ext w w'->St s w'
def pY {σ:Type}(M:Nat->Prop)(St:σ->World->Prop)(r:σ × Bool)(w:World)(e:Ending)(w':World):Prop :=
 e=.returned (.bool r.2)∧Fr M w w'∧St r.1 w'
def mQ {σ:Type}(F:Nat)(caps:Array Value)(M:Nat->Prop)(St:σ->World->Prop)(f:σ->GV->σ × Bool)(N:Nat):Prop :=
 ∀ (s:σ) (x:GV) (A:Option Addr) (c:Nat) (d:Int) (P:Nat->Prop) (w:World) (bs bw:Nat),gsz x<N->(∀ b,P b->¬ M b)->(∀ b,M b->b<w.heap.size)->St s w->VAt w P x A c ->
  Blk w bs 239 #[.func (.func F) #[] caps]->Blk w bw 239 #[.func (.func 200) #[] #[.pointer (some ⟨bs,0,none⟩),.pointer (some ⟨bw,0,none⟩)]]->¬ M bs->¬ M bw ->
  Calls Tryz.prog 200 #[dS x A c,↑d,.pointer (some ⟨bs,0,none⟩),.pointer (some ⟨bw,0,none⟩)] w (pY M St (vis f s x) w)
def aLc {σ:Type}(f:σ->GV->σ × Bool)(M:Nat->Prop)(St:σ->World->Prop)(s0:σ)(l:List GV)(W:World)(i:Value)(wr:World):Prop :=
 ∃ (k:Nat) (s:σ),k<=l.length∧i=↑k∧Fr M W wr∧St s wr∧qS f s0 l=qS f s (l.drop k)
theorem xL {σ:Type}(g0:Nat)(M:Nat->Prop)(St:σ->World->Prop)(f:σ->GV->σ × Bool)(hF:aLg 180 #[.pointer (some ⟨g0,0,none⟩)] M St f)(N:Nat)
  (hS:mQ 180 #[.pointer (some ⟨g0,0,none⟩)] M St f N):mQ 180 #[.pointer (some ⟨g0,0,none⟩)] M St f (N+1):=by
 intro s x A c d P w bs bw hN hP hM hs hx hbs hbw hms hmw;have HX:=aZv hx;have HP:=aZv hP;have HM:=aZv hM;have HSt:=aZv hs;have HBS:=aZv hbs;have HBW:=aZv hbw;have HMS:=aZv hms;have HMW:=aZv hmw;have hc1:=hbs.cell' 0 rfl;have hl1:=hbs.lt;have HV:=aZv (yZ f s x);have HC:=aZv (hF.calls s x A c d P);have HN:=aZv (show ∀ z ∈ x.kids,gsz z<N from fun z hz=>by have:=cP hz;omega);have hx4:=hx.len;have hx5:=hx.cap;clear hx hP hM hs hbs hbw hms hmw;generalize hfx:f s x=r at *;clear hfx;obtain ⟨s1,b1⟩:=r;go_enter Tryz.func200,Tryz.ntmps200;go_wp2_with fail;refine (HC.out _ HP.out (hF.keep _ _ _ HSt.out ((Ext.refl _).alloc' _)) (HX.out.ext ((Ext.refl _).alloc' _))).mono ?_;rintro e w1 ⟨rfl,hf1,hs1⟩;have HM0:=aZv (show ¬ M w.heap.size from fun h=>by have:=HM.out _ h;omega);have hbox:=((Blk.new w 85 #[↑x.kind,↑x.n,.string x.s,.slice A x.kids.length c]).fr hf1 HM0.out);have HBOX:=aZv hbox;have hc3:=hbox.cell' 3 rfl;have HF1:=aZv (((Fr.refl M w).alloc (.cells #[↑x.kind,↑x.n,.string x.s,.slice A x.kids.length c] 85)).trans hf1);have HS1:=aZv hs1;clear hf1 hs1 hbox HC
 cases b1
 ·go_wp2_with fail
  go_ret;unfold pY;rw [HV.out];exact ⟨rfl,HF1.out,HS1.out⟩
 ·have HVT:=aZv (HV.out.trans (if_pos rfl))
  go_wp2_with fail;go_loopw [17] (fun i wr=>aLc f M St s1 x.kids w1 i wr) (fun i _=>x.kids.length - (intOf i).toNat)
  case atStart=>exact ⟨0,s1,Nat.zero_le _,rfl,Fr.refl _ _,HS1.out,rfl⟩
  case round =>
   obtain ⟨k,s2,hk,rfl,hfr,hs2,ht⟩:=hrel;have HT:=aZv ht;have HS2:=aZv hs2;have HFR:=aZv (HF1.out.trans hfr);have HF0:=aZv hfr;have hfr':=HFR.out;clear hfr hs2 ht
   by_cases hlt:k<x.kids.length
   ·have HXK:=aZv (HX.out.kids.keep (aB.of_fr hfr' HP.out) (fun _ h=>h))
    obtain ⟨b1,o1,c1,A1,d1,e1,-,-,-,hv1,g10,g11,g12,g13⟩:=HXK.out.at_ hlt
    cases e1
    have HV1:=aZv hv1;have HM1:=aZv (HN.out _ (aD (d:=default) hlt));have HD:=aZv (show qS f s1 x.kids=qS f s2 (x.kids.getD k default :: x.kids.drop (k+1)) by rw [HT.out,<- aF default hlt]);have HBS2:=aZv (HBS.out.fr hfr' HMS.out);have HBW2:=aZv (HBW.out.fr hfr' HMW.out);have hw0:=HBW2.out.cell' 0 rfl;have hl2:=HBW2.out.lt;have lb1:=aN g10;have HM2:=aZv (show ∀ b,M b->b<wr.heap.size+1 from fun b hb=>by have:=HM.out b hb;have:=hfr'.size;omega);clear hv1 hfr' HXK;generalize x.kids.getD k default=y at *;go_wp2_with fail;refine (hS s2 y A1 d1 _ P _ bs bw HM1.out HP.out (by simpa using HM2.out) (hF.keep _ _ _ HS2.out ((Ext.refl _).alloc' _)) (HV1.out.ext ((Ext.refl _).alloc' _)) (HBS2.out.alloc _) (HBW2.out.alloc _) HMS.out HMW.out).mono ?_;rintro e w2 ⟨rfl,hf2,hs3⟩;have HF2:=aZv ((HFR.out.alloc _).trans hf2);have HFW:=aZv ((HF0.out.alloc _).trans hf2);have HS3:=aZv hs3;clear hf2 hs3;have HDC:=aZv (HD.out.trans (kY f s2 y _));generalize hvy:vis f s2 y=r2 at *;clear hvy;obtain ⟨s3,b3⟩:=r2
    cases b3
    ·go_wp2_with fail
     go_ret;unfold pY;rw [HVT.out,HDC.out];exact ⟨rfl,HF2.out,HS3.out⟩
    ·go_wp2_with fail
     go_roundw
     case rel=>exact ⟨k+1,s3,D,by go_num,HFW.out,HS3.out,HDC.out.trans U⟩
     case measure=>simp [intOf];omega
   ·have HZ:=aZv (show qS f s1 x.kids=(s2,true) by rw [HT.out,drop_nil D,nN])
    clear hfr';go_wp2_with fail;go_ret;unfold pY;rw [HVT.out,HZ.out];exact ⟨rfl,HFR.out,HS2.out⟩
theorem aA7 {σ:Type}(g0:Nat)(M:Nat->Prop)(St:σ->World->Prop)(f:σ->GV->σ × Bool)(hF:aLg 180 #[.pointer (some ⟨g0,0,none⟩)] M St f)(N:Nat):mQ 180 #[.pointer (some ⟨g0,0,none⟩)] M St f N:=by
 induction N with
 | zero=>intro s x A c d P w bs bw hN;omega
 | succ N ih=>exact xL g0 M St f hF N ih
theorem xM {σ:Type}(g0 g1 g2:Nat)(M:Nat->Prop)(St:σ->World->Prop)(f:σ->GV->σ × Bool)(hF:aLg 177 #[.pointer (some ⟨g0,0,none⟩),.pointer (some ⟨g1,0,none⟩),.pointer (some ⟨g2,0,none⟩)] M St f)(N:Nat)
  (hS:mQ 177 #[.pointer (some ⟨g0,0,none⟩),.pointer (some ⟨g1,0,none⟩),.pointer (some ⟨g2,0,none⟩)] M St f N):mQ 177 #[.pointer (some ⟨g0,0,none⟩),.pointer (some ⟨g1,0,none⟩),.pointer (some ⟨g2,0,none⟩)] M St f (N+1):=by
 intro s x A c d P w bs bw hN hP hM hs hx hbs hbw hms hmw;have HX:=aZv hx;have HP:=aZv hP;have HM:=aZv hM;have HSt:=aZv hs;have HBS:=aZv hbs;have HBW:=aZv hbw;have HMS:=aZv hms;have HMW:=aZv hmw;have hc1:=hbs.cell' 0 rfl;have hl1:=hbs.lt;have HV:=aZv (yZ f s x);have HC:=aZv (hF.calls s x A c d P);have HN:=aZv (show ∀ z ∈ x.kids,gsz z<N from fun z hz=>by have:=cP hz;omega);have hx4:=hx.len;have hx5:=hx.cap;clear hx hP hM hs hbs hbw hms hmw;generalize hfx:f s x=r at *;clear hfx;obtain ⟨s1,b1⟩:=r;go_enter Tryz.func200,Tryz.ntmps200;go_wp2_with fail;refine (HC.out _ HP.out (hF.keep _ _ _ HSt.out ((Ext.refl _).alloc' _)) (HX.out.ext ((Ext.refl _).alloc' _))).mono ?_;rintro e w1 ⟨rfl,hf1,hs1⟩;have HM0:=aZv (show ¬ M w.heap.size from fun h=>by have:=HM.out _ h;omega);have hbox:=((Blk.new w 85 #[↑x.kind,↑x.n,.string x.s,.slice A x.kids.length c]).fr hf1 HM0.out);have HBOX:=aZv hbox;have hc3:=hbox.cell' 3 rfl;have HF1:=aZv (((Fr.refl M w).alloc (.cells #[↑x.kind,↑x.n,.string x.s,.slice A x.kids.length c] 85)).trans hf1);have HS1:=aZv hs1;clear hf1 hs1 hbox HC
 cases b1
 ·go_wp2_with fail
  go_ret;unfold pY;rw [HV.out];exact ⟨rfl,HF1.out,HS1.out⟩
 ·have HVT:=aZv (HV.out.trans (if_pos rfl))
  go_wp2_with fail;go_loopw [17] (fun i wr=>aLc f M St s1 x.kids w1 i wr) (fun i _=>x.kids.length - (intOf i).toNat)
  case atStart=>exact ⟨0,s1,Nat.zero_le _,rfl,Fr.refl _ _,HS1.out,rfl⟩
  case round =>
   obtain ⟨k,s2,hk,rfl,hfr,hs2,ht⟩:=hrel;have HT:=aZv ht;have HS2:=aZv hs2;have HFR:=aZv (HF1.out.trans hfr);have HF0:=aZv hfr;have hfr':=HFR.out;clear hfr hs2 ht
   by_cases hlt:k<x.kids.length
   ·have HXK:=aZv (HX.out.kids.keep (aB.of_fr hfr' HP.out) (fun _ h=>h))
    obtain ⟨b1,o1,c1,A1,d1,e1,-,-,-,hv1,g10,g11,g12,g13⟩:=HXK.out.at_ hlt
    cases e1
    have HV1:=aZv hv1;have HM1:=aZv (HN.out _ (aD (d:=default) hlt));have HD:=aZv (show qS f s1 x.kids=qS f s2 (x.kids.getD k default :: x.kids.drop (k+1)) by rw [HT.out,<- aF default hlt]);have HBS2:=aZv (HBS.out.fr hfr' HMS.out);have HBW2:=aZv (HBW.out.fr hfr' HMW.out);have hw0:=HBW2.out.cell' 0 rfl;have hl2:=HBW2.out.lt;have lb1:=aN g10;have HM2:=aZv (show ∀ b,M b->b<wr.heap.size+1 from fun b hb=>by have:=HM.out b hb;have:=hfr'.size;omega);clear hv1 hfr' HXK;generalize x.kids.getD k default=y at *;go_wp2_with fail;refine (hS s2 y A1 d1 _ P _ bs bw HM1.out HP.out (by simpa using HM2.out) (hF.keep _ _ _ HS2.out ((Ext.refl _).alloc' _)) (HV1.out.ext ((Ext.refl _).alloc' _)) (HBS2.out.alloc _) (HBW2.out.alloc _) HMS.out HMW.out).mono ?_;rintro e w2 ⟨rfl,hf2,hs3⟩;have HF2:=aZv ((HFR.out.alloc _).trans hf2);have HFW:=aZv ((HF0.out.alloc _).trans hf2);have HS3:=aZv hs3;clear hf2 hs3;have HDC:=aZv (HD.out.trans (kY f s2 y _));generalize hvy:vis f s2 y=r2 at *;clear hvy;obtain ⟨s3,b3⟩:=r2
    cases b3
    ·go_wp2_with fail
     go_ret;unfold pY;rw [HVT.out,HDC.out];exact ⟨rfl,HF2.out,HS3.out⟩
    ·go_wp2_with fail
     go_roundw
     case rel=>exact ⟨k+1,s3,D,by go_num,HFW.out,HS3.out,HDC.out.trans U⟩
     case measure=>simp [intOf];omega
   ·have HZ:=aZv (show qS f s1 x.kids=(s2,true) by rw [HT.out,drop_nil D,nN])
    clear hfr';go_wp2_with fail;go_ret;unfold pY;rw [HVT.out,HZ.out];exact ⟨rfl,HFR.out,HS2.out⟩
theorem aA8 {σ:Type}(g0 g1 g2:Nat)(M:Nat->Prop)(St:σ->World->Prop)(f:σ->GV->σ × Bool)(hF:aLg 177 #[.pointer (some ⟨g0,0,none⟩),.pointer (some ⟨g1,0,none⟩),.pointer (some ⟨g2,0,none⟩)] M St f)(N:Nat):mQ 177 #[.pointer (some ⟨g0,0,none⟩),.pointer (some ⟨g1,0,none⟩),.pointer (some ⟨g2,0,none⟩)] M St f N:=by
 induction N with
 | zero=>intro s x A c d P w bs bw hN;omega
 | succ N ih=>exact xM g0 g1 g2 M St f hF N ih
def jC (n:Int):Bool:=decide (97<=n∧n<=122∨65<=n∧n<=90∨48<=n∧n<=57∨n=95)
theorem aB0 (n:Int)(w:World) :
  Calls Tryz.prog 216 #[.int .u8 n] w fun e w'=>e=.returned (.bool (jC n))∧w=w':=by
 go_enter Tryz.func216,Tryz.ntmps216;go_wp2
 all_goals
  go_ret;refine ⟨aC ?_,rfl⟩;rw [Bool.eq_iff_iff];simp [jC]
  try omega
theorem oX (n:Int):((n<48∨(58<=n∧n<=64)∨(91<=n∧n<=94)∨(96<=n∧n<=96)∨122<n)∧jC n=false) ∨
  (((48<=n∧n<=57)∨(65<=n∧n<=90)∨(95<=n∧n<=95)∨(97<=n∧n<=122))∧jC n=true):=by
 by_cases h:jC n=true
 ·refine .inr ⟨?_,h⟩
  have:=of_decide_eq_true (by unfold jC at h;exact h);omega
 ·refine .inl ⟨?_,et⟩
  have h':jC n=false:=et
  unfold jC at h';have:=of_decide_eq_false h';omega
def pW (s:ByteArray):Bool:=decide (1<=s.size∧s.size<=16∧65<=((s.data.toList.getD 0 0).toNat:Int)∧((s.data.toList.getD 0 0).toNat:Int)<=90) && s.data.toList.all (fun c=>jC c.toNat)
theorem dD (s:ByteArray)(k:Nat)(h:k<s.size):s[k]=s.data.toList.getD k 0:=by
 have h':k<s.data.size:=h
 have e:s.data.toList.getD k 0=s.data[k]:=by
  rw [List.getD_eq_getElem?_getD,Array.getElem?_toList,Array.getElem?_eq_getElem h']
  rfl
 rw [e]
 rfl
theorem fY {s:ByteArray}(h:s.size=0∨16<s.size∨((s.data.toList.getD 0 0).toNat:Int)<65∨90<((s.data.toList.getD 0 0).toNat:Int)):pW s=false:=by
 unfold pW;rw [aZz D]
 rfl
theorem kE (s:ByteArray):s.data.toList.length=s.size:=U
theorem qV (s:ByteArray):s.toList.length=s.size:=by rw [ByteArray.toList_eq];exact kE s
theorem qH {s:ByteArray}(h:¬ s.size=0):s.toList.isEmpty=false:=by
 have h1:=qV s
 cases hl:s.toList with
 | nil=>rw [hl] at h1;exact absurd h1.symm h
 | cons a l=>rfl
def aF9 (s:ByteArray)(lo:Nat)(w:World)(i:Value)(wr:World):Prop:=∃ k:Nat,lo<=k∧k<=s.size∧i=↑k∧wr=w∧pW s=(s.data.toList.drop k).all (fun c=>jC c.toNat)
theorem tV {s:ByteArray}(h0:¬ s.size=0)(h1:¬ 16<s.size)(h2:65<=((s.data.toList.getD 0 0).toNat:Int))(h3:((s.data.toList.getD 0 0).toNat:Int)<=90) :
  pW s=(s.data.toList.drop 0).all (fun c=>jC c.toNat):=by
 unfold pW;rw [aZy D]
 rfl
theorem aFr {s:ByteArray}(h0:¬ s.size=0)(h1:¬ 16<s.size)(h2:65<=((s.data.toList.getD 0 0).toNat:Int))(h3:((s.data.toList.getD 0 0).toNat:Int)<=90) :
  pW s=(s.data.toList.drop 1).all (fun c=>jC c.toNat):=by
 rw [tV h0 h1 h2 h3,aF 0 (show 0<s.data.toList.length by rw [kE];omega)];simp only [List.all_cons];rw [show jC ((s.data.toList.getD 0 0).toNat:Int)=true by unfold jC;rw [aZy];omega]
 rfl
theorem iV {s:ByteArray}{k:Nat}(h:k<s.size)(p:UInt8->Bool):(s.data.toList.drop k).all p=(p s[k] && (s.data.toList.drop (k+1)).all p):=by
 rw [aF 0 (show k<s.data.toList.length by rw [kE];exact h),dD s k h]
 rfl
theorem yU (s:ByteArray)(w:World)(hs:s.size<=17592186044416) :
  Calls Tryz.prog 201 #[.string s] w fun e w'=>e=.returned (.bool (pW s))∧w=w':=by
 by_cases h0:s.size=0
 ·have h0':s.toList.isEmpty=true:=by
   have h1:=qV s
   cases hl:s.toList with
   | nil=>rfl
   | cons a l=>rw [hl] at h1;simp at h1;omega
  have HC:=aZv (fY (s:=s) (.inl h0));clear h0;go_enter Tryz.func201,Tryz.ntmps201;go_wp2_with fail;go_ret;exact ⟨aC HC.out.symm,rfl⟩
 have h0':=qH h0;have h00:0<s.size:=by omega
 by_cases h1:16<s.size
 ·have HC:=aZv (fY (s:=s) (.inr (.inl h1)))
  clear h0;go_enter Tryz.func201,Tryz.ntmps201;go_wp2_with fail;go_ret;exact ⟨aC HC.out.symm,rfl⟩
 by_cases h2:((s[0]).toNat:Int)<65
 ·have HC:=aZv (fY (s:=s) (.inr (.inr (.inl gn))))
  clear h0;go_enter Tryz.func201,Tryz.ntmps201;go_wp2_with fail;go_ret;exact ⟨aC HC.out.symm,rfl⟩
 by_cases h3:90<((s[0]).toNat:Int)
 ·have HC:=aZv (fY (s:=s) (.inr (.inr (.inr gq))))
  clear h0;go_enter Tryz.func201,Tryz.ntmps201;go_wp2_with fail;go_ret;exact ⟨aC HC.out.symm,rfl⟩
 have HC:=aZv (aFr h0 h1 dm dm);have t1:decide (16<(s.size:Int))=false:=by simp;omega
 have t2:decide (((s[0]).toNat:Int)<65)=false:=aa
 have t3:decide (90<((s[0]).toNat:Int))=false:=aa
 clear h0;go_enter Tryz.func201,Tryz.ntmps201;go_wp2_with fail;go_loopw [3] (fun i wr=>aF9 s 1 w i wr) (fun i _=>s.size - (intOf i).toNat)
 case atStart=>exact ⟨1,D,D,rfl,rfl,HC.out⟩
 case round =>
  obtain ⟨k,hk1,hk,rfl,rfl,hc⟩:=hrel;have HK:=aZv hc;clear hc
  by_cases hlt:k<s.size
  ·have HA:=aZv (HK.out.trans (iV hlt _))
   go_wp2_with fail;refine (aB0 _ _).mono ?_;rintro e w' ⟨rfl,rfl⟩;go_wp2_with fail
   ·have hz':(!jC ((s[k]).toNat:Int))=true:=by assumption
    have hz:jC ((s[k]).toNat:Int)=false:=by simpa using hz'
    go_ret;exact ⟨aC (by rw [HA.out,hz];rfl),rfl⟩
   ·have hz':(!jC ((s[k]).toNat:Int))=false:=by assumption
    have hz:jC ((s[k]).toNat:Int)=true:=by simpa using hz'
    go_roundw
    case rel=>exact ⟨k+1,D,D,by go_num,rfl,by rw [HA.out,hz];rfl⟩
    case measure=>simp [intOf];omega
  ·go_wp2_with fail
   go_ret;exact ⟨aC ei,rfl⟩
theorem aW (s:ByteArray)(w:World)(hs:s.size<=17592186044416) :
  Calls Tryz.prog 187 #[.string s] w fun e w'=>e=.returned (.bool (pW s))∧w=w':=by
 by_cases h0:s.size=0
 ·have t0:decide ((s.size:Int)<1)=true:=by simp [h0]
  have HC:=aZv (fY (s:=s) (.inl h0));clear h0;go_enter Tryz.func187,Tryz.ntmps187;go_wp2_with fail;go_ret;exact ⟨aC HC.out.symm,rfl⟩
 have t0:decide ((s.size:Int)<1)=false:=aa
 have h00:0<s.size:=D
 by_cases h1:16<s.size
 ·have HC:=aZv (fY (s:=s) (.inr (.inl h1)))
  clear h0;go_enter Tryz.func187,Tryz.ntmps187;go_wp2_with fail;go_ret;exact ⟨aC HC.out.symm,rfl⟩
 by_cases h2:((s[0]).toNat:Int)<65
 ·have HC:=aZv (fY (s:=s) (.inr (.inr (.inl gn))))
  clear h0;go_enter Tryz.func187,Tryz.ntmps187;go_wp2_with fail;go_ret;exact ⟨aC HC.out.symm,rfl⟩
 by_cases h3:90<((s[0]).toNat:Int)
 ·have HC:=aZv (fY (s:=s) (.inr (.inr (.inr gq))))
  clear h0;go_enter Tryz.func187,Tryz.ntmps187;go_wp2_with fail;go_ret;exact ⟨aC HC.out.symm,rfl⟩
 have HC:=aZv (tV h0 h1 dm dm);have t1:decide (16<(s.size:Int))=false:=by simp;omega
 have t2:decide (((s[0]).toNat:Int)<65)=false:=aa
 have t3:decide (90<((s[0]).toNat:Int))=false:=aa
 clear h0;go_enter Tryz.func187,Tryz.ntmps187;go_wp2_with fail;go_loopw [3] (fun i wr=>aF9 s 0 w i wr) (fun i _=>s.size - (intOf i).toNat)
 case atStart=>exact ⟨0,D,D,rfl,rfl,HC.out⟩
 case round =>
  obtain ⟨k,hk1,hk,rfl,rfl,hc⟩:=hrel;have HK:=aZv hc;clear hc
  by_cases hlt:k<s.size
  ·have HA:=aZv (HK.out.trans (iV hlt _))
   rcases oX ((s[k]).toNat:Int) with ⟨hp,hz⟩ | ⟨hp,hz⟩
   ·have HA2:=aZv (HA.out.trans (by rw [hz,Bool.false_and]))
    clear hz HA;rcases hp with hp | ⟨hp,hp'⟩ | ⟨hp,hp'⟩ | ⟨hp,hp'⟩ | hp
    all_goals
     first | have d122:decide (((s[k]).toNat:Int)<=122)=true:=aZy D | have d122:decide (((s[k]).toNat:Int)<=122)=false:=aZz D
     first | have d90:decide (((s[k]).toNat:Int)<=90)=true:=aZy D | have d90:decide (((s[k]).toNat:Int)<=90)=false:=aZz D
     first | have d57:decide (((s[k]).toNat:Int)<=57)=true:=aZy D | have d57:decide (((s[k]).toNat:Int)<=57)=false:=aZz D
     first | have dn:(((s[k]).toNat:Int) != 95)=true:=bne_iff_ne.2 D | have dn:(((s[k]).toNat:Int) != 95)=false:=by rw [bne_eq_false_iff_eq];omega
     first | have de:(((s[k]).toNat:Int) == 95)=false:=aZw D | have de:(((s[k]).toNat:Int) == 95)=true:=aZx D
     go_wp2_with fail;go_ret;exact ⟨aC HA2.out.symm,rfl⟩
   ·have HA2:=aZv (HA.out.trans (by rw [hz,Bool.true_and]))
    clear hz HA;rcases hp with ⟨hp,hp'⟩ | ⟨hp,hp'⟩ | ⟨hp,hp'⟩ | ⟨hp,hp'⟩
    all_goals
     first | have d122:decide (((s[k]).toNat:Int)<=122)=true:=aZy D | have d122:decide (((s[k]).toNat:Int)<=122)=false:=aZz D
     first | have d90:decide (((s[k]).toNat:Int)<=90)=true:=aZy D | have d90:decide (((s[k]).toNat:Int)<=90)=false:=aZz D
     first | have d57:decide (((s[k]).toNat:Int)<=57)=true:=aZy D | have d57:decide (((s[k]).toNat:Int)<=57)=false:=aZz D
     first | have dn:(((s[k]).toNat:Int) != 95)=true:=bne_iff_ne.2 D | have dn:(((s[k]).toNat:Int) != 95)=false:=by rw [bne_eq_false_iff_eq];omega
     first | have de:(((s[k]).toNat:Int) == 95)=false:=aZw D | have de:(((s[k]).toNat:Int) == 95)=true:=aZx D
     go_wp2_with fail;go_roundw
     case rel=>exact ⟨k+1,D,D,by go_num,rfl,HA2.out⟩
     case measure=>simp [intOf];omega
  ·go_wp2_with fail
   go_ret;exact ⟨aC ei,rfl⟩
theorem qO (s:ByteArray)(w:World)(hs:s.size<=17592186044416) :
  Calls Tryz.prog 151 #[.string s] w fun e w'=>e=.returned (.bool (pW s))∧w=w':=by
 by_cases h0:s.size=0
 ·have t0:((s.size:Int) == 0)=true:=by simp [h0]
  have HC:=aZv (fY (s:=s) (.inl h0));clear h0;go_enter Tryz.func151,Tryz.ntmps151;go_wp2_with fail;go_ret;exact ⟨aC HC.out.symm,rfl⟩
 have t0:((s.size:Int) == 0)=false:=aZw D;have h00:0<s.size:=by omega
 by_cases h1:16<s.size
 ·have HC:=aZv (fY (s:=s) (.inr (.inl h1)))
  clear h0;go_enter Tryz.func151,Tryz.ntmps151;go_wp2_with fail;go_ret;exact ⟨aC HC.out.symm,rfl⟩
 by_cases h2:((s[0]).toNat:Int)<65
 ·have HC:=aZv (fY (s:=s) (.inr (.inr (.inl gn))))
  clear h0;go_enter Tryz.func151,Tryz.ntmps151;go_wp2_with fail;go_ret;exact ⟨aC HC.out.symm,rfl⟩
 by_cases h3:90<((s[0]).toNat:Int)
 ·have HC:=aZv (fY (s:=s) (.inr (.inr (.inr gq))))
  clear h0;go_enter Tryz.func151,Tryz.ntmps151;go_wp2_with fail;go_ret;exact ⟨aC HC.out.symm,rfl⟩
 have HC:=aZv (tV h0 h1 dm dm);have t1:decide (16<(s.size:Int))=false:=by simp;omega
 have t2:decide (((s[0]).toNat:Int)<65)=false:=aa
 have t3:decide (90<((s[0]).toNat:Int))=false:=aa
 clear h0;go_enter Tryz.func151,Tryz.ntmps151;go_wp2_with fail;go_loopw [3] (fun i wr=>aF9 s 0 w i wr) (fun i _=>s.size - (intOf i).toNat)
 case atStart=>exact ⟨0,D,D,rfl,rfl,HC.out⟩
 case round =>
  obtain ⟨k,hk1,hk,rfl,rfl,hc⟩:=hrel;have HK:=aZv hc;clear hc
  by_cases hlt:k<s.size
  ·have HA:=aZv (HK.out.trans (iV hlt _))
   rcases oX ((s[k]).toNat:Int) with ⟨hp,hz⟩ | ⟨hp,hz⟩
   ·have HA2:=aZv (HA.out.trans (by rw [hz,Bool.false_and]))
    clear hz HA;rcases hp with hp | ⟨hp,hp'⟩ | ⟨hp,hp'⟩ | ⟨hp,hp'⟩ | hp
    all_goals
     first | have d122:decide (((s[k]).toNat:Int)<=122)=true:=aZy D | have d122:decide (((s[k]).toNat:Int)<=122)=false:=aZz D
     first | have d90:decide (((s[k]).toNat:Int)<=90)=true:=aZy D | have d90:decide (((s[k]).toNat:Int)<=90)=false:=aZz D
     first | have d57:decide (((s[k]).toNat:Int)<=57)=true:=aZy D | have d57:decide (((s[k]).toNat:Int)<=57)=false:=aZz D
     first | have dn:(((s[k]).toNat:Int) != 95)=true:=bne_iff_ne.2 D | have dn:(((s[k]).toNat:Int) != 95)=false:=by rw [bne_eq_false_iff_eq];omega
     first | have de:(((s[k]).toNat:Int) == 95)=false:=aZw D | have de:(((s[k]).toNat:Int) == 95)=true:=aZx D
     go_wp2_with fail;go_ret;exact ⟨aC HA2.out.symm,rfl⟩
   ·have HA2:=aZv (HA.out.trans (by rw [hz,Bool.true_and]))
    clear hz HA;rcases hp with ⟨hp,hp'⟩ | ⟨hp,hp'⟩ | ⟨hp,hp'⟩ | ⟨hp,hp'⟩
    all_goals
     first | have d122:decide (((s[k]).toNat:Int)<=122)=true:=aZy D | have d122:decide (((s[k]).toNat:Int)<=122)=false:=aZz D
     first | have d90:decide (((s[k]).toNat:Int)<=90)=true:=aZy D | have d90:decide (((s[k]).toNat:Int)<=90)=false:=aZz D
     first | have d57:decide (((s[k]).toNat:Int)<=57)=true:=aZy D | have d57:decide (((s[k]).toNat:Int)<=57)=false:=aZz D
     first | have dn:(((s[k]).toNat:Int) != 95)=true:=bne_iff_ne.2 D | have dn:(((s[k]).toNat:Int) != 95)=false:=by rw [bne_eq_false_iff_eq];omega
     first | have de:(((s[k]).toNat:Int) == 95)=false:=aZw D | have de:(((s[k]).toNat:Int) == 95)=true:=aZx D
     go_wp2_with fail;go_roundw
     case rel=>exact ⟨k+1,D,D,by go_num,rfl,HA2.out⟩
     case measure=>simp [intOf];omega
  ·go_wp2_with fail
   go_ret;exact ⟨aC ei,rfl⟩
def aY (s:ByteArray):Bool:=s.toList.isEmpty
def pI (x:GV):Bool:=decide (x.kids.length<=256) && (decide (x.kind ≠ 3) || decide (x.kids.length<=16))
def aH (x:GV):Bool :=
 if x.kind=0 then aY x.s && decide (x.kids.length=0)
 else if x.kind=1 then decide (x.n=0∨x.n=1) && aY x.s && decide (x.kids.length=0)
 else if x.kind=2 then decide (x.n=0) && aY x.s
 else if x.kind=3 then decide (x.n=0) && pW x.s
 else false
theorem aAe (x:GV)(A:Option Addr)(c:Nat)(w:World)(h2:x.kids.length<=c)(_:x.kids.length<=17592186044416∧c<=9223372036854775807) :
  Calls Tryz.prog 179 #[dS x A c] w (cT (.bool (pI x)) w):=by
 obtain ⟨k,n,s,l⟩:=x;have HF:=aZv (show pI (.mk k n s l)=(decide (l.length<=256) && (decide (k ≠ 3) || decide (l.length<=16))) from rfl);simp only [GV.kids] at h2
 change Calls Tryz.prog 179 #[.agg #[↑k,↑n,.string s,.slice A l.length c]] w _
 go_enter Tryz.func179,Tryz.ntmps179;go_wp2_with fail
 all_goals
  go_ret;refine ⟨aC ?_,(Ext.refl _).alloc' _⟩;rw [HF.out,Bool.eq_iff_iff]
  simp_all
  try omega
theorem aB1 (x:GV)(A:Option Addr)(c:Nat)(w:World)(h1:x.s.size<=17592186044416)(h2:x.kids.length<=c)(_:x.kids.length<=17592186044416∧c<=9223372036854775807) :
  Calls Tryz.prog 178 #[dS x A c] w (cT (.bool (aH x)) w):=by
 obtain ⟨k,n,s,l⟩:=x;simp only [GV.kids,GV.s] at h1 h2;have HF:=aZv (show aH (.mk k n s l)=(if k=0 then aY s && decide (l.length=0) else if k=1 then decide (n=0∨n=1) && aY s && decide (l.length=0) else if k=2 then decide (n=0) && aY s else if k=3 then decide (n=0) && pW s else false) from rfl)
 change Calls Tryz.prog 178 #[.agg #[↑k,↑n,.string s,.slice A l.length c]] w _
 go_enter Tryz.func178,Tryz.ntmps178;go_wp2_with (go_at_call 201;refine (yU _ _ h1).mono ?_;rintro e w' ⟨rfl,rfl⟩)
 all_goals
  go_ret;refine ⟨aC ?_,(Ext.refl _).alloc' _⟩;rw [HF.out,Bool.eq_iff_iff]
  simp_all [aY]
  try omega
def uX:Int × Bool × Bool->GV->(Int × Bool × Bool) × Bool
 | (n,g,m),x=>((wrap64 (n+1),g && aH x,m && pI x),g && aH x)
def StV (b0 b1 b2:Nat)(s:Int × Bool × Bool)(w:World):Prop :=
 Blk w b0 3 #[.int .i64 s.1]∧Blk w b1 4 #[.bool s.2.1]∧Blk w b2 4 #[.bool s.2.2]
theorem aU5 (b0 b1 b2:Nat)(h01:b0 ≠ b1)(h02:b0 ≠ b2)(h12:b1 ≠ b2) :
  aLg 177 #[.pointer (some ⟨b0,0,none⟩),.pointer (some ⟨b1,0,none⟩),.pointer (some ⟨b2,0,none⟩)] (fun b=>b=b0∨b=b1∨b=b2) (StV b0 b1 b2) uX:=by
 refine ⟨?_,fun s w w' h hx=>⟨h.1.ext hx,h.2.1.ext hx,h.2.2.ext hx⟩⟩;rintro ⟨n,g,m⟩ x A c d P w hP ⟨k0,k1,k2⟩ hx;have HX:=aZv hx;have K0:=aZv k0;have K1:=aZv k1;have K2:=aZv k2;have c0:=k0.cell' (u:=↑n) 0 rfl;have c1:=k1.cell' (u:=.bool g) 0 rfl;have c2:=k2.cell' (u:=.bool m) 0 rfl;have f0:=k0.frozen 0;have f1:=k1.frozen 0;have f2:=k2.frozen 0;have l0:=k0.lt;have l1:=k1.lt;have l2:=k2.lt;clear k0 k1 k2 hx hP;simp only [uX]
 show Calls Tryz.prog 177 #[dS x A c,↑d,.pointer (some ⟨b0,0,none⟩),.pointer (some ⟨b1,0,none⟩),.pointer (some ⟨b2,0,none⟩)] w _
 have HFR:=aZv (show Fr (fun b=>b=b0∨b=b1∨b=b2) w w from Fr.refl _ _)
 cases g
 ·cases m
  ·go_enter Tryz.func177,Tryz.ntmps177
   go_wp2_with fail;go_ret;refine ⟨rfl,?_,?_,?_,?_⟩
   ·exact (((HFR.out.setCell (p:=⟨b0,0,none⟩) (.inl (.inl rfl)) _).setCell (p:=⟨b1,0,none⟩) (.inl (.inr (.inl rfl))) _).setCell (p:=⟨b2,0,none⟩) (.inl (.inr (.inr rfl))) _).alloc _
   ·exact (((K0.out.set_ 0 _).far (p:=⟨b1,0,none⟩) h01 _).far (p:=⟨b2,0,none⟩) h02 _).alloc _
   ·exact (((K1.out.far (p:=⟨b0,0,none⟩) h01.symm _).set_ 0 _).far (p:=⟨b2,0,none⟩) h12 _).alloc _
   ·exact (((K2.out.far (p:=⟨b0,0,none⟩) h02.symm _).far (p:=⟨b1,0,none⟩) h12.symm _).set_ 0 _).alloc _
  ·go_enter Tryz.func177,Tryz.ntmps177
   go_wp2_with fail;refine (aAe x A c _ HX.out.len HX.out.cap).mono ?_;rintro e w1 ⟨rfl,hx1⟩;have HX1:=aZv hx1;have B0:=aZv ((((K0.out.set_ 0 (.int .i64 (wrap64 (n+1)))).far (p:=⟨b1,0,none⟩) h01 (.bool false)).alloc (.cells #[↑x.kind,↑x.n,.string x.s,.slice A x.kids.length c] 85)).ext hx1);have B1:=aZv ((((K1.out.far (p:=⟨b0,0,none⟩) h01.symm (.int .i64 (wrap64 (n+1)))).set_ 0 (.bool false)).alloc (.cells #[↑x.kind,↑x.n,.string x.s,.slice A x.kids.length c] 85)).ext hx1);have B2:=aZv ((((K2.out.far (p:=⟨b0,0,none⟩) h02.symm (.int .i64 (wrap64 (n+1)))).far (p:=⟨b1,0,none⟩) h12.symm (.bool false)).alloc (.cells #[↑x.kind,↑x.n,.string x.s,.slice A x.kids.length c] 85)).ext hx1);have FR:=aZv ((((HFR.out.setCell (p:=⟨b0,0,none⟩) (.inl (.inl rfl)) (.int .i64 (wrap64 (n+1)))).setCell (p:=⟨b1,0,none⟩) (.inl (.inr (.inl rfl))) (.bool false)).alloc (.cells #[↑x.kind,↑x.n,.string x.s,.slice A x.kids.length c] 85)).trans (Fr.of_ext hx1));have d1:=B1.out.cell' (u:=.bool false) 0 rfl;have d2:=B2.out.cell' (u:=.bool true) 0 rfl;have q2:=B2.out.frozen 0;clear hx1;go_wp2_with fail;go_ret;refine ⟨rfl,?_,?_,?_,?_⟩
   ·exact FR.out.setCell (p:=⟨b2,0,none⟩) (.inl (.inr (.inr rfl))) _
   ·exact B0.out.far (p:=⟨b2,0,none⟩) h02 _
   ·exact B1.out.far (p:=⟨b2,0,none⟩) h12 _
   ·exact B2.out.set_ 0 _
 ·go_enter Tryz.func177,Tryz.ntmps177
  go_wp2_with fail;refine (aB1 x A c _ HX.out.s HX.out.len HX.out.cap).mono ?_;rintro e w1 ⟨rfl,hx1⟩;have HX1:=aZv hx1;have B0:=aZv (((K0.out.set_ 0 (.int .i64 (wrap64 (n+1)))).alloc (.cells #[↑x.kind,↑x.n,.string x.s,.slice A x.kids.length c] 85)).ext hx1);have B1:=aZv (((K1.out.far (p:=⟨b0,0,none⟩) h01.symm (.int .i64 (wrap64 (n+1)))).alloc (.cells #[↑x.kind,↑x.n,.string x.s,.slice A x.kids.length c] 85)).ext hx1);have B2:=aZv (((K2.out.far (p:=⟨b0,0,none⟩) h02.symm (.int .i64 (wrap64 (n+1)))).alloc (.cells #[↑x.kind,↑x.n,.string x.s,.slice A x.kids.length c] 85)).ext hx1);have BX:=aZv ((Blk.new' (w.setCell ⟨b0,0,none⟩ (.int .i64 (wrap64 (n+1)))) 85 #[↑x.kind,↑x.n,.string x.s,.slice A x.kids.length c] (g:=w.heap.size) fj).ext hx1);have FR:=aZv (((HFR.out.setCell (p:=⟨b0,0,none⟩) (.inl (.inl rfl)) (.int .i64 (wrap64 (n+1)))).alloc (.cells #[↑x.kind,↑x.n,.string x.s,.slice A x.kids.length c] 85)).trans (Fr.of_ext hx1));have d1:=B1.out.cell' (u:=.bool true) 0 rfl;have q1:=B1.out.frozen 0;have d2:=B2.out.cell' (u:=.bool m) 0 rfl;have q2:=B2.out.frozen 0;have x0:=BX.out.cell' (u:=↑x.kind) 0 rfl
  have x1:=BX.out.cell' (u:=↑x.n) 1 rfl;have x2:=BX.out.cell' (u:=.string x.s) 2 rfl;have x3:=BX.out.cell' (u:=.slice A x.kids.length c) 3 rfl;have lx:=BX.out.lt;have lx1:=B1.out.lt;have lx2:=B2.out.lt;clear hx1 c0 c1 c2 f0 f1 f2
  cases m
  ·go_wp2_with fail
   go_ret;refine ⟨rfl,?_,?_,?_,?_⟩
   ·exact (FR.out.setCell (p:=⟨b1,0,none⟩) (.inl (.inr (.inl rfl))) _).setCell (p:=⟨b2,0,none⟩) (.inl (.inr (.inr rfl))) _
   ·exact (B0.out.far (p:=⟨b1,0,none⟩) h01 _).far (p:=⟨b2,0,none⟩) h02 _
   ·exact (B1.out.set_ 0 _).far (p:=⟨b2,0,none⟩) h12 _
   ·exact (B2.out.far (p:=⟨b1,0,none⟩) h12.symm _).set_ 0 _
  ·go_wp2_with fail
   refine (aAe x A c _ HX.out.len HX.out.cap).mono ?_;rintro e w2 ⟨rfl,hx2⟩;have C0:=aZv ((B0.out.far (p:=⟨b1,0,none⟩) h01 (.bool (aH x))).ext hx2);have C1:=aZv ((B1.out.set_ 0 (.bool (aH x))).ext hx2);have C2:=aZv ((B2.out.far (p:=⟨b1,0,none⟩) h12.symm (.bool (aH x))).ext hx2);have FR2:=aZv ((FR.out.setCell (p:=⟨b1,0,none⟩) (.inl (.inr (.inl rfl))) (.bool (aH x))).trans (Fr.of_ext hx2));have e1:=C1.out.cell' (u:=.bool (aH x)) 0 rfl;have e2:=C2.out.cell' (u:=.bool true) 0 rfl;have r2:=C2.out.frozen 0;clear hx2;go_wp2_with fail;go_ret;refine ⟨rfl,?_,?_,?_,?_⟩
   ·exact FR2.out.setCell (p:=⟨b2,0,none⟩) (.inl (.inr (.inr rfl))) _
   ·exact C0.out.far (p:=⟨b2,0,none⟩) h02 _
   ·exact C1.out.far (p:=⟨b2,0,none⟩) h12 _
   ·exact C2.out.set_ 0 _
def aAv {σ:Type}(M:Nat->Prop)(St:σ->World->Prop)(r:σ)(w:World)(e:Ending)(w':World):Prop :=
 e=.returned (.tuple #[])∧Fr M w w'∧St r w'
theorem uN {σ:Type}(g0 g1 g2:Nat)(M:Nat->Prop)(St:σ->World->Prop)(f:σ->GV->σ × Bool)(hF:aLg 177 #[.pointer (some ⟨g0,0,none⟩),.pointer (some ⟨g1,0,none⟩),.pointer (some ⟨g2,0,none⟩)] M St f)
  (s:σ)(x:GV)(A:Option Addr)(c:Nat)(P:Nat->Prop)(w:World)(hP:∀ b,P b->¬ M b)(hM:∀ b,M b->b<w.heap.size)(hs:St s w)(hx:VAt w P x A c) :
  Calls Tryz.prog 176 #[dS x A c,.func (.func 177) #[] #[.pointer (some ⟨g0,0,none⟩),.pointer (some ⟨g1,0,none⟩),.pointer (some ⟨g2,0,none⟩)]] w (aAv M St (vis f s x).1 w):=by
 have HX:=aZv hx;have HP:=aZv hP;have HM:=aZv hM;have HS:=aZv hs;clear hx hP hM hs;go_enter Tryz.func176,Tryz.ntmps176;go_wp2_with fail;refine (aA8 g0 g1 g2 M St f hF (gsz x+1) s x A c 1 P _ (w.heap.size+1) (w.heap.size+2) D HP.out (fun b hb=>by have:=HM.out b hb;simp;omega) (hF.keep _ _ _ HS.out (((((Ext.refl _).alloc' _).alloc' _).alloc' _))) (HX.out.ext (((((Ext.refl _).alloc' _).alloc' _).alloc' _))) ?_ ?_ ?_ ?_).mono ?_
 ·exact (Blk.new' _ _ _ U).alloc _
 ·exact Blk.new' _ _ _ U
 ·exact fun h=>by have:=HM.out _ h;omega
 ·exact fun h=>by have:=HM.out _ h;omega
 rintro e w1 ⟨rfl,hf1,hs1⟩;have HF1:=aZv ((Fr.of_ext (((((Ext.refl w).alloc' _).alloc' _).alloc' _))).trans hf1);have HS1:=aZv hs1;clear hf1 hs1;go_wp2_with fail;go_end0;exact ⟨rfl,HF1.out,HS1.out⟩
theorem uM {σ:Type}(g0:Nat)(M:Nat->Prop)(St:σ->World->Prop)(f:σ->GV->σ × Bool)(hF:aLg 180 #[.pointer (some ⟨g0,0,none⟩)] M St f)
  (s:σ)(x:GV)(A:Option Addr)(c:Nat)(P:Nat->Prop)(w:World)(hP:∀ b,P b->¬ M b)(hM:∀ b,M b->b<w.heap.size)(hs:St s w)(hx:VAt w P x A c) :
  Calls Tryz.prog 176 #[dS x A c,.func (.func 180) #[] #[.pointer (some ⟨g0,0,none⟩)]] w (aAv M St (vis f s x).1 w):=by
 have HX:=aZv hx;have HP:=aZv hP;have HM:=aZv hM;have HS:=aZv hs;clear hx hP hM hs;go_enter Tryz.func176,Tryz.ntmps176;go_wp2_with fail;refine (aA7 g0 M St f hF (gsz x+1) s x A c 1 P _ (w.heap.size+1) (w.heap.size+2) D HP.out (fun b hb=>by have:=HM.out b hb;simp;omega) (hF.keep _ _ _ HS.out (((((Ext.refl _).alloc' _).alloc' _).alloc' _))) (HX.out.ext (((((Ext.refl _).alloc' _).alloc' _).alloc' _))) ?_ ?_ ?_ ?_).mono ?_
 ·exact (Blk.new' _ _ _ U).alloc _
 ·exact Blk.new' _ _ _ U
 ·exact fun h=>by have:=HM.out _ h;omega
 ·exact fun h=>by have:=HM.out _ h;omega
 rintro e w1 ⟨rfl,hf1,hs1⟩;have HF1:=aZv ((Fr.of_ext (((((Ext.refl w).alloc' _).alloc' _).alloc' _))).trans hf1);have HS1:=aZv hs1;clear hf1 hs1;go_wp2_with fail;go_end0;exact ⟨rfl,HF1.out,HS1.out⟩
def aGd:Int->GV->Int × Bool
 | n,_=>(wrap64 (n+1),true)
def StS (b0:Nat)(s:Int)(w:World):Prop:=Blk w b0 3 #[↑s]
theorem aU6 (b0:Nat):aLg 180 #[.pointer (some ⟨b0,0,none⟩)] (fun b=>b=b0) (StS b0) aGd:=by
 refine ⟨?_,fun s w w' h hx=>Blk.ext h hx⟩;rintro n x A c d P w hP k0 hx;have k0':Blk w b0 3 #[↑n]:=k0;have K0:=aZv k0';have c0:=k0'.cell' (u:=↑n) 0 rfl;have f0:=k0'.frozen 0;have l0:=k0'.lt;clear k0 k0' hx hP;simp only [aGd]
 show Calls Tryz.prog 180 #[dS x A c,↑d,.pointer (some ⟨b0,0,none⟩)] w _
 go_enter Tryz.func180,Tryz.ntmps180;go_wp2_with fail;go_ret;refine ⟨rfl,?_,?_⟩
 ·exact ((Fr.refl (fun b=>b=b0) w).setCell (p:=⟨b0,0,none⟩) (.inl rfl) _).alloc _
 ·exact (K0.out.set_ 0 _).alloc _
def eQ (x:GV):Int :=
 if (vis uX (0,true,true) x).1.2.1=false then 1
 else if (vis uX (0,true,true) x).1.2.2=false∨1024<(vis uX (0,true,true) x).1.1 then 4
 else 0
theorem qF (x:GV)(A:Option Addr)(c:Nat)(P:Nat->Prop)(w:World)(hP:∀ b,P b->b<w.heap.size)(hx:VAt w P x A c) :
  Calls Tryz.prog 136 #[dS x A c] w (cT (.int .i64 (vis aGd 0 x).1) w):=by
 have HX:=aZv hx;have HP:=aZv hP;clear hx hP;go_enter Tryz.func136,Tryz.ntmps136;go_wp2_with fail;refine (uM (w.heap.size+1) (fun b=>b=w.heap.size+1) (StS (w.heap.size+1)) aGd (aU6 _) 0 x A c P _ ?_ ?_ ?_ (HX.out.ext ((((Ext.refl _).alloc' _).alloc' _)))).mono ?_
 ·rintro b hb rfl
  have:=HP.out _ hb;omega
 ·rintro b rfl
  simp
 ·exact Blk.new' _ _ _ U
 rintro e w1 ⟨rfl,hf1,hs1⟩;have hs2:Blk w1 (w.heap.size+1) 3 #[.int .i64 (vis aGd 0 x).1]:=hs1;have c0:=hs2.cell' (u:=.int .i64 (vis aGd 0 x).1) 0 rfl;have HF1:=aZv (((Fr.of_ext ((((Ext.refl w).alloc' _).alloc' _))).trans hf1));clear hf1 hs1 hs2;go_wp2_with fail;go_ret;exact ⟨rfl,HF1.out.new_ext (fun b hb=>by rw [hb];omega)⟩
theorem gE (x:GV)(A:Option Addr)(c:Nat)(P:Nat->Prop)(w:World)(hP:∀ b,P b->b<w.heap.size)(hx:VAt w P x A c) :
  Calls Tryz.prog 135 #[dS x A c] w (cT (.int .i64 (eQ x)) w):=by
 have HX:=aZv hx;have HP:=aZv hP
 have HV:=aZv (show eQ x=if (vis uX (0,true,true) x).1.2.1=false then 1
  else if (vis uX (0,true,true) x).1.2.2=false∨1024<(vis uX (0,true,true) x).1.1 then 4 else 0 from rfl)
 clear hx hP;go_enter Tryz.func135,Tryz.ntmps135;go_wp2_with fail;refine (uN (w.heap.size+1) (w.heap.size+2) (w.heap.size+3) (fun b=>b=w.heap.size+1∨b=w.heap.size+2∨b=w.heap.size+3) (StV _ _ _) uX (aU5 _ _ _ D D D) (0,true,true) x A c P _ ?_ ?_ ?_ (HX.out.ext ((((((Ext.refl _).alloc' _).alloc' _).alloc' _).alloc' _)))).mono ?_
 ·rintro b hb h
  have:=HP.out _ hb;omega
 ·rintro b h
  simp;omega
 ·exact ⟨((Blk.new' _ _ _ U).alloc _).alloc _,(Blk.new' _ _ _ U).alloc _,Blk.new' _ _ _ U⟩
 generalize vis uX (0,true,true) x=r at *;obtain ⟨⟨n,g,m⟩,b⟩:=r;rintro e w1 ⟨rfl,hf1,hs1,hs2,hs3⟩;have c0:=hs1.cell' (u:=↑n) 0 rfl;have c1:=hs2.cell' (u:=.bool g) 0 rfl;have c2:=hs3.cell' (u:=.bool m) 0 rfl;have HF1:=aZv (((Fr.of_ext ((((((Ext.refl w).alloc' _).alloc' _).alloc' _).alloc' _))).trans hf1).new_ext (fun b hb=>by omega));clear hf1 hs1 hs2 hs3
 cases g
 ·go_wp2_with fail
  go_ret;exact ⟨aL ik,HF1.out⟩
 ·cases m
  ·go_wp2_with fail
   go_ret;exact ⟨aL ik,HF1.out⟩
  ·go_wp2_with fail
   all_goals
    go_ret;refine ⟨aL ?_,HF1.out⟩;rw [HV.out]
    simp_all
    try omega
end Go.Proofs.YtkoeecdjijfjnaaGreat
