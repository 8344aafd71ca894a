/- Contracts and laws. Conditions: none. -/
import Derived.Laws.EntriesVeiled
import Derived.Test.YtkoeecdjijfjnaaGreatA3
set_option linter.all false
set_option maxRecDepth 100000
set_option maxHeartbeats 8000000
namespace Go.Proofs.YtkoeecdjijfjnaaGreat
open Go.RowKit
mutual
def vis {σ:Type}(f:σ->GV->σ × Bool):σ->GV->σ × Bool
 | s,.mk k n t l=>if (f s (.mk k n t l)).2 then uE f (f s (.mk k n t l)).1 l else ((f s (.mk k n t l)).1,false)
def uE {σ:Type}(f:σ->GV->σ × Bool):σ->List GV->σ × Bool
 | s,[]=>(s,true)
 | s,x :: xs=>if (vis f s x).2 then uE f (vis f s x).1 xs else ((vis f s x).1,false)
end
theorem aC4 {σ}(f:σ->GV->σ × Bool)(s:σ)(x):vis f s x=if (f s x).2 then uE f (f s x).1 x.kids else ((f s x).1,false):=by
 obtain ⟨k,n,t,l⟩:=x;simp only [vis,GV.kids]
theorem qD {σ}(f:σ->GV->σ × Bool)(s:σ):uE f s []=(s,true):=by simp only [uE]
theorem mG {σ}(f:σ->GV->σ × Bool)(s:σ)(x xs):uE f s (x :: xs)=if (vis f s x).2 then uE f (vis f s x).1 xs else ((vis f s x).1,false):=by
 simp only [uE]
structure aNq {σ:Type}(F:Nat)(caps:Array Value)(M:Nat->Prop)(St:σ->World->Prop)(f:σ->GV->σ × Bool):Prop where
 calls:∀ (s:σ) (x:GV) (A:Option Addr) (c:Nat) (d:Int) (P:Nat->Prop) (w:World),(∀ b,P b->¬ M b)->St s w->VAt w P x A c ->
  qg F (#[dA x A c,↑d] ++ caps) w (fun e w'=>e=.returned (.bool (f s x).2)∧Fr M w w'∧St (f s x).1 w')
 keep:∀ (s:σ) (w w':World),St s w->Ext w w'->St s w'
def tJ {σ:Type}(M:Nat->Prop)(St:σ->World->Prop)(r:σ × Bool)(w:World)(e:Ending)(w':World):Prop :=
 e=.returned r.2∧Fr M w w'∧St r.1 w'
def pD {σ:Type}(F:Nat)(caps:Array Value)(M:Nat->Prop)(St:σ->World->Prop)(f:σ->GV->σ × Bool)(N:Nat):Prop :=
 ∀ (s:σ) (x:GV) (A:Option Addr) (c:Nat) (d:Int) (P:Nat->Prop) (w:World) (bs bw:Nat),gsz x<N->(∀ b,P b->¬ M b)->(∀ b,M b->b<w)->St s w->VAt w P x A c ->
  Blk w bs 239 #[.func (.func F) #[] caps]->Blk w bw 239 #[.func (.func 200) #[] #[qp bs,qp bw]]->¬ M bs->¬ M bw ->
  qg 200 #[dA x A c,↑d,qp bs,qp bw] w (tJ M St (vis f s x) w)
def aNm {σ:Type}(f:σ->GV->σ × Bool)(M:Nat->Prop)(St:σ->World->Prop)(s0:σ)(l:List GV)(W:World)(i:Value)(wr:World):Prop :=
 ∃ (k:Nat) (s:σ),k<=l∧i=↑k∧Fr M W wr∧St s wr∧uE f s0 l=uE f s (l.drop k)
theorem aBq {σ}(g0 M)(St:σ->World->Prop)(f:σ->GV->σ × Bool)(hF:aNq 180 #[qp g0] M St f)(N)
  (hS:pD 180 #[qp g0] M St f N):pD 180 #[qp g0] M St f (N+1):=by
 intro s x A c d P w bs bw hN hP hM hs hx hbs hbw hms hmw;have HX:=a4b hx;have HP:=a4b hP;have HM:=a4b hM;have HSt:=a4b hs;have HBS:=a4b hbs;have HBW:=a4b hbw;have HMS:=a4b hms;have HMW:=a4b hmw;have hc1:=hbs.cell' 0 rfl;have hl1:=hbs.lt;have HV:=a4b (aC4 f s x);have HC:=a4b (hF.calls s x A c d P);have HN:=a4b (show ∀ z ∈ x.kids,gsz z<N from fun z hz=>by have:=eY hz;omega);have hx5:=hx.cap;clear hx hP hM hs hbs hbw hms hmw;generalize hfx:f s x=r at *;clear hfx;obtain ⟨s1,b1⟩:=r;go_enter Tryz.func200,Tryz.ntmps200;go_wp2_with fail;refine (HC.out _ HP.out (hF.keep _ _ _ HSt.out ((aq _).alloc' _)) (HX.out.ext ((aq _).alloc' _))).mono ?_;rintro e w1 ⟨rfl,hf1,hs1⟩;have HM0:=a4b (show ¬ M w.heap.size from fun h=>by have:=HM.out _ h;omega);have hbox:=((aw w 85 (qh x A c)).fr hf1 HM0.out);have HBOX:=a4b hbox;have hc3:=hbox.cell' 3 rfl;have HF1:=a4b (((au M w).alloc (qk (qh x A c) 85)).trans hf1);have HS1:=a4b hs1;clear hf1 hs1 hbox HC;cases b1
 ·go_wp2_with fail
  go_ret;unfold tJ;rw [HV.out];exact ⟨rfl,HF1.out,HS1.out⟩
 ·have HVT:=a4b (HV.out.trans (if_pos rfl))
  go_wp2_with fail;go_loopw [17] (fun i wr=>aNm f M St s1 x.kids w1 i wr) (fun i _=>x.kids.length - (intOf i).toNat)
  case atStart=>exact ⟨0,s1,af _,rfl,au _ _,HS1.out,rfl⟩
  case round =>
   obtain ⟨k,s2,hk,rfl,hfr,hs2,ht⟩:=hrel;have HT:=a4b ht;have HS2:=a4b hs2;have HFR:=a4b (HF1.out.trans hfr);have HF0:=a4b hfr;have hfr':=HFR.out;clear hfr hs2 ht;by_cases hlt:k<x.kids
   ·have HXK:=a4b (HX.out.kids.keep (aB.of_fr hfr' HP.out) (fun _ h=>h))
    obtain ⟨b1,o1,c1,A1,d1,e1,-,-,-,hv1,g10,g11,g12,g13⟩:=HXK.out.at_ hlt;cases e1;have HV1:=a4b hv1;have HM1:=a4b (HN.out _ (aD (d:=default) hlt));have HD:=a4b (show uE f s1 x.kids=uE f s2 (x.kids.getD k default :: x.kids.drop (k+1)) by rw [HT.out,<- aH default hlt]);have HBS2:=a4b (HBS.out.fr hfr' HMS.out);have HBW2:=a4b (HBW.out.fr hfr' HMW.out);have hw0:=HBW2.out.cell' 0 rfl;have hl2:=HBW2.out.lt;have HM2:=a4b (show ∀ b,M b->b<wr+1 from fun b hb=>by have:=HM.out b hb;have:=hfr'.size;omega);clear hv1 hfr' HXK;generalize x.kids.getD k default=y at *;go_wp2_with fail;refine (hS s2 y A1 d1 _ P _ bs bw HM1.out HP.out (by simpa using HM2.out) (hF.keep _ _ _ HS2.out ((aq _).alloc' _)) (HV1.out.ext ((aq _).alloc' _)) (HBS2.out.alloc _) (HBW2.out.alloc _) HMS.out HMW.out).mono ?_;rintro e w2 ⟨rfl,hf2,hs3⟩;have HF2:=a4b ((HFR.out.alloc _).trans hf2);have HFW:=a4b ((HF0.out.alloc _).trans hf2);have HS3:=a4b hs3;clear hf2 hs3;have HDC:=a4b (HD.out.trans (mG f s2 y _));generalize hvy:vis f s2 y=r2 at *;clear hvy;obtain ⟨s3,b3⟩:=r2;cases b3
    ·go_wp2_with fail
     go_ret;unfold tJ;rw [HVT.out,HDC.out];exact ⟨rfl,HF2.out,HS3.out⟩
    ·go_wp2_with fail
     go_roundw
     case rel=>exact ⟨k+1,s3,I,by go_num,HFW.out,HS3.out,HDC.out.trans O⟩
     case measure=>simp [intOf];omega
   ·have HZ:=a4b (show uE f s1 x.kids=(s2,true) by rw [HT.out,drop_nil I,qD])
    clear hfr';go_wp2_with fail;go_ret;unfold tJ;rw [HVT.out,HZ.out];exact ⟨rfl,HFR.out,HS2.out⟩
theorem aEx {σ}(g0 M)(St:σ->World->Prop)(f:σ->GV->σ × Bool)(hF:aNq 180 #[qp g0] M St f)(N):pD 180 #[qp g0] M St f N:=by
 induction N with
 | zero=>intro s x A c d P w bs bw hN;omega
 | succ N ih=>exact aBq g0 M St f hF N ih
theorem aBr {σ}(g0 g1 g2 M)(St:σ->World->Prop)(f:σ->GV->σ × Bool)(hF:aNq 177 #[qp g0,qp g1,qp g2] M St f)(N)
  (hS:pD 177 #[qp g0,qp g1,qp g2] M St f N):pD 177 #[qp g0,qp g1,qp g2] M St f (N+1):=by
 intro s x A c d P w bs bw hN hP hM hs hx hbs hbw hms hmw;have HX:=a4b hx;have HP:=a4b hP;have HM:=a4b hM;have HSt:=a4b hs;have HBS:=a4b hbs;have HBW:=a4b hbw;have HMS:=a4b hms;have HMW:=a4b hmw;have hc1:=hbs.cell' 0 rfl;have hl1:=hbs.lt;have HV:=a4b (aC4 f s x);have HC:=a4b (hF.calls s x A c d P);have HN:=a4b (show ∀ z ∈ x.kids,gsz z<N from fun z hz=>by have:=eY hz;omega);have hx5:=hx.cap;clear hx hP hM hs hbs hbw hms hmw;generalize hfx:f s x=r at *;clear hfx;obtain ⟨s1,b1⟩:=r;go_enter Tryz.func200,Tryz.ntmps200;go_wp2_with fail;refine (HC.out _ HP.out (hF.keep _ _ _ HSt.out ((aq _).alloc' _)) (HX.out.ext ((aq _).alloc' _))).mono ?_;rintro e w1 ⟨rfl,hf1,hs1⟩;have HM0:=a4b (show ¬ M w.heap.size from fun h=>by have:=HM.out _ h;omega);have hbox:=((aw w 85 (qh x A c)).fr hf1 HM0.out);have HBOX:=a4b hbox;have hc3:=hbox.cell' 3 rfl;have HF1:=a4b (((au M w).alloc (qk (qh x A c) 85)).trans hf1);have HS1:=a4b hs1;clear hf1 hs1 hbox HC;cases b1
 ·go_wp2_with fail
  go_ret;unfold tJ;rw [HV.out];exact ⟨rfl,HF1.out,HS1.out⟩
 ·have HVT:=a4b (HV.out.trans (if_pos rfl))
  go_wp2_with fail;go_loopw [17] (fun i wr=>aNm f M St s1 x.kids w1 i wr) (fun i _=>x.kids.length - (intOf i).toNat)
  case atStart=>exact ⟨0,s1,af _,rfl,au _ _,HS1.out,rfl⟩
  case round =>
   obtain ⟨k,s2,hk,rfl,hfr,hs2,ht⟩:=hrel;have HT:=a4b ht;have HS2:=a4b hs2;have HFR:=a4b (HF1.out.trans hfr);have HF0:=a4b hfr;have hfr':=HFR.out;clear hfr hs2 ht;by_cases hlt:k<x.kids
   ·have HXK:=a4b (HX.out.kids.keep (aB.of_fr hfr' HP.out) (fun _ h=>h))
    obtain ⟨b1,o1,c1,A1,d1,e1,-,-,-,hv1,g10,g11,g12,g13⟩:=HXK.out.at_ hlt;cases e1;have HV1:=a4b hv1;have HM1:=a4b (HN.out _ (aD (d:=default) hlt));have HD:=a4b (show uE f s1 x.kids=uE f s2 (x.kids.getD k default :: x.kids.drop (k+1)) by rw [HT.out,<- aH default hlt]);have HBS2:=a4b (HBS.out.fr hfr' HMS.out);have HBW2:=a4b (HBW.out.fr hfr' HMW.out);have hw0:=HBW2.out.cell' 0 rfl;have hl2:=HBW2.out.lt;have HM2:=a4b (show ∀ b,M b->b<wr+1 from fun b hb=>by have:=HM.out b hb;have:=hfr'.size;omega);clear hv1 hfr' HXK;generalize x.kids.getD k default=y at *;go_wp2_with fail;refine (hS s2 y A1 d1 _ P _ bs bw HM1.out HP.out (by simpa using HM2.out) (hF.keep _ _ _ HS2.out ((aq _).alloc' _)) (HV1.out.ext ((aq _).alloc' _)) (HBS2.out.alloc _) (HBW2.out.alloc _) HMS.out HMW.out).mono ?_;rintro e w2 ⟨rfl,hf2,hs3⟩;have HF2:=a4b ((HFR.out.alloc _).trans hf2);have HFW:=a4b ((HF0.out.alloc _).trans hf2);have HS3:=a4b hs3;clear hf2 hs3;have HDC:=a4b (HD.out.trans (mG f s2 y _));generalize hvy:vis f s2 y=r2 at *;clear hvy;obtain ⟨s3,b3⟩:=r2;cases b3
    ·go_wp2_with fail
     go_ret;unfold tJ;rw [HVT.out,HDC.out];exact ⟨rfl,HF2.out,HS3.out⟩
    ·go_wp2_with fail
     go_roundw
     case rel=>exact ⟨k+1,s3,I,by go_num,HFW.out,HS3.out,HDC.out.trans O⟩
     case measure=>simp [intOf];omega
   ·have HZ:=a4b (show uE f s1 x.kids=(s2,true) by rw [HT.out,drop_nil I,qD])
    clear hfr';go_wp2_with fail;go_ret;unfold tJ;rw [HVT.out,HZ.out];exact ⟨rfl,HFR.out,HS2.out⟩
theorem aEy {σ}(g0 g1 g2 M)(St:σ->World->Prop)(f:σ->GV->σ × Bool)(hF:aNq 177 #[qp g0,qp g1,qp g2] M St f)(N):pD 177 #[qp g0,qp g1,qp g2] M St f N:=by
 induction N with
 | zero=>intro s x A c d P w bs bw hN;omega
 | succ N ih=>exact aBr g0 g1 g2 M St f hF N ih
def jL (n:Int):Bool:=decide (97<=n∧n<=122∨65<=n∧n<=90∨48<=n∧n<=57∨n=95)
theorem aFl (n w) :
  Calls Tryz.prog 216 #[.int .u8 n] w fun e w'=>e=.returned (jL n)∧w=w':=by
 go_enter Tryz.func216,Tryz.ntmps216;go_wp2
 all_goals
  go_ret;refine ⟨aC ?_,rfl⟩;rw [Bool.eq_iff_iff];simp [jL];try omega
theorem rV (n):((n<48∨(58<=n∧n<=64)∨(91<=n∧n<=94)∨(96<=n∧n<=96)∨122<n)∧jL n=false) ∨
  (((48<=n∧n<=57)∨(65<=n∧n<=90)∨(95<=n∧n<=95)∨(97<=n∧n<=122))∧jL n=true):=by
 by_cases h:jL n=true
 ·refine .inr ⟨?_,h⟩
  have:=of_decide_eq_true (by unfold jL at h;exact h);omega
 ·refine .inl ⟨?_,fw⟩
  have h':jL n=false:=fw;unfold jL at h';have:=of_decide_eq_false h';omega
def qR (s:ByteArray):Bool:=decide (1<=s.size∧s.size<=16∧65<=((s.data.toList.getD 0 0).toNat:Int)∧((s.data.toList.getD 0 0).toNat:Int)<=90) && s.data.toList.all (fun c=>jL c.toNat)
theorem dE (s:ByteArray)(k)(h:k<s.size):s[k]=s.data.toList.getD k 0:=by
 have h':k<s.data.size:=h
 have e:s.data.toList.getD k 0=s.data[k]:=by
  rw [List.getD_eq_getElem?_getD,Array.getElem?_toList,Array.getElem?_eq_getElem h'];rfl
 rw [e];rfl
theorem fX {s}(h:s.size=0∨16<s.size∨((s.data.toList.getD 0 0).toNat:Int)<65∨90<((s.data.toList.getD 0 0).toNat:Int)):qR s=false:=by
 unfold qR;rw [a4f I];rfl
theorem kR (s:ByteArray):s.data.toList=s.size:=O
theorem uJ (s:ByteArray):s.toList=s.size:=by rw [ByteArray.toList_eq];exact kR s
theorem tR {s:ByteArray}(h:¬ s.size=0):s.toList.isEmpty=false:=by
 have h1:=uJ s;cases hl:s.toList with
 | nil=>rw [hl] at h1;exact absurd h1.symm h
 | cons a l=>rfl
def aJn (s:ByteArray)(lo:Nat)(w:World)(i:Value)(wr:World):Prop:=∃ k:Nat,lo<=k∧k<=s.size∧i=↑k∧wr=w∧qR s=(s.data.toList.drop k).all (fun c=>jL c.toNat)
theorem yH {s}(h0:¬ s.size=0)(h1:¬ 16<s.size)(h2:65<=((s.data.toList.getD 0 0).toNat:Int))(h3:((s.data.toList.getD 0 0).toNat:Int)<=90) :
  qR s=(s.data.toList.drop 0).all (fun c=>jL c.toNat):=by
 unfold qR;rw [a4e I];rfl
theorem aI0 {s}(h0:¬ s.size=0)(h1:¬ 16<s.size)(h2:65<=((s.data.toList.getD 0 0).toNat:Int))(h3:((s.data.toList.getD 0 0).toNat:Int)<=90) :
  qR s=(s.data.toList.drop 1).all (fun c=>jL c.toNat):=by
 rw [yH h0 h1 h2 h3,aH 0 (show 0<s.data.toList.length by rw [kR];omega)];simp only [List.all_cons];rw [show jL ((s.data.toList.getD 0 0).toNat:Int)=true by unfold jL;rw [a4e];omega];rfl
theorem jC {s:ByteArray}{k}(h:k<s.size)(p:UInt8->Bool):(s.data.toList.drop k).all p=(p s[k] && (s.data.toList.drop (k+1)).all p):=by
 rw [aH 0 (show k<s.data.toList by rw [kR];exact h),dE s k h];rfl
theorem aCw (s:ByteArray)(w)(hs:s.size<=17592186044416) :
  Calls Tryz.prog 201 #[s] w fun e w'=>e=.returned (qR s)∧w=w':=by
 by_cases h0:s.size=0
 ·have h0':s.toList.isEmpty=true:=by
   have h1:=uJ s;cases hl:s.toList with
   | nil=>rfl
   | cons a l=>rw [hl] at h1;simp at h1;omega
  have HC:=a4b (fX (s:=s) (.inl h0));clear h0;go_enter Tryz.func201,Tryz.ntmps201;go_wp2_with fail;go_ret;exact ⟨aC HC.out.symm,rfl⟩
 have h0':=tR h0;have h00:0<s.size:=by omega
 by_cases h1:16<s.size
 ·have HC:=a4b (fX (s:=s) (.inr (.inl h1)))
  clear h0;go_enter Tryz.func201,Tryz.ntmps201;go_wp2_with fail;go_ret;exact ⟨aC HC.out.symm,rfl⟩
 by_cases h2:((s[0]).toNat:Int)<65
 ·have HC:=a4b (fX (s:=s) (.inr (.inr (.inl iq))))
  clear h0;go_enter Tryz.func201,Tryz.ntmps201;go_wp2_with fail;go_ret;exact ⟨aC HC.out.symm,rfl⟩
 by_cases h3:90<((s[0]).toNat:Int)
 ·have HC:=a4b (fX (s:=s) (.inr (.inr (.inr ir))))
  clear h0;go_enter Tryz.func201,Tryz.ntmps201;go_wp2_with fail;go_ret;exact ⟨aC HC.out.symm,rfl⟩
 have HC:=a4b (aI0 h0 h1 fj fj);have t1:decide (16<(s.size:Int))=false:=by simp;omega
 clear h0;go_enter Tryz.func201,Tryz.ntmps201;go_wp2_with fail;go_loopw [3] (fun i wr=>aJn s 1 w i wr) (fun i _=>s.size - (intOf i).toNat)
 case atStart=>exact ⟨1,I,I,rfl,rfl,HC.out⟩
 case round =>
  obtain ⟨k,hk1,hk,rfl,rfl,hc⟩:=hrel;have HK:=a4b hc;clear hc;by_cases hlt:k<s.size
  ·have HA:=a4b (HK.out.trans (jC hlt _))
   go_wp2_with fail;refine (aFl _ _).mono ?_;rintro e w' ⟨rfl,rfl⟩;go_wp2_with fail
   ·have hz':(!jL ((s[k]).toNat:Int))=true:=by assumption
    have hz:jL ((s[k]).toNat:Int)=false:=by simpa using hz'
    go_ret;exact ⟨aC (by rw [HA.out,hz];rfl),rfl⟩
   ·have hz':(!jL ((s[k]).toNat:Int))=false:=by assumption
    have hz:jL ((s[k]).toNat:Int)=true:=by simpa using hz'
    go_roundw
    case rel=>exact ⟨k+1,I,I,by go_num,rfl,by rw [HA.out,hz];rfl⟩
    case measure=>simp [intOf];omega
  ·go_wp2_with fail
   go_ret;exact ⟨aC fv,rfl⟩
theorem aS (s:ByteArray)(w)(hs:s.size<=17592186044416) :
  Calls Tryz.prog 187 #[s] w fun e w'=>e=.returned (qR s)∧w=w':=by
 by_cases h0:s.size=0
 ·have t0:decide ((s.size:Int)<1)=true:=by simp [h0]
  have HC:=a4b (fX (s:=s) (.inl h0));clear h0;go_enter Tryz.func187,Tryz.ntmps187;go_wp2_with fail;go_ret;exact ⟨aC HC.out.symm,rfl⟩
 have t0:decide ((s.size:Int)<1)=false:=bh;have h00:0<s.size:=I;by_cases h1:16<s.size
 ·have HC:=a4b (fX (s:=s) (.inr (.inl h1)))
  clear h0;go_enter Tryz.func187,Tryz.ntmps187;go_wp2_with fail;go_ret;exact ⟨aC HC.out.symm,rfl⟩
 by_cases h2:((s[0]).toNat:Int)<65
 ·have HC:=a4b (fX (s:=s) (.inr (.inr (.inl iq))))
  clear h0;go_enter Tryz.func187,Tryz.ntmps187;go_wp2_with fail;go_ret;exact ⟨aC HC.out.symm,rfl⟩
 by_cases h3:90<((s[0]).toNat:Int)
 ·have HC:=a4b (fX (s:=s) (.inr (.inr (.inr ir))))
  clear h0;go_enter Tryz.func187,Tryz.ntmps187;go_wp2_with fail;go_ret;exact ⟨aC HC.out.symm,rfl⟩
 have HC:=a4b (yH h0 h1 fj fj);have t1:decide (16<(s.size:Int))=false:=by simp;omega
 clear h0;go_enter Tryz.func187,Tryz.ntmps187;go_wp2_with fail;go_loopw [3] (fun i wr=>aJn s 0 w i wr) (fun i _=>s.size - (intOf i).toNat)
 case atStart=>exact ⟨0,I,I,rfl,rfl,HC.out⟩
 case round =>
  obtain ⟨k,hk1,hk,rfl,rfl,hc⟩:=hrel;have HK:=a4b hc;clear hc;by_cases hlt:k<s.size
  ·have HA:=a4b (HK.out.trans (jC hlt _))
   rcases rV ((s[k]).toNat:Int) with ⟨hp,hz⟩ | ⟨hp,hz⟩
   ·have HA2:=a4b (HA.out.trans (by rw [hz,Bool.false_and]))
    clear hz HA;rcases hp with hp | ⟨hp,hp'⟩ | ⟨hp,hp'⟩ | ⟨hp,hp'⟩ | hp
    all_goals
     first | have d122:decide (((s[k]).toNat:Int)<=122)=true:=a4e I | have d122:decide (((s[k]).toNat:Int)<=122)=false:=a4f I
     first | have d90:decide (((s[k]).toNat:Int)<=90)=true:=a4e I | have d90:decide (((s[k]).toNat:Int)<=90)=false:=a4f I
     first | have d57:decide (((s[k]).toNat:Int)<=57)=true:=a4e I | have d57:decide (((s[k]).toNat:Int)<=57)=false:=a4f I
     first | have dn:(((s[k]).toNat:Int) != 95)=true:=bne_iff_ne.2 I | have dn:(((s[k]).toNat:Int) != 95)=false:=by rw [bne_eq_false_iff_eq];omega
     first | have de:(((s[k]).toNat:Int) == 95)=false:=a4c I | have de:(((s[k]).toNat:Int) == 95)=true:=a4d I
     go_wp2_with fail;go_ret;exact ⟨aC HA2.out.symm,rfl⟩
   ·have HA2:=a4b (HA.out.trans (by rw [hz,Bool.true_and]))
    clear hz HA;rcases hp with ⟨hp,hp'⟩ | ⟨hp,hp'⟩ | ⟨hp,hp'⟩ | ⟨hp,hp'⟩
    all_goals
     first | have d122:decide (((s[k]).toNat:Int)<=122)=true:=a4e I | have d122:decide (((s[k]).toNat:Int)<=122)=false:=a4f I
     first | have d90:decide (((s[k]).toNat:Int)<=90)=true:=a4e I | have d90:decide (((s[k]).toNat:Int)<=90)=false:=a4f I
     first | have d57:decide (((s[k]).toNat:Int)<=57)=true:=a4e I | have d57:decide (((s[k]).toNat:Int)<=57)=false:=a4f I
     first | have dn:(((s[k]).toNat:Int) != 95)=true:=bne_iff_ne.2 I | have dn:(((s[k]).toNat:Int) != 95)=false:=by rw [bne_eq_false_iff_eq];omega
     first | have de:(((s[k]).toNat:Int) == 95)=false:=a4c I | have de:(((s[k]).toNat:Int) == 95)=true:=a4d I
     go_wp2_with fail;go_roundw
     case rel=>exact ⟨k+1,I,I,by go_num,rfl,HA2.out⟩
     case measure=>simp [intOf];omega
  ·go_wp2_with fail
   go_ret;exact ⟨aC fv,rfl⟩
theorem uB (s:ByteArray)(w)(hs:s.size<=17592186044416) :
  Calls Tryz.prog 151 #[s] w fun e w'=>e=.returned (qR s)∧w=w':=by
 by_cases h0:s.size=0
 ·have t0:((s.size:Int) == 0)=true:=by simp [h0]
  have HC:=a4b (fX (s:=s) (.inl h0));clear h0;go_enter Tryz.func151,Tryz.ntmps151;go_wp2_with fail;go_ret;exact ⟨aC HC.out.symm,rfl⟩
 have t0:((s.size:Int) == 0)=false:=a4c I;have h00:0<s.size:=by omega
 by_cases h1:16<s.size
 ·have HC:=a4b (fX (s:=s) (.inr (.inl h1)))
  clear h0;go_enter Tryz.func151,Tryz.ntmps151;go_wp2_with fail;go_ret;exact ⟨aC HC.out.symm,rfl⟩
 by_cases h2:((s[0]).toNat:Int)<65
 ·have HC:=a4b (fX (s:=s) (.inr (.inr (.inl iq))))
  clear h0;go_enter Tryz.func151,Tryz.ntmps151;go_wp2_with fail;go_ret;exact ⟨aC HC.out.symm,rfl⟩
 by_cases h3:90<((s[0]).toNat:Int)
 ·have HC:=a4b (fX (s:=s) (.inr (.inr (.inr ir))))
  clear h0;go_enter Tryz.func151,Tryz.ntmps151;go_wp2_with fail;go_ret;exact ⟨aC HC.out.symm,rfl⟩
 have HC:=a4b (yH h0 h1 fj fj);have t1:decide (16<(s.size:Int))=false:=by simp;omega
 clear h0;go_enter Tryz.func151,Tryz.ntmps151;go_wp2_with fail;go_loopw [3] (fun i wr=>aJn s 0 w i wr) (fun i _=>s.size - (intOf i).toNat)
 case atStart=>exact ⟨0,I,I,rfl,rfl,HC.out⟩
 case round =>
  obtain ⟨k,hk1,hk,rfl,rfl,hc⟩:=hrel;have HK:=a4b hc;clear hc;by_cases hlt:k<s.size
  ·have HA:=a4b (HK.out.trans (jC hlt _))
   rcases rV ((s[k]).toNat:Int) with ⟨hp,hz⟩ | ⟨hp,hz⟩
   ·have HA2:=a4b (HA.out.trans (by rw [hz,Bool.false_and]))
    clear hz HA;rcases hp with hp | ⟨hp,hp'⟩ | ⟨hp,hp'⟩ | ⟨hp,hp'⟩ | hp
    all_goals
     first | have d122:decide (((s[k]).toNat:Int)<=122)=true:=a4e I | have d122:decide (((s[k]).toNat:Int)<=122)=false:=a4f I
     first | have d90:decide (((s[k]).toNat:Int)<=90)=true:=a4e I | have d90:decide (((s[k]).toNat:Int)<=90)=false:=a4f I
     first | have d57:decide (((s[k]).toNat:Int)<=57)=true:=a4e I | have d57:decide (((s[k]).toNat:Int)<=57)=false:=a4f I
     first | have dn:(((s[k]).toNat:Int) != 95)=true:=bne_iff_ne.2 I | have dn:(((s[k]).toNat:Int) != 95)=false:=by rw [bne_eq_false_iff_eq];omega
     first | have de:(((s[k]).toNat:Int) == 95)=false:=a4c I | have de:(((s[k]).toNat:Int) == 95)=true:=a4d I
     go_wp2_with fail;go_ret;exact ⟨aC HA2.out.symm,rfl⟩
   ·have HA2:=a4b (HA.out.trans (by rw [hz,Bool.true_and]))
    clear hz HA;rcases hp with ⟨hp,hp'⟩ | ⟨hp,hp'⟩ | ⟨hp,hp'⟩ | ⟨hp,hp'⟩
    all_goals
     first | have d122:decide (((s[k]).toNat:Int)<=122)=true:=a4e I | have d122:decide (((s[k]).toNat:Int)<=122)=false:=a4f I
     first | have d90:decide (((s[k]).toNat:Int)<=90)=true:=a4e I | have d90:decide (((s[k]).toNat:Int)<=90)=false:=a4f I
     first | have d57:decide (((s[k]).toNat:Int)<=57)=true:=a4e I | have d57:decide (((s[k]).toNat:Int)<=57)=false:=a4f I
     first | have dn:(((s[k]).toNat:Int) != 95)=true:=bne_iff_ne.2 I | have dn:(((s[k]).toNat:Int) != 95)=false:=by rw [bne_eq_false_iff_eq];omega
     first | have de:(((s[k]).toNat:Int) == 95)=false:=a4c I | have de:(((s[k]).toNat:Int) == 95)=true:=a4d I
     go_wp2_with fail;go_roundw
     case rel=>exact ⟨k+1,I,I,by go_num,rfl,HA2.out⟩
     case measure=>simp [intOf];omega
  ·go_wp2_with fail
   go_ret;exact ⟨aC fv,rfl⟩
def aU (s:ByteArray):Bool:=s.toList.isEmpty
def sM (x:GV):Bool:=decide (x.kids.length<=256) && (decide (x.kind ≠ 3) || decide (x.kids.length<=16))
def aE (x:GV):Bool :=
 if x.kind=0 then aU x.s && decide (x.kids.length=0)
 else if x.kind=1 then decide (x.n=0∨x.n=1) && aU x.s && decide (x.kids.length=0)
 else if x.kind=2 then decide (x.n=0) && aU x.s
 else if x.kind=3 then decide (x.n=0) && qR x.s
 else false
theorem aDt (x A c w)(h2:x.kids<=c)(_:x.kids.length<=17592186044416∧c<=9223372036854775807) :
  qg 179 #[dA x A c] w (dI (sM x) w):=by
 obtain ⟨k,n,s,l⟩:=x;have HF:=a4b (show sM (.mk k n s l)=(decide (l.length<=256) && (decide (k ≠ 3) || decide (l.length<=16))) from rfl);simp only [GV.kids] at h2;change qg 179 #[.agg #[↑k,↑n,s,.slice A l c]] w _;go_enter Tryz.func179,Tryz.ntmps179;go_wp2_with fail
 all_goals
  go_ret;refine ⟨aC ?_,(aq _).alloc' _⟩;rw [HF.out,Bool.eq_iff_iff]
  simp_all
  try omega
theorem aFm (x A c w)(h1:x.s.size<=17592186044416)(h2:x.kids<=c)(_:x.kids.length<=17592186044416∧c<=9223372036854775807) :
  qg 178 #[dA x A c] w (dI (aE x) w):=by
 obtain ⟨k,n,s,l⟩:=x;simp only [GV.kids,GV.s] at h1 h2;have HF:=a4b (show aE (.mk k n s l)=(if k=0 then aU s && decide (l.length=0) else if k=1 then decide (n=0∨n=1) && aU s && decide (l.length=0) else if k=2 then decide (n=0) && aU s else if k=3 then decide (n=0) && qR s else false) from rfl);change qg 178 #[.agg #[↑k,↑n,s,.slice A l c]] w _;go_enter Tryz.func178,Tryz.ntmps178;go_wp2_with (go_at_call 201;refine (aCw _ _ h1).mono ?_;rintro e w' ⟨rfl,rfl⟩)
 all_goals
  go_ret;refine ⟨aC ?_,(aq _).alloc' _⟩;rw [HF.out,Bool.eq_iff_iff]
  simp_all [aU]
  try omega
def zM:Int × Bool × Bool->GV->(Int × Bool × Bool) × Bool
 | (n,g,m),x=>((wrap64 (n+1),g && aE x,m && sM x),g && aE x)
def StV (b0 b1 b2:Nat)(s:Int × Bool × Bool)(w:World):Prop :=
 Blk w b0 3 #[.int .i64 s.1]∧Blk w b1 4 #[s.2.1]∧Blk w b2 4 #[s.2.2]
theorem aW0 (b0 b1 b2)(h01:b0 ≠ b1)(h02:b0 ≠ b2)(h12:b1 ≠ b2) :
  aNq 177 #[qp b0,qp b1,qp b2] (fun b=>b=b0∨b=b1∨b=b2) (StV b0 b1 b2) zM:=by
 refine ⟨?_,fun s w w' h hx=>⟨h.1.ext hx,h.2.1.ext hx,h.2.2.ext hx⟩⟩;rintro ⟨n,g,m⟩ x A c d P w hP ⟨k0,k1,k2⟩ hx;have HX:=a4b hx;have K0:=a4b k0;have K1:=a4b k1;have K2:=a4b k2;have c0:=k0.cell' (u:=↑n) 0 rfl;have c1:=k1.cell' (u:=g) 0 rfl;have c2:=k2.cell' (u:=m) 0 rfl;have f0:=k0.frozen 0;have f1:=k1.frozen 0;have f2:=k2.frozen 0;have l0:=k0.lt;have l1:=k1.lt;have l2:=k2.lt;clear k0 k1 k2 hx hP;simp only [zM];show qg 177 #[dA x A c,↑d,qp b0,qp b1,qp b2] w _;have HFR:=a4b (show Fr (fun b=>b=b0∨b=b1∨b=b2) w w from au _ _);cases g
 ·cases m
  ·go_enter Tryz.func177,Tryz.ntmps177
   go_wp2_with fail;go_ret;refine ⟨rfl,?_,?_,?_,?_⟩
   ·exact (((HFR.out.setCell (p:=qp b0) (.inl (.inl rfl)) _).setCell (p:=qp b1) (.inl (.inr (.inl rfl))) _).setCell (p:=qp b2) (.inl (.inr (.inr rfl))) _).alloc _
   ·exact (((K0.out.set_ 0 _).far (p:=qp b1) h01 _).far (p:=qp b2) h02 _).alloc _
   ·exact (((K1.out.far (p:=qp b0) h01.symm _).set_ 0 _).far (p:=qp b2) h12 _).alloc _
   ·exact (((K2.out.far (p:=qp b0) h02.symm _).far (p:=qp b1) h12.symm _).set_ 0 _).alloc _
  ·go_enter Tryz.func177,Tryz.ntmps177
   go_wp2_with fail;refine (aDt x A c _ HX.out.len HX.out.cap).mono ?_;rintro e w1 ⟨rfl,hx1⟩;have B0:=a4b ((((K0.out.set_ 0 (.int .i64 (wrap64 (n+1)))).far (p:=qp b1) h01 false).alloc (qk (qh x A c) 85)).ext hx1);have B1:=a4b ((((K1.out.far (p:=qp b0) h01.symm (.int .i64 (wrap64 (n+1)))).set_ 0 false).alloc (qk (qh x A c) 85)).ext hx1);have B2:=a4b ((((K2.out.far (p:=qp b0) h02.symm (.int .i64 (wrap64 (n+1)))).far (p:=qp b1) h12.symm false).alloc (qk (qh x A c) 85)).ext hx1);have FR:=a4b ((((HFR.out.setCell (p:=qp b0) (.inl (.inl rfl)) (.int .i64 (wrap64 (n+1)))).setCell (p:=qp b1) (.inl (.inr (.inl rfl))) false).alloc (qk (qh x A c) 85)).trans (ar hx1));have d1:=B1.out.cell' (u:=false) 0 rfl;have d2:=B2.out.cell' (u:=true) 0 rfl;have q2:=B2.out.frozen 0;clear hx1;go_wp2_with fail;go_ret;refine ⟨rfl,?_,?_,?_,?_⟩
   ·exact FR.out.setCell (p:=qp b2) (.inl (.inr (.inr rfl))) _
   ·exact B0.out.far (p:=qp b2) h02 _
   ·exact B1.out.far (p:=qp b2) h12 _
   ·exact B2.out.set_ 0 _
 ·go_enter Tryz.func177,Tryz.ntmps177
  go_wp2_with fail;refine (aFm x A c _ HX.out.s HX.out.len HX.out.cap).mono ?_;rintro e w1 ⟨rfl,hx1⟩;have B0:=a4b (((K0.out.set_ 0 (.int .i64 (wrap64 (n+1)))).alloc (qk (qh x A c) 85)).ext hx1);have B1:=a4b (((K1.out.far (p:=qp b0) h01.symm (.int .i64 (wrap64 (n+1)))).alloc (qk (qh x A c) 85)).ext hx1);have B2:=a4b (((K2.out.far (p:=qp b0) h02.symm (.int .i64 (wrap64 (n+1)))).alloc (qk (qh x A c) 85)).ext hx1);have BX:=a4b ((az (w.setCell (qp b0) (.int .i64 (wrap64 (n+1)))) 85 (qh x A c) (g:=w.heap.size) gj).ext hx1);have FR:=a4b (((HFR.out.setCell (p:=qp b0) (.inl (.inl rfl)) (.int .i64 (wrap64 (n+1)))).alloc (qk (qh x A c) 85)).trans (ar hx1));have d1:=B1.out.cell' (u:=true) 0 rfl;have q1:=B1.out.frozen 0;have d2:=B2.out.cell' (u:=m) 0 rfl;have q2:=B2.out.frozen 0;have x0:=BX.out.cell' (u:=↑x.kind) 0 rfl;have x1:=BX.out.cell' (u:=↑x.n) 1 rfl;have x2:=BX.out.cell' (u:=x.s) 2 rfl;have x3:=BX.out.cell' (u:=.slice A x.kids c) 3 rfl;clear hx1 c0 c1 c2 f0 f1 f2;cases m
  ·go_wp2_with fail
   go_ret;refine ⟨rfl,?_,?_,?_,?_⟩
   ·exact (FR.out.setCell (p:=qp b1) (.inl (.inr (.inl rfl))) _).setCell (p:=qp b2) (.inl (.inr (.inr rfl))) _
   ·exact (B0.out.far (p:=qp b1) h01 _).far (p:=qp b2) h02 _
   ·exact (B1.out.set_ 0 _).far (p:=qp b2) h12 _
   ·exact (B2.out.far (p:=qp b1) h12.symm _).set_ 0 _
  ·go_wp2_with fail
   refine (aDt x A c _ HX.out.len HX.out.cap).mono ?_;rintro e w2 ⟨rfl,hx2⟩;have C0:=a4b ((B0.out.far (p:=qp b1) h01 (aE x)).ext hx2);have C1:=a4b ((B1.out.set_ 0 (aE x)).ext hx2);have C2:=a4b ((B2.out.far (p:=qp b1) h12.symm (aE x)).ext hx2);have FR2:=a4b ((FR.out.setCell (p:=qp b1) (.inl (.inr (.inl rfl))) (aE x)).trans (ar hx2));have e1:=C1.out.cell' (u:=(aE x)) 0 rfl;have e2:=C2.out.cell' (u:=true) 0 rfl;have r2:=C2.out.frozen 0;clear hx2;go_wp2_with fail;go_ret;refine ⟨rfl,?_,?_,?_,?_⟩
   ·exact FR2.out.setCell (p:=qp b2) (.inl (.inr (.inr rfl))) _
   ·exact C0.out.far (p:=qp b2) h02 _
   ·exact C1.out.far (p:=qp b2) h12 _
   ·exact C2.out.set_ 0 _
def aEk {σ:Type}(M:Nat->Prop)(St:σ->World->Prop)(r:σ)(w:World)(e:Ending)(w':World):Prop :=
 e=.returned (.tuple #[])∧Fr M w w'∧St r w'
theorem zC {σ}(g0 g1 g2 M)(St:σ->World->Prop)(f:σ->GV->σ × Bool)(hF:aNq 177 #[qp g0,qp g1,qp g2] M St f)
  (s:σ)(x A c P)(w:World)(hP:∀ b,P b->¬ M b)(hM:∀ b,M b->b<w)(hs:St s w)(hx:VAt w P x A c) :
  qg 176 #[dA x A c,.func (.func 177) #[] #[qp g0,qp g1,qp g2]] w (aEk M St (vis f s x).1 w):=by
 have HX:=a4b hx;have HP:=a4b hP;have HM:=a4b hM;have HS:=a4b hs;clear hx hP hM hs;go_enter Tryz.func176,Tryz.ntmps176;go_wp2_with fail;refine (aEy g0 g1 g2 M St f hF (gsz x+1) s x A c 1 P _ (w+1) (w+2) I HP.out (fun b hb=>by have:=HM.out b hb;simp;omega) (hF.keep _ _ _ HS.out (((((aq _).alloc' _).alloc' _).alloc' _))) (HX.out.ext (((((aq _).alloc' _).alloc' _).alloc' _))) ?_ ?_ ?_ ?_).mono ?_
 ·exact (az _ _ _ O).alloc _
 ·exact az _ _ _ O
 ·exact fun h=>by have:=HM.out _ h;omega
 ·exact fun h=>by have:=HM.out _ h;omega
 rintro e w1 ⟨rfl,hf1,hs1⟩;have HF1:=a4b ((ar (((((aq w).alloc' _).alloc' _).alloc' _))).trans hf1);have HS1:=a4b hs1;clear hf1 hs1;go_wp2_with fail;go_end0;exact ⟨rfl,HF1.out,HS1.out⟩
theorem zB {σ}(g0 M)(St:σ->World->Prop)(f:σ->GV->σ × Bool)(hF:aNq 180 #[qp g0] M St f)
  (s:σ)(x A c P)(w:World)(hP:∀ b,P b->¬ M b)(hM:∀ b,M b->b<w)(hs:St s w)(hx:VAt w P x A c) :
  qg 176 #[dA x A c,.func (.func 180) #[] #[qp g0]] w (aEk M St (vis f s x).1 w):=by
 have HX:=a4b hx;have HP:=a4b hP;have HM:=a4b hM;have HS:=a4b hs;clear hx hP hM hs;go_enter Tryz.func176,Tryz.ntmps176;go_wp2_with fail;refine (aEx g0 M St f hF (gsz x+1) s x A c 1 P _ (w+1) (w+2) I HP.out (fun b hb=>by have:=HM.out b hb;simp;omega) (hF.keep _ _ _ HS.out (((((aq _).alloc' _).alloc' _).alloc' _))) (HX.out.ext (((((aq _).alloc' _).alloc' _).alloc' _))) ?_ ?_ ?_ ?_).mono ?_
 ·exact (az _ _ _ O).alloc _
 ·exact az _ _ _ O
 ·exact fun h=>by have:=HM.out _ h;omega
 ·exact fun h=>by have:=HM.out _ h;omega
 rintro e w1 ⟨rfl,hf1,hs1⟩;have HF1:=a4b ((ar (((((aq w).alloc' _).alloc' _).alloc' _))).trans hf1);have HS1:=a4b hs1;clear hf1 hs1;go_wp2_with fail;go_end0;exact ⟨rfl,HF1.out,HS1.out⟩
def aJq:Int->GV->Int × Bool
 | n,_=>(wrap64 (n+1),true)
def StS (b0:Nat)(s:Int)(w:World):Prop:=Blk w b0 3 #[↑s]
theorem aW1 (b0):aNq 180 #[qp b0] (fun b=>b=b0) (StS b0) aJq:=by
 refine ⟨?_,fun s w w' h hx=>Blk.ext h hx⟩;rintro n x A c d P w hP k0 hx;have k0':Blk w b0 3 #[↑n]:=k0;have K0:=a4b k0';have c0:=k0'.cell' (u:=↑n) 0 rfl;have f0:=k0'.frozen 0;have l0:=k0'.lt;clear k0 k0' hx hP;simp only [aJq];show qg 180 #[dA x A c,↑d,qp b0] w _;go_enter Tryz.func180,Tryz.ntmps180;go_wp2_with fail;go_ret;refine ⟨rfl,?_,?_⟩
 ·exact ((au (fun b=>b=b0) w).setCell (p:=qp b0) (.inl rfl) _).alloc _
 ·exact (K0.out.set_ 0 _).alloc _
def eQ (x:GV):Int :=
 if (vis zM (0,true,true) x).1.2.1=false then 1
 else if (vis zM (0,true,true) x).1.2.2=false∨1024<(vis zM (0,true,true) x).1.1 then 4
 else 0
theorem tP (x A c)(P:Nat->Prop)(w:World)(hP:∀ b,P b->b<w)(hx:VAt w P x A c) :
  qg 136 #[dA x A c] w (dI (.int .i64 (vis aJq 0 x).1) w):=by
 have HX:=a4b hx;have HP:=a4b hP;clear hx hP;go_enter Tryz.func136,Tryz.ntmps136;go_wp2_with fail;refine (zB (w+1) (fun b=>b=w.heap.size+1) (StS (w+1)) aJq (aW1 _) 0 x A c P _ ?_ ?_ ?_ (HX.out.ext ((((aq _).alloc' _).alloc' _)))).mono ?_
 ·rintro b hb rfl
  have:=HP.out _ hb;omega
 ·rintro b rfl
  simp
 ·exact az _ _ _ O
 rintro e w1 ⟨rfl,hf1,hs1⟩;have hs2:Blk w1 (w+1) 3 #[.int .i64 (vis aJq 0 x).1]:=hs1;have c0:=hs2.cell' (u:=.int .i64 (vis aJq 0 x).1) 0 rfl;have HF1:=a4b (((ar ((((aq w).alloc' _).alloc' _))).trans hf1));clear hf1 hs1 hs2;go_wp2_with fail;go_ret;exact ⟨rfl,HF1.out.new_ext (fun b hb=>by rw [hb];omega)⟩
theorem gJ (x A c)(P:Nat->Prop)(w:World)(hP:∀ b,P b->b<w)(hx:VAt w P x A c) :
  qg 135 #[dA x A c] w (dI (.int .i64 (eQ x)) w):=by
 have HX:=a4b hx;have HP:=a4b hP
 have HV:=a4b (show eQ x=if (vis zM (0,true,true) x).1.2.1=false then 1
  else if (vis zM (0,true,true) x).1.2.2=false∨1024<(vis zM (0,true,true) x).1.1 then 4 else 0 from rfl)
 clear hx hP;go_enter Tryz.func135,Tryz.ntmps135;go_wp2_with fail;refine (zC (w+1) (w+2) (w+3) (fun b=>b=w.heap.size+1∨b=w.heap.size+2∨b=w.heap.size+3) (StV _ _ _) zM (aW0 _ _ _ I I I) (0,true,true) x A c P _ ?_ ?_ ?_ (HX.out.ext ((((((aq _).alloc' _).alloc' _).alloc' _).alloc' _)))).mono ?_
 ·rintro b hb h
  have:=HP.out _ hb;omega
 ·rintro b h
  simp;omega
 ·exact ⟨((az _ _ _ O).alloc _).alloc _,(az _ _ _ O).alloc _,az _ _ _ O⟩
 generalize vis zM (0,true,true) x=r at *;obtain ⟨⟨n,g,m⟩,b⟩:=r;rintro e w1 ⟨rfl,hf1,hs1,hs2,hs3⟩;have c0:=hs1.cell' (u:=↑n) 0 rfl;have c1:=hs2.cell' (u:=g) 0 rfl;have c2:=hs3.cell' (u:=m) 0 rfl;have HF1:=a4b (((ar ((((((aq w).alloc' _).alloc' _).alloc' _).alloc' _))).trans hf1).new_ext (fun b hb=>by omega));clear hf1 hs1 hs2 hs3;cases g
 ·go_wp2_with fail
  go_ret;exact ⟨aI i9,HF1.out⟩
 ·cases m
  ·go_wp2_with fail
   go_ret;exact ⟨aI i9,HF1.out⟩
  ·go_wp2_with fail
   all_goals
    go_ret;refine ⟨aI ?_,HF1.out⟩;rw [HV.out]
    simp_all
    try omega
mutual
def dQ (p:GV->Bool):GV->Bool
 | .mk k n s l=>p (.mk k n s l) && eI p l
def eI (p:GV->Bool):List GV->Bool
 | []=>true
 | x :: xs=>dQ p x && eI p xs
end
theorem bV (p:GV->Bool)(x):dQ p x=(p x && eI p x.kids):=by
 obtain ⟨k,n,s,l⟩:=x;simp only [dQ,GV.kids]
theorem dN (p:GV->Bool)(x xs):eI p (x :: xs)=(dQ p x && eI p xs):=by simp only [eI]
theorem dU (p:GV->Bool):eI p []=true:=by simp only [eI]
mutual
def rsz:GV->Int
 | .mk _ _ _ l=>aBi 1 l
def aBi:Int->List GV->Int
 | n,[]=>n
 | n,x :: xs=>aBi (wrap64 (n+rsz x)) xs
end
theorem pI (x):rsz x=aBi 1 x.kids:=by obtain ⟨k,n,s,l⟩:=x;simp only [rsz,GV.kids]
theorem gN (n x xs):aBi n (x :: xs)=aBi (wrap64 (n+rsz x)) xs:=by simp only [aBi]
theorem fJ (n):aBi n []=n:=by simp only [aBi]
def yN (N:Nat):Prop:=∀ (x:GV)(A:Option Addr)(c:Nat)(P:Nat->Prop)(w:World),gsz x<N->VAt w P x A c ->
  qg 111 #[dA x A c] w (dI (.int .i64 (rsz x)) w)
def aQ2 (x:GV)(W:World)(n i:Value)(wr:World):Prop:=∃ (k:Nat)(m:Int),k<=x.kids∧i=↑k∧n=↑m∧Ext W wr∧rsz x=aBi m (x.kids.drop k)
theorem zR (N)(hS:yN N):yN (N+1):=by
 intro x A c P w hN hx;have HX:=a4b hx;have HN:=a4b (show ∀ z ∈ x.kids,gsz z<N from fun z hz=>by have:=eY hz;omega);have HC:=a4b (pI x);have hx5:=hx.cap;clear hx;go_enter Tryz.func111,Tryz.ntmps111;go_wp2_with fail;have HX0:Hid (Ext w (w.alloc (qk (qh x A c) 85))):=(aq _).alloc' _;have hb1:=(aw w 85 (qh x A c)).cell' (u:=.slice A x.kids c) 3 rfl;generalize w.alloc (qk (qh x A c) 85)=W at *;go_loopw [3,4] (fun n i wr=>aQ2 x W n i wr) (fun _ i _=>x.kids.length - (intOf i).toNat)
 case atStart=>exact ⟨0,1,af _,rfl,rfl,aq _,HC.out⟩
 case round =>
  obtain ⟨k,m,hk,rfl,rfl,hx,ht⟩:=hrel;have HT:=a4b ht;have hc1:=aA hx hb1;have HW:=a4b hx;have HXK:=a4b (HX.out.kids.ext (HX0.out.trans' hx));clear ht hx;by_cases hlt:k<x.kids
  ·have HD:=a4b (show rsz x=aBi m (x.kids.getD k default :: x.kids.drop (k+1)) by rw [HT.out,<- aH default hlt])
   obtain ⟨b1,o1,c1,A1,d1,e1,-,-,-,hv1,g10,g11,g12,g13⟩:=HXK.out.at_ hlt;cases e1;have HM:=a4b (HN.out _ (aD (d:=default) hlt));have HV1:=a4b hv1;clear hv1 HXK hb1;generalize x.kids.getD k default=x1 at *;go_wp2_with fail;refine (hS x1 A1 d1 P _ HM.out HV1.out).mono ?_;rintro e w1 ⟨rfl,hx1⟩;have HX1:=a4b (HW.out.trans' hx1);clear hx1;go_wp2_with fail;go_roundw
   case rel=>exact ⟨k+1,_,I,by go_num,rfl,HX1.out,by rw [HD.out,gN]⟩
   case measure=>simp [intOf];omega
  ·go_wp2_with fail
   go_ret;exact ⟨aI (by rw [HT.out,drop_nil I,fJ]),HX0.out.trans' HW.out⟩
theorem aB4 (N):yN N:=by
 induction N with
 | zero=>intro x A c P w hN;omega
 | succ N ih=>exact zR N ih
theorem rK (x A c P w)(hx:VAt w P x A c) :
  qg 111 #[dA x A c] w (dI (.int .i64 (rsz x)) w):=aB4 (gsz x+1) x A c P w I hx
def iF (f:Nat)(r:Bool->Bool)(p:GV->Bool)(N:Nat):Prop:=∀ (x:GV)(A:Option Addr)(c:Nat)(P:Nat->Prop)(w:World),gsz x<N->VAt w P x A c ->
  qg f #[dA x A c] w (dI (r (dQ p x)) w)
def tN (p:GV->Bool)(x:GV)(W:World)(i:Value)(wr:World):Prop:=∃ (k:Nat),k<=x.kids∧i=↑k∧Ext W wr∧dQ p x=eI p (x.kids.drop k)
def bY (x:GV):Bool:=!(decide (x.kind=2∧256<x.kids.length) || decide (x.kind=3∧16<x.kids.length))
theorem zQ (N)(hS:iF 153 (! ·) bY N):iF 153 (! ·) bY (N+1):=by
 intro x A c P w hN hx;have HX:=a4b hx;have HN:=a4b (show ∀ z ∈ x.kids,gsz z<N from fun z hz=>by have:=eY hz;omega);have hx5:=hx.cap;clear hx;by_cases h2:x.kind=2
 ·have t2:(x.kind == 2)=true:=a4d h2
  have t3:(x.kind == 3)=false:=a4c I;by_cases hw:256<x.kids.length
  ·have HC:=a4b (show dQ bY x=false by rw [bV];simp [bY,h2,hw])
   clear h2;go_enter Tryz.func153,Tryz.ntmps153;go_wp2_with fail;go_ret;exact ⟨aC (by rw [HC.out];rfl),(aq _).alloc' _⟩
  ·have HC:=a4b (show dQ bY x=eI bY (x.kids.drop 0) by rw [bV];simp [bY,h2,hw])
   have td:decide (256<(x.kids:Int))=false:=bh;clear h2;go_enter Tryz.func153,Tryz.ntmps153;go_wp2_with fail;have HX0:Hid (Ext w (w.alloc (qk (qh x A c) 85))):=(aq _).alloc' _;have hb1:=(aw w 85 (qh x A c)).cell' (u:=.slice A x.kids c) 3 rfl;generalize w.alloc (qk (qh x A c) 85)=W at *;go_loopw [3] (fun i wr=>tN bY x W i wr) (fun i _=>x.kids.length - (intOf i).toNat)
   case atStart=>exact ⟨0,af _,rfl,aq _,HC.out⟩
   case round =>
    obtain ⟨k,hk,rfl,hx,ht⟩:=hrel;have HT:=a4b ht;have hc1:=aA hx hb1;have HW:=a4b hx;have HXK:=a4b (HX.out.kids.ext (HX0.out.trans' hx));clear ht hx;by_cases hlt:k<x.kids
    ·have HD:=a4b (show dQ bY x=eI bY (x.kids.getD k default :: x.kids.drop (k+1)) by rw [HT.out,<- aH default hlt])
     obtain ⟨b1,o1,c1,A1,d1,e1,-,-,-,hv1,g10,g11,g12,g13⟩:=HXK.out.at_ hlt;cases e1;have HM:=a4b (HN.out _ (aD (d:=default) hlt));have HV1:=a4b hv1;clear hv1 HXK hb1;generalize x.kids.getD k default=x1 at *;go_wp2_with fail;refine (hS x1 A1 d1 P _ HM.out HV1.out).mono ?_;rintro e w1 ⟨rfl,hx1⟩;have HX1:=a4b (HW.out.trans' hx1);clear hx1;have HDC:=a4b (HD.out.trans (dN _ _ _));generalize dQ bY x1=bb at *;cases bb
     ·go_wp2_with fail
      go_ret;exact ⟨aC ee,HX0.out.trans' HX1.out⟩
     ·go_wp2_with fail
      go_roundw
      case rel=>exact ⟨k+1,I,by go_num,HX1.out,ee⟩
      case measure=>simp [intOf];omega
    ·go_wp2_with fail
     go_ret;exact ⟨aC fz,HX0.out.trans' HW.out⟩
 by_cases h3:x.kind=3
 ·have t2:(x.kind == 2)=false:=a4c I
  have t3:(x.kind == 3)=true:=a4d h3;by_cases hw:16<x.kids.length
  ·have HC:=a4b (show dQ bY x=false by rw [bV];simp [bY,h3,hw])
   clear h2 h3;go_enter Tryz.func153,Tryz.ntmps153;go_wp2_with fail;go_ret;exact ⟨aC (by rw [HC.out];rfl),(aq _).alloc' _⟩
  ·have HC:=a4b (show dQ bY x=eI bY (x.kids.drop 0) by rw [bV];simp [bY,h3,hw])
   have td:decide (16<(x.kids:Int))=false:=bh;clear h2 h3;go_enter Tryz.func153,Tryz.ntmps153;go_wp2_with fail;have HX0:Hid (Ext w (w.alloc (qk (qh x A c) 85))):=(aq _).alloc' _;have hb1:=(aw w 85 (qh x A c)).cell' (u:=.slice A x.kids c) 3 rfl;generalize w.alloc (qk (qh x A c) 85)=W at *;go_loopw [3] (fun i wr=>tN bY x W i wr) (fun i _=>x.kids.length - (intOf i).toNat)
   case atStart=>exact ⟨0,af _,rfl,aq _,HC.out⟩
   case round =>
    obtain ⟨k,hk,rfl,hx,ht⟩:=hrel;have HT:=a4b ht;have hc1:=aA hx hb1;have HW:=a4b hx;have HXK:=a4b (HX.out.kids.ext (HX0.out.trans' hx));clear ht hx;by_cases hlt:k<x.kids
    ·have HD:=a4b (show dQ bY x=eI bY (x.kids.getD k default :: x.kids.drop (k+1)) by rw [HT.out,<- aH default hlt])
     obtain ⟨b1,o1,c1,A1,d1,e1,-,-,-,hv1,g10,g11,g12,g13⟩:=HXK.out.at_ hlt;cases e1;have HM:=a4b (HN.out _ (aD (d:=default) hlt));have HV1:=a4b hv1;clear hv1 HXK hb1;generalize x.kids.getD k default=x1 at *;go_wp2_with fail;refine (hS x1 A1 d1 P _ HM.out HV1.out).mono ?_;rintro e w1 ⟨rfl,hx1⟩;have HX1:=a4b (HW.out.trans' hx1);clear hx1;have HDC:=a4b (HD.out.trans (dN _ _ _));generalize dQ bY x1=bb at *;cases bb
     ·go_wp2_with fail
      go_ret;exact ⟨aC ee,HX0.out.trans' HX1.out⟩
     ·go_wp2_with fail
      go_roundw
      case rel=>exact ⟨k+1,I,by go_num,HX1.out,ee⟩
      case measure=>simp [intOf];omega
    ·go_wp2_with fail
     go_ret;exact ⟨aC fz,HX0.out.trans' HW.out⟩
 ·have t2:(x.kind == 2)=false:=a4c I
  have t3:(x.kind == 3)=false:=a4c I
  ·have HC:=a4b (show dQ bY x=eI bY (x.kids.drop 0) by rw [bV];simp [bY,h2,h3])
   clear h2 h3;go_enter Tryz.func153,Tryz.ntmps153;go_wp2_with fail;have HX0:Hid (Ext w (w.alloc (qk (qh x A c) 85))):=(aq _).alloc' _;have hb1:=(aw w 85 (qh x A c)).cell' (u:=.slice A x.kids c) 3 rfl;generalize w.alloc (qk (qh x A c) 85)=W at *;go_loopw [3] (fun i wr=>tN bY x W i wr) (fun i _=>x.kids.length - (intOf i).toNat)
   case atStart=>exact ⟨0,af _,rfl,aq _,HC.out⟩
   case round =>
    obtain ⟨k,hk,rfl,hx,ht⟩:=hrel;have HT:=a4b ht;have hc1:=aA hx hb1;have HW:=a4b hx;have HXK:=a4b (HX.out.kids.ext (HX0.out.trans' hx));clear ht hx;by_cases hlt:k<x.kids
    ·have HD:=a4b (show dQ bY x=eI bY (x.kids.getD k default :: x.kids.drop (k+1)) by rw [HT.out,<- aH default hlt])
     obtain ⟨b1,o1,c1,A1,d1,e1,-,-,-,hv1,g10,g11,g12,g13⟩:=HXK.out.at_ hlt;cases e1;have HM:=a4b (HN.out _ (aD (d:=default) hlt));have HV1:=a4b hv1;clear hv1 HXK hb1;generalize x.kids.getD k default=x1 at *;go_wp2_with fail;refine (hS x1 A1 d1 P _ HM.out HV1.out).mono ?_;rintro e w1 ⟨rfl,hx1⟩;have HX1:=a4b (HW.out.trans' hx1);clear hx1;have HDC:=a4b (HD.out.trans (dN _ _ _));generalize dQ bY x1=bb at *;cases bb
     ·go_wp2_with fail
      go_ret;exact ⟨aC ee,HX0.out.trans' HX1.out⟩
     ·go_wp2_with fail
      go_roundw
      case rel=>exact ⟨k+1,I,by go_num,HX1.out,ee⟩
      case measure=>simp [intOf];omega
    ·go_wp2_with fail
     go_ret;exact ⟨aC fz,HX0.out.trans' HW.out⟩
theorem aB2 (N):iF 153 (! ·) bY N:=by
 induction N with
 | zero=>intro x A c P w hN;omega
 | succ N ih=>exact zQ N ih
theorem wU (N x A c P w)(hN:gsz x<N+1)(hx:VAt w P x A c)(hk:x.kind=0)(he:¬ x.s.toList=[]) :
  qg 152 #[dA x A c] w (dI (dQ aE x) w):=by
 have HSZ:=a4b hx.s;clear hx;have t0:(x.kind == 0)=true:=a4d hk;have he1:x.s.toList.isEmpty=false:=by simpa using he
 have HC:=a4b (show dQ aE x=false by rw [bV];simp [aE,aU,hk,he]);clear hk;go_enter Tryz.func152,Tryz.ntmps152;go_wp2_with (go_at_call 187;refine (aS _ _ HSZ.out).mono ?_;rintro e w' ⟨rfl,rfl⟩);go_ret;exact ⟨aC eu,(aq _).alloc' _⟩
theorem wT (N x A c P w)(hN:gsz x<N+1)(hx:VAt w P x A c)(hk:x.kind=0)(he:x.s.toList=[])(hl:0<x.kids.length) :
  qg 152 #[dA x A c] w (dI (dQ aE x) w):=by
 have HSZ:=a4b hx.s;clear hx;have t0:(x.kind == 0)=true:=a4d hk;have HC:=a4b (show dQ aE x=false by rw [bV];simp [aE,aU,hk,he,Nat.ne_of_gt hl]);clear hk;go_enter Tryz.func152,Tryz.ntmps152;go_wp2_with (go_at_call 187;refine (aS _ _ HSZ.out).mono ?_;rintro e w' ⟨rfl,rfl⟩);go_ret;exact ⟨aC eu,(aq _).alloc' _⟩
theorem zW (N)(_:iF 152 (fun b=>b) aE N)(x A c P w)(hN:gsz x<N+1)(hx:VAt w P x A c)(hk:x.kind=0)(he:x.s.toList=[])(hl:x.kids.length<=0) :
  qg 152 #[dA x A c] w (dI (dQ aE x) w):=by
 have HSZ:=a4b hx.s;clear hx;have t0:(x.kind == 0)=true:=a4d hk;have t1:(x.kind == 1)=false:=a4c I;have t2:(x.kind == 2)=false:=a4c I;have t3:(x.kind == 3)=false:=a4c I;have HC:=a4b (show dQ aE x=eI aE (x.kids.drop 0) by rw [bV];simp [aE,aU,hk,he,List.length_eq_zero_iff.1 (Nat.le_zero.1 hl)];try omega);have hlo:decide (x.kind<0)=false:=by simp;omega
 have hhi:decide (3<x.kind)=false:=bh;clear hk;go_enter Tryz.func152,Tryz.ntmps152;go_wp2_with (go_at_call 187;refine (aS _ _ HSZ.out).mono ?_;rintro e w' ⟨rfl,rfl⟩);have HX0:Hid (Ext w (w.alloc (qk (qh x A c) 85))):=(aq _).alloc' _;have hb1:=(aw w 85 (qh x A c)).cell' (u:=.slice A x.kids c) 3 rfl;generalize w.alloc (qk (qh x A c) 85)=W at *;go_loopw [4] (fun i wr=>tN aE x W i wr) (fun i _=>x.kids.length - (intOf i).toNat)
 case atStart=>exact ⟨0,af _,rfl,aq _,HC.out⟩
 case round =>
  obtain ⟨k,hk,rfl,hx,ht⟩:=hrel;have HT:=a4b ht;have hc1:=aA hx hb1;have HW:=a4b hx;clear ht hx;by_cases hlt:k<x.kids
  ·exact absurd hlt I
  ·go_wp2_with fail
   go_ret;exact ⟨aC fu,HX0.out.trans' HW.out⟩
theorem wS (N x A c P w)(hN:gsz x<N+1)(hx:VAt w P x A c)(hk:x.kind=1)(he:¬ x.s.toList=[]) :
  qg 152 #[dA x A c] w (dI (dQ aE x) w):=by
 have HSZ:=a4b hx.s;clear hx;have t0:(x.kind == 0)=false:=a4c I;have t1:(x.kind == 1)=true:=a4d hk;have he1:x.s.toList.isEmpty=false:=by simpa using he
 have HC:=a4b (show dQ aE x=false by rw [bV];simp [aE,aU,hk,he]);clear hk;go_enter Tryz.func152,Tryz.ntmps152;go_wp2_with (go_at_call 187;refine (aS _ _ HSZ.out).mono ?_;rintro e w' ⟨rfl,rfl⟩);go_ret;exact ⟨aC eu,(aq _).alloc' _⟩
theorem wR (N x A c P w)(hN:gsz x<N+1)(hx:VAt w P x A c)(hk:x.kind=1)(he:x.s.toList=[])(hl:0<x.kids.length) :
  qg 152 #[dA x A c] w (dI (dQ aE x) w):=by
 have HSZ:=a4b hx.s;clear hx;have t0:(x.kind == 0)=false:=a4c I;have t1:(x.kind == 1)=true:=a4d hk;have HC:=a4b (show dQ aE x=false by rw [bV];simp [aE,aU,hk,he,Nat.ne_of_gt hl]);clear hk;go_enter Tryz.func152,Tryz.ntmps152;go_wp2_with (go_at_call 187;refine (aS _ _ HSZ.out).mono ?_;rintro e w' ⟨rfl,rfl⟩);go_ret;exact ⟨aC eu,(aq _).alloc' _⟩
theorem wP (N x A c P w)(hN:gsz x<N+1)(hx:VAt w P x A c)(hk:x.kind=1)(he:x.s.toList=[])(hl:x.kids.length<=0)(hn:x.n<0) :
  qg 152 #[dA x A c] w (dI (dQ aE x) w):=by
 have HSZ:=a4b hx.s;clear hx;have t0:(x.kind == 0)=false:=a4c I;have t1:(x.kind == 1)=true:=a4d hk;have HC:=a4b (show dQ aE x=false by rw [bV];simp [aE,aU,hk,he,List.length_eq_zero_iff.1 (Nat.le_zero.1 hl),show ¬ x.n=0 by omega,show ¬ x.n=1 by omega]);clear hk;go_enter Tryz.func152,Tryz.ntmps152;go_wp2_with (go_at_call 187;refine (aS _ _ HSZ.out).mono ?_;rintro e w' ⟨rfl,rfl⟩);go_ret;exact ⟨aC eu,(aq _).alloc' _⟩
theorem wQ (N x A c P w)(hN:gsz x<N+1)(hx:VAt w P x A c)(hk:x.kind=1)(he:x.s.toList=[])(hl:x.kids.length<=0)(hn:1<x.n) :
  qg 152 #[dA x A c] w (dI (dQ aE x) w):=by
 have HSZ:=a4b hx.s;clear hx;have t0:(x.kind == 0)=false:=a4c I;have t1:(x.kind == 1)=true:=a4d hk;have hn0:decide (x.n<0)=false:=by first | exact a4e I | exact a4f I
 have HC:=a4b (show dQ aE x=false by rw [bV];simp [aE,aU,hk,he,List.length_eq_zero_iff.1 (Nat.le_zero.1 hl),show ¬ x.n=0 by omega,show ¬ x.n=1 by omega]);clear hk;go_enter Tryz.func152,Tryz.ntmps152;go_wp2_with (go_at_call 187;refine (aS _ _ HSZ.out).mono ?_;rintro e w' ⟨rfl,rfl⟩);go_ret;exact ⟨aC eu,(aq _).alloc' _⟩
theorem zV (N)(_:iF 152 (fun b=>b) aE N)(x A c P w)(hN:gsz x<N+1)(hx:VAt w P x A c)(hk:x.kind=1)(he:x.s.toList=[])(hl:x.kids.length<=0)(hn:0<=x.n)(hn2:x.n<=1) :
  qg 152 #[dA x A c] w (dI (dQ aE x) w):=by
 have HSZ:=a4b hx.s;clear hx;have t0:(x.kind == 0)=false:=a4c I;have t1:(x.kind == 1)=true:=a4d hk;have t2:(x.kind == 2)=false:=a4c I;have t3:(x.kind == 3)=false:=a4c I;have hn0:decide (x.n<0)=false:=by first | exact a4e I | exact a4f I
 have hn1:decide (1<x.n)=false:=by first | exact a4e I | exact a4f I
 have HC:=a4b (show dQ aE x=eI aE (x.kids.drop 0) by rw [bV];simp [aE,aU,hk,he,List.length_eq_zero_iff.1 (Nat.le_zero.1 hl)];try omega);have hlo:decide (x.kind<0)=false:=by simp;omega
 have hhi:decide (3<x.kind)=false:=bh;clear hk;go_enter Tryz.func152,Tryz.ntmps152;go_wp2_with (go_at_call 187;refine (aS _ _ HSZ.out).mono ?_;rintro e w' ⟨rfl,rfl⟩);have HX0:Hid (Ext w (w.alloc (qk (qh x A c) 85))):=(aq _).alloc' _;have hb1:=(aw w 85 (qh x A c)).cell' (u:=.slice A x.kids c) 3 rfl;generalize w.alloc (qk (qh x A c) 85)=W at *;go_loopw [4] (fun i wr=>tN aE x W i wr) (fun i _=>x.kids.length - (intOf i).toNat)
 case atStart=>exact ⟨0,af _,rfl,aq _,HC.out⟩
 case round =>
  obtain ⟨k,hk,rfl,hx,ht⟩:=hrel;have HT:=a4b ht;have hc1:=aA hx hb1;have HW:=a4b hx;clear ht hx;by_cases hlt:k<x.kids
  ·exact absurd hlt I
  ·go_wp2_with fail
   go_ret;exact ⟨aC fu,HX0.out.trans' HW.out⟩
theorem wO (N x A c P w)(hN:gsz x<N+1)(hx:VAt w P x A c)(hk:x.kind=2)(he:¬ x.s.toList=[]) :
  qg 152 #[dA x A c] w (dI (dQ aE x) w):=by
 have HSZ:=a4b hx.s;clear hx;have t0:(x.kind == 0)=false:=a4c I;have t1:(x.kind == 1)=false:=a4c I;have t2:(x.kind == 2)=true:=a4d hk;have he1:x.s.toList.isEmpty=false:=by simpa using he
 have HC:=a4b (show dQ aE x=false by rw [bV];simp [aE,aU,hk,he]);clear hk;go_enter Tryz.func152,Tryz.ntmps152;go_wp2_with (go_at_call 187;refine (aS _ _ HSZ.out).mono ?_;rintro e w' ⟨rfl,rfl⟩);go_ret;exact ⟨aC eu,(aq _).alloc' _⟩
theorem wN (N x A c P w)(hN:gsz x<N+1)(hx:VAt w P x A c)(hk:x.kind=2)(he:x.s.toList=[])(hn:¬ x.n=0) :
  qg 152 #[dA x A c] w (dI (dQ aE x) w):=by
 have HSZ:=a4b hx.s;clear hx;have t0:(x.kind == 0)=false:=a4c I;have t1:(x.kind == 1)=false:=a4c I;have t2:(x.kind == 2)=true:=a4d hk;have hne:(x.n != 0)=true:=bne_iff_ne.2 hn;have HC:=a4b (show dQ aE x=false by rw [bV];simp [aE,aU,hk,he,hn]);clear hk;go_enter Tryz.func152,Tryz.ntmps152;go_wp2_with (go_at_call 187;refine (aS _ _ HSZ.out).mono ?_;rintro e w' ⟨rfl,rfl⟩);go_ret;exact ⟨aC eu,(aq _).alloc' _⟩
theorem zU (N)(hS:iF 152 (fun b=>b) aE N)(x A c P w)(hN:gsz x<N+1)(hx:VAt w P x A c)(hk:x.kind=2)(he:x.s.toList=[])(hn:x.n=0) :
  qg 152 #[dA x A c] w (dI (dQ aE x) w):=by
 have HX:=a4b hx;have HN:=a4b (show ∀ z ∈ x.kids,gsz z<N from fun z hz=>by have:=eY hz;omega);have HSZ:=a4b hx.s;have hx5:=hx.cap;clear hx;have t0:(x.kind == 0)=false:=a4c I;have t1:(x.kind == 1)=false:=a4c I;have t2:(x.kind == 2)=true:=a4d hk;have t3:(x.kind == 3)=false:=a4c I;have hne:(x.n != 0)=false:=by simp [hn]
 have HC:=a4b (show dQ aE x=eI aE (x.kids.drop 0) by rw [bV];simp [aE,aU,hk,he,hn];try omega);have hlo:decide (x.kind<0)=false:=by simp;omega
 have hhi:decide (3<x.kind)=false:=bh;clear hk hn;go_enter Tryz.func152,Tryz.ntmps152;go_wp2_with (go_at_call 187;refine (aS _ _ HSZ.out).mono ?_;rintro e w' ⟨rfl,rfl⟩);have HX0:Hid (Ext w (w.alloc (qk (qh x A c) 85))):=(aq _).alloc' _;have hb1:=(aw w 85 (qh x A c)).cell' (u:=.slice A x.kids c) 3 rfl;generalize w.alloc (qk (qh x A c) 85)=W at *;go_loopw [4] (fun i wr=>tN aE x W i wr) (fun i _=>x.kids.length - (intOf i).toNat)
 case atStart=>exact ⟨0,af _,rfl,aq _,HC.out⟩
 case round =>
  obtain ⟨k,hk,rfl,hx,ht⟩:=hrel;have HT:=a4b ht;have hc1:=aA hx hb1;have HW:=a4b hx;have HXK:=a4b (HX.out.kids.ext (HX0.out.trans' hx));clear ht hx;by_cases hlt:k<x.kids
  ·have HD:=a4b (show dQ aE x=eI aE (x.kids.getD k default :: x.kids.drop (k+1)) by rw [HT.out,<- aH default hlt])
   obtain ⟨b1,o1,c1,A1,d1,e1,-,-,-,hv1,g10,g11,g12,g13⟩:=HXK.out.at_ hlt;cases e1;have HM:=a4b (HN.out _ (aD (d:=default) hlt));have HV1:=a4b hv1;clear hv1 HXK hb1;generalize x.kids.getD k default=x1 at *;go_wp2_with fail;refine (hS x1 A1 d1 P _ HM.out HV1.out).mono ?_;rintro e w1 ⟨rfl,hx1⟩;have HX1:=a4b (HW.out.trans' hx1);clear hx1;have HDC:=a4b (HD.out.trans (dN _ _ _));generalize dQ aE x1=bb at *;cases bb
   ·go_wp2_with fail
    go_ret;exact ⟨aC ee,HX0.out.trans' HX1.out⟩
   ·go_wp2_with fail
    go_roundw
    case rel=>exact ⟨k+1,I,by go_num,HX1.out,ee⟩
    case measure=>simp [intOf];omega
  ·go_wp2_with fail
   go_ret;exact ⟨aC fu,HX0.out.trans' HW.out⟩
theorem wM (N x A c P w)(hN:gsz x<N+1)(hx:VAt w P x A c)(hk:x.kind=3)(he:qR x.s=false) :
  qg 152 #[dA x A c] w (dI (dQ aE x) w):=by
 have HSZ:=a4b hx.s;clear hx;have t0:(x.kind == 0)=false:=a4c I;have t1:(x.kind == 1)=false:=a4c I;have t2:(x.kind == 2)=false:=a4c I;have t3:(x.kind == 3)=true:=a4d hk;have HC:=a4b (show dQ aE x=false by rw [bV];simp [aE,hk,he]);clear hk;go_enter Tryz.func152,Tryz.ntmps152;go_wp2_with (go_at_call 187;refine (aS _ _ HSZ.out).mono ?_;rintro e w' ⟨rfl,rfl⟩);go_ret;exact ⟨aC eu,(aq _).alloc' _⟩
theorem wL (N x A c P w)(hN:gsz x<N+1)(hx:VAt w P x A c)(hk:x.kind=3)(he:qR x.s=true)(hn:¬ x.n=0) :
  qg 152 #[dA x A c] w (dI (dQ aE x) w):=by
 have HSZ:=a4b hx.s;clear hx;have t0:(x.kind == 0)=false:=a4c I;have t1:(x.kind == 1)=false:=a4c I;have t2:(x.kind == 2)=false:=a4c I;have t3:(x.kind == 3)=true:=a4d hk;have hne:(x.n != 0)=true:=bne_iff_ne.2 hn;have HC:=a4b (show dQ aE x=false by rw [bV];simp [aE,hk,he,hn]);clear hk;go_enter Tryz.func152,Tryz.ntmps152;go_wp2_with (go_at_call 187;refine (aS _ _ HSZ.out).mono ?_;rintro e w' ⟨rfl,rfl⟩);go_ret;exact ⟨aC eu,(aq _).alloc' _⟩
theorem zT (N)(hS:iF 152 (fun b=>b) aE N)(x A c P w)(hN:gsz x<N+1)(hx:VAt w P x A c)(hk:x.kind=3)(he:qR x.s=true)(hn:x.n=0) :
  qg 152 #[dA x A c] w (dI (dQ aE x) w):=by
 have HX:=a4b hx;have HN:=a4b (show ∀ z ∈ x.kids,gsz z<N from fun z hz=>by have:=eY hz;omega);have HSZ:=a4b hx.s;have hx5:=hx.cap;clear hx;have t0:(x.kind == 0)=false:=a4c I;have t1:(x.kind == 1)=false:=a4c I;have t2:(x.kind == 2)=false:=a4c I;have t3:(x.kind == 3)=true:=a4d hk;have hne:(x.n != 0)=false:=by simp [hn]
 have HC:=a4b (show dQ aE x=eI aE (x.kids.drop 0) by rw [bV];simp [aE,hk,he,hn];try omega);have hlo:decide (x.kind<0)=false:=by simp;omega
 have hhi:decide (3<x.kind)=false:=bh;clear hk hn;go_enter Tryz.func152,Tryz.ntmps152;go_wp2_with (go_at_call 187;refine (aS _ _ HSZ.out).mono ?_;rintro e w' ⟨rfl,rfl⟩);have HX0:Hid (Ext w (w.alloc (qk (qh x A c) 85))):=(aq _).alloc' _;have hb1:=(aw w 85 (qh x A c)).cell' (u:=.slice A x.kids c) 3 rfl;generalize w.alloc (qk (qh x A c) 85)=W at *;go_loopw [4] (fun i wr=>tN aE x W i wr) (fun i _=>x.kids.length - (intOf i).toNat)
 case atStart=>exact ⟨0,af _,rfl,aq _,HC.out⟩
 case round =>
  obtain ⟨k,hk,rfl,hx,ht⟩:=hrel;have HT:=a4b ht;have hc1:=aA hx hb1;have HW:=a4b hx;have HXK:=a4b (HX.out.kids.ext (HX0.out.trans' hx));clear ht hx;by_cases hlt:k<x.kids
  ·have HD:=a4b (show dQ aE x=eI aE (x.kids.getD k default :: x.kids.drop (k+1)) by rw [HT.out,<- aH default hlt])
   obtain ⟨b1,o1,c1,A1,d1,e1,-,-,-,hv1,g10,g11,g12,g13⟩:=HXK.out.at_ hlt;cases e1;have HM:=a4b (HN.out _ (aD (d:=default) hlt));have HV1:=a4b hv1;clear hv1 HXK hb1;generalize x.kids.getD k default=x1 at *;go_wp2_with fail;refine (hS x1 A1 d1 P _ HM.out HV1.out).mono ?_;rintro e w1 ⟨rfl,hx1⟩;have HX1:=a4b (HW.out.trans' hx1);clear hx1;have HDC:=a4b (HD.out.trans (dN _ _ _));generalize dQ aE x1=bb at *;cases bb
   ·go_wp2_with fail
    go_ret;exact ⟨aC ee,HX0.out.trans' HX1.out⟩
   ·go_wp2_with fail
    go_roundw
    case rel=>exact ⟨k+1,I,by go_num,HX1.out,ee⟩
    case measure=>simp [intOf];omega
  ·go_wp2_with fail
   go_ret;exact ⟨aC fu,HX0.out.trans' HW.out⟩
theorem zS (N x A c P w)(hN:gsz x<N+1)(hx:VAt w P x A c)(hk:x.kind<0) :
  qg 152 #[dA x A c] w (dI (dQ aE x) w):=by
 have HSZ:=a4b hx.s;clear hx;have t0:(x.kind == 0)=false:=a4c I;have t1:(x.kind == 1)=false:=a4c I;have t2:(x.kind == 2)=false:=a4c I;have t3:(x.kind == 3)=false:=a4c I;have HC:=a4b (show dQ aE x=false by rw [bV];simp [aE,show ¬ x.kind=0 by omega,show ¬ x.kind=1 by omega,show ¬ x.kind=2 by omega,show ¬ x.kind=3 by omega]);go_enter Tryz.func152,Tryz.ntmps152;go_wp2_with (go_at_call 187;refine (aS _ _ HSZ.out).mono ?_;rintro e w' ⟨rfl,rfl⟩);go_ret;exact ⟨aC eu,(aq _).alloc' _⟩
theorem zX (N x A c P w)(hN:gsz x<N+1)(hx:VAt w P x A c)(hk:3<x.kind) :
  qg 152 #[dA x A c] w (dI (dQ aE x) w):=by
 have HSZ:=a4b hx.s;clear hx;have t0:(x.kind == 0)=false:=a4c I;have t1:(x.kind == 1)=false:=a4c I;have t2:(x.kind == 2)=false:=a4c I;have t3:(x.kind == 3)=false:=a4c I;have hlo:decide (x.kind<0)=false:=by simp;omega
 have HC:=a4b (show dQ aE x=false by rw [bV];simp [aE,show ¬ x.kind=0 by omega,show ¬ x.kind=1 by omega,show ¬ x.kind=2 by omega,show ¬ x.kind=3 by omega]);go_enter Tryz.func152,Tryz.ntmps152;go_wp2_with (go_at_call 187;refine (aS _ _ HSZ.out).mono ?_;rintro e w' ⟨rfl,rfl⟩);go_ret;exact ⟨aC eu,(aq _).alloc' _⟩
