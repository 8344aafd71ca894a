/- Contracts of functions, plain laws. Conditions: none. -/
import Derived.Laws.EntriesVeiled
import Derived.Test.YtkoeecdjijfjnaaGreatA3
set_option maxRecDepth 100000
set_option maxHeartbeats 8000000
namespace Go.Proofs.YtkoeecdjijfjnaaGreat
open Go.RowKit
mutual
def vis {σ:Type}(f:σ->GV->σ × Bool):σ->GV->σ × Bool
 | s,.mk k n t l=>if (f s (.mk k n t l)).2 then rN f (f s (.mk k n t l)).1 l else ((f s (.mk k n t l)).1,false)
def rN {σ:Type}(f:σ->GV->σ × Bool):σ->List GV->σ × Bool
 | s,[]=>(s,true)
 | s,x :: xs=>if (vis f s x).2 then rN f (vis f s x).1 xs else ((vis f s x).1,false)
end
theorem yY {σ:Type}(f:σ->GV->σ × Bool)(s:σ)(x:GV):vis f s x=if (f s x).2 then rN f (f s x).1 x.kids else ((f s x).1,false):=by
 obtain ⟨k,n,t,l⟩:=x;simp only [vis,GV.kids]
theorem oE {σ:Type}(f:σ->GV->σ × Bool)(s:σ):rN f s []=(s,true):=by simp only [rN]
theorem lN {σ:Type}(f:σ->GV->σ × Bool)(s:σ)(x:GV)(xs:List GV):rN f s (x :: xs)=if (vis f s x).2 then rN f (vis f s x).1 xs else ((vis f s x).1,false):=by
 simp only [rN]
structure aJt {σ:Type}(F:Nat)(caps:Array Value)(M:Nat->Prop)(St:σ->World->Prop)(f:σ->GV->σ × Bool):Prop where
 calls:∀ (s:σ) (x:GV) (A:Option Addr) (c:Nat) (d:Int) (P:Nat->Prop) (w:World),(∀ b,P b->¬ M b)->St s w->VAt w P x A c ->
  Calls Tryz.prog F (#[eI x A c,.int .i64 d] ++ caps) w (fun e w'=>e=.returned (.bool (f s x).2)∧Fr M w w'∧St (f s x).1 w')
 keep:∀ (s:σ) (w w':World),St s w->Ext w w'->St s w'
def qM {σ:Type}(M:Nat->Prop)(St:σ->World->Prop)(r:σ × Bool)(w:World)(e:Ending)(w':World):Prop :=
 e=.returned (.bool r.2)∧Fr M w w'∧St r.1 w'
def nE {σ:Type}(F:Nat)(caps:Array Value)(M:Nat->Prop)(St:σ->World->Prop)(f:σ->GV->σ × Bool)(N:Nat):Prop :=
 ∀ (s:σ) (x:GV) (A:Option Addr) (c:Nat) (d:Int) (P:Nat->Prop) (w:World) (bs bw:Nat),gsz x<N->(∀ b,P b->¬ M b)->(∀ b,M b->b<w.heap.size)->St s w->VAt w P x A c ->
  Blk w bs 239 #[.func (.func F) #[] caps]->Blk w bw 239 #[.func (.func 200) #[] #[.pointer (some ⟨bs,0,none⟩),.pointer (some ⟨bw,0,none⟩)]]->¬ M bs->¬ M bw ->
  Calls Tryz.prog 200 #[eI x A c,.int .i64 d,.pointer (some ⟨bs,0,none⟩),.pointer (some ⟨bw,0,none⟩)] w (qM M St (vis f s x) w)
def aJp {σ:Type}(f:σ->GV->σ × Bool)(M:Nat->Prop)(St:σ->World->Prop)(s0:σ)(l:List GV)(W:World)(i:Value)(wr:World):Prop :=
 ∃ (k:Nat) (s:σ),k<=l.length∧i=.int .i64 k∧Fr M W wr∧St s wr∧rN f s0 l=rN f s (l.drop k)
theorem xL {σ:Type}(g0:Nat)(M:Nat->Prop)(St:σ->World->Prop)(f:σ->GV->σ × Bool)(hF:aJt 180 #[.pointer (some ⟨g0,0,none⟩)] M St f)(N:Nat)
  (hS:nE 180 #[.pointer (some ⟨g0,0,none⟩)] M St f N):nE 180 #[.pointer (some ⟨g0,0,none⟩)] M St f (N+1):=by
 intro s x A c d P w bs bw hN hP hM hs hx hbs hbw hms hmw;have HX:=aV4 hx;have HP:=aV4 hP;have HM:=aV4 hM;have HSt:=aV4 hs;have HBS:=aV4 hbs;have HBW:=aV4 hbw;have HMS:=aV4 hms;have HMW:=aV4 hmw;have hc1:=hbs.cell' 0 rfl;have hl1:=hbs.lt;have HV:=aV4 (yY f s x);have HC:=aV4 (hF.calls s x A c d P);have HN:=aV4 (show ∀ z ∈ x.kids,gsz z<N from fun z hz=>by have:=cT hz;omega);have hx4:=hx.len;have hx5:=hx.cap;clear hx hP hM hs hbs hbw hms hmw;generalize hfx:f s x=r at *;clear hfx;obtain ⟨s1,b1⟩:=r;go_enter Tryz.func200,Tryz.ntmps200;go_wp2_with fail;refine (HC.out _ HP.out (hF.keep _ _ _ HSt.out ((Ext.refl _).alloc' _)) (HX.out.ext ((Ext.refl _).alloc' _))).mono ?_;rintro e w1 ⟨rfl,hf1,hs1⟩;have HM0:=aV4 (show ¬ M w.heap.size from fun h=>by have:=HM.out _ h;omega);have hbox:=((Blk.new w 85 #[.int .i64 x.kind,.int .i64 x.n,.string x.s,.slice A x.kids.length c]).fr hf1 HM0.out);have HBOX:=aV4 hbox;have hc3:=hbox.cell' 3 rfl;have HF1:=aV4 (((Fr.refl M w).alloc (.cells #[.int .i64 x.kind,.int .i64 x.n,.string x.s,.slice A x.kids.length c] 85)).trans hf1);have HS1:=aV4 hs1;clear hf1 hs1 hbox HC
 cases b1
 ·go_wp2_with fail
  go_ret;unfold qM;rw [HV.out];exact ⟨rfl,HF1.out,HS1.out⟩
 ·have HVT:=aV4 (HV.out.trans (if_pos rfl))
  go_wp2_with fail;go_loopw [17] (fun i wr=>aJp f M St s1 x.kids w1 i wr) (fun i _=>x.kids.length - (intOf i).toNat)
  case atStart=>exact ⟨0,s1,Nat.zero_le _,rfl,Fr.refl _ _,HS1.out,rfl⟩
  case round =>
   obtain ⟨k,s2,hk,rfl,hfr,hs2,ht⟩:=hrel;have HT:=aV4 ht;have HS2:=aV4 hs2;have HFR:=aV4 (HF1.out.trans hfr);have HF0:=aV4 hfr;have hfr':=HFR.out;clear hfr hs2 ht
   by_cases hlt:k<x.kids.length
   ·have HXK:=aV4 (HX.out.kids.keep (aD.of_fr hfr' HP.out) (fun _ h=>h))
    obtain ⟨b1,o1,c1,A1,d1,e1,-,-,-,hv1,g10,g11,g12,g13⟩:=HXK.out.at_ hlt
    cases e1
    have HV1:=aV4 hv1;have HM1:=aV4 (HN.out _ (aG (d:=default) hlt));have HD:=aV4 (show rN f s1 x.kids=rN f s2 (x.kids.getD k default :: x.kids.drop (k+1)) by rw [HT.out,<- aH default hlt]);have HBS2:=aV4 (HBS.out.fr hfr' HMS.out);have HBW2:=aV4 (HBW.out.fr hfr' HMW.out);have hw0:=HBW2.out.cell' 0 rfl;have hl2:=HBW2.out.lt;have lb1:=aP g10;have HM2:=aV4 (show ∀ b,M b->b<wr.heap.size+1 from fun b hb=>by have:=HM.out b hb;have:=hfr'.size;omega);clear hv1 hfr' HXK;generalize x.kids.getD k default=y at *;go_wp2_with fail;refine (hS s2 y A1 d1 _ P _ bs bw HM1.out HP.out (by simpa using HM2.out) (hF.keep _ _ _ HS2.out ((Ext.refl _).alloc' _)) (HV1.out.ext ((Ext.refl _).alloc' _)) (HBS2.out.alloc _) (HBW2.out.alloc _) HMS.out HMW.out).mono ?_;rintro e w2 ⟨rfl,hf2,hs3⟩;have HF2:=aV4 ((HFR.out.alloc _).trans hf2);have HFW:=aV4 ((HF0.out.alloc _).trans hf2);have HS3:=aV4 hs3;clear hf2 hs3;have HDC:=aV4 (HD.out.trans (lN f s2 y _));generalize hvy:vis f s2 y=r2 at *;clear hvy;obtain ⟨s3,b3⟩:=r2
    cases b3
    ·go_wp2_with fail
     go_ret;unfold qM;rw [HVT.out,HDC.out];exact ⟨rfl,HF2.out,HS3.out⟩
    ·go_wp2_with fail
     go_roundw
     case rel=>exact ⟨k+1,s3,by omega,by go_num,HFW.out,HS3.out,HDC.out.trans (by simp)⟩
     case measure=>simp [intOf];omega
   ·have HZ:=aV4 (show rN f s1 x.kids=(s2,true) by rw [HT.out,drop_nil (by omega),oE])
    clear hfr';go_wp2_with fail;go_ret;unfold qM;rw [HVT.out,HZ.out];exact ⟨rfl,HFR.out,HS2.out⟩
theorem aAx {σ:Type}(g0:Nat)(M:Nat->Prop)(St:σ->World->Prop)(f:σ->GV->σ × Bool)(hF:aJt 180 #[.pointer (some ⟨g0,0,none⟩)] M St f)(N:Nat):nE 180 #[.pointer (some ⟨g0,0,none⟩)] M St f N:=by
 induction N with
 | zero=>intro s x A c d P w bs bw hN;omega
 | succ N ih=>exact xL g0 M St f hF N ih
theorem xM {σ:Type}(g0 g1 g2:Nat)(M:Nat->Prop)(St:σ->World->Prop)(f:σ->GV->σ × Bool)(hF:aJt 177 #[.pointer (some ⟨g0,0,none⟩),.pointer (some ⟨g1,0,none⟩),.pointer (some ⟨g2,0,none⟩)] M St f)(N:Nat)
  (hS:nE 177 #[.pointer (some ⟨g0,0,none⟩),.pointer (some ⟨g1,0,none⟩),.pointer (some ⟨g2,0,none⟩)] M St f N):nE 177 #[.pointer (some ⟨g0,0,none⟩),.pointer (some ⟨g1,0,none⟩),.pointer (some ⟨g2,0,none⟩)] M St f (N+1):=by
 intro s x A c d P w bs bw hN hP hM hs hx hbs hbw hms hmw;have HX:=aV4 hx;have HP:=aV4 hP;have HM:=aV4 hM;have HSt:=aV4 hs;have HBS:=aV4 hbs;have HBW:=aV4 hbw;have HMS:=aV4 hms;have HMW:=aV4 hmw;have hc1:=hbs.cell' 0 rfl;have hl1:=hbs.lt;have HV:=aV4 (yY f s x);have HC:=aV4 (hF.calls s x A c d P);have HN:=aV4 (show ∀ z ∈ x.kids,gsz z<N from fun z hz=>by have:=cT hz;omega);have hx4:=hx.len;have hx5:=hx.cap;clear hx hP hM hs hbs hbw hms hmw;generalize hfx:f s x=r at *;clear hfx;obtain ⟨s1,b1⟩:=r;go_enter Tryz.func200,Tryz.ntmps200;go_wp2_with fail;refine (HC.out _ HP.out (hF.keep _ _ _ HSt.out ((Ext.refl _).alloc' _)) (HX.out.ext ((Ext.refl _).alloc' _))).mono ?_;rintro e w1 ⟨rfl,hf1,hs1⟩;have HM0:=aV4 (show ¬ M w.heap.size from fun h=>by have:=HM.out _ h;omega);have hbox:=((Blk.new w 85 #[.int .i64 x.kind,.int .i64 x.n,.string x.s,.slice A x.kids.length c]).fr hf1 HM0.out);have HBOX:=aV4 hbox;have hc3:=hbox.cell' 3 rfl;have HF1:=aV4 (((Fr.refl M w).alloc (.cells #[.int .i64 x.kind,.int .i64 x.n,.string x.s,.slice A x.kids.length c] 85)).trans hf1);have HS1:=aV4 hs1;clear hf1 hs1 hbox HC
 cases b1
 ·go_wp2_with fail
  go_ret;unfold qM;rw [HV.out];exact ⟨rfl,HF1.out,HS1.out⟩
 ·have HVT:=aV4 (HV.out.trans (if_pos rfl))
  go_wp2_with fail;go_loopw [17] (fun i wr=>aJp f M St s1 x.kids w1 i wr) (fun i _=>x.kids.length - (intOf i).toNat)
  case atStart=>exact ⟨0,s1,Nat.zero_le _,rfl,Fr.refl _ _,HS1.out,rfl⟩
  case round =>
   obtain ⟨k,s2,hk,rfl,hfr,hs2,ht⟩:=hrel;have HT:=aV4 ht;have HS2:=aV4 hs2;have HFR:=aV4 (HF1.out.trans hfr);have HF0:=aV4 hfr;have hfr':=HFR.out;clear hfr hs2 ht
   by_cases hlt:k<x.kids.length
   ·have HXK:=aV4 (HX.out.kids.keep (aD.of_fr hfr' HP.out) (fun _ h=>h))
    obtain ⟨b1,o1,c1,A1,d1,e1,-,-,-,hv1,g10,g11,g12,g13⟩:=HXK.out.at_ hlt
    cases e1
    have HV1:=aV4 hv1;have HM1:=aV4 (HN.out _ (aG (d:=default) hlt));have HD:=aV4 (show rN f s1 x.kids=rN f s2 (x.kids.getD k default :: x.kids.drop (k+1)) by rw [HT.out,<- aH default hlt]);have HBS2:=aV4 (HBS.out.fr hfr' HMS.out);have HBW2:=aV4 (HBW.out.fr hfr' HMW.out);have hw0:=HBW2.out.cell' 0 rfl;have hl2:=HBW2.out.lt;have lb1:=aP g10;have HM2:=aV4 (show ∀ b,M b->b<wr.heap.size+1 from fun b hb=>by have:=HM.out b hb;have:=hfr'.size;omega);clear hv1 hfr' HXK;generalize x.kids.getD k default=y at *;go_wp2_with fail;refine (hS s2 y A1 d1 _ P _ bs bw HM1.out HP.out (by simpa using HM2.out) (hF.keep _ _ _ HS2.out ((Ext.refl _).alloc' _)) (HV1.out.ext ((Ext.refl _).alloc' _)) (HBS2.out.alloc _) (HBW2.out.alloc _) HMS.out HMW.out).mono ?_;rintro e w2 ⟨rfl,hf2,hs3⟩;have HF2:=aV4 ((HFR.out.alloc _).trans hf2);have HFW:=aV4 ((HF0.out.alloc _).trans hf2);have HS3:=aV4 hs3;clear hf2 hs3;have HDC:=aV4 (HD.out.trans (lN f s2 y _));generalize hvy:vis f s2 y=r2 at *;clear hvy;obtain ⟨s3,b3⟩:=r2
    cases b3
    ·go_wp2_with fail
     go_ret;unfold qM;rw [HVT.out,HDC.out];exact ⟨rfl,HF2.out,HS3.out⟩
    ·go_wp2_with fail
     go_roundw
     case rel=>exact ⟨k+1,s3,by omega,by go_num,HFW.out,HS3.out,HDC.out.trans (by simp)⟩
     case measure=>simp [intOf];omega
   ·have HZ:=aV4 (show rN f s1 x.kids=(s2,true) by rw [HT.out,drop_nil (by omega),oE])
    clear hfr';go_wp2_with fail;go_ret;unfold qM;rw [HVT.out,HZ.out];exact ⟨rfl,HFR.out,HS2.out⟩
theorem aAy {σ:Type}(g0 g1 g2:Nat)(M:Nat->Prop)(St:σ->World->Prop)(f:σ->GV->σ × Bool)(hF:aJt 177 #[.pointer (some ⟨g0,0,none⟩),.pointer (some ⟨g1,0,none⟩),.pointer (some ⟨g2,0,none⟩)] M St f)(N:Nat):nE 177 #[.pointer (some ⟨g0,0,none⟩),.pointer (some ⟨g1,0,none⟩),.pointer (some ⟨g2,0,none⟩)] M St f N:=by
 induction N with
 | zero=>intro s x A c d P w bs bw hN;omega
 | succ N ih=>exact xM g0 g1 g2 M St f hF N ih
def jM (n:Int):Bool:=decide (97<=n∧n<=122∨65<=n∧n<=90∨48<=n∧n<=57∨n=95)
theorem aBr (n:Int)(w:World) :
  Calls Tryz.prog 216 #[.int .u8 n] w fun e w'=>e=.returned (.bool (jM n))∧w=w':=by
 go_enter Tryz.func216,Tryz.ntmps216;go_wp2
 all_goals
  go_ret;refine ⟨aF ?_,rfl⟩;rw [Bool.eq_iff_iff];simp [jM]
  try omega
theorem pP (n:Int):((n<48∨(58<=n∧n<=64)∨(91<=n∧n<=94)∨(96<=n∧n<=96)∨122<n)∧jM n=false) ∨
  (((48<=n∧n<=57)∨(65<=n∧n<=90)∨(95<=n∧n<=95)∨(97<=n∧n<=122))∧jM n=true):=by
 by_cases h:jM n=true
 ·refine .inr ⟨?_,h⟩
  have:=of_decide_eq_true (by unfold jM at h;exact h);omega
 ·refine .inl ⟨?_,by simpa using h⟩
  have h':jM n=false:=by simpa using h
  unfold jM at h';have:=of_decide_eq_false h';omega
def qK (s:ByteArray):Bool:=decide (1<=s.size∧s.size<=16∧65<=((s.data.toList.getD 0 0).toNat:Int)∧((s.data.toList.getD 0 0).toNat:Int)<=90) && s.data.toList.all (fun c=>jM c.toNat)
theorem dJ (s:ByteArray)(k:Nat)(h:k<s.size):s[k]=s.data.toList.getD k 0:=by
 have h':k<s.data.size:=h
 have e:s.data.toList.getD k 0=s.data[k]:=by
  rw [List.getD_eq_getElem?_getD,Array.getElem?_toList,Array.getElem?_eq_getElem h']
  rfl
 rw [e]
 rfl
theorem gA {s:ByteArray}(h:s.size=0∨16<s.size∨((s.data.toList.getD 0 0).toNat:Int)<65∨90<((s.data.toList.getD 0 0).toNat:Int)):qK s=false:=by
 unfold qK;rw [aV8 (by omega)]
 rfl
theorem kS (s:ByteArray):s.data.toList.length=s.size:=by simp
theorem rQ (s:ByteArray):s.toList.length=s.size:=by rw [ByteArray.toList_eq];exact kS s
theorem qX {s:ByteArray}(h:¬ s.size=0):s.toList.isEmpty=false:=by
 have h1:=rQ s
 cases hl:s.toList with
 | nil=>rw [hl] at h1;exact absurd h1.symm h
 | cons a l=>rfl
def aFr (s:ByteArray)(lo:Nat)(w:World)(i:Value)(wr:World):Prop:=∃ k:Nat,lo<=k∧k<=s.size∧i=.int .i64 k∧wr=w∧qK s=(s.data.toList.drop k).all (fun c=>jM c.toNat)
theorem uP {s:ByteArray}(h0:¬ s.size=0)(h1:¬ 16<s.size)(h2:65<=((s.data.toList.getD 0 0).toNat:Int))(h3:((s.data.toList.getD 0 0).toNat:Int)<=90) :
  qK s=(s.data.toList.drop 0).all (fun c=>jM c.toNat):=by
 unfold qK;rw [aV7 (by omega)]
 rfl
theorem aE9 {s:ByteArray}(h0:¬ s.size=0)(h1:¬ 16<s.size)(h2:65<=((s.data.toList.getD 0 0).toNat:Int))(h3:((s.data.toList.getD 0 0).toNat:Int)<=90) :
  qK s=(s.data.toList.drop 1).all (fun c=>jM c.toNat):=by
 rw [uP h0 h1 h2 h3,aH 0 (show 0<s.data.toList.length by rw [kS];omega)];simp only [List.all_cons];rw [show jM ((s.data.toList.getD 0 0).toNat:Int)=true by unfold jM;rw [aV7];omega]
 rfl
theorem jE {s:ByteArray}{k:Nat}(h:k<s.size)(p:UInt8->Bool):(s.data.toList.drop k).all p=(p s[k] && (s.data.toList.drop (k+1)).all p):=by
 rw [aH 0 (show k<s.data.toList.length by rw [kS];exact h),dJ s k h]
 rfl
theorem yO (s:ByteArray)(w:World)(hs:s.size<=17592186044416) :
  Calls Tryz.prog 201 #[.string s] w fun e w'=>e=.returned (.bool (qK s))∧w=w':=by
 by_cases h0:s.size=0
 ·have h0':s.toList.isEmpty=true:=by
   have h1:=rQ s
   cases hl:s.toList with
   | nil=>rfl
   | cons a l=>rw [hl] at h1;simp at h1;omega
  have HC:=aV4 (gA (s:=s) (.inl h0));clear h0;go_enter Tryz.func201,Tryz.ntmps201;go_wp2_with fail;go_ret;exact ⟨aF HC.out.symm,rfl⟩
 have h0':=qX h0;have h00:0<s.size:=by omega
 by_cases h1:16<s.size
 ·have HC:=aV4 (gA (s:=s) (.inr (.inl h1)))
  clear h0;go_enter Tryz.func201,Tryz.ntmps201;go_wp2_with fail;go_ret;exact ⟨aF HC.out.symm,rfl⟩
 by_cases h2:((s[0]).toNat:Int)<65
 ·have HC:=aV4 (gA (s:=s) (.inr (.inr (.inl (by rw [<- dJ s 0 h00];exact h2)))))
  clear h0;go_enter Tryz.func201,Tryz.ntmps201;go_wp2_with fail;go_ret;exact ⟨aF HC.out.symm,rfl⟩
 by_cases h3:90<((s[0]).toNat:Int)
 ·have HC:=aV4 (gA (s:=s) (.inr (.inr (.inr (by rw [<- dJ s 0 h00];exact h3)))))
  clear h0;go_enter Tryz.func201,Tryz.ntmps201;go_wp2_with fail;go_ret;exact ⟨aF HC.out.symm,rfl⟩
 have HC:=aV4 (aE9 h0 h1 (by rw [<- dJ s 0 h00];omega) (by rw [<- dJ s 0 h00];omega));have t1:decide (16<(s.size:Int))=false:=by simp;omega
 have t2:decide (((s[0]).toNat:Int)<65)=false:=by simp;omega
 have t3:decide (90<((s[0]).toNat:Int))=false:=by simp;omega
 clear h0;go_enter Tryz.func201,Tryz.ntmps201;go_wp2_with fail;go_loopw [3] (fun i wr=>aFr s 1 w i wr) (fun i _=>s.size - (intOf i).toNat)
 case atStart=>exact ⟨1,by omega,by omega,rfl,rfl,HC.out⟩
 case round =>
  obtain ⟨k,hk1,hk,rfl,rfl,hc⟩:=hrel;have HK:=aV4 hc;clear hc
  by_cases hlt:k<s.size
  ·have HA:=aV4 (HK.out.trans (jE hlt _))
   go_wp2_with fail;refine (aBr _ _).mono ?_;rintro e w' ⟨rfl,rfl⟩;go_wp2_with fail
   ·have hz':(!jM ((s[k]).toNat:Int))=true:=by assumption
    have hz:jM ((s[k]).toNat:Int)=false:=by simpa using hz'
    go_ret;exact ⟨aF (by rw [HA.out,hz];rfl),rfl⟩
   ·have hz':(!jM ((s[k]).toNat:Int))=false:=by assumption
    have hz:jM ((s[k]).toNat:Int)=true:=by simpa using hz'
    go_roundw
    case rel=>exact ⟨k+1,by omega,by omega,by go_num,rfl,by rw [HA.out,hz];rfl⟩
    case measure=>simp [intOf];omega
  ·go_wp2_with fail
   go_ret;exact ⟨aF (by rw [HK.out,drop_nil (by rw [kS];omega)];rfl),rfl⟩
theorem bA (s:ByteArray)(w:World)(hs:s.size<=17592186044416) :
  Calls Tryz.prog 187 #[.string s] w fun e w'=>e=.returned (.bool (qK s))∧w=w':=by
 by_cases h0:s.size=0
 ·have t0:decide ((s.size:Int)<1)=true:=by simp [h0]
  have HC:=aV4 (gA (s:=s) (.inl h0));clear h0;go_enter Tryz.func187,Tryz.ntmps187;go_wp2_with fail;go_ret;exact ⟨aF HC.out.symm,rfl⟩
 have t0:decide ((s.size:Int)<1)=false:=by simp;omega
 have h00:0<s.size:=by omega
 by_cases h1:16<s.size
 ·have HC:=aV4 (gA (s:=s) (.inr (.inl h1)))
  clear h0;go_enter Tryz.func187,Tryz.ntmps187;go_wp2_with fail;go_ret;exact ⟨aF HC.out.symm,rfl⟩
 by_cases h2:((s[0]).toNat:Int)<65
 ·have HC:=aV4 (gA (s:=s) (.inr (.inr (.inl (by rw [<- dJ s 0 h00];exact h2)))))
  clear h0;go_enter Tryz.func187,Tryz.ntmps187;go_wp2_with fail;go_ret;exact ⟨aF HC.out.symm,rfl⟩
 by_cases h3:90<((s[0]).toNat:Int)
 ·have HC:=aV4 (gA (s:=s) (.inr (.inr (.inr (by rw [<- dJ s 0 h00];exact h3)))))
  clear h0;go_enter Tryz.func187,Tryz.ntmps187;go_wp2_with fail;go_ret;exact ⟨aF HC.out.symm,rfl⟩
 have HC:=aV4 (uP h0 h1 (by rw [<- dJ s 0 h00];omega) (by rw [<- dJ s 0 h00];omega));have t1:decide (16<(s.size:Int))=false:=by simp;omega
 have t2:decide (((s[0]).toNat:Int)<65)=false:=by simp;omega
 have t3:decide (90<((s[0]).toNat:Int))=false:=by simp;omega
 clear h0;go_enter Tryz.func187,Tryz.ntmps187;go_wp2_with fail;go_loopw [3] (fun i wr=>aFr s 0 w i wr) (fun i _=>s.size - (intOf i).toNat)
 case atStart=>exact ⟨0,by omega,by omega,rfl,rfl,HC.out⟩
 case round =>
  obtain ⟨k,hk1,hk,rfl,rfl,hc⟩:=hrel;have HK:=aV4 hc;clear hc
  by_cases hlt:k<s.size
  ·have HA:=aV4 (HK.out.trans (jE hlt _))
   rcases pP ((s[k]).toNat:Int) with ⟨hp,hz⟩ | ⟨hp,hz⟩
   ·have HA2:=aV4 (HA.out.trans (by rw [hz,Bool.false_and]))
    clear hz HA;rcases hp with hp | ⟨hp,hp'⟩ | ⟨hp,hp'⟩ | ⟨hp,hp'⟩ | hp
    all_goals
     first | have d122:decide (((s[k]).toNat:Int)<=122)=true:=aV7 (by omega) | have d122:decide (((s[k]).toNat:Int)<=122)=false:=aV8 (by omega)
     first | have d90:decide (((s[k]).toNat:Int)<=90)=true:=aV7 (by omega) | have d90:decide (((s[k]).toNat:Int)<=90)=false:=aV8 (by omega)
     first | have d57:decide (((s[k]).toNat:Int)<=57)=true:=aV7 (by omega) | have d57:decide (((s[k]).toNat:Int)<=57)=false:=aV8 (by omega)
     first | have dn:(((s[k]).toNat:Int) != 95)=true:=bne_iff_ne.2 (by omega) | have dn:(((s[k]).toNat:Int) != 95)=false:=by rw [bne_eq_false_iff_eq];omega
     first | have de:(((s[k]).toNat:Int) == 95)=false:=aV5 (by omega) | have de:(((s[k]).toNat:Int) == 95)=true:=aV6 (by omega)
     go_wp2_with fail;go_ret;exact ⟨aF HA2.out.symm,rfl⟩
   ·have HA2:=aV4 (HA.out.trans (by rw [hz,Bool.true_and]))
    clear hz HA;rcases hp with ⟨hp,hp'⟩ | ⟨hp,hp'⟩ | ⟨hp,hp'⟩ | ⟨hp,hp'⟩
    all_goals
     first | have d122:decide (((s[k]).toNat:Int)<=122)=true:=aV7 (by omega) | have d122:decide (((s[k]).toNat:Int)<=122)=false:=aV8 (by omega)
     first | have d90:decide (((s[k]).toNat:Int)<=90)=true:=aV7 (by omega) | have d90:decide (((s[k]).toNat:Int)<=90)=false:=aV8 (by omega)
     first | have d57:decide (((s[k]).toNat:Int)<=57)=true:=aV7 (by omega) | have d57:decide (((s[k]).toNat:Int)<=57)=false:=aV8 (by omega)
     first | have dn:(((s[k]).toNat:Int) != 95)=true:=bne_iff_ne.2 (by omega) | have dn:(((s[k]).toNat:Int) != 95)=false:=by rw [bne_eq_false_iff_eq];omega
     first | have de:(((s[k]).toNat:Int) == 95)=false:=aV5 (by omega) | have de:(((s[k]).toNat:Int) == 95)=true:=aV6 (by omega)
     go_wp2_with fail;go_roundw
     case rel=>exact ⟨k+1,by omega,by omega,by go_num,rfl,HA2.out⟩
     case measure=>simp [intOf];omega
  ·go_wp2_with fail
   go_ret;exact ⟨aF (by rw [HK.out,drop_nil (by rw [kS];omega)];rfl),rfl⟩
theorem rH (s:ByteArray)(w:World)(hs:s.size<=17592186044416) :
  Calls Tryz.prog 151 #[.string s] w fun e w'=>e=.returned (.bool (qK s))∧w=w':=by
 by_cases h0:s.size=0
 ·have t0:((s.size:Int) == 0)=true:=by simp [h0]
  have HC:=aV4 (gA (s:=s) (.inl h0));clear h0;go_enter Tryz.func151,Tryz.ntmps151;go_wp2_with fail;go_ret;exact ⟨aF HC.out.symm,rfl⟩
 have t0:((s.size:Int) == 0)=false:=aV5 (by omega);have h00:0<s.size:=by omega
 by_cases h1:16<s.size
 ·have HC:=aV4 (gA (s:=s) (.inr (.inl h1)))
  clear h0;go_enter Tryz.func151,Tryz.ntmps151;go_wp2_with fail;go_ret;exact ⟨aF HC.out.symm,rfl⟩
 by_cases h2:((s[0]).toNat:Int)<65
 ·have HC:=aV4 (gA (s:=s) (.inr (.inr (.inl (by rw [<- dJ s 0 h00];exact h2)))))
  clear h0;go_enter Tryz.func151,Tryz.ntmps151;go_wp2_with fail;go_ret;exact ⟨aF HC.out.symm,rfl⟩
 by_cases h3:90<((s[0]).toNat:Int)
 ·have HC:=aV4 (gA (s:=s) (.inr (.inr (.inr (by rw [<- dJ s 0 h00];exact h3)))))
  clear h0;go_enter Tryz.func151,Tryz.ntmps151;go_wp2_with fail;go_ret;exact ⟨aF HC.out.symm,rfl⟩
 have HC:=aV4 (uP h0 h1 (by rw [<- dJ s 0 h00];omega) (by rw [<- dJ s 0 h00];omega));have t1:decide (16<(s.size:Int))=false:=by simp;omega
 have t2:decide (((s[0]).toNat:Int)<65)=false:=by simp;omega
 have t3:decide (90<((s[0]).toNat:Int))=false:=by simp;omega
 clear h0;go_enter Tryz.func151,Tryz.ntmps151;go_wp2_with fail;go_loopw [3] (fun i wr=>aFr s 0 w i wr) (fun i _=>s.size - (intOf i).toNat)
 case atStart=>exact ⟨0,by omega,by omega,rfl,rfl,HC.out⟩
 case round =>
  obtain ⟨k,hk1,hk,rfl,rfl,hc⟩:=hrel;have HK:=aV4 hc;clear hc
  by_cases hlt:k<s.size
  ·have HA:=aV4 (HK.out.trans (jE hlt _))
   rcases pP ((s[k]).toNat:Int) with ⟨hp,hz⟩ | ⟨hp,hz⟩
   ·have HA2:=aV4 (HA.out.trans (by rw [hz,Bool.false_and]))
    clear hz HA;rcases hp with hp | ⟨hp,hp'⟩ | ⟨hp,hp'⟩ | ⟨hp,hp'⟩ | hp
    all_goals
     first | have d122:decide (((s[k]).toNat:Int)<=122)=true:=aV7 (by omega) | have d122:decide (((s[k]).toNat:Int)<=122)=false:=aV8 (by omega)
     first | have d90:decide (((s[k]).toNat:Int)<=90)=true:=aV7 (by omega) | have d90:decide (((s[k]).toNat:Int)<=90)=false:=aV8 (by omega)
     first | have d57:decide (((s[k]).toNat:Int)<=57)=true:=aV7 (by omega) | have d57:decide (((s[k]).toNat:Int)<=57)=false:=aV8 (by omega)
     first | have dn:(((s[k]).toNat:Int) != 95)=true:=bne_iff_ne.2 (by omega) | have dn:(((s[k]).toNat:Int) != 95)=false:=by rw [bne_eq_false_iff_eq];omega
     first | have de:(((s[k]).toNat:Int) == 95)=false:=aV5 (by omega) | have de:(((s[k]).toNat:Int) == 95)=true:=aV6 (by omega)
     go_wp2_with fail;go_ret;exact ⟨aF HA2.out.symm,rfl⟩
   ·have HA2:=aV4 (HA.out.trans (by rw [hz,Bool.true_and]))
    clear hz HA;rcases hp with ⟨hp,hp'⟩ | ⟨hp,hp'⟩ | ⟨hp,hp'⟩ | ⟨hp,hp'⟩
    all_goals
     first | have d122:decide (((s[k]).toNat:Int)<=122)=true:=aV7 (by omega) | have d122:decide (((s[k]).toNat:Int)<=122)=false:=aV8 (by omega)
     first | have d90:decide (((s[k]).toNat:Int)<=90)=true:=aV7 (by omega) | have d90:decide (((s[k]).toNat:Int)<=90)=false:=aV8 (by omega)
     first | have d57:decide (((s[k]).toNat:Int)<=57)=true:=aV7 (by omega) | have d57:decide (((s[k]).toNat:Int)<=57)=false:=aV8 (by omega)
     first | have dn:(((s[k]).toNat:Int) != 95)=true:=bne_iff_ne.2 (by omega) | have dn:(((s[k]).toNat:Int) != 95)=false:=by rw [bne_eq_false_iff_eq];omega
     first | have de:(((s[k]).toNat:Int) == 95)=false:=aV5 (by omega) | have de:(((s[k]).toNat:Int) == 95)=true:=aV6 (by omega)
     go_wp2_with fail;go_roundw
     case rel=>exact ⟨k+1,by omega,by omega,by go_num,rfl,HA2.out⟩
     case measure=>simp [intOf];omega
  ·go_wp2_with fail
   go_ret;exact ⟨aF (by rw [HK.out,drop_nil (by rw [kS];omega)];rfl),rfl⟩
def bC (s:ByteArray):Bool:=s.toList.isEmpty
def pZ (x:GV):Bool:=decide (x.kids.length<=256) && (decide (x.kind ≠ 3) || decide (x.kids.length<=16))
def aJ (x:GV):Bool :=
 if x.kind=0 then bC x.s && decide (x.kids.length=0)
 else if x.kind=1 then decide (x.n=0∨x.n=1) && bC x.s && decide (x.kids.length=0)
 else if x.kind=2 then decide (x.n=0) && bC x.s
 else if x.kind=3 then decide (x.n=0) && qK x.s
 else false
theorem zV (x:GV)(A:Option Addr)(c:Nat)(w:World)(h2:x.kids.length<=c)(_:x.kids.length<=17592186044416∧c<=9223372036854775807) :
  Calls Tryz.prog 179 #[eI x A c] w (dC (.bool (pZ x)) w):=by
 obtain ⟨k,n,s,l⟩:=x;have HF:=aV4 (show pZ (.mk k n s l)=(decide (l.length<=256) && (decide (k ≠ 3) || decide (l.length<=16))) from rfl);simp only [GV.kids] at h2
 change Calls Tryz.prog 179 #[.agg #[.int .i64 k,.int .i64 n,.string s,.slice A l.length c]] w _
 go_enter Tryz.func179,Tryz.ntmps179;go_wp2_with fail
 all_goals
  go_ret;refine ⟨aF ?_,(Ext.refl _).alloc' _⟩;rw [HF.out,Bool.eq_iff_iff]
  simp_all
  try omega
theorem aBs (x:GV)(A:Option Addr)(c:Nat)(w:World)(h1:x.s.size<=17592186044416)(h2:x.kids.length<=c)(_:x.kids.length<=17592186044416∧c<=9223372036854775807) :
  Calls Tryz.prog 178 #[eI x A c] w (dC (.bool (aJ x)) w):=by
 obtain ⟨k,n,s,l⟩:=x;simp only [GV.kids,GV.s] at h1 h2;have HF:=aV4 (show aJ (.mk k n s l)=(if k=0 then bC s && decide (l.length=0) else if k=1 then decide (n=0∨n=1) && bC s && decide (l.length=0) else if k=2 then decide (n=0) && bC s else if k=3 then decide (n=0) && qK s else false) from rfl)
 change Calls Tryz.prog 178 #[.agg #[.int .i64 k,.int .i64 n,.string s,.slice A l.length c]] w _
 go_enter Tryz.func178,Tryz.ntmps178;go_wp2_with (go_at_call 201;refine (yO _ _ h1).mono ?_;rintro e w' ⟨rfl,rfl⟩)
 all_goals
  go_ret;refine ⟨aF ?_,(Ext.refl _).alloc' _⟩;rw [HF.out,Bool.eq_iff_iff]
  simp_all [bC]
  try omega
def vP:Int × Bool × Bool->GV->(Int × Bool × Bool) × Bool
 | (n,g,m),x=>((wrap64 (n+1),g && aJ x,m && pZ x),g && aJ x)
def StV (b0 b1 b2:Nat)(s:Int × Bool × Bool)(w:World):Prop :=
 Blk w b0 3 #[.int .i64 s.1]∧Blk w b1 4 #[.bool s.2.1]∧Blk w b2 4 #[.bool s.2.2]
theorem aTg (b0 b1 b2:Nat)(h01:b0 ≠ b1)(h02:b0 ≠ b2)(h12:b1 ≠ b2) :
  aJt 177 #[.pointer (some ⟨b0,0,none⟩),.pointer (some ⟨b1,0,none⟩),.pointer (some ⟨b2,0,none⟩)] (fun b=>b=b0∨b=b1∨b=b2) (StV b0 b1 b2) vP:=by
 refine ⟨?_,fun s w w' h hx=>⟨h.1.ext hx,h.2.1.ext hx,h.2.2.ext hx⟩⟩;rintro ⟨n,g,m⟩ x A c d P w hP ⟨k0,k1,k2⟩ hx;have HX:=aV4 hx;have K0:=aV4 k0;have K1:=aV4 k1;have K2:=aV4 k2;have c0:=k0.cell' (u:=.int .i64 n) 0 rfl;have c1:=k1.cell' (u:=.bool g) 0 rfl;have c2:=k2.cell' (u:=.bool m) 0 rfl;have f0:=k0.frozen 0;have f1:=k1.frozen 0;have f2:=k2.frozen 0;have l0:=k0.lt;have l1:=k1.lt;have l2:=k2.lt;clear k0 k1 k2 hx hP;simp only [vP]
 show Calls Tryz.prog 177 #[eI x A c,.int .i64 d,.pointer (some ⟨b0,0,none⟩),.pointer (some ⟨b1,0,none⟩),.pointer (some ⟨b2,0,none⟩)] w _
 have HFR:=aV4 (show Fr (fun b=>b=b0∨b=b1∨b=b2) w w from Fr.refl _ _)
 cases g
 ·cases m
  ·go_enter Tryz.func177,Tryz.ntmps177
   go_wp2_with fail;go_ret;refine ⟨rfl,?_,?_,?_,?_⟩
   ·exact (((HFR.out.setCell (p:=⟨b0,0,none⟩) (.inl (.inl rfl)) _).setCell (p:=⟨b1,0,none⟩) (.inl (.inr (.inl rfl))) _).setCell (p:=⟨b2,0,none⟩) (.inl (.inr (.inr rfl))) _).alloc _
   ·exact (((K0.out.set_ 0 _).far (p:=⟨b1,0,none⟩) h01 _).far (p:=⟨b2,0,none⟩) h02 _).alloc _
   ·exact (((K1.out.far (p:=⟨b0,0,none⟩) h01.symm _).set_ 0 _).far (p:=⟨b2,0,none⟩) h12 _).alloc _
   ·exact (((K2.out.far (p:=⟨b0,0,none⟩) h02.symm _).far (p:=⟨b1,0,none⟩) h12.symm _).set_ 0 _).alloc _
  ·go_enter Tryz.func177,Tryz.ntmps177
   go_wp2_with fail;refine (zV x A c _ HX.out.len HX.out.cap).mono ?_;rintro e w1 ⟨rfl,hx1⟩;have HX1:=aV4 hx1;have B0:=aV4 ((((K0.out.set_ 0 (.int .i64 (wrap64 (n+1)))).far (p:=⟨b1,0,none⟩) h01 (.bool false)).alloc (.cells #[.int .i64 x.kind,.int .i64 x.n,.string x.s,.slice A x.kids.length c] 85)).ext hx1);have B1:=aV4 ((((K1.out.far (p:=⟨b0,0,none⟩) h01.symm (.int .i64 (wrap64 (n+1)))).set_ 0 (.bool false)).alloc (.cells #[.int .i64 x.kind,.int .i64 x.n,.string x.s,.slice A x.kids.length c] 85)).ext hx1);have B2:=aV4 ((((K2.out.far (p:=⟨b0,0,none⟩) h02.symm (.int .i64 (wrap64 (n+1)))).far (p:=⟨b1,0,none⟩) h12.symm (.bool false)).alloc (.cells #[.int .i64 x.kind,.int .i64 x.n,.string x.s,.slice A x.kids.length c] 85)).ext hx1);have FR:=aV4 ((((HFR.out.setCell (p:=⟨b0,0,none⟩) (.inl (.inl rfl)) (.int .i64 (wrap64 (n+1)))).setCell (p:=⟨b1,0,none⟩) (.inl (.inr (.inl rfl))) (.bool false)).alloc (.cells #[.int .i64 x.kind,.int .i64 x.n,.string x.s,.slice A x.kids.length c] 85)).trans (Fr.of_ext hx1));have d1:=B1.out.cell' (u:=.bool false) 0 rfl;have d2:=B2.out.cell' (u:=.bool true) 0 rfl;have q2:=B2.out.frozen 0;clear hx1;go_wp2_with fail;go_ret;refine ⟨rfl,?_,?_,?_,?_⟩
   ·exact FR.out.setCell (p:=⟨b2,0,none⟩) (.inl (.inr (.inr rfl))) _
   ·exact B0.out.far (p:=⟨b2,0,none⟩) h02 _
   ·exact B1.out.far (p:=⟨b2,0,none⟩) h12 _
   ·exact B2.out.set_ 0 _
 ·go_enter Tryz.func177,Tryz.ntmps177
  go_wp2_with fail;refine (aBs x A c _ HX.out.s HX.out.len HX.out.cap).mono ?_;rintro e w1 ⟨rfl,hx1⟩;have HX1:=aV4 hx1;have B0:=aV4 (((K0.out.set_ 0 (.int .i64 (wrap64 (n+1)))).alloc (.cells #[.int .i64 x.kind,.int .i64 x.n,.string x.s,.slice A x.kids.length c] 85)).ext hx1);have B1:=aV4 (((K1.out.far (p:=⟨b0,0,none⟩) h01.symm (.int .i64 (wrap64 (n+1)))).alloc (.cells #[.int .i64 x.kind,.int .i64 x.n,.string x.s,.slice A x.kids.length c] 85)).ext hx1);have B2:=aV4 (((K2.out.far (p:=⟨b0,0,none⟩) h02.symm (.int .i64 (wrap64 (n+1)))).alloc (.cells #[.int .i64 x.kind,.int .i64 x.n,.string x.s,.slice A x.kids.length c] 85)).ext hx1);have BX:=aV4 ((Blk.new' (w.setCell ⟨b0,0,none⟩ (.int .i64 (wrap64 (n+1)))) 85 #[.int .i64 x.kind,.int .i64 x.n,.string x.s,.slice A x.kids.length c] (g:=w.heap.size) (by simp [World.setCell])).ext hx1);have FR:=aV4 (((HFR.out.setCell (p:=⟨b0,0,none⟩) (.inl (.inl rfl)) (.int .i64 (wrap64 (n+1)))).alloc (.cells #[.int .i64 x.kind,.int .i64 x.n,.string x.s,.slice A x.kids.length c] 85)).trans (Fr.of_ext hx1));have d1:=B1.out.cell' (u:=.bool true) 0 rfl;have q1:=B1.out.frozen 0;have d2:=B2.out.cell' (u:=.bool m) 0 rfl;have q2:=B2.out.frozen 0;have x0:=BX.out.cell' (u:=.int .i64 x.kind) 0 rfl
  have x1:=BX.out.cell' (u:=.int .i64 x.n) 1 rfl;have x2:=BX.out.cell' (u:=.string x.s) 2 rfl;have x3:=BX.out.cell' (u:=.slice A x.kids.length c) 3 rfl;have lx:=BX.out.lt;have lx1:=B1.out.lt;have lx2:=B2.out.lt;clear hx1 c0 c1 c2 f0 f1 f2
  cases m
  ·go_wp2_with fail
   go_ret;refine ⟨rfl,?_,?_,?_,?_⟩
   ·exact (FR.out.setCell (p:=⟨b1,0,none⟩) (.inl (.inr (.inl rfl))) _).setCell (p:=⟨b2,0,none⟩) (.inl (.inr (.inr rfl))) _
   ·exact (B0.out.far (p:=⟨b1,0,none⟩) h01 _).far (p:=⟨b2,0,none⟩) h02 _
   ·exact (B1.out.set_ 0 _).far (p:=⟨b2,0,none⟩) h12 _
   ·exact (B2.out.far (p:=⟨b1,0,none⟩) h12.symm _).set_ 0 _
  ·go_wp2_with fail
   refine (zV x A c _ HX.out.len HX.out.cap).mono ?_;rintro e w2 ⟨rfl,hx2⟩;have C0:=aV4 ((B0.out.far (p:=⟨b1,0,none⟩) h01 (.bool (aJ x))).ext hx2);have C1:=aV4 ((B1.out.set_ 0 (.bool (aJ x))).ext hx2);have C2:=aV4 ((B2.out.far (p:=⟨b1,0,none⟩) h12.symm (.bool (aJ x))).ext hx2);have FR2:=aV4 ((FR.out.setCell (p:=⟨b1,0,none⟩) (.inl (.inr (.inl rfl))) (.bool (aJ x))).trans (Fr.of_ext hx2));have e1:=C1.out.cell' (u:=.bool (aJ x)) 0 rfl;have e2:=C2.out.cell' (u:=.bool true) 0 rfl;have r2:=C2.out.frozen 0;clear hx2;go_wp2_with fail;go_ret;refine ⟨rfl,?_,?_,?_,?_⟩
   ·exact FR2.out.setCell (p:=⟨b2,0,none⟩) (.inl (.inr (.inr rfl))) _
   ·exact C0.out.far (p:=⟨b2,0,none⟩) h02 _
   ·exact C1.out.far (p:=⟨b2,0,none⟩) h12 _
   ·exact C2.out.set_ 0 _
def aAj {σ:Type}(M:Nat->Prop)(St:σ->World->Prop)(r:σ)(w:World)(e:Ending)(w':World):Prop :=
 e=.returned (.tuple #[])∧Fr M w w'∧St r w'
theorem vI {σ:Type}(g0 g1 g2:Nat)(M:Nat->Prop)(St:σ->World->Prop)(f:σ->GV->σ × Bool)(hF:aJt 177 #[.pointer (some ⟨g0,0,none⟩),.pointer (some ⟨g1,0,none⟩),.pointer (some ⟨g2,0,none⟩)] M St f)
  (s:σ)(x:GV)(A:Option Addr)(c:Nat)(P:Nat->Prop)(w:World)(hP:∀ b,P b->¬ M b)(hM:∀ b,M b->b<w.heap.size)(hs:St s w)(hx:VAt w P x A c) :
  Calls Tryz.prog 176 #[eI x A c,.func (.func 177) #[] #[.pointer (some ⟨g0,0,none⟩),.pointer (some ⟨g1,0,none⟩),.pointer (some ⟨g2,0,none⟩)]] w (aAj M St (vis f s x).1 w):=by
 have HX:=aV4 hx;have HP:=aV4 hP;have HM:=aV4 hM;have HS:=aV4 hs;clear hx hP hM hs;go_enter Tryz.func176,Tryz.ntmps176;go_wp2_with fail;refine (aAy g0 g1 g2 M St f hF (gsz x+1) s x A c 1 P _ (w.heap.size+1) (w.heap.size+2) (by omega) HP.out (fun b hb=>by have:=HM.out b hb;simp;omega) (hF.keep _ _ _ HS.out (((((Ext.refl _).alloc' _).alloc' _).alloc' _))) (HX.out.ext (((((Ext.refl _).alloc' _).alloc' _).alloc' _))) ?_ ?_ ?_ ?_).mono ?_
 ·exact (Blk.new' _ _ _ (by simp)).alloc _
 ·exact Blk.new' _ _ _ (by simp)
 ·exact fun h=>by have:=HM.out _ h;omega
 ·exact fun h=>by have:=HM.out _ h;omega
 rintro e w1 ⟨rfl,hf1,hs1⟩;have HF1:=aV4 ((Fr.of_ext (((((Ext.refl w).alloc' _).alloc' _).alloc' _))).trans hf1);have HS1:=aV4 hs1;clear hf1 hs1;go_wp2_with fail;go_end0;exact ⟨rfl,HF1.out,HS1.out⟩
theorem vH {σ:Type}(g0:Nat)(M:Nat->Prop)(St:σ->World->Prop)(f:σ->GV->σ × Bool)(hF:aJt 180 #[.pointer (some ⟨g0,0,none⟩)] M St f)
  (s:σ)(x:GV)(A:Option Addr)(c:Nat)(P:Nat->Prop)(w:World)(hP:∀ b,P b->¬ M b)(hM:∀ b,M b->b<w.heap.size)(hs:St s w)(hx:VAt w P x A c) :
  Calls Tryz.prog 176 #[eI x A c,.func (.func 180) #[] #[.pointer (some ⟨g0,0,none⟩)]] w (aAj M St (vis f s x).1 w):=by
 have HX:=aV4 hx;have HP:=aV4 hP;have HM:=aV4 hM;have HS:=aV4 hs;clear hx hP hM hs;go_enter Tryz.func176,Tryz.ntmps176;go_wp2_with fail;refine (aAx g0 M St f hF (gsz x+1) s x A c 1 P _ (w.heap.size+1) (w.heap.size+2) (by omega) HP.out (fun b hb=>by have:=HM.out b hb;simp;omega) (hF.keep _ _ _ HS.out (((((Ext.refl _).alloc' _).alloc' _).alloc' _))) (HX.out.ext (((((Ext.refl _).alloc' _).alloc' _).alloc' _))) ?_ ?_ ?_ ?_).mono ?_
 ·exact (Blk.new' _ _ _ (by simp)).alloc _
 ·exact Blk.new' _ _ _ (by simp)
 ·exact fun h=>by have:=HM.out _ h;omega
 ·exact fun h=>by have:=HM.out _ h;omega
 rintro e w1 ⟨rfl,hf1,hs1⟩;have HF1:=aV4 ((Fr.of_ext (((((Ext.refl w).alloc' _).alloc' _).alloc' _))).trans hf1);have HS1:=aV4 hs1;clear hf1 hs1;go_wp2_with fail;go_end0;exact ⟨rfl,HF1.out,HS1.out⟩
def aFu:Int->GV->Int × Bool
 | n,_=>(wrap64 (n+1),true)
def StS (b0:Nat)(s:Int)(w:World):Prop:=Blk w b0 3 #[.int .i64 s]
theorem aTh (b0:Nat):aJt 180 #[.pointer (some ⟨b0,0,none⟩)] (fun b=>b=b0) (StS b0) aFu:=by
 refine ⟨?_,fun s w w' h hx=>Blk.ext h hx⟩;rintro n x A c d P w hP k0 hx;have k0':Blk w b0 3 #[.int .i64 n]:=k0;have K0:=aV4 k0';have c0:=k0'.cell' (u:=.int .i64 n) 0 rfl;have f0:=k0'.frozen 0;have l0:=k0'.lt;clear k0 k0' hx hP;simp only [aFu]
 show Calls Tryz.prog 180 #[eI x A c,.int .i64 d,.pointer (some ⟨b0,0,none⟩)] w _
 go_enter Tryz.func180,Tryz.ntmps180;go_wp2_with fail;go_ret;refine ⟨rfl,?_,?_⟩
 ·exact ((Fr.refl (fun b=>b=b0) w).setCell (p:=⟨b0,0,none⟩) (.inl rfl) _).alloc _
 ·exact (K0.out.set_ 0 _).alloc _
def eW (x:GV):Int :=
 if (vis vP (0,true,true) x).1.2.1=false then 1
 else if (vis vP (0,true,true) x).1.2.2=false∨1024<(vis vP (0,true,true) x).1.1 then 4
 else 0
theorem qV (x:GV)(A:Option Addr)(c:Nat)(P:Nat->Prop)(w:World)(hP:∀ b,P b->b<w.heap.size)(hx:VAt w P x A c) :
  Calls Tryz.prog 136 #[eI x A c] w (dC (.int .i64 (vis aFu 0 x).1) w):=by
 have HX:=aV4 hx;have HP:=aV4 hP;clear hx hP;go_enter Tryz.func136,Tryz.ntmps136;go_wp2_with fail;refine (vH (w.heap.size+1) (fun b=>b=w.heap.size+1) (StS (w.heap.size+1)) aFu (aTh _) 0 x A c P _ ?_ ?_ ?_ (HX.out.ext ((((Ext.refl _).alloc' _).alloc' _)))).mono ?_
 ·rintro b hb rfl
  have:=HP.out _ hb;omega
 ·rintro b rfl
  simp
 ·exact Blk.new' _ _ _ (by simp)
 rintro e w1 ⟨rfl,hf1,hs1⟩;have hs2:Blk w1 (w.heap.size+1) 3 #[.int .i64 (vis aFu 0 x).1]:=hs1;have c0:=hs2.cell' (u:=.int .i64 (vis aFu 0 x).1) 0 rfl;have HF1:=aV4 (((Fr.of_ext ((((Ext.refl w).alloc' _).alloc' _))).trans hf1));clear hf1 hs1 hs2;go_wp2_with fail;go_ret;exact ⟨rfl,HF1.out.new_ext (fun b hb=>by rw [hb];omega)⟩
theorem gO (x:GV)(A:Option Addr)(c:Nat)(P:Nat->Prop)(w:World)(hP:∀ b,P b->b<w.heap.size)(hx:VAt w P x A c) :
  Calls Tryz.prog 135 #[eI x A c] w (dC (.int .i64 (eW x)) w):=by
 have HX:=aV4 hx;have HP:=aV4 hP
 have HV:=aV4 (show eW x=if (vis vP (0,true,true) x).1.2.1=false then 1
  else if (vis vP (0,true,true) x).1.2.2=false∨1024<(vis vP (0,true,true) x).1.1 then 4 else 0 from rfl)
 clear hx hP;go_enter Tryz.func135,Tryz.ntmps135;go_wp2_with fail;refine (vI (w.heap.size+1) (w.heap.size+2) (w.heap.size+3) (fun b=>b=w.heap.size+1∨b=w.heap.size+2∨b=w.heap.size+3) (StV _ _ _) vP (aTg _ _ _ (by omega) (by omega) (by omega)) (0,true,true) x A c P _ ?_ ?_ ?_ (HX.out.ext ((((((Ext.refl _).alloc' _).alloc' _).alloc' _).alloc' _)))).mono ?_
 ·rintro b hb h
  have:=HP.out _ hb;omega
 ·rintro b h
  simp;omega
 ·exact ⟨((Blk.new' _ _ _ (by simp)).alloc _).alloc _,(Blk.new' _ _ _ (by simp)).alloc _,Blk.new' _ _ _ (by simp)⟩
 generalize vis vP (0,true,true) x=r at *;obtain ⟨⟨n,g,m⟩,b⟩:=r;rintro e w1 ⟨rfl,hf1,hs1,hs2,hs3⟩;have c0:=hs1.cell' (u:=.int .i64 n) 0 rfl;have c1:=hs2.cell' (u:=.bool g) 0 rfl;have c2:=hs3.cell' (u:=.bool m) 0 rfl;have HF1:=aV4 (((Fr.of_ext ((((((Ext.refl w).alloc' _).alloc' _).alloc' _).alloc' _))).trans hf1).new_ext (fun b hb=>by omega));clear hf1 hs1 hs2 hs3
 cases g
 ·go_wp2_with fail
  go_ret;exact ⟨aM (by rw [HV.out];simp),HF1.out⟩
 ·cases m
  ·go_wp2_with fail
   go_ret;exact ⟨aM (by rw [HV.out];simp),HF1.out⟩
  ·go_wp2_with fail
   all_goals
    go_ret;refine ⟨aM ?_,HF1.out⟩;rw [HV.out]
    simp_all
    try omega
end Go.Proofs.YtkoeecdjijfjnaaGreat
