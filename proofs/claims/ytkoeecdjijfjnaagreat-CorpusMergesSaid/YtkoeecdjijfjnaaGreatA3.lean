/- Contracts of functions, plain laws. Conditions: none. -/
import Derived.StillTailTactics
import Derived.Test.YtkoeecdjijfjnaaGreatA1
set_option maxRecDepth 100000
set_option maxHeartbeats 8000000
namespace Go.Proofs.YtkoeecdjijfjnaaGreat
open Go.RowKit
inductive GV:Type where
 | mk (kind n:Int) (s:ByteArray) (kids:List GV)
def GV.kind:GV->Int | .mk k _ _ _=>k
def GV.n:GV->Int | .mk _ n _ _=>n
def GV.s:GV->ByteArray | .mk _ _ s _=>s
def GV.kids:GV->List GV | .mk _ _ _ l=>l
instance:Inhabited GV:=⟨.mk 0 0 ByteArray.empty []⟩
def CAP:Nat:=17592186044416
mutual
def RV (w:World)(P:Nat->Prop):GV->List Value->Prop
 | .mk k n s kids,cs=>I64 k∧I64 n∧s.size<=17592186044416∧∃ A c css,cs=[.int .i64 k,.int .i64 n,.string s,.slice A kids.length c]∧kids.length<=c∧(kids.length<=17592186044416∧c<=9223372036854775807) ∧
   Sl w P 4 A kids.length css∧RVs w P kids css
def RVs (w:World)(P:Nat->Prop):List GV->List Value->Prop
 | [],cs=>cs=[]
 | x :: xs,cs=>∃ c1 c2,cs=c1 ++ c2∧RV w P x c1∧RVs w P xs c2
end
def bW (w:World)(P:Nat->Prop)(v:Value)(l:List GV):Prop :=
 ∃ A c css,v=.slice A l.length c∧l.length<=c∧(l.length<=17592186044416∧c<=9223372036854775807)∧Sl w P 4 A l.length css∧RVs w P l css
theorem RV.mk_iff {w:World}{P:Nat->Prop}{k n:Int}{s:ByteArray}{kids:List GV}{cs:List Value} :
  RV w P (.mk k n s kids) cs ↔ I64 k∧I64 n∧s.size<=17592186044416∧∃ v,cs=[.int .i64 k,.int .i64 n,.string s,v]∧bW w P v kids:=by
 unfold RV bW
 constructor
 ·rintro ⟨h1,h2,h3,A,c,css,rfl,h4⟩
  exact ⟨h1,h2,h3,_,rfl,A,c,css,rfl,h4⟩
 ·rintro ⟨h1,h2,h3,v,rfl,A,c,css,rfl,h4⟩
  exact ⟨h1,h2,h3,A,c,css,rfl,h4⟩
theorem RV.open_ {w:World}{P:Nat->Prop}{x:GV}{cs:List Value}(h:RV w P x cs) :
  I64 x.kind∧I64 x.n∧x.s.size<=17592186044416∧∃ v,cs=[.int .i64 x.kind,.int .i64 x.n,.string x.s,v]∧bW w P v x.kids:=by
 obtain ⟨k,n,s,kids⟩:=x;exact RV.mk_iff.1 h
theorem RV.len {w:World}{P:Nat->Prop}{x:GV}{cs:List Value}(h:RV w P x cs):cs.length=4:=by
 obtain ⟨k,n,s,kids⟩:=x;obtain ⟨_,_,_,v,rfl,_⟩:=RV.mk_iff.1 h
 rfl
theorem RVs.len {w:World}{P:Nat->Prop}{l:List GV}{cs:List Value}(h:RVs w P l cs):cs.length=l.length*4:=by
 induction l generalizing cs with
 | nil=>simp only [RVs] at h;subst h;rfl
 | cons x xs ih =>
  simp only [RVs] at h;obtain ⟨c1,c2,rfl,h1,h2⟩:=h;have:=ih h2;have:=h1.len;simp only [List.length_append,List.length_cons];omega
mutual
theorem RV.keep {w w':World}{P Q:Nat->Prop}(hk:aB P w w')(hPQ:∀ b,P b->Q b):∀ {x:GV}{cs:List Value},RV w P x cs->RV w' Q x cs
 | .mk k n s kids,cs,h=>by
  simp only [RV] at h ⊢;obtain ⟨h1,h2,h3,A,c,css,h4,h5,h6,h7,h8⟩:=h;exact ⟨h1,h2,h3,A,c,css,h4,h5,h6,h7.keep hk hPQ,RVs.keep hk hPQ h8⟩
theorem RVs.keep {w w':World}{P Q:Nat->Prop}(hk:aB P w w')(hPQ:∀ b,P b->Q b):∀ {l:List GV}{cs:List Value},RVs w P l cs->RVs w' Q l cs
 | [],cs,h=>by simp only [RVs] at h ⊢;exact h
 | x :: xs,cs,h=>by
  simp only [RVs] at h ⊢;obtain ⟨c1,c2,h1,h2,h3⟩:=h;exact ⟨c1,c2,h1,RV.keep hk hPQ h2,RVs.keep hk hPQ h3⟩
end
theorem bW.keep {w w':World}{P Q:Nat->Prop}{v:Value}{l:List GV}(h:bW w P v l)(hk:aB P w w')(hPQ:∀ b,P b->Q b):bW w' Q v l:=by
 obtain ⟨A,c,css,h1,h2,h3,h4,h5⟩:=h;exact ⟨A,c,css,h1,h2,h3,h4.keep hk hPQ,RVs.keep hk hPQ h5⟩
theorem bW.ext {w w':World}{P:Nat->Prop}{v:Value}{l:List GV}(h:bW w P v l)(hx:Ext w w'):bW w' P v l:=h.keep (aB.of_ext hx) (fun _ h=>h)
theorem RVs.append {w:World}{P:Nat->Prop}{a b:List GV}{ca cb:List Value}(ha:RVs w P a ca)(hb:RVs w P b cb):RVs w P (a ++ b) (ca ++ cb):=by
 induction a generalizing ca with
 | nil=>simp only [RVs] at ha;subst ha;exact hb
 | cons x xs ih =>
  simp only [RVs] at ha;obtain ⟨c1,c2,rfl,h1,h2⟩:=ha;simp only [List.cons_append,RVs];exact ⟨c1,c2 ++ cb,U,h1,ih h2⟩
theorem RVs.one {w:World}{P:Nat->Prop}{x:GV}{c:List Value}(h:RV w P x c):RVs w P [x] c:=by
 simp only [RVs];exact ⟨c,[],U,h,rfl⟩
theorem RVs.drop {w:World}{P:Nat->Prop}{l:List GV}{cs:List Value}(h:RVs w P l cs)(k:Nat):RVs w P (l.drop k) (cs.drop (k*4)):=by
 induction k generalizing l cs with
 | zero=>simpa using h
 | succ k ih =>
  cases l with
  | nil=>simp only [RVs] at h;subst h;simp [RVs]
  | cons x xs =>
   simp only [RVs] at h;obtain ⟨c1,c2,rfl,h1,h2⟩:=h;have e:(k+1)*4=c1.length+k*4:=by rw [h1.len];omega
   rw [e,List.drop_length_add_append];exact ih h2
theorem RVs.take {w:World}{P:Nat->Prop}{l:List GV}{cs:List Value}(h:RVs w P l cs)(k:Nat):RVs w P (l.take k) (cs.take (k*4)):=by
 induction k generalizing l cs with
 | zero=>simp [RVs]
 | succ k ih =>
  cases l with
  | nil=>simp only [RVs] at h;subst h;simp [RVs]
  | cons x xs =>
   simp only [RVs] at h;obtain ⟨c1,c2,rfl,h1,h2⟩:=h;have e:(k+1)*4=c1.length+k*4:=by rw [h1.len];omega
   rw [e,List.take_length_add_append];simp only [List.take_succ_cons,RVs];exact ⟨c1,_,rfl,h1,ih h2⟩
theorem RVs.get {w:World}{P:Nat->Prop}{l:List GV}{cs:List Value}(h:RVs w P l cs){i:Nat}(hi:i<l.length) :
  RV w P (l.getD i default) ((cs.drop (i*4)).take 4):=by
 have h1:=h.drop i;rw [aF default hi] at h1;simp only [RVs] at h1;obtain ⟨c1,c2,e,h2,_⟩:=h1;rw [e,<- h2.len,List.take_left']
 ·exact h2
 ·rfl
structure VAt (w:World)(P:Nat->Prop)(x:GV)(A:Option Addr)(c:Nat):Prop where
 kind:I64 x.kind
 n:I64 x.n
 s:x.s.size<=17592186044416
 len:x.kids.length<=c
 cap:x.kids.length<=17592186044416∧c<=9223372036854775807
 kids:bW w P (.slice A x.kids.length c) x.kids
abbrev dS (x:GV)(A:Option Addr)(c:Nat):Value:=.agg #[↑x.kind,↑x.n,.string x.s,.slice A x.kids.length c]
def cellsOf (x:GV)(A:Option Addr)(c:Nat):List Value:=[.int .i64 x.kind,.int .i64 x.n,.string x.s,.slice A x.kids.length c]
theorem RV.at_ {w:World}{P:Nat->Prop}{x:GV}{cs:List Value}(h:RV w P x cs):∃ A c,cs=cellsOf x A c∧VAt w P x A c:=by
 obtain ⟨h1,h2,h3,v,rfl,h4⟩:=h.open_;have h5:=h4;obtain ⟨A,c,css,rfl,h6,h7,_⟩:=h4;exact ⟨A,c,rfl,h1,h2,h3,h6,h7,h5⟩
theorem VAt.rv {w:World}{P:Nat->Prop}{x:GV}{A:Option Addr}{c:Nat}(h:VAt w P x A c):RV w P x (cellsOf x A c):=by
 obtain ⟨k,n,s,kids⟩:=x;exact RV.mk_iff.2 ⟨h.kind,h.n,h.s,_,rfl,h.kids⟩
theorem VAt.keep {w w':World}{P Q:Nat->Prop}{x:GV}{A:Option Addr}{c:Nat}(h:VAt w P x A c)(hk:aB P w w')(hPQ:∀ b,P b->Q b):VAt w' Q x A c :=
 ⟨h.kind,h.n,h.s,h.len,h.cap,h.kids.keep hk hPQ⟩
theorem VAt.ext {w w':World}{P:Nat->Prop}{x:GV}{A:Option Addr}{c:Nat}(h:VAt w P x A c)(hx:Ext w w'):VAt w' P x A c:=h.keep (aB.of_ext hx) (fun _ h=>h)
theorem bW.at_ {w:World}{P:Nat->Prop}{v:Value}{l:List GV}(h:bW w P v l){i:Nat}(hi:i<l.length) :
  ∃ b off c A d,v=.slice (some ⟨b,off,none⟩) l.length c∧P b∧l.length<=c∧(l.length<=17592186044416∧c<=9223372036854775807)∧VAt w P (l.getD i default) A d ∧
   w.cell? ⟨b,off+i*4,none⟩=some (.int .i64 (l.getD i default).kind)∧w.cell? ⟨b,off+i*4+1,none⟩=some (.int .i64 (l.getD i default).n) ∧
   w.cell? ⟨b,off+i*4+2,none⟩=some (.string (l.getD i default).s)∧w.cell? ⟨b,off+i*4+3,none⟩=some (.slice A (l.getD i default).kids.length d):=by
 obtain ⟨A,c,css,rfl,h2,h3,h4,h5⟩:=h;obtain ⟨b,off,rfl,hb,hc⟩:=h4.2 D;obtain ⟨A',d,e,hu⟩:=(h5.get hi).at_
 have hx:∀ j,j<4->css[i*4+j]?=((css.drop (i*4)).take 4)[j]?:=by
  intro j hj;rw [List.getElem?_take,if_pos hj,List.getElem?_drop]
 unfold cellsOf at e;refine ⟨b,off,c,A',d,rfl,hb,h2,h3,hu,?_,?_,?_,?_⟩
 ·apply hc;have:=hx 0 D;rw [e] at this;simpa using this
 ·rw [Nat.add_assoc];apply hc;have:=hx 1 D;rw [e] at this;simpa using this
 ·rw [Nat.add_assoc];apply hc;have:=hx 2 D;rw [e] at this;simpa using this
 ·rw [Nat.add_assoc];apply hc;have:=hx 3 D;rw [e] at this;simpa using this
mutual
def gsz:GV->Nat
 | .mk _ _ _ l=>1+jD l
def jD:List GV->Nat
 | []=>0
 | x :: xs=>gsz x+jD xs
end
theorem tG {x:GV}{l:List GV}(h:x ∈ l):gsz x<=jD l:=by
 induction l with
 | nil=>cases h
 | cons y ys ih =>
  simp only [jD];rcases List.mem_cons.1 h with rfl | h
  ·omega
  ·have:=ih h;omega
theorem cP {x y:GV}(h:y ∈ x.kids):gsz y<gsz x:=by
 obtain ⟨k,n,s,l⟩:=x;have:=tG (l:=l) h;simp only [gsz];omega
theorem aD {α:Type}{l:List α}{i:Nat}{d:α}(h:i<l.length):l.getD i d ∈ l:=by
 have:l.getD i d=l[i]:=by simp [h]
 rw [this];exact List.getElem_mem h
def nI (a b:ByteArray):Int:=if Op.bytesLess a.toList b.toList then -1 else if a.toList=b.toList then 0 else 1
mutual
def cE:GV->GV->Int
 | .mk k n s l,.mk k' n' s' l'=>if iN k k'=0 then (if iN n n'=0 then (if nI s s'=0 then cU l l' else nI s s') else iN n n') else iN k k'
def cU:List GV->List GV->Int
 | [],[]=>0
 | [],_ :: _=>-1
 | _ :: _,[]=>1
 | x :: xs,y :: ys=>if cE x y=0 then cU xs ys else cE x y
end
theorem aFd (x y:GV):cE x y=if iN x.kind y.kind=0 then (if iN x.n y.n=0 then (if nI x.s y.s=0 then cU x.kids y.kids else nI x.s y.s) else iN x.n y.n) else iN x.kind y.kind:=by
 obtain ⟨k,n,s,l⟩:=x;obtain ⟨k',n',s',l'⟩:=y;simp only [cE,GV.kind,GV.n,GV.s,GV.kids]
 rfl
theorem kF (x y:GV)(xs ys:List GV):cU (x :: xs) (y :: ys)=if cE x y=0 then cU xs ys else cE x y:=by simp only [cU]
theorem aBx (s:ByteArray)(w:World) :
  Calls Tryz.prog 199 #[.string s] w fun e w'=>e=.returned (.bool false)∧w=w':=by
 go_enter Tryz.func199,Tryz.ntmps199;go_wp2;go_ret;exact ⟨rfl,rfl⟩
theorem aB9 (a b:ByteArray)(w:World) :
  Calls Tryz.prog 174 #[.string a,.string b] w fun e w'=>e=.returned (.int .i64 (nI a b))∧w=w':=by
 go_enter Tryz.func174,Tryz.ntmps174;go_wp2_with (go_at_call 199;refine (aBx _ _).mono ?_;rintro e w' ⟨rfl,rfl⟩)
 ·rename_i h1
  go_ret;exact ⟨aL (by unfold nI;rw [if_pos h1]),rfl⟩
 ·rename_i h2
  have h1:Op.bytesLess a.toList b.toList=false:=aw
  go_ret;exact ⟨aL (by unfold nI;rw [if_neg (by simp [h1]),if_neg ia]),rfl⟩
 ·rename_i h2
  have h1:Op.bytesLess a.toList b.toList=false:=aw
  go_ret;exact ⟨aL (by unfold nI;rw [if_neg (by simp [h1]),if_pos ia]),rfl⟩
def eJ (f:Nat)(N:Nat):Prop:=∀ (x y:GV)(A B:Option Addr)(c d:Nat)(P Q:Nat->Prop)(w:World),gsz x<N->VAt w P x A c->VAt w Q y B d ->
  Calls Tryz.prog f #[dS x A c,dS y B d] w (cT (.int .i64 (cE x y)) w)
def aF8 (a b:List GV)(w:World)(i:Value)(wr:World):Prop:=∃ k:Nat,k<=a.length∧k<=b.length∧i=↑k∧Ext w wr∧cU a b=cU (a.drop k) (b.drop k)
theorem pP (N:Nat)(hS:eJ 134 N)(a b:List GV)(P Q:Nat->Prop)(va vb:Value)(w:World)(ha:bW w P va a)(hb:bW w Q vb b)(hN:∀ x ∈ a,gsz x<N) :
  Calls Tryz.prog 175 #[va,vb,.func (.func 134) #[] #[]] w (cT (.int .i64 (cU a b)) w):=by
 have HA:=aZv ha;have HB:=aZv hb;obtain ⟨A,c,ca,rfl,h2,h3,h4,h5⟩:=ha;obtain ⟨A',c',cb,rfl,h2',h3',h4',h5'⟩:=hb;clear h4 h5 h4' h5';have HN:=aZv hN;clear hN;go_enter Tryz.func175,Tryz.ntmps175;go_wp2_with fail;go_loopw [13] (fun i wr=>aF8 a b w i wr) (fun i _=>a.length - (intOf i).toNat)
 case atStart=>exact ⟨0,Nat.zero_le _,Nat.zero_le _,rfl,Below.refl _ _,rfl⟩
 case round =>
  obtain ⟨k,hk,hk',rfl,hx,ht⟩:=hrel;have HT:=aZv ht;have HX:=aZv hx;clear ht hx
  by_cases hlt:k<a.length
  ·by_cases hlt':k<b.length
   ·have HD:=aZv (show cU a b=cU (a.getD k default :: a.drop (k+1)) (b.getD k default :: b.drop (k+1)) by
     rw [HT.out,<- aF default hlt,<- aF default hlt'])
    obtain ⟨b1,o1,c1,A1,d1,e1,-,-,-,hv1,g10,g11,g12,g13⟩:=(HA.out.ext HX.out).at_ hlt;obtain ⟨b2,o2,c2,A2,d2,e2,-,-,-,hv2,g20,g21,g22,g23⟩:=(HB.out.ext HX.out).at_ hlt'
    cases e1
    cases e2
    have HM:=aZv (HN.out _ (aD (d:=default) hlt));have HV1:=aZv hv1;have HV2:=aZv hv2;clear hv1 hv2;generalize a.getD k default=x at *;generalize b.getD k default=y at *;have lb1:=aN g10;have lb2:=aN g20;go_wp2_with fail;refine (hS x y A1 A2 d1 d2 P Q _ HM.out (HV1.out.ext (((Ext.refl _).alloc' _).alloc' _)) (HV2.out.ext (((Ext.refl _).alloc' _).alloc' _))).mono ?_;rintro e w1 ⟨rfl,hx1⟩;have HX1:=aZv hx1;clear hx1;go_wp2_with fail
    ·rename_i hz
     go_ret;refine ⟨aL ?_,((HX.out.alloc' _).alloc' _).trans' HX1.out⟩;rw [HD.out,kF,if_neg bh]
    ·rename_i hz
     go_roundw
     case rel =>
      refine ⟨k+1,D,D,by go_num,((HX.out.alloc' _).alloc' _).trans' HX1.out,?_⟩;rw [HD.out,kF,if_pos bh]
     case measure=>simp [intOf];omega
   ·obtain ⟨b1,o1,c1,A1,d1,e1,-,-,-,hv1,g10,g11,g12,g13⟩:=(HA.out.ext HX.out).at_ hlt
    cases e1
    clear hv1
    have HE:=aZv (show cU a b=1 by
     rw [HT.out,drop_nil (l:=b) D,aF default hlt];simp only [cU])
    generalize a.getD k default=x at *;have lb1:=aN g10;go_wp2_with fail;go_ret;exact ⟨aL HE.out.symm,HX.out.alloc' _⟩
  ·by_cases hlt':k<b.length
   ·have HE:=aZv (show cU a b=-1 by
     rw [HT.out,drop_nil (l:=a) D,aF default hlt'];simp only [cU])
    go_wp2_with fail;go_ret;exact ⟨aL HE.out.symm,HX.out⟩
   ·have HE:=aZv (show cU a b=0 by
     rw [HT.out,drop_nil (l:=a) D,drop_nil (l:=b) D];simp only [cU])
    go_wp2_with fail;go_ret;exact ⟨aL HE.out.symm,HX.out⟩
theorem kZ (N:Nat)(hS:eJ 134 N):eJ 134 (N+1):=by
 intro x y A B c d P Q w hN hx hy;have HX:=aZv hx;have HY:=aZv hy;have HN:=aZv (show ∀ z ∈ x.kids,gsz z<N from fun z hz=>by have:=cP hz;omega);have HC:=aZv (aFd x y);clear hx hy;go_enter Tryz.func134,Tryz.ntmps134;go_wp2_with fail;refine (kG _ _ _).mono ?_;rintro e w' ⟨rfl,rfl⟩;go_wp2_with fail
 ·rename_i hz
  go_ret;refine ⟨aL ?_,((Ext.refl _).alloc' _).alloc' _⟩;rw [HC.out,if_neg bh]
 have hz1:(iN x.kind y.kind != 0)=false:=aw
 have HZ1:=aZv (show iN x.kind y.kind=0 by simpa using hz1);refine (kG _ _ _).mono ?_;rintro e w' ⟨rfl,rfl⟩;go_wp2_with fail
 ·rename_i hz
  go_ret;refine ⟨aL ?_,((Ext.refl _).alloc' _).alloc' _⟩;rw [HC.out,if_pos HZ1.out,if_neg bh]
 have hz2:(iN x.n y.n != 0)=false:=aw
 have HZ2:=aZv (show iN x.n y.n=0 by simpa using hz2);refine (aB9 _ _ _).mono ?_;rintro e w' ⟨rfl,rfl⟩;go_wp2_with fail
 ·rename_i hz
  go_ret;refine ⟨aL ?_,((Ext.refl _).alloc' _).alloc' _⟩;rw [HC.out,if_pos HZ1.out,if_pos HZ2.out,if_neg bh]
 have hz3:(nI x.s y.s != 0)=false:=aw
 have HZ3:=aZv (show nI x.s y.s=0 by simpa using hz3);refine (pP N hS x.kids y.kids P Q _ _ _ (HX.out.kids.ext (((Ext.refl _).alloc' _).alloc' _)) (HY.out.kids.ext (((Ext.refl _).alloc' _).alloc' _)) HN.out).mono ?_;rintro e w1 ⟨rfl,hx1⟩;have HX1:=aZv hx1;clear hx1;go_wp2_with fail;go_ret;refine ⟨aL ?_,(((Ext.refl _).alloc' _).alloc' _).trans' HX1.out⟩;rw [HC.out,if_pos HZ1.out,if_pos HZ2.out,if_pos HZ3.out]
theorem mC (N:Nat):eJ 134 N:=by
 induction N with
 | zero=>intro x y A B c d P Q w hN;omega
 | succ N ih=>exact kZ N ih
theorem bB (x y:GV)(A B:Option Addr)(c d:Nat)(P Q:Nat->Prop)(w:World)(hx:VAt w P x A c)(hy:VAt w Q y B d) :
  Calls Tryz.prog 134 #[dS x A c,dS y B d] w (cT (.int .i64 (cE x y)) w):=mC (gsz x+1) x y A B c d P Q w D hx hy
def sF (b:Bool):Int:=if b then -1 else 1
theorem sE (b:Bool):¬ sF b=0:=by cases b <;> simp [sF]
theorem aFh {a b:Int}(h:a ≠ b):iN a b=sF (decide (a<b)):=by
 unfold iN sF
 by_cases h1:a<b
 ·simp [h1]
 ·simp [h1];omega
theorem kU {a b:Int}(h:a=b):iN a b=0:=by subst h;unfold iN;simp
theorem aO9 {a b:ByteArray}(h:a.toList ≠ b.toList):nI a b=sF (Op.bytesLess a.toList b.toList):=by
 unfold nI sF
 by_cases h1:Op.bytesLess a.toList b.toList
 ·simp [h1]
 ·simp [h1,h]
theorem dK (l:List UInt8):Op.bytesLess l l=false:=by
 induction l with
 | nil=>rfl
 | cons a l ih=>simp [Op.bytesLess,ih]
theorem pR {a b:ByteArray}(h:a.toList=b.toList):nI a b=0:=by
 unfold nI;rw [h,dK];simp
theorem nP (b:Bool)(w:World) :
  Calls Tryz.prog 160 #[.bool b] w fun e w'=>e=.returned (.int .i64 (sF b))∧w=w':=by
 cases b
 all_goals
  go_enter Tryz.func160,Tryz.ntmps160;go_wp2;go_ret;exact ⟨rfl,rfl⟩
theorem nC (N:Nat)(hS:eJ 117 N):eJ 117 (N+1):=by
 intro x y A B c d P Q w hN hx hy;have HX:=aZv hx;have HY:=aZv hy;have HN:=aZv (show ∀ z ∈ x.kids,gsz z<N from fun z hz=>by have:=cP hz;omega);have HC:=aZv (aFd x y);have hx4:=hx.len;have hx5:=hx.cap;have hy4:=hy.len;have hy5:=hy.cap;clear hx hy;go_enter Tryz.func117,Tryz.ntmps117;go_wp2_with (go_at_call 160;refine (nP _ _).mono ?_;rintro e w' ⟨rfl,rfl⟩)
 ·have hz:(x.kind != y.kind)=true:=by assumption
  go_ret;refine ⟨aL ?_,((Ext.refl _).alloc' _).alloc' _⟩;rw [HC.out,aFh bh,if_neg (sE _)]
 ·have hz1:(x.kind != y.kind)=false:=by assumption
  have hz:(x.n != y.n)=true:=aw
  go_ret;refine ⟨aL ?_,((Ext.refl _).alloc' _).alloc' _⟩;rw [HC.out,kU (by simpa using hz1),if_pos rfl,aFh bh,if_neg (sE _)]
 ·have hz1:(x.kind != y.kind)=false:=by assumption
  have hz2:(x.n != y.n)=false:=aw
  have hz:(!x.s.toList == y.s.toList)=true:=aw
  go_ret;refine ⟨aL ?_,((Ext.refl _).alloc' _).alloc' _⟩;rw [HC.out,kU (by simpa using hz1),if_pos rfl,kU (by simpa using hz2),if_pos rfl,aO9 bh,if_neg (sE _)]
 have hz1:(x.kind != y.kind)=false:=aw
 have hz2:(x.n != y.n)=false:=aw
 have hz3:(!x.s.toList == y.s.toList)=false:=aw
 have HE:=aZv (show cE x y=cU x.kids y.kids by
  rw [HC.out,kU (by simpa using hz1),if_pos rfl,kU (by simpa using hz2),if_pos rfl,pR (by simpa using hz3),if_pos rfl])
 rw [hz1,hz2,hz3];clear hz1 hz2 hz3;have HX0:Hid (Ext w ((w.alloc (.cells #[↑x.kind,↑x.n,.string x.s,.slice A x.kids.length c] 85)).alloc (.cells #[↑y.kind,↑y.n,.string y.s,.slice B y.kids.length d] 85))):=((Ext.refl _).alloc' _).alloc' _;have hb1:=iT (u:=some (.slice A x.kids.length c)) (iU w #[↑x.kind,↑x.n,.string x.s,.slice A x.kids.length c] 85 (0,0) 3) (.cells #[↑y.kind,↑y.n,.string y.s,.slice B y.kids.length d] 85) U;have hb2:=pV (u:=some (.slice B y.kids.length d)) (w.alloc (.cells #[↑x.kind,↑x.n,.string x.s,.slice A x.kids.length c] 85)) #[↑y.kind,↑y.n,.string y.s,.slice B y.kids.length d] 85 (0,0) 3 (w.heap.size+1) U rfl;generalize (w.alloc (.cells #[↑x.kind,↑x.n,.string x.s,.slice A x.kids.length c] 85)).alloc (.cells #[↑y.kind,↑y.n,.string y.s,.slice B y.kids.length d] 85)=W at *;go_loopw [5] (fun i wr=>aF8 x.kids y.kids W i wr) (fun i _=>x.kids.length - (intOf i).toNat)
 case atStart=>exact ⟨0,Nat.zero_le _,Nat.zero_le _,rfl,Below.refl _ _,rfl⟩
 case round =>
  obtain ⟨k,hk,hk',rfl,hx,ht⟩:=hrel;have HT:=aZv ht;have hc1:wr.cell? ⟨w.heap.size,3,none⟩=some (.slice A x.kids.length c):=aA hx hb1;have hc2:wr.cell? ⟨w.heap.size+1,3,none⟩=some (.slice B y.kids.length d):=aA hx hb2;have HW:=aZv hx;have hx0:=HX0.out.trans' hx;have lw:=hx.size;have HXK:=aZv (HX.out.kids.ext hx0);have HYK:=aZv (HY.out.kids.ext hx0);have HX00:=HX0;clear ht hx hx0 HX0
  by_cases hlt:k<x.kids.length
  ·by_cases hlt':k<y.kids.length
   ·have HD:=aZv (show cU x.kids y.kids=cU (x.kids.getD k default :: x.kids.drop (k+1)) (y.kids.getD k default :: y.kids.drop (k+1)) by
     rw [HT.out,<- aF default hlt,<- aF default hlt'])
    obtain ⟨b1,o1,c1,A1,d1,e1,-,-,-,hv1,g10,g11,g12,g13⟩:=HXK.out.at_ hlt;obtain ⟨b2,o2,c2,A2,d2,e2,-,-,-,hv2,g20,g21,g22,g23⟩:=HYK.out.at_ hlt'
    cases e1
    cases e2
    have HM:=aZv (HN.out _ (aD (d:=default) hlt));have HV1:=aZv hv1;have HV2:=aZv hv2;clear hv1 hv2 HXK HYK HX HY hb1 hb2;generalize x.kids.getD k default=x1 at *;generalize y.kids.getD k default=y1 at *;go_wp2_with fail;go_still_tail 10,Y;go_wp2_with fail;refine (hS x1 y1 A1 A2 d1 d2 P Q _ HM.out (HV1.out.ext (Ext.refl _).drew') (HV2.out.ext (Ext.refl _).drew')).mono ?_;rintro e w1 ⟨rfl,hx1⟩;have HX1:=aZv hx1;have HWX:=aZv (HW.out.trans' ((Ext.refl _).drew'.trans' hx1));clear hx1;go_wp2_with fail
    ·have hz:(cE x1 y1 != 0)=true:=by assumption
     go_ret;refine ⟨aL ?_,HX00.out.trans' HWX.out⟩;rw [HE.out,HD.out,kF,if_neg bh]
    ·have hz:(cE x1 y1 != 0)=false:=by assumption
     go_roundw
     case rel =>
      refine ⟨k+1,D,D,by go_num,HWX.out,?_⟩;rw [HD.out,kF,if_pos bh]
     case measure=>simp [intOf];omega
   ·have HZ:=aZv (show cE x y=1 by
     rw [HE.out,HT.out,drop_nil (l:=y.kids) D,aF default hlt];simp only [cU])
    clear HXK HYK HX HY hb1 hb2;have hne:((x.kids.length:Int) == y.kids.length)=false:=by simp;omega
    have hnl:decide ((x.kids.length:Int)<y.kids.length)=false:=aa
    go_wp2_with (go_at_call 160;refine (nP _ _).mono ?_;rintro e w' ⟨rfl,rfl⟩);go_ret;exact ⟨aL (by rw [HZ.out];simp [sF];omega),HX00.out.trans' HW.out⟩
  ·by_cases hlt':k<y.kids.length
   ·have HZ:=aZv (show cE x y=-1 by
     rw [HE.out,HT.out,drop_nil (l:=x.kids) D,aF default hlt'];simp only [cU])
    clear HXK HYK HX HY hb1 hb2;have hne:((x.kids.length:Int) == y.kids.length)=false:=by simp;omega
    have hnl:decide ((x.kids.length:Int)<y.kids.length)=true:=aa
    go_wp2_with (go_at_call 160;refine (nP _ _).mono ?_;rintro e w' ⟨rfl,rfl⟩);go_ret;exact ⟨aL (by rw [HZ.out];simp [sF];omega),HX00.out.trans' HW.out⟩
   ·have HZ:=aZv (show cE x y=0 by
     rw [HE.out,HT.out,drop_nil (l:=x.kids) D,drop_nil (l:=y.kids) D];simp only [cU])
    clear HXK HYK HX HY hb1 hb2;have hne:((x.kids.length:Int) == y.kids.length)=true:=by simp;omega
    go_wp2_with (go_at_call 160;refine (nP _ _).mono ?_;rintro e w' ⟨rfl,rfl⟩);go_ret;exact ⟨aL HZ.out.symm,HX00.out.trans' HW.out⟩
theorem oQ (N:Nat):eJ 117 N:=by
 induction N with
 | zero=>intro x y A B c d P Q w hN;omega
 | succ N ih=>exact nC N ih
theorem eU (x y:GV)(A B:Option Addr)(c d:Nat)(P Q:Nat->Prop)(w:World)(hx:VAt w P x A c)(hy:VAt w Q y B d) :
  Calls Tryz.prog 117 #[dS x A c,dS y B d] w (cT (.int .i64 (cE x y)) w):=oQ (gsz x+1) x y A B c d P Q w D hx hy
end Go.Proofs.YtkoeecdjijfjnaaGreat
