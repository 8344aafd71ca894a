/- Contracts and laws. Conditions: none. -/
import Derived.Test.YtkoeecdjijfjnaaGreatXN
import Derived.Test.YtkoeecdjijfjnaaGreatME
set_option linter.all false
set_option maxRecDepth 100000
set_option maxHeartbeats 8000000
namespace Go.Proofs.YtkoeecdjijfjnaaGreat
open Go.RowKit
theorem aEb {b e}:∀ n L,e ∈ aCt b n L->e ∈ L
 | 0,_,h=>h
 | n+1,L,h=>by
  simp only [aCt] at h;split at h
  ·exact List.mem_of_mem_eraseIdx (aEb n _ h)
  ·exact h
theorem vE {b}(hb:0<=b):∀ (n:Nat)(L:List GE),L<=n->bC (aCt b n L)<=b
 | 0,L,h=>by
  have:L=[]:=List.eq_nil_of_length_eq_zero I;subst this;exact hb
 | n+1,L,h=>by
  simp only [aCt];split
  ·refine vE hb n _ ?_
   by_cases h0:0<L.length
   ·rw [List.length_eraseIdx,if_pos (yA h0)];omega
   ·rw [List.length_eraseIdx];split <;> omega
  ·omega
theorem vK:∀ L k e,wE e=wE (L.getD k default)->bC (L.set k e)=bC L
 | [],_,_,_=>rfl
 | x :: L,0,e,h=>by
  simp only [List.set_cons_zero,bC];have h:wE e=wE x:=h;omega
 | x :: L,k+1,e,h=>by
  simp only [List.set_cons_succ,bC];rw [vK L k e h]
structure FG (t:List GN)(b:Int)(k:Nat)(L:List GE):Prop where
 good:∀ e ∈ L,aL t e.path=true∧1<=e.hits∧e.hits<=k
 bytes:bC L<=b
theorem FG.add {t b k L}(h:FG t b k L)(hb:0<=b)(hk:k<=1000000){x}(hx:x.hits=1):FG t b (k+1) (lB (aL t) b L x):=by
 have up:∀ e:GE,(aL t e.path=true∧1<=e.hits∧e.hits<=k)->aL t e.path=true∧1<=e.hits∧e.hits<=((k+1:Nat):Int):=fun e q=>⟨q.1,q.2.1,I⟩
 unfold lB;split
 ·rename_i hw
  have hj:∀ e ∈ cY L x,aL t e.path=true∧1<=e.hits∧e.hits<=((k+1:Nat):Int):=by
   rw [kL]
   have key:∀ (L:List GE),(∀ e ∈ L,aL t e.path=true∧1<=e.hits∧e.hits<=k)->∀ e ∈ mU L x,aL t e.path=true∧1<=e.hits∧e.hits<=((k+1:Nat):Int):=by
    intro L
    induction L with
    | nil=>intro _ e he;simp only [mU,List.mem_singleton] at he;subst he;exact ⟨hw,I,I⟩
    | cons y L ih =>
     intro hL e he;simp only [mU] at he;split at he
     ·rcases ao.1 he with rfl | he
      ·exact up _ (hL _ (List.mem_cons_self ..))
      ·exact ih (fun z hz=>hL z (List.mem_cons_of_mem _ hz)) e he
     ·split at he
      ·rcases ao.1 he with rfl | he
       ·have q:=hL _ (List.mem_cons_self ..)
        have e1:(aO y x).hits=y.hits+1:=by
         show wrap64 (y.hits+x.hits)=_;rw [hx,oF br]
        refine ⟨q.1,?_,?_⟩ <;> rw [e1] <;> omega
       ·exact up _ (hL e (List.mem_cons_of_mem _ he))
      ·rcases ao.1 he with rfl | he
       ·exact ⟨hw,I,I⟩
       ·exact up _ (hL e he)
   exact key L h.good
  split
  ·rename_i hh
   refine ⟨hj,?_⟩;unfold cY;rw [if_pos hh,vK _ _ _ (show wE (aO (L.getD (aZ x.path L) default) x)=wE (L.getD (aZ x.path L) default) from rfl)];exact h.bytes
  ·exact ⟨fun e he=>hj e (aEb _ _ he),vE hb _ _ (ab _)⟩
 ·exact ⟨fun e he=>up e (h.good e he),h.bytes⟩
theorem aAw {t b}{gs:List GG}(hb:0<=b)(hl:gs.length<=1000000):∀ k,k<=gs.length->FG t b k (fP t b (gs.take k))
 | 0,_=>⟨fun e he=>by simp [fP] at he,by simpa [fP,bC] using hb⟩
 | k+1,hk=>by
  rw [mY I];exact (aAw hb hl k I).add hb I rfl
theorem aD3:∀ (k n:Nat),n<128 ^ (k+1)->(oB n)<=k+1
 | 0,n,h=>by rw [dM fw];simp
 | k+1,n,h=>by
  by_cases h1:n<128
  ·rw [dM h1];simp
  ·rw [iZ h1,ai]
   have:=aD3 k (n / 128) (by rw [aHd] at h;omega);omega
theorem qN {n}(h:n<18446744073709551616):(oB n).length<=10:=aD3 9 n I
theorem cT {n}(h:I64 n):(fE n).length<=10:=qN (aGj n h)
theorem qO {s}(h:s.size<=17592186044416):(jM s).length<=10+s.size:=by
 unfold jM lJ;rw [aa,hH];have:=qN (n:=s.size) I;omega
theorem qK {α}(f:α->List Int)(n:Nat):∀ (l:List α),(∀ x ∈ l,(f x)<=n)->(l.flatMap f).length<=l*n
 | [],_=>by simp
 | x :: l,h=>by
  rw [List.flatMap_cons,aa,ai,Nat.add_mul,Nat.one_mul];have h1:=h x (List.mem_cons_self ..);have h2:=qK f n l (fun y hy=>h y (List.mem_cons_of_mem _ hy));omega
theorem sS {α}(f)(n m:Nat)(l:List α)(hm:m<=1000000)(hl:l<=m)(h:∀ x ∈ l,(f x)<=n):(oS f l).length<=10+m*n:=by
 unfold oS;rw [aa];have h1:=qK f n l h;have h2:l.length*n<=m*n:=Nat.mul_le_mul_right n hl;have h3:=cT (n:=(l:Int)) br;omega
theorem jA {s}(h:aU s=true):s.size=0:=by
 unfold aU at h;rw [pG (List.isEmpty_iff.1 h)];rfl
theorem aCk {x}(h:aE x=true):x.s.size<=16:=by
 unfold aE at h
 have key:∀ {b:Bool},(aU x.s && b)=true->x.s.size<=16:=fun q=>by
  simp only [Bool.and_eq_true] at q;rw [jA q.1];omega
 split at h
 ·exact key h
 ·split at h
  ·rw [Bool.and_assoc] at h
   simp only [Bool.and_eq_true] at h;rw [jA h.2.1];omega
  ·split at h
   ·simp only [Bool.and_eq_true] at h
    rw [jA h.2];omega
   ·split at h
    ·simp only [Bool.and_eq_true] at h
     have:=h.2;unfold qR at this;simp only [Bool.and_eq_true,decide_eq_true_eq] at this;omega
    ·cases h
mutual
theorem aIb:∀ x,wfV x->dQ aE x=true->gsz x<=1000000000->(fQ x).length<=60*gsz x
 | .mk k n s l,hw,hf,hs=>by
  simp only [wfV] at hw;rw [bV] at hf;simp only [Bool.and_eq_true,GV.kids] at hf;have h1:=aCk hf.1;have h1:s.size<=16:=h1;simp only [gsz] at hs ⊢;have h2:=aD2 l hw.2.2.2 hf.2 I;have h3:=cT hw.1;have h4:=cT hw.2.1;have h5:=qO hw.2.2.1;have h6:=xL l;have h7:=cT (n:=(l:Int)) br;simp only [fQ,aa];omega
theorem aD2:∀ l,aN6 l->eI aE l=true->iQ l<=1000000000->(nB l).length<=60*iQ l
 | [],_,_,_=>by simp [nB]
 | x :: l,hw,hf,hs=>by
  simp only [aN6] at hw;rw [dN] at hf;simp only [Bool.and_eq_true] at hf;simp only [iQ] at hs ⊢;have h1:=aIb x hw.1 hf.1 I;have h2:=aD2 l hw.2 hf.2 I;simp only [nB,aa];omega
end
theorem lU:∀ {l},cG l=0->∀ v ∈ l,dO v=0
 | [],_,_,hv=>by cases hv
 | x :: l,h,v,hv=>by
  simp only [cG] at h;split at h
  ·rename_i hx
   rcases ao.1 hv with rfl | hv
   ·exact hx
   ·exact lU h v hv
  ·rename_i hx;exact absurd h hx
theorem zD {v}(hw:wfV v)(hv:dO v=0)(hs:gsz v<=1000000000):gsz v<=1024∧(fQ v).length<=61440:=by
 unfold dO at hv;split at hv
 ·cases hv
 ·rename_i h1
  split at hv
  ·cases hv
  ·rename_i h2
   have h3:dQ aE v=true:=by simpa using h1
   have h4:¬ 1024<rsz v:=fun h=>h2 (.inr h)
   rw [wJ v hs] at h4;have:=aIb v hw h3 hs;omega
theorem aK9 {j x}(hn:dV j x)(hg:aA9 x)(hw:I64 x.kind∧I64 x.lo∧I64 x.hi∧(∀ n ∈ x.weights,I64 n)∧(∀ n ∈ x.kids,I64 n)∧(∀ v ∈ x.values,wfV v)∧wfV x.value):wfN x∧(dS x).length<=10000000:=by
 obtain ⟨w1,w2,w3,w4,w5,w6,w7⟩:=hw;obtain ⟨f1,f2,f3,f4,f5⟩:=hg.few;obtain ⟨-,-,-,-,s5,s6⟩:=hg.sm;have hval:=hn.valid;have hvs:∀ v ∈ x.values,gsz v<=1024∧(fQ v).length<=61440:=fun v hv=>zD (w6 v hv) (lU hval v (by unfold bK;split <;> simp [hv])) (s6 v hv)
 have hv:gsz x.value<=1024∧(fQ x.value).length<=61440:=by
  by_cases h0:x.kind=0
  ·exact zD w7 (lU hval _ (by unfold bK;rw [if_pos h0];exact List.mem_cons_self ..)) s5
  ·have hu:=hn.unused
   have hz:oE x.value=true:=by
    cases hz:oE x.value with
    | true=>rfl
    | false =>
     unfold fV unA at hu;rw [hz,a4f h0] at hu;simp at hu
   unfold oE at hz;simp only [Bool.and_eq_true,decide_eq_true_eq,Bool.not_eq_true',decide_eq_false_iff_not] at hz;generalize x.value=xv at *;obtain ⟨k,n,s,l⟩:=xv;obtain ⟨⟨⟨z1,z2⟩,z3⟩,z4⟩:=hz;replace z3:=jA z3;have z1:k=0:=z1;have z2:n=0:=z2;have z3:s.size=0:=z3;have z4:¬ 0<l.length:=z4;have z5:l=[]:=List.eq_nil_of_length_eq_zero I;subst z1 z2 z5;have h3:=cT (n:=0) br;have h5:=qO (s:=s) I;refine ⟨eq,?_⟩;simp only [fQ,nB,aa,List.length_nil];have h6:(fE ((0:Nat):Int)).length<=10:=cT br;omega
 refine ⟨⟨w1,I,w2,w3,w4,fun s hs=>by have:=hg.lab s hs;omega,fun v q=>⟨w6 v q,by have:=(hvs v q).1;omega⟩,w5,w7,I⟩,?_⟩;have e1:=cT w1;have e2:=qO (s:=x.name) I;have e3:=cT w2;have e4:=cT w3;have e5:=sS fE 10 100 x.weights I f1 (fun n hn=>cT (w4 n hn));have e6:=sS jM 110 100 x.labels I f2 (fun s hs=>by have:=hg.lab s hs;have:=qO (s:=s) I;omega);have e7:=sS fQ 61440 100 x.values I f3 (fun v hv=>(hvs v hv).2);have e8:=sS fE 10 100 x.kids I f4 (fun n hn=>cT (w5 n hn));simp only [dS,aa];omega
theorem aF7 {L e}(h:e ∈ L):wE e<=bC L:=by
 induction L with
 | nil=>cases h
 | cons x L ih =>
  simp only [bC];have h0:=yI L;rcases ao.1 h with rfl | h
  ·omega
  ·have:=ih h
   unfold wE at *;omega
theorem aQj {e}(h:wfE e)(hl:e.path.length<=1000):(sU e).length<=11000:=by
 have h1:=qN (n:=e.path.length) I;have h2:=qK fE 10 e.path (fun n hn=>cT (h.path n hn));have h3:=cT h.kind;have h4:=cT h.at_;have h5:=cT h.code;have h6:=cT h.hits;simp only [sU,nF,aQl,aa,List.length_singleton];omega
theorem aQk {t b L}(ht:t.length<=14)(hn:∀ x ∈ t,(dS x).length<=10000000)(hb:0<=b∧b<=900)(hL:L.length<=1000)(hE:∀ e ∈ L,wfE e)(hB:bC L<=b):(qP t b L).length<=500000000:=by
 have h1:=sS dS 10000000 14 t I ht hn;have h2:(oR t).length<=10+14*10000000:=h1;have h3:=qN (n:=(oR t).length) I;have h4:=cT (n:=b) br;have h5:=cT (n:=(L:Int)) br;have h6:=qK sU 11000 L (fun e he=>aQj (hE e he) (by have:=aF7 he;unfold wE at this;omega));simp only [qP,lJ,aa];omega
theorem xN {α:Type}{f}{l:List α}(h:∀ x,Byt (f x)):Byt (l.flatMap f):=fun y hy=>by
 obtain ⟨x,-,hx⟩:=List.mem_flatMap.1 hy;exact h x y hx
theorem dC (n):Byt (fE n):=xY _
theorem aD4 {l}(h:Byt l):Byt (lJ l):=Byt.app.2 ⟨xY _,h⟩
theorem xZ (s):Byt (jM s):=aD4 (aRx s)
theorem nE {α}{f:α->List Int}(h:∀ x,Byt (f x))(l):Byt (oS f l):=Byt.app.2 ⟨dC _,xN h⟩
mutual
theorem xX:∀ x,Byt (fQ x)
 | .mk k n s l=>by
  rw [fQ];exact Byt.app.2 ⟨dC _,Byt.app.2 ⟨dC _,Byt.app.2 ⟨xZ _,Byt.app.2 ⟨dC _,aAy l⟩⟩⟩⟩
theorem aAy:∀ l,Byt (nB l)
 | []=>fun _ h=>by simp [nB] at h
 | x :: l=>by
  rw [nB];exact Byt.app.2 ⟨xX x,aAy l⟩
end
theorem aId (x):Byt (dS x):=Byt.app.2 ⟨dC _,Byt.app.2 ⟨xZ _,Byt.app.2 ⟨dC _,Byt.app.2 ⟨dC _,Byt.app.2 ⟨nE dC _,Byt.app.2 ⟨nE xZ _,Byt.app.2 ⟨nE xX _,Byt.app.2 ⟨nE dC _,xX _⟩⟩⟩⟩⟩⟩⟩⟩
theorem aL0 (e):Byt (sU e):=Byt.app.2 ⟨Byt.app.2 ⟨xY _,xN dC⟩,Byt.app.2 ⟨dC _,Byt.app.2 ⟨dC _,Byt.app.2 ⟨dC _,Byt.app.2 ⟨fun x hx=>by unfold aQl at hx;simp only [List.mem_singleton] at hx;subst hx;split <;> omega,dC _⟩⟩⟩⟩⟩
theorem aL1 (t b L):Byt (qP t b L):=Byt.app.2 ⟨aD4 (nE aId t),Byt.app.2 ⟨dC _,Byt.app.2 ⟨dC _,xN aL0⟩⟩⟩
theorem aGl:∀ {l},(∀ x ∈ l,wfV x)->aN6 l
 | [],_=>trivial
 | x :: l,h=>⟨h x (List.mem_cons_self ..),aGl fun y hy=>h y (List.mem_cons_of_mem _ hy)⟩
theorem aI5 {w P}:∀ n x A c,gsz x<n->VAt w P x A c->wfV x
 | 0,_,_,_,h,_=>absurd h (Nat.not_lt_zero _)
 | n+1,.mk k m s l,A,c,hs,h=>by
  refine ⟨h.kind,h.n,h.s,aGl fun y hy=>?_⟩;obtain ⟨i,hi,rfl⟩:=List.getElem_of_mem hy;obtain ⟨b,off,A',d,-,-,hv,-⟩:=h.kids.get (i:=i) hi;have e:l.getD i default=l[i]:=by simp [hi]
  have hv:VAt w P (l.getD i default) A' d:=hv;rw [e] at hv;exact aI5 n _ A' d (by have:=eY (x:=.mk k m s l) (y:=l[i]) hy;omega) hv
section
variable {w:World}{P:Nat->Prop}{A:Option Addr}{c n:Nat}{t:List GN}{L:List GE}{v:Value}
theorem Ints.i64 {l}(h:Ints w P v l):∀ x ∈ l,I64 x:=by
 obtain ⟨_,_,_,_,_,h,_⟩:=h;exact h
theorem aUm (h:Nds w P (.slice A n c) t):∀ x ∈ t,I64 x.kind∧I64 x.lo∧I64 x.hi∧(∀ n ∈ x.weights,I64 n)∧(∀ n ∈ x.kids,I64 n)∧(∀ v ∈ x.values,wfV v)∧wfV x.value:=by
 intro x hx;obtain ⟨i,hi,rfl⟩:=List.getElem_of_mem hx;obtain ⟨b,off,a,-,-,ha,-⟩:=h.get hi;have e:t.getD i default=t[i]:=by simp [hi]
 rw [e] at ha;refine ⟨ha.kind,ha.lo,ha.hi,ha.weights.i64,ha.kids.i64,fun v hv=>?_,aI5 _ _ _ _ (Nat.lt_succ_self _) ha.value⟩;obtain ⟨j,hj,rfl⟩:=List.getElem_of_mem hv;obtain ⟨b2,o2,A2,d2,-,-,h2,-⟩:=ha.values.get hj;have e2:t[i].values.getD j default=t[i].values[j]:=by simp [hj]
 rw [e2] at h2;exact aI5 _ _ _ _ (Nat.lt_succ_self _) h2
theorem aU5 (h:Ens w P (.slice A n c) L)(hsh:∀ e ∈ L,e.path.length<=1000000000):∀ e ∈ L,wfE e:=by
 intro x hx;obtain ⟨i,hi,rfl⟩:=List.getElem_of_mem hx;obtain ⟨b,off,A',d,-,-,ha,-⟩:=h.get hi;have e:L.getD i default=L[i]:=by simp [hi]
 rw [e] at ha;exact ⟨ha.path.i64,by have:=hsh _ hx;omega,ha.kind,ha.at_,ha.code,ha.hits⟩
end
theorem aQe {w P P' v v' t b gs}(hgen:fF t)(ht:t.length<=14)(hn:Nds w P v t)(hE:Ens w P' v' (fP t b gs))(hsh:∀ e ∈ fP t b gs,e.path.length<=1000000000)(hi:mB (fP t b gs))(hb:0<=b∧b<=900)(hl:gs.length<=10):aFx (qP t b (fP t b gs))=some (t,b,fP t b gs)∧(qP t b (fP t b gs)).length<=500000000∧(fP t b gs).length<=10:=by
 obtain ⟨A,c,rfl,-,-⟩:=hn.form;obtain ⟨A',c',rfl,-,-⟩:=hE.form;have hg:=aAw (t:=t) (gs:=gs) hb.1 I gs (ab _);rw [List.take_length] at hg;have hL:=qM (t:=t) (b:=b) (gs:=gs) gs (ab _);rw [List.take_length] at hL;have hw:=aUm hn;have he:=aU5 hE hsh;have hgt:=eE.1 hgen.good
 have hN:∀ x ∈ t,wfN x∧(dS x).length<=10000000:=fun x hx=>by
  obtain ⟨i,hi,rfl⟩:=List.getElem_of_mem hx;have e:t.getD i default=t[i]:=by simp [hi]
  have hk:=(hgt.at_ hi).node;rw [e] at hk;exact aK9 hk (hgen.smg _ hx) (hw _ hx)
 have h1:=aQk ht (fun x hx=>(hN x hx).2) hb (L:=fP t b gs) I he hg.bytes;refine ⟨aFv (fun x hx=>(hN x hx).1) ?_ hgen.good I I he ⟨fun e h=>⟨(hg.good e h).1,(hg.good e h).2.1⟩,hi,hg.bytes⟩,h1,I⟩;simp only [qP,lJ,aa] at h1;omega
noncomputable def R7:=RG Tryz.f7
noncomputable abbrev c7:Code:=.seq (R7 0) (.seq (R7 1) (.seq (R7 2) (.seq (R7 3) (.seq (R7 4) (.seq (.seq (R7 5) (.cond (.tmp 46) (.seq (R7 6) .ret) .skip)) (.seq (R7 7) (.seq (R7 8) (.seq (.seq (R7 9) (.cond (.tmp 71) (.seq (R7 10) .ret) .skip)) (.seq (R7 11) (.seq (.seq (R7 12) (.block 0 (.loop (.seq (.seq (R7 13) (.cond (.tmp 78) .skip (.exit 0))) (.seq (.block 1 (.seq (R7 15) (.seq (R7 16) (.seq (R7 17) (.cond (.tmp 139) (.seq (R7 18) .ret) .skip))))) (R7 14)))))) (.seq (R7 19) (.seq (R7 20) (.seq (R7 21) (.seq (.seq (R7 22) (.block 2 (.loop (.seq (.seq (R7 23) (.cond (.tmp 168) .skip (.exit 2))) (.seq (.block 3 (.seq (R7 25) (.seq (R7 26) (.cond (.tmp 206) (.seq (R7 27) .ret) .skip)))) (R7 24)))))) (.seq (R7 28) .ret)))))))))))))))
theorem b7:Tryz.f7.body=some c7:=U
section
variable {Q:Exit->Act->World->Prop}{a:Act}{w:World}{m gc:Nat}{c n i:Nat}{vm:Value}{R:World->Prop}
theorem aOj {bg og d x A'}{r1:Bool}{r2:Int}(hsz:a.tmps.size=208)(e20:qq a 20 (qp gc))(e22:qq a 22 (.slice (qt bg og) n c))(e23:qq a 23 (i:Int))(hi:(i:Int)<(n:Int))(hG:∀ w',Ext w w'->GS bg (og+i*5) x A' d w')
  (hc1:∀ w1,Ext w w1->qg 13 #[.agg #[x.kind,x.at_,x.code]] w1 (dI (zY x.kind x.at_ x.code) w1))
  (hc2:∀ w1,Ext w w1->Calls Tryz.prog 12 #[qp gc,.slice A' x.path d,zY x.kind x.at_ x.code,x.fresh] w1 fun e w'=>e=.returned (.tuple #[r1,↑r2])∧R w'∧GS bg (og+i*5) x A' d w')
  (h:∀ a' w',Ag [4,5,6,18,19,20,22,23] a a'->qq a' 24 r1->qq a' 25 r2->R w'->Q .normal a' w'):qw (R7 15) Q a w:=by
 conv=>arg 2;whnf
 have hx0:Ext w w.drew:=(aq w).drew';have hS:=hG _ hx0;refine dF (GS bg (og+i*5) x A' d) (fun _=>true) 23 U U ?_;generalize w.drew=W at *;refine d_t 7 [0,1,2,3,4,5,6,7,8,9,10,12,13,14,15,16] rfl U hS ?_;iterate 16 refine t_v rfl rfl rfl (fun w hw=>by simp [execOp,go_sem,hw.1,hw.2.1,hw.2.2.1,hw.2.2.2.1,hw.2.2.2.2,hsz,e20,e22,e23,hi];rfl) ?_
 refine t_e ?_;refine d_c 11 U rfl rfl rfl rfl Tryz.func13 ba ba (hc1 W hx0) dg ?_;rintro e w1 ⟨rfl,hx1⟩;refine ⟨_,rfl,fun _=>hG _ (hx0.trans' hx1),?_⟩;refine d_c 17 U rfl rfl rfl rfl Tryz.func12 ba ba (hc2 w1 (hx0.trans' hx1)) dg ?_;rintro e w2 ⟨rfl,hR,hS⟩;refine ⟨_,rfl,fun _=>hS,?_⟩;refine d_t 0 [18,19,20,21,22] rfl U hS ?_;iterate 5 refine t_v rfl rfl rfl (fun w hw=>by simp [execOp,go_sem,hsz];rfl) ?_
 refine t_e ?_;exact jN U (h _ _ Y dg dg hR)
theorem aOi {bg og d x A'}{r1:Bool}{r2:Int}(hsz:a.tmps.size=208)(e18:qq a 18 (qp m))(e22:qq a 22 (.slice (qt bg og) n c))(e23:qq a 23 (i:Int))(hi:(i:Int)<(n:Int))(hG:∀ w',Ext w w'->GS bg (og+i*5) x A' d w')
  (hc2:∀ w1,Ext w w1->Calls Tryz.prog 14 #[qp m,.slice A' x.path d,.agg #[x.kind,x.at_,x.code],x.fresh] w1 fun e w'=>e=.returned (.tuple #[r1,↑r2])∧R w'∧GS bg (og+i*5) x A' d w')
  (h:∀ a' w',Ag [4,5,6,18,19,20,22,23,24,25] a a'->qq a' 26 r1->qq a' 27 r2->R w'->Q .normal a' w'):qw (R7 16) Q a w:=by
 conv=>arg 2;whnf
 have hx0:Ext w w.drew:=(aq w).drew';have hS:=hG _ hx0;refine dF (GS bg (og+i*5) x A' d) (fun _=>true) 22 U U ?_;generalize w.drew=W at *;refine d_t 6 [0,1,2,3,4,5,6,7,8,9,10,11,12,13,14,15] rfl U hS ?_;iterate 16 refine t_v rfl rfl rfl (fun w hw=>by simp [execOp,go_sem,hw.1,hw.2.1,hw.2.2.1,hw.2.2.2.1,hw.2.2.2.2,hsz,e18,e22,e23,hi];rfl) ?_
 refine t_e ?_;refine d_c 16 U rfl rfl rfl rfl Tryz.func14 ba ba (hc2 W hx0) dg ?_;rintro e w2 ⟨rfl,hR,hS⟩;refine ⟨_,rfl,fun _=>hS,?_⟩;refine d_t 0 [17,18,19,20,21] rfl U hS ?_;iterate 5 refine t_v rfl rfl rfl (fun w hw=>by simp [execOp,go_sem,hsz];rfl) ?_
 refine t_e ?_;exact jN U (h _ _ Y dg dg hR)
theorem aOh {r1:Bool}{r2:Int}{L}(hsz:a.tmps.size=208)(e18:qq a 18 (qp m))(e20:qq a 20 (qp gc))(e24:qq a 24 r1)(e25:qq a 25 r2)(e26:qq a 26 r1)(e27:qq a 27 r2)
  (hG:∀ w',Ext w w'->qc w' m 2 vm)(h18:∀ w1,Ext w w1->qg 18 #[qp gc] w1 (aBb L w1))(h17:∀ w1 P v,Ext w w1->Ens w1 P v L->qg 17 #[v,vm] w1 (dI true w1))
  (h:∀ a' w',Ext w w'->Ag [4,5,6,18,19,20,22,23] a a'->qq a' 139 false->Q .normal a' w'):qw (R7 17) Q a w:=by
 conv=>arg 2;whnf
 have hS:Ext w w.drew:=(aq w).drew';refine dF (Ext w) (fun _=>true) 18 U U ?_;generalize w.drew=W at *;refine d_t 4 [0,1,2,3,4,5,6,7,8,9,11,12,13,14] rfl U hS ?_;iterate 4 refine t_v rfl rfl rfl (fun w hw=>by simp [execOp,go_sem,hsz,e24,e26];rfl) ?_
 iterate 3 refine t_y rfl rfl rfl rfl av dd rfl (fun w hw=>by simp [execOp,go_sem,hsz,e25,e27];rfl) ?_
 iterate 2 refine t_v rfl rfl rfl (fun w hw=>by simp [execOp,go_sem,hsz];rfl) ?_
 iterate 5 refine t_y rfl rfl rfl rfl av dd rfl (fun w hw=>by simp [execOp,go_sem,hG w hw,hsz,e18,e20];rfl) ?_
 refine t_e ?_;refine a0n 10 U rfl rfl rfl dg (by simp [hsz];rfl) rfl rfl rfl Tryz.func18 ba ba (h18 W hS) dg ?_;rintro e w3 ⟨Ae,ce,rfl,hE,hx⟩;have hS:=hS.trans' hx;refine ⟨_,rfl,fun _=>hS,?_⟩;refine a0n 15 U rfl rfl rfl dg (by simp [hsz];rfl) rfl rfl rfl Tryz.func17 ba ba (h17 w3 _ _ hS hE) dg ?_;rintro e w4 ⟨rfl,hx⟩;have hS:=hS.trans' hx;refine ⟨_,rfl,fun _=>hS,?_⟩;refine d_t 0 [16,17] rfl U hS ?_;iterate 1 refine t_y rfl rfl rfl rfl av dd rfl (fun w hw=>by simp [execOp,go_sem,hsz];rfl) ?_
 iterate 1 refine t_v rfl rfl rfl (fun w hw=>by simp [execOp,go_sem,hsz];rfl) ?_
 refine t_e ?_;exact jN U (h _ w4 hS Y dg)
end
structure E21 (w0:World)(l1 lx:List Int)(y:Int)(o1:Option Value)(o13:Option Nat)(o2 o3:Option Value)(a:Act)(w:World):Prop where
 ext:Ext w0 w
 f1:∀ v,o1=some v->qq a 152 v∧By w0 v l1 w
 f13:∀ G,o13=some G->qq a 164 (.slice (qp G) 1 1)∧Blk w G 5 #[.int .u8 y]
 f2:∀ v,o2=some v->qq a 162 v∧By w0 v lx w
 f3:∀ v,o3=some v->qq a 165 v∧By w0 v (lx ++ [y]) w
 ne:∀ v v',o1=some v->(o2=some v'∨o3=some v')->v.ownBlock=none∨v.ownBlock ≠ v'.ownBlock
 nG:∀ G v',o13=some G->(o2=some v'∨o3=some v')->some G ≠ v'.ownBlock
section
variable {w0 w w':World}{l1 lx l:List Int}{y:Int}{o1 o2 o3:Option Value}{o13:Option Nat}{a:Act}{v:Value}
theorem By.lt (h:By w0 v l w){b}(hb:v.ownBlock=some b):b<w:=World.ownsRow.block_lt h hb
theorem aAc {u v':Value}(h:v.ownBlock=none∨∃ b,v.ownBlock=some b∧w<=b)(hu:∀ b,u.ownBlock=some b->b<w):v.ownBlock=none∨v.ownBlock ≠ u.ownBlock:=by
 rcases h with h | ⟨b,h,hb⟩
 ·exact .inl h
 ·exact .inr (fun e=>by have:=hu b (e.symm.trans h);omega)
theorem xE {S B}(h:Ou S nl B v l w):v.ownBlock=none∨∃ b,v.ownBlock=some b∧S<=b:=h.gr.own
theorem E21.s1 (h:E21 w0 l1 lx y none o13 o2 o3 a w)(hO:Out w v l1 w')(hs:a.tmps.size=208):E21 w0 l1 lx y (some v) o13 o2 o3 (Pt a 152 v) w':=by
 have hx:=hO.ex;have hz:=h.ext.size;refine ⟨h.ext.trans' hx,?_,fun G e=>⟨by simp [(h.f13 G e).1],(h.f13 G e).2.ext hx⟩,fun u e=>⟨by simp [(h.f2 u e).1],(h.f2 u e).2.ext_ hx⟩,fun u e=>⟨by simp [(h.f3 u e).1],(h.f3 u e).2.ext_ hx⟩,?_,h.nG⟩
 ·rintro u ⟨⟩;exact ⟨jf,xD hO.row hz⟩
 ·rintro u v' ⟨⟩ hv
  refine aAc (v':=v') (xE hO) (fun b hb=>?_);rcases hv with hv | hv
  ·exact (h.f2 _ hv).2.lt hb
  ·exact (h.f3 _ hv).2.lt hb
theorem E21.s2 (h:E21 w0 l1 lx y o1 o13 none none a w)(hO:Out w v lx w')(hs:a.tmps.size=208):E21 w0 l1 lx y o1 o13 (some v) none (Pt a 162 v) w':=by
 have hx:=hO.ex;have hz:=h.ext.size;refine ⟨h.ext.trans' hx,fun u e=>⟨by simp [(h.f1 u e).1],(h.f1 u e).2.ext_ hx⟩,fun G e=>⟨by simp [(h.f13 G e).1],(h.f13 G e).2.ext hx⟩,?_,(by rintro u ⟨⟩),?_,?_⟩
 ·rintro u ⟨⟩;exact ⟨jf,xD hO.row hz⟩
 ·rintro u v' hu (⟨⟨⟩⟩ | ⟨⟨⟩⟩)
  rcases aAc (v':=v) (xE hO) (fun b hb=>(h.f1 _ hu).2.lt hb) with e | e
  ·by_cases h0:u.ownBlock=none
   ·exact .inl h0
   ·exact .inr (fun e2=>h0 (e2.trans e))
  ·exact .inr (fun e2=>e e2.symm)
 ·rintro G v' hG (⟨⟨⟩⟩ | ⟨⟨⟩⟩) e
  have:=(h.f13 G hG).2.lt;rcases (xE hO) with e2 | ⟨b,e2,hb⟩
  ·rw [e2] at e;cases e
  ·rw [e2] at e;injection e with e;omega
theorem E21.s13 (h:E21 w0 l1 lx y o1 none o2 o3 a w)(hs:a.tmps.size=208):E21 w0 l1 lx y o1 (some w.heap.size) o2 o3 (Pt a 164 (.slice (qp w) 1 1)) (w.alloc (qk #[.int .u8 y] 5)):=by
 have hx:Ext w (w.alloc (qk #[.int .u8 y] 5)):=(aq w).alloc' _;refine ⟨h.ext.trans' hx,fun u e=>⟨by simp [(h.f1 u e).1],(h.f1 u e).2.ext_ hx⟩,?_,fun u e=>⟨by simp [(h.f2 u e).1],(h.f2 u e).2.ext_ hx⟩,fun u e=>⟨by simp [(h.f3 u e).1],(h.f3 u e).2.ext_ hx⟩,h.ne,?_⟩
 ·rintro G ⟨⟩;exact ⟨jf,aw w 5 _⟩
 ·rintro G v' ⟨⟩ hv e
  rcases hv with hv | hv
  ·have:=(h.f2 _ hv).2.lt e.symm;omega
  ·have:=(h.f3 _ hv).2.lt e.symm;omega
theorem E21.s14 (h:E21 w0 l1 lx y o1 o13 (some v) none a w){u}(ho:w'.ownsRow w0 5 1 u (lx+1) (lx.map (Value.int .u8) ++ [.int .u8 y]))(hf:Fr (fun k=>some k=v.ownBlock) w w')(hb:u.ownBlock=v.ownBlock∨u.ownBlock=some w.heap.size)(hs:a.tmps.size=208):E21 w0 l1 lx y o1 o13 none (some u) (Pt a 165 u) w':=by
 have h2:=(h.f2 v rfl).2;have hw0:∀ b,v.ownBlock=some b->w0<=b:=fun b hb=>lI h2 hb
 have hne:∀ z,o1=some z->∀ b,z.ownBlock=some b->¬ some b=v.ownBlock:=fun z hz b hb e=>by
  rcases h.ne z v hz (.inl rfl) with h3 | h3
  ·rw [h3] at hb;cases hb
  ·exact h3 (hb.trans e)
 refine ⟨((ar h.ext).trans hf).new_ext (fun b hb=>hw0 b hb.symm),fun z e=>⟨by simp [(h.f1 z e).1],gR (h.f1 z e).2 hf (hne z e)⟩,fun G e=>⟨by simp [(h.f13 G e).1],(h.f13 G e).2.fr hf (h.nG G v e (.inl rfl))⟩,(by rintro z ⟨⟩),?_,?_,?_⟩
 ·rintro z ⟨⟩
  refine ⟨jf,?_⟩;unfold By;rw [aa,List.map_append];exact ho
 ·rintro z v' hz (⟨⟨⟩⟩ | ⟨⟨⟩⟩)
  rcases hb with hb | hb
  ·rw [hb];exact h.ne z v hz (.inl rfl)
  ·refine .inr (fun e=>?_)
   have:=(h.f1 z hz).2.lt (e.trans hb);omega
 ·rintro G v' hG (⟨⟨⟩⟩ | ⟨⟨⟩⟩)
  rcases hb with hb | hb
  ·rw [hb];exact h.nG G v hG (.inl rfl)
  ·rw [hb];intro e;injection e with e;have:=(h.f13 G hG).2.lt;omega
end
noncomputable def O21:Array Oper:=match RG Tryz.f7 21 with
 | .region _ ops _=>ops
 | _=>#[]
theorem aHh (h:13<O21.size):(O21[13]'h).op=.buildSlice 74 1 #[(0,.tmp 163)]:=rfl
theorem aUk (h:15<O21.size):(O21[15]'h).op=.buildSlice 79 4 #[(0,.tmp 152),(1,.tmp 153),(2,.tmp 158),(3,.tmp 165)]:=rfl
theorem aUj (h:16<O21.size):(O21[16]'h).op=.assign (.tmp 166):=rfl
section
variable {w:World}
theorem t21 {K}{raw lx:List Int}{y A Ax c cx Ab nb cb W b0}(sz0:b0.tmps.size=208)(e151:qq b0 151 (.slice A raw c))(e153:qq b0 153 (.slice Ab nb cb))(e158:qq b0 158 (.slice Ax (lx.length - 1) cx))(e159:qq b0 159 (.slice Ax lx cx))(e161:qq b0 161 (↑(lx:Int)))(e163:qq b0 163 (.int .u8 y))
  (call1:∀ {V:World},Ext w V->qg 37 #[.slice A raw c,.int .i64 (40:Nat)] V (jD (raw.take 40) V))(call2:∀ {V:World},Ext w V->qg 37 #[.slice Ax lx cx,.int .i64 (lx:Nat)] V (jD lx V))(hl:lx.length<=900000000)(hx0:Ext w W)
  (hK:∀ a' w' v1 v3 G,Ag [4,6,19] b0 a'->qq a' 29 (.slice (qp G) 4 4)->Blk w' G 74 #[v1,.slice Ab nb cb,.slice Ax (lx.length - 1) cx,v3]->By w v1 (raw.take 40) w'->By w v3 (lx ++ [y]) w'->Ext w w'->K a' w'):WD O21 K (fun _=>True) (fun _=>true) 6 [12,10,9,8,7,6,5,4,3,2,0] b0 W:=by
 have hA0:Ag [4,6,19,151,153,158,159,161,163] b0 b0:=.rf
 have T112:∀ (b:Act) (V:World) (v1:Value) (G:Nat) (v3:Value),Ag [4,6,19,151,153,158,159,161,163] b0 b->E21 w (raw.take 40) lx y (some v1) (some G) none (some v3) b V->WD O21 K (fun _=>True) (fun _=>true) 2 [14,13,11,1,12,10,9,8,7,6,5,4,3,2,0] b V:=by
  intro b V v1 G v3 hA h;have z:=hA.sz.trans sz0;obtain ⟨q1,r1⟩:=h.f1 v1 rfl;obtain ⟨q3,r3⟩:=h.f3 v3 rfl;obtain ⟨A1,c1,rfl,-,-,-⟩:=Sl.of_own r1;obtain ⟨A3,c3,rfl,-,-,-⟩:=Sl.of_own r3;have q53:=hA.get 153 e153;have q58:=hA.get 158 e158;have hxA:Ext V (V.alloc (qk #[.slice A1 (raw.take 40) c1,.slice Ab nb cb,.slice Ax (lx.length - 1) cx,.slice A3 (lx ++ [y]) c3] 74)):=(aq V).alloc' _;refine dv 15 ?_ (hS:=fun _=>trivial) (w1:=V.alloc (qk #[.slice A1 (raw.take 40) c1,.slice Ab nb cb,.slice Ax (lx.length - 1) cx,.slice A3 (lx ++ [y]) c3] 74)) (v:=.slice (qp V) 4 4) (hrun:=by simp [execOp,go_sem,aUk, *];try rfl);have hB4:=aw V 74 #[.slice A1 (raw.take 40) c1,.slice Ab nb cb,.slice Ax (lx.length - 1) cx,.slice A3 (lx ++ [y]) c3];generalize V.alloc (qk #[.slice A1 (raw.take 40) c1,.slice Ab nb cb,.slice Ax (lx.length - 1) cx,.slice A3 (lx ++ [y]) c3] 74)=V2 at *;refine dv 16 ?_ (hS:=fun _=>trivial) (w1:=V2) (v:=.slice (qp V) 4 4) (hrun:=by simp [execOp,go_sem,aUj,z];try rfl);exact jN U (hK _ _ _ _ V (((hA.mono rfl:Ag [4,6,19] b0 b).put rfl).put rfl) (by simp [z]) hB4 (r1.ext_ hxA) (r3.ext_ hxA) (h.ext.trans' hxA))
 have T111:∀ (b:Act) (V:World) (v1:Value) (G:Nat) (v2:Value),Ag [4,6,19,151,153,158,159,161,163] b0 b->E21 w (raw.take 40) lx y (some v1) (some G) (some v2) none b V->WD O21 K (fun _=>True) (fun _=>true) 3 [13,11,1,12,10,9,8,7,6,5,4,3,2,0] b V:=by
  intro b V v1 G v2 hA h;have z:=hA.sz.trans sz0;refine aF1 (l:=[14]) U O (fun i hi=>?_);simp only [ao,List.not_mem_nil,or_false] at hi;subst hi
  ·obtain ⟨q2,r2⟩:=h.f2 v2 rfl
   obtain ⟨q13,r13⟩:=h.f13 G rfl;exact ⟨_,rfl,a2f oH aHw r2 r13.sl1 I I h.ext.size cd (fun v3 V' ho hf hb=>⟨fun _=>trivial,T112 _ V' v1 G v3 (hA.put rfl) (h.s14 ho hf hb z)⟩) q2 q13⟩
 have T101:∀ (b:Act) (V:World) (v1:Value) (v2:Value),Ag [4,6,19,151,153,158,159,161,163] b0 b->E21 w (raw.take 40) lx y (some v1) none (some v2) none b V->WD O21 K (fun _=>True) (fun _=>true) 4 [11,1,12,10,9,8,7,6,5,4,3,2,0] b V:=by
  intro b V v1 v2 hA h;have z:=hA.sz.trans sz0;refine aF1 (l:=[13]) U O (fun i hi=>?_);simp only [ao,List.not_mem_nil,or_false] at hi;subst hi
  ·refine ⟨_,rfl,?_⟩
   refine aWp rfl rfl (v:=.slice (qp V) 1 1) (w1:=V.alloc (qk #[.int .u8 y] 5)) (by simp [execOp,go_sem,aHh,hA.get 163 e163];try rfl) (fun _=>trivial) ?_;exact (T111 _ _ v1 V v2 (hA.put rfl) (h.s13 z)).perm
 have T110:∀ (b:Act) (V:World) (v1:Value) (G:Nat),Ag [4,6,19,151,153,158,159,161,163] b0 b->E21 w (raw.take 40) lx y (some v1) (some G) none none b V->WD O21 K (fun _=>True) (fun _=>true) 4 [13,1,12,10,9,8,7,6,5,4,3,2,0] b V:=by
  intro b V v1 G hA h;have z:=hA.sz.trans sz0;refine aF1 (l:=[11]) U O (fun i hi=>?_);simp only [ao,List.not_mem_nil,or_false] at hi;subst hi
  ·refine ⟨_,rfl,aWq (xs:=#[.tmp 159,.tmp 161]) Tryz.func37 (call2 h.ext) ?_ (by simp [hA.get 159 e159,hA.get 161 e161])⟩
   rintro e V2 ⟨v2,rfl,hO⟩;exact ⟨_,rfl,fun _=>trivial,(T111 _ _ v1 G v2 (hA.put rfl) (h.s2 hO z)).perm⟩
 have T010:∀ (b:Act) (V:World) (G:Nat),Ag [4,6,19,151,153,158,159,161,163] b0 b->E21 w (raw.take 40) lx y none (some G) none none b V->WD O21 K (fun _=>True) (fun _=>true) 5 [13,12,10,9,8,7,6,5,4,3,2,0] b V:=by
  intro b V G hA h;have z:=hA.sz.trans sz0;refine aF1 (l:=[1]) U O (fun i hi=>?_);simp only [ao,List.not_mem_nil,or_false] at hi;subst hi
  ·refine ⟨_,rfl,aWq (xs:=#[.tmp 151,.const (.int .i64 40)]) Tryz.func37 (call1 h.ext) ?_ (by simp [hA.get 151 e151])⟩
   rintro e V2 ⟨v1,rfl,hO⟩;exact ⟨_,rfl,fun _=>trivial,(T110 _ _ v1 G (hA.put rfl) (h.s1 hO z)).perm⟩
 have T100:∀ (b:Act) (V:World) (v1:Value),Ag [4,6,19,151,153,158,159,161,163] b0 b->E21 w (raw.take 40) lx y (some v1) none none none b V->WD O21 K (fun _=>True) (fun _=>true) 5 [1,12,10,9,8,7,6,5,4,3,2,0] b V:=by
  intro b V v1 hA h;have z:=hA.sz.trans sz0;refine aF1 (l:=[11,13]) U O (fun i hi=>?_);simp only [ao,List.not_mem_nil,or_false] at hi;rcases hi with rfl | rfl
  ·refine ⟨_,rfl,aWq (xs:=#[.tmp 159,.tmp 161]) Tryz.func37 (call2 h.ext) ?_ (by simp [hA.get 159 e159,hA.get 161 e161])⟩
   rintro e V2 ⟨v2,rfl,hO⟩;exact ⟨_,rfl,fun _=>trivial,(T101 _ _ v1 v2 (hA.put rfl) (h.s2 hO z)).perm⟩
  ·refine ⟨_,rfl,?_⟩
   refine aWp rfl rfl (v:=.slice (qp V) 1 1) (w1:=V.alloc (qk #[.int .u8 y] 5)) (by simp [execOp,go_sem,aHh,hA.get 163 e163];try rfl) (fun _=>trivial) ?_;exact (T110 _ _ v1 V (hA.put rfl) (h.s13 z)).perm
 have T000:∀ (b:Act) (V:World),Ag [4,6,19,151,153,158,159,161,163] b0 b->E21 w (raw.take 40) lx y none none none none b V->WD O21 K (fun _=>True) (fun _=>true) 6 [12,10,9,8,7,6,5,4,3,2,0] b V:=by
  intro b V hA h;have z:=hA.sz.trans sz0;refine aF1 (l:=[1,13]) U O (fun i hi=>?_);simp only [ao,List.not_mem_nil,or_false] at hi;rcases hi with rfl | rfl
  ·refine ⟨_,rfl,aWq (xs:=#[.tmp 151,.const (.int .i64 40)]) Tryz.func37 (call1 h.ext) ?_ (by simp [hA.get 151 e151])⟩
   rintro e V2 ⟨v1,rfl,hO⟩;exact ⟨_,rfl,fun _=>trivial,(T100 _ _ v1 (hA.put rfl) (h.s1 hO z)).perm⟩
  ·refine ⟨_,rfl,?_⟩
   refine aWp rfl rfl (v:=.slice (qp V) 1 1) (w1:=V.alloc (qk #[.int .u8 y] 5)) (by simp [execOp,go_sem,aHh,hA.get 163 e163];try rfl) (fun _=>trivial) ?_;exact (T010 _ _ V (hA.put rfl) (h.s13 z)).perm
 exact T000 b0 W hA0 ⟨hx0,jm,jm,jm,jm,by rintro _ _ ⟨⟩,by rintro _ _ ⟨⟩⟩
end
section
variable {Q:Exit->Act->World->Prop}{a:Act}{w:World}
theorem aOg {raw lx:List Int}{y A Ax c cx T Tx Ab nb cb}(sz:a.tmps.size=208)(e4:qq a 4 (.slice A raw c))(e6:qq a 6 (.int .u8 y))(e19:qq a 19 (.slice Ax lx cx))(e28:qq a 28 (.slice Ab nb cb))
  (hr:raw.length<=1000000000000000∧raw<=c∧c<=9223372036854775807)(hs:Sl w T 1 A raw (raw.map (Value.int .u8)))(hx:0<lx.length∧lx.length<=900000000∧lx<=cx∧cx<=9223372036854775807)(hsx:Sl w Tx 1 Ax lx (lx.map (Value.int .u8)))
  (hQ:∀ a' w' v1 v3 G,Ag [4,6,19] a a'->qq a' 29 (.slice (qp G) 4 4)->Blk w' G 74 #[v1,.slice Ab nb cb,.slice Ax (lx.length - 1) cx,v3]->By w v1 (raw.take 40) w'->By w v3 (lx ++ [y]) w'->Ext w w'->Q .normal a' w'):qw (R7 21) Q a w:=by
 have hx0:Ext w w.drew:=(aq w).drew';refine rD (fun _=>True) (fun _=>true) 17 ?_;generalize w.drew=W at *;refine dt 6 [0,2,3,4,5,6,7,8,9,10,12] (hS:=trivial) ?_;iterate 5 refine tv ?_ (hy:=by (intro w hw;simp [execOp,go_sem, *];try rfl))
 refine tv ?_ (v:=.int .i64 ((lx.length - 1:Nat):Int)) (hy:=by (intro w hw;simp [execOp,go_sem, *];try simp (disch:=omega) only [wrI]);try (congr 1;omega));have hcx:¬ cx+1<lx:=by omega
 refine tv ?_ (v:=.slice Ax (lx.length - 1) cx) (hy:=by (intro w hw;simp [execOp,go_sem, *];try rfl));iterate 4 refine tv ?_ (hy:=by (intro w hw;simp [execOp,go_sem, *];try rfl))
 refine t_e ?_;generalize hb0:Pt _ 163 _=b0;have g0:Ag [4,6,19] a b0:=by subst hb0;(repeat refine .put ?_ rfl);exact .rf
 have sz0:b0.tmps.size=208:=g0.sz.trans sz;have e151:qq b0 151 (.slice A raw c):=by subst hb0;simp [*]
 have e153:qq b0 153 (.slice Ab nb cb):=ic;have e158:qq b0 158 (.slice Ax (lx.length - 1) cx):=ic;have e159:qq b0 159 (.slice Ax lx cx):=ic;have e161:qq b0 161 (↑(lx:Int)):=ic;have e163:qq b0 163 (.int .u8 y):=ic;clear hb0 e4 e6 e19 e28;have call1:∀ {V:World},Ext w V->qg 37 #[.slice A raw c,.int .i64 (40:Nat)] V (jD (raw.take 40) V):=fun h=>aQh raw 40 _ hr I (hs.keep (aB.of_ext h) (fun _ h=>h))
 have call2:∀ {V:World},Ext w V->qg 37 #[.slice Ax lx cx,.int .i64 (lx:Nat)] V (jD lx V):=fun h=>by
  have:=aQh (c:=cx) lx lx _ ⟨I,I,I⟩ I (hsx.keep (aB.of_ext h) (fun _ h=>h))
  rwa [List.take_length] at this
 exact t21 sz0 e151 e153 e158 e159 e161 e163 call1 call2 hx.2.1 hx0 (fun a' w' v1 v3 G q1 q2 q3 q4 q5 q6=>hQ a' w' v1 v3 G (g0.trans q1) q2 q3 q4 q5 q6)
end
