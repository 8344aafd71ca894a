/- Contracts of functions, plain laws. Conditions: none. -/
import Derived.Test.YtkoeecdjijfjnaaGreatPlA
set_option maxRecDepth 100000
set_option maxHeartbeats 8000000
namespace Go.Proofs.YtkoeecdjijfjnaaGreat
theorem wV:∀ x y:List Int,jI y x=- jI x y
 | [],[]=>rfl
 | [],_ :: _=>by simp only [jI];rfl
 | _ :: _,[]=>by simp only [jI]
 | x :: xs,y :: ys=>by
  simp only [jI];exact kP (mG x y) (wV xs ys)
theorem wU:∀ x y:List Int,jI x y=0->x=y
 | [],[],_=>rfl
 | [],_ :: _,h=>by simp only [jI] at h;omega
 | _ :: _,[],h=>by simp only [jI] at h;omega
 | x :: xs,y :: ys,h=>by
  simp only [jI] at h;obtain ⟨h1,h2⟩:=kO h;rw [dI h1,wU xs ys h2]
theorem aEx:∀ x y z:List Int,jI x y<0->jI y z<0->jI x z<0
 | [],[],_,h,_=>by simp only [jI] at h;omega
 | [],_ :: _,[],_,h=>by simp only [jI] at h;omega
 | [],_ :: _,_ :: _,_,_=>by simp only [jI];omega
 | _ :: _,[],_,h,_=>by simp only [jI] at h;omega
 | _ :: _,_ :: _,[],_,h=>by simp only [jI] at h;omega
 | x :: xs,y :: ys,z :: zs,h,k=>by
  simp only [jI] at h k ⊢;rw [mX] at h k ⊢;rcases h with h | ⟨e,h⟩ <;> rcases k with k | ⟨e',k⟩
  ·exact .inl (gG.2 (by have:=gG.1 h;have:=gG.1 k;omega))
  ·exact .inl (by rw [<- dI e'];exact h)
  ·exact .inl (by rw [dI e];exact k)
  ·exact .inr ⟨by rw [dI e];exact e',aEx xs ys zs h k⟩
theorem qI (x y:List Int):hU y x=- hU x y:=kP (mG _ _) (wV x y)
theorem qH {x y:List Int}(h:hU x y=0):x=y:=wU x y (kO h).2
theorem yL {x y z:List Int}(h:hU x y<0)(k:hU y z<0):hU x z<0:=by
 unfold hU at h k ⊢;rw [mX] at h k ⊢;rcases h with h | ⟨e,h⟩ <;> rcases k with k | ⟨e',k⟩
 ·exact .inl (gG.2 (by have:=gG.1 h;have:=gG.1 k;omega))
 ·exact .inl (by rw [<- dI e'];exact h)
 ·exact .inl (by rw [dI e];exact k)
 ·exact .inr ⟨by rw [dI e];exact e',aEx x y z h k⟩
theorem qJ (x:List Int):hU x x=0:=by have:=qI x x;omega
def ltP (x y:List Int):Prop:=hU x y<0
theorem ltP.tr {x y z:List Int}(h:ltP x y)(k:ltP y z):ltP x z:=yL h k
theorem aNj (x y:List Int):ltP x y∨x=y∨ltP y x:=by
 unfold ltP;have:=qI x y;rcases Int.lt_trichotomy (hU x y) 0 with h | h | h
 ·exact .inl h
 ·exact .inr (.inl (qH h))
 ·exact .inr (.inr (by omega))
abbrev aUn (l:List (List Int)):Prop:=l.Pairwise ltP
def aEg (x:List Int):List (List Int)->List (List Int)
 | []=>[x]
 | y :: ys=>if hU y x<0 then y :: aEg x ys else if hU y x=0 then y :: ys else x :: y :: ys
theorem zQ (x:List Int):∀ (l:List (List Int))(z:List Int),z ∈ aEg x l ↔ z=x∨z ∈ l
 | [],z=>by simp [aEg]
 | y :: ys,z=>by
  simp only [aEg]
  split
  ·simp only [List.mem_cons,zQ x ys z]
   constructor
   ·rintro (h | h | h) <;> simp [h]
   ·rintro (h | h | h) <;> simp [h]
  ·split
   ·next h=>rw [qH h];simp
   ·simp
theorem zR (x:List Int):∀ {l:List (List Int)},aUn l->aUn (aEg x l)
 | [],_=>by simp [aEg]
 | y :: ys,h=>by
  have h':=List.pairwise_cons.1 h;simp only [aEg]
  split
  ·next hlt =>
   refine List.pairwise_cons.2 ⟨fun z hz=>?_,zR x h'.2⟩;rcases (zQ x ys z).1 hz with rfl | hz
   ·exact hlt
   ·exact h'.1 z hz
  ·split
   ·exact h
   ·next h1 h2 =>
    have hxy:ltP x y:=by
     rcases aNj x y with k | k | k
     ·exact k
     ·exact absurd (by rw [k];exact qJ y) h2
     ·exact absurd k h1
    refine List.pairwise_cons.2 ⟨fun z hz=>?_,h⟩;rcases List.mem_cons.1 hz with rfl | hz
    ·exact hxy
    ·exact hxy.tr (h'.1 z hz)
def aVa:Int->List (List Int)->List (List Int)
 | _,[]=>[]
 | b,y :: ys=>if 2+(y.length:Int)<=b then y :: aVa (b - (2+(y.length:Int))) ys else []
def aVg:List (List Int)->Int
 | []=>0
 | y :: ys=>2+(y.length:Int)+aVg ys
def aVd (ok:List Int->Bool):List (List Int)->List (List Int)->List (List Int)
 | Q,[]=>Q
 | Q,x :: xs=>aVd ok (if ok x then aEg x Q else Q) xs
end Go.Proofs.YtkoeecdjijfjnaaGreat
namespace Go.Proofs.YtkoeecdjijfjnaaGreat
open Go.RowKit
structure GE where
 path:List Int
 kind:Int
 at_:Int
 code:Int
 fresh:Bool
 hits:Int
instance:Inhabited GE:=⟨⟨[],0,0,0,false,0⟩⟩
def wE (e:GE):Int:=2+(e.path.length:Int)
def dE:List GE->Int
 | []=>0
 | e :: es=>wE e+dE es
def bK (p:List Int):List GE->Nat
 | []=>0
 | e :: es=>if hU e.path p<0 then bK p es+1 else 0
def gX (p:List Int)(L:List GE):Bool:=decide (bK p L<L.length) && decide (hU (L.getD (bK p L) default).path p=0)
def bB (e x:GE):GE:={ e with hits:=wrap64 (e.hits+x.hits),fresh:=e.fresh || x.fresh }
def dX (L:List GE)(x:GE):List GE :=
 if gX x.path L then L.set (bK x.path L) (bB (L.getD (bK x.path L) default) x) else L.take (bK x.path L) ++ x :: L.drop (bK x.path L)
def jB:Nat->Nat->List GE->Nat
 | _,k,[]=>k
 | i,k,e :: es=>jB (i+1) (if e.fresh then k else i) es
def nV (L:List GE):Nat:=jB 0 (L.length - 1) L
def aNt (b:Int):Nat->List GE->List GE
 | 0,L=>L
 | n+1,L=>if b<dE L∨256<L.length then aNt b n (L.eraseIdx (nV L)) else L
def uW (b:Int)(L:List GE):List GE:=aNt b L.length L
def nY (ok:List Int->Bool)(b:Int)(L:List GE)(x:GE):List GE :=
 if ok x.path then (if gX x.path L then dX L x else uW b (dX L x)) else L
def sN (ok:List Int->Bool)(b:Int)(L:List GE)(x:GE):Bool :=
 if ok x.path then (if gX x.path L then false else gX x.path (uW b (dX L x))) else false
def xG (ok:List Int->Bool)(x:GE):Int:=if ok x.path then 0 else 11
def tY:List GE->GE->List GE
 | [],x=>[x]
 | e :: es,x=>if hU e.path x.path<0 then e :: tY es x else if hU e.path x.path=0 then bB e x :: es else x :: e :: es
theorem kR (p:List Int):∀ L,bK p L<=L.length
 | []=>by simp [bK]
 | e :: es=>by have:=kR p es;simp only [bK];split <;> simp <;> omega
theorem aH3 {p:List Int}{e:GE}{es:List GE}(h:hU e.path p<0):bK p (e :: es)=bK p es+1:=by simp only [bK];rw [if_pos h]
theorem aH4 {p:List Int}{e:GE}{es:List GE}(h:¬ hU e.path p<0):bK p (e :: es)=0:=by simp only [bK];rw [if_neg h]
theorem tZ:∀ (L:List GE)(x:GE),dX L x=tY L x
 | [],x=>by simp [dX,tY,gX,bK]
 | e :: es,x=>by
  have ih:=tZ es x;simp only [tY];unfold dX gX at ih ⊢
  by_cases h1:hU e.path x.path<0
  ·have hf:=aH3 (es:=es) h1
   generalize bK x.path (e :: es)=k at *;subst hf;rw [if_pos h1,<- ih];simp only [List.length_cons,List.getD_cons_succ,List.set_cons_succ,List.take_succ_cons,List.drop_succ_cons,Nat.add_lt_add_iff_right]
   split <;> simp
  ·have hf:=aH4 (es:=es) h1
   generalize bK x.path (e :: es)=k at *;subst hf;rw [if_neg h1]
   by_cases h2:hU e.path x.path=0
   ·rw [if_pos h2]
    simp [h2]
   ·rw [if_neg h2]
    simp [h2]
theorem pS:∀ (L:List GE)(x:GE),(tY L x).map GE.path=aEg x.path (L.map GE.path)
 | [],x=>rfl
 | e :: es,x=>by
  simp only [tY,List.map_cons,aEg]
  split
  ·simp [pS es x]
  ·split
   ·rfl
   ·rfl
theorem aBn (L:List GE)(x:GE):(dX L x).map GE.path=aEg x.path (L.map GE.path):=by rw [tZ,pS]
abbrev xH (L:List GE):Prop:=aUn (L.map GE.path)
theorem xH.join {L:List GE}(h:xH L)(x:GE):xH (dX L x):=by unfold xH;rw [aBn];exact zR _ h
theorem wS (p:List Int):∀ (L:List GE)(k:Nat),k<bK p L->hU (L.getD k default).path p<0
 | [],k,h=>by simp [bK] at h
 | e :: es,k,h=>by
  simp only [bK] at h
  split at h
  ·next hlt =>
   cases k with
   | zero=>exact hlt
   | succ k=>exact wS p es k (by omega)
  ·omega
theorem sB {p:List Int}:∀ {L:List GE},xH L->∀ (k:Nat),bK p L<=k->k<L.length->¬ hU (L.getD k default).path p<0
 | [],_,k,_,h=>by simp at h
 | e :: es,hi,k,h1,h2=>by
  have hi':=List.pairwise_cons.1 hi;simp only [bK] at h1
  split at h1
  ·cases k with
   | zero=>omega
   | succ k=>exact sB hi'.2 k (by omega) (by simpa using h2)
  ·next hn =>
   cases k with
   | zero=>exact hn
   | succ k =>
    intro hk
    apply hn
    have hk2:k<es.length:=by simpa using h2
    have hm:es.getD k default ∈ es:=by
     have h3:es.getD k default=es[k]:=by simp [hk2]
     rw [h3];exact List.getElem_mem hk2
    exact yL (hi'.1 _ (List.mem_map.2 ⟨es.getD k default,hm,rfl⟩)) hk
theorem nB {p:List Int}{L:List GE}(hi:xH L){k:Nat}(hk:k<=L.length)(h1:∀ j,j<k->hU (L.getD j default).path p<0)(h2:∀ j,k<=j->j<L.length->¬ hU (L.getD j default).path p<0):k=bK p L:=by
 rcases Nat.lt_trichotomy k (bK p L) with h | h | h
 ·have:=kR p L
  exact absurd (wS p L k h) (h2 k (Nat.le_refl _) (by omega))
 ·exact h
 ·exact absurd (h1 _ h) (sB hi _ (Nat.le_refl _) (by omega))
theorem aEh {L:List GE}(hi:xH L){i j:Nat}(hij:i<j)(hj:j<L.length):hU (L.getD i default).path (L.getD j default).path<0:=by
 have:=List.pairwise_iff_getElem.1 hi i j (by simp;omega) (by simpa using hj) hij;have h1:L.getD i default=L[i]:=by simp [show i<L.length by omega]
 have h2:L.getD j default=L[j]:=by simp [hj]
 rw [h1,h2]
 simpa [ltP] using this
theorem uB {L:List GE}(hi:xH L)(p:List Int){i j:Nat}(hij:i<=j)(hj:j<L.length)(h:hU (L.getD j default).path p<0):hU (L.getD i default).path p<0:=by
 rcases Nat.eq_or_lt_of_le hij with rfl | hij
 ·exact h
 ·exact yL (aEh hi hij hj) h
theorem aHx {p:List Int}{L:List GE}(h:gX p L=true):p ∈ L.map GE.path:=by
 unfold gX at h;simp only [Bool.and_eq_true,decide_eq_true_eq] at h;refine List.mem_map.2 ⟨L.getD (bK p L) default,?_,qH h.2⟩;have:L.getD (bK p L) default=L[bK p L]:=by simp [h.1]
 rw [this];exact List.getElem_mem _
theorem sC:∀ (L:List GE)(i k n:Nat),k<n->i+L.length<=n->jB i k L<n
 | [],i,k,n,h,_=>by simp only [jB];exact h
 | e :: es,i,k,n,h,h2=>by
  simp only [List.length_cons] at h2;simp only [jB];refine sC es (i+1) _ n ?_ (by omega)
  split <;> omega
theorem aAc {L:List GE}(h:0<L.length):nV L<L.length:=sC L 0 _ _ (by omega) (by omega)
def aV0 (f:Bool)(L:List GE):Prop:=∀ e ∈ L,e.fresh=f
theorem wN:∀ (L:List GE)(x:GE),(tY L x).length<=L.length+1
 | [],x=>by simp [tY]
 | e :: es,x=>by have:=wN es x;simp only [tY];split <;> (try split) <;> simp <;> omega
structure aV3 (ok:List Int->Bool)(b:Int)(f:Bool)(ps:List (List Int))(L:List GE):Prop where
 paths:L.map GE.path=aVa b (aVd ok [] ps)
 all:aV0 f L
 len:L.length<=ps.length
end Go.Proofs.YtkoeecdjijfjnaaGreat
