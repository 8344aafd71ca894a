/- Contracts of functions. Conditions: none. -/
import Derived.Test.YtkoeecdjijfjnaaGreatA3
set_option maxRecDepth 100000
set_option maxHeartbeats 8000000
namespace Go.Proofs.YtkoeecdjijfjnaaGreat
open Go.RowKit
theorem dD {a b:Int}(h:iN a b=0):a=b:=by unfold iN at h;split at h <;> (try split at h) <;> omega
theorem fU {a b:Int}:iN a b<0 ↔ a<b:=by unfold iN;split <;> (try split) <;> omega
theorem mD (a b:Int):iN b a=- iN a b:=by unfold iN;split <;> (try split) <;> (try split) <;> omega
theorem mH:∀ a b:List UInt8,Op.bytesLess a b=true∨a=b∨Op.bytesLess b a=true
 | [],[]=>.inr (.inl rfl)
 | [],_ :: _=>.inl rfl
 | _ :: _,[]=>.inr (.inr rfl)
 | x :: xs,y :: ys=>by
  simp only [Op.bytesLess,Bool.or_eq_true,decide_eq_true_eq,Bool.and_eq_true,beq_iff_eq];rcases Nat.lt_trichotomy x.toNat y.toNat with h | h | h
  ·exact .inl (.inl (UInt8.lt_iff_toNat_lt.2 h))
  ·have e:x=y:=UInt8.toNat_inj.1 h
   subst e;rcases mH xs ys with h | h | h
   ·exact .inl (.inr ⟨rfl,h⟩)
   ·exact .inr (.inl (by rw [h]))
   ·exact .inr (.inr (.inr ⟨rfl,h⟩))
  ·exact .inr (.inr (.inl (UInt8.lt_iff_toNat_lt.2 h)))
theorem eZ:∀ a b c:List UInt8,Op.bytesLess a b=true->Op.bytesLess b c=true->Op.bytesLess a c=true
 | _,_,[],_,h=>by simp [Op.bytesLess] at h
 | _,[],_ :: _,h,_=>by simp [Op.bytesLess] at h
 | [],_ :: _,_ :: _,_,_=>rfl
 | x :: xs,y :: ys,z :: zs,h,k=>by
  simp only [Op.bytesLess,Bool.or_eq_true,decide_eq_true_eq,Bool.and_eq_true,beq_iff_eq,UInt8.lt_iff_toNat_lt] at h k ⊢;rcases h with h | ⟨rfl,h⟩
  ·rcases k with k | ⟨rfl,k⟩
   ·exact .inl U
   ·exact .inl h
  ·rcases k with k | ⟨rfl,k⟩
   ·exact .inl k
   ·exact .inr ⟨rfl,eZ xs ys zs h k⟩
theorem xE {a b:ByteArray}(h:a.toList=b.toList):a=b:=by
 rw [ByteArray.toList_eq,ByteArray.toList_eq] at h;exact ByteArray.ext (Array.ext' h)
theorem pY {a b:ByteArray}(h:nV a b=0):a=b:=by
 unfold nV at h
 split at h
 ·omega
 ·split at h
  ·next h'=>exact xE h'
  ·omega
theorem uG {a b:ByteArray}:nV a b<0 ↔ Op.bytesLess a.toList b.toList=true:=by
 unfold nV
 by_cases h:Op.bytesLess a.toList b.toList=true
 ·simp [h]
 ·rw [if_neg h]
  constructor
  ·intro k;split at k <;> omega
  ·intro k;exact absurd k h
theorem aE2 (a b:ByteArray):nV b a=- nV a b:=by
 rcases mH a.toList b.toList with h | h | h
 ·have h1:¬ Op.bytesLess b.toList a.toList=true:=fun k=>by have:=eZ _ _ _ h k;rw [dI] at this;cases this
  have h2:¬ b.toList=a.toList:=fun k=>by rw [k,dI] at h;cases h
  unfold nV;rw [if_neg h1,if_neg h2,if_pos h]
  rfl
 ·rw [pZ h,pZ h.symm];rfl
 ·have h1:¬ Op.bytesLess a.toList b.toList=true:=fun k=>by have:=eZ _ _ _ h k;rw [dI] at this;cases this
  have h2:¬ a.toList=b.toList:=fun k=>by rw [k,dI] at h;cases h
  unfold nV;rw [if_pos h,if_neg h1,if_neg h2]
theorem aLp {a b c:ByteArray}(h:nV a b<0)(k:nV b c<0):nV a c<0:=uG.2 (eZ _ _ _ (uG.1 h) (uG.1 k))
theorem mY {a b:Int}:(if a=0 then b else a)<0 ↔ a<0∨(a=0∧b<0):=by split <;> omega
theorem kG {a b a' b':Int}(h:a'=- a)(k:b'=- b):(if a'=0 then b' else a')=- (if a=0 then b else a):=by subst h k;split <;> split <;> omega
theorem kF {a b:Int}(h:(if a=0 then b else a)=0):a=0∧b=0:=by split at h <;> omega
mutual
theorem mC:∀ x y:GV,cH y x=- cH x y
 | .mk k n s l,.mk k' n' s' l'=>by
  simp only [cH];exact kG (mD k k') (kG (mD n n') (kG (aE2 s s') (nC l l')))
theorem nC:∀ x y:List GV,cU y x=- cU x y
 | [],[]=>rfl
 | [],_ :: _=>by simp only [cU];rfl
 | _ :: _,[]=>by simp only [cU]
 | x :: xs,y :: ys=>by
  simp only [cU];exact kG (mC x y) (nC xs ys)
end
mutual
theorem fK:∀ x y:GV,cH x y=0->x=y
 | .mk k n s l,.mk k' n' s' l',h=>by
  simp only [cH] at h;obtain ⟨h1,h⟩:=kF h;obtain ⟨h2,h⟩:=kF h;obtain ⟨h3,h⟩:=kF h;rw [dD h1,dD h2,pY h3,rY l l' h]
theorem rY:∀ x y:List GV,cU x y=0->x=y
 | [],[],_=>rfl
 | [],_ :: _,h=>by simp only [cU] at h;omega
 | _ :: _,[],h=>by simp only [cU] at h;omega
 | x :: xs,y :: ys,h=>by
  simp only [cU] at h;obtain ⟨h1,h2⟩:=kF h;rw [fK x y h1,rY xs ys h2]
end
theorem pX (x:GV):cH x x=0:=by have:=mC x x;omega
theorem aCn (x:List GV):cU x x=0:=by have:=nC x x;omega
mutual
theorem aE0:∀ x y z:GV,cH x y<0->cH y z<0->cH x z<0
 | .mk k n s l,.mk k' n' s' l',.mk k'' n'' s'' l'',h,h'=>by
  simp only [cH] at h h' ⊢;rw [mY] at h h' ⊢;rcases h with h | ⟨e,h⟩
  ·rcases h' with h' | ⟨e',h'⟩
   ·rw [fU] at h h' ⊢;exact .inl U
   ·rw [<- dD e'];exact .inl h
  ·rw [dD e]
   rcases h' with h' | ⟨e',h'⟩
   ·exact .inl h'
   ·refine .inr ⟨e',?_⟩
    rw [mY] at h h' ⊢;rcases h with h | ⟨e,h⟩
    ·rcases h' with h' | ⟨e',h'⟩
     ·rw [fU] at h h' ⊢;exact .inl U
     ·rw [<- dD e'];exact .inl h
    ·rw [dD e]
     rcases h' with h' | ⟨e',h'⟩
     ·exact .inl h'
     ·refine .inr ⟨e',?_⟩
      rw [mY] at h h' ⊢;rcases h with h | ⟨e,h⟩
      ·rcases h' with h' | ⟨e',h'⟩
       ·exact .inl (aLp h h')
       ·rw [<- pY e'];exact .inl h
      ·rw [pY e]
       rcases h' with h' | ⟨e',h'⟩
       ·exact .inl h'
       ·exact .inr ⟨e',aA7 l l' l'' h h'⟩
theorem aA7:∀ x y z:List GV,cU x y<0->cU y z<0->cU x z<0
 | _,_,[],_,h=>by
  rename_i y _
  cases y <;> simp [cU] at h
 | _,[],_ :: _,h,_=>by
  rename_i x _ _ _
  cases x <;> simp [cU] at h
 | [],_ :: _,_ :: _,_,_=>by simp [cU]
 | x :: xs,y :: ys,z :: zs,h,h'=>by
  simp only [cU] at h h' ⊢;rw [mY] at h h' ⊢;rcases h with h | ⟨e,h⟩
  ·rcases h' with h' | ⟨e',h'⟩
   ·exact .inl (aE0 x y z h h')
   ·rw [<- fK y z e'];exact .inl h
  ·rw [fK x y e]
   rcases h' with h' | ⟨e',h'⟩
   ·exact .inl h'
   ·exact .inr ⟨e',aA7 xs ys zs h h'⟩
end
def ltV (x y:GV):Prop:=cH x y<0
theorem ltV.tr {x y z:GV}(h:ltV x y)(k:ltV y z):ltV x z:=aE0 x y z h k
theorem ltV.irr {x:GV}(h:ltV x x):False:=by unfold ltV at h;rw [pX] at h;omega
abbrev Inc (l:List GV):Prop:=l.Pairwise ltV
theorem Inc.ext:∀ {a b:List GV},Inc a->Inc b->(∀ x,x ∈ a ↔ x ∈ b)->a=b
 | [],[],_,_,_=>rfl
 | [],y :: ys,_,_,h=>by have:=(h y).2 Y;simp at this
 | x :: xs,[],_,_,h=>by have:=(h x).1 Y;simp at this
 | x :: xs,y :: ys,ha,hb,h=>by
  have ha':=List.pairwise_cons.1 ha;have hb':=List.pairwise_cons.1 hb
  have e:x=y:=by
   rcases List.mem_cons.1 ((h x).1 Y) with e | hx
   ·exact e
   ·rcases List.mem_cons.1 ((h y).2 Y) with e | hy
    ·exact e.symm
    ·exact absurd ((ha'.1 y hy).tr (hb'.1 x hx)) (fun k=>k.irr)
  subst e
  congr 1
  refine Inc.ext ha'.2 hb'.2 (fun z=>?_);have hz:=h z;simp only [List.mem_cons] at hz
  constructor
  ·intro hm
   rcases hz.1 (.inr hm) with rfl | k
   ·exact absurd (ha'.1 _ hm) (fun k=>k.irr)
   ·exact k
  ·intro hm
   rcases hz.2 (.inr hm) with rfl | k
   ·exact absurd (hb'.1 _ hm) (fun k=>k.irr)
   ·exact k
end Go.Proofs.YtkoeecdjijfjnaaGreat
