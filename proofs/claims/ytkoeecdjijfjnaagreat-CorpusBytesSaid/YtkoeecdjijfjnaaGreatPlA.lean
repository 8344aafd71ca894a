/- Contracts and laws. Conditions: none. -/
import Derived.Test.YtkoeecdjijfjnaaGreatA3
set_option linter.all false
set_option maxRecDepth 100000
set_option maxHeartbeats 8000000
namespace Go.Proofs.YtkoeecdjijfjnaaGreat
open Go.RowKit
theorem cX {a b}(h:iU a b=0):a=b:=by unfold iU at h;split at h <;> (try split at h) <;> omega
theorem fK {a b}:iU a b<0 ↔ a<b:=by unfold iU;split <;> (try split) <;> omega
theorem nP (a b):iU b a=- iU a b:=by unfold iU;split <;> (try split) <;> (try split) <;> omega
theorem nT:∀ a b:List UInt8,Op.bytesLess a b=true∨a=b∨Op.bytesLess b a=true
 | [],[]=>.inr (.inl rfl)
 | [],_ :: _=>.inl rfl
 | _ :: _,[]=>.inr (.inr rfl)
 | x :: xs,y :: ys=>by
  simp only [Op.bytesLess,Bool.or_eq_true,decide_eq_true_eq,Bool.and_eq_true,beq_iff_eq];rcases Nat.lt_trichotomy x.toNat y.toNat with h | h | h
  ·exact .inl (.inl (UInt8.lt_iff_toNat_lt.2 h))
  ·have e:x=y:=UInt8.toNat_inj.1 h
   subst e;rcases nT xs ys with h | h | h
   ·exact .inl (.inr ⟨rfl,h⟩)
   ·exact .inr (.inl jq)
   ·exact .inr (.inr (.inr ⟨rfl,h⟩))
  ·exact .inr (.inr (.inl (UInt8.lt_iff_toNat_lt.2 h)))
theorem fD:∀ a b c:List UInt8,Op.bytesLess a b=true->Op.bytesLess b c=true->Op.bytesLess a c=true
 | _,_,[],_,h=>by simp [Op.bytesLess] at h
 | _,[],_ :: _,h,_=>by simp [Op.bytesLess] at h
 | [],_ :: _,_ :: _,_,_=>rfl
 | x :: xs,y :: ys,z :: zs,h,k=>by
  simp only [Op.bytesLess,Bool.or_eq_true,decide_eq_true_eq,Bool.and_eq_true,beq_iff_eq,UInt8.lt_iff_toNat_lt] at h k ⊢;rcases h with h | ⟨rfl,h⟩
  ·rcases k with k | ⟨rfl,k⟩
   ·exact .inl I
   ·exact .inl h
  ·rcases k with k | ⟨rfl,k⟩
   ·exact .inl k
   ·exact .inr ⟨rfl,fD xs ys zs h k⟩
theorem aA4 {a b:ByteArray}(h:a.toList=b.toList):a=b:=by
 rw [ByteArray.toList_eq,ByteArray.toList_eq] at h;exact ByteArray.ext (Array.ext' h)
theorem tC {a b}(h:pW a b=0):a=b:=by
 unfold pW at h;split at h
 ·omega
 ·split at h
  ·next h'=>exact aA4 h'
  ·omega
theorem yB {a b}:pW a b<0 ↔ Op.bytesLess a.toList b.toList=true:=by
 unfold pW;by_cases h:Op.bytesLess a.toList b.toList=true
 ·simp [h]
 ·rw [if_neg h]
  constructor
  ·intro k;split at k <;> omega
  ·intro k;exact absurd k h
theorem aIn (a b):pW b a=- pW a b:=by
 rcases nT a.toList b.toList with h | h | h
 ·have h1:¬ Op.bytesLess b.toList a.toList=true:=fun k=>by have:=fD _ _ _ h k;rw [dJ] at this;cases this
  have h2:¬ b.toList=a.toList:=fun k=>by rw [k,dJ] at h;cases h
  unfold pW;rw [if_neg h1,if_neg h2,if_pos h];rfl
 ·rw [tD h,tD h.symm];rfl
 ·have h1:¬ Op.bytesLess a.toList b.toList=true:=fun k=>by have:=fD _ _ _ h k;rw [dJ] at this;cases this
  have h2:¬ a.toList=b.toList:=fun k=>by rw [k,dJ] at h;cases h
  unfold pW;rw [if_pos h,if_neg h1,if_neg h2]
theorem aQr {a b c}(h:pW a b<0)(k:pW b c<0):pW a c<0:=yB.2 (fD _ _ _ (yB.1 h) (yB.1 k))
theorem lS {a b:Int}:(if a=0 then b else a)<0 ↔ a<0∨(a=0∧b<0):=by split <;> omega
theorem kK {a b a' b'}(h:a'=- a)(k:b'=- b):(if a'=0 then b' else a')=- (if a=0 then b else a):=by subst h k;split <;> split <;> omega
theorem kJ {a b:Int}(h:(if a=0 then b else a)=0):a=0∧b=0:=by split at h <;> omega
mutual
theorem nM:∀ x y,cJ y x=- cJ x y
 | .mk k n s l,.mk k' n' s' l'=>by
  simp only [cJ];exact kK (nP k k') (kK (nP n n') (kK (aIn s s') (oZ l l')))
theorem oZ:∀ x y,cR y x=- cR x y
 | [],[]=>rfl
 | [],_ :: _=>by simp only [cR];rfl
 | _ :: _,[]=>by simp only [cR]
 | x :: xs,y :: ys=>by
  simp only [cR];exact kK (nM x y) (oZ xs ys)
end
mutual
theorem fR:∀ x y,cJ x y=0->x=y
 | .mk k n s l,.mk k' n' s' l',h=>by
  simp only [cJ] at h;obtain ⟨h1,h⟩:=kJ h;obtain ⟨h2,h⟩:=kJ h;obtain ⟨h3,h⟩:=kJ h;rw [cX h1,cX h2,tC h3,vH l l' h]
theorem vH:∀ x y,cR x y=0->x=y
 | [],[],_=>rfl
 | [],_ :: _,h=>by simp only [cR] at h;omega
 | _ :: _,[],h=>by simp only [cR] at h;omega
 | x :: xs,y :: ys,h=>by
  simp only [cR] at h;obtain ⟨h1,h2⟩:=kJ h;rw [fR x y h1,vH xs ys h2]
end
theorem tB (x):cJ x x=0:=by have:=nM x x;omega
theorem aF2 (x):cR x x=0:=by have:=oZ x x;omega
mutual
theorem aIl:∀ x y z,cJ x y<0->cJ y z<0->cJ x z<0
 | .mk k n s l,.mk k' n' s' l',.mk k'' n'' s'' l'',h,h'=>by
  simp only [cJ] at h h' ⊢;rw [lS] at h h' ⊢;rcases h with h | ⟨e,h⟩
  ·rcases h' with h' | ⟨e',h'⟩
   ·rw [fK] at h h' ⊢;exact .inl I
   ·rw [<- cX e'];exact .inl h
  ·rw [cX e]
   rcases h' with h' | ⟨e',h'⟩
   ·exact .inl h'
   ·refine .inr ⟨e',?_⟩
    rw [lS] at h h' ⊢;rcases h with h | ⟨e,h⟩
    ·rcases h' with h' | ⟨e',h'⟩
     ·rw [fK] at h h' ⊢;exact .inl I
     ·rw [<- cX e'];exact .inl h
    ·rw [cX e]
     rcases h' with h' | ⟨e',h'⟩
     ·exact .inl h'
     ·refine .inr ⟨e',?_⟩
      rw [lS] at h h' ⊢;rcases h with h | ⟨e,h⟩
      ·rcases h' with h' | ⟨e',h'⟩
       ·exact .inl (aQr h h')
       ·rw [<- tC e'];exact .inl h
      ·rw [tC e]
       rcases h' with h' | ⟨e',h'⟩
       ·exact .inl h'
       ·exact .inr ⟨e',aEe l l' l'' h h'⟩
theorem aEe:∀ x y z,cR x y<0->cR y z<0->cR x z<0
 | _,_,[],_,h=>by
  rename_i y _;cases y <;> simp [cR] at h
 | _,[],_ :: _,h,_=>by
  rename_i x _ _ _;cases x <;> simp [cR] at h
 | [],_ :: _,_ :: _,_,_=>by simp [cR]
 | x :: xs,y :: ys,z :: zs,h,h'=>by
  simp only [cR] at h h' ⊢;rw [lS] at h h' ⊢;rcases h with h | ⟨e,h⟩
  ·rcases h' with h' | ⟨e',h'⟩
   ·exact .inl (aIl x y z h h')
   ·rw [<- fR y z e'];exact .inl h
  ·rw [fR x y e]
   rcases h' with h' | ⟨e',h'⟩
   ·exact .inl h'
   ·exact .inr ⟨e',aEe xs ys zs h h'⟩
end
def ltV (x y:GV):Prop:=cJ x y<0
theorem ltV.tr {x y z}(h:ltV x y)(k:ltV y z):ltV x z:=aIl x y z h k
theorem ltV.irr {x}(h:ltV x x):False:=by unfold ltV at h;rw [tB] at h;omega
abbrev Inc (l:List GV):Prop:=l.Pairwise ltV
theorem Inc.ext:∀ {a b},Inc a->Inc b->(∀ x,x ∈ a ↔ x ∈ b)->a=b
 | [],[],_,_,_=>rfl
 | [],y :: ys,_,_,h=>by have:=(h y).2 O;simp at this
 | x :: xs,[],_,_,h=>by have:=(h x).1 O;simp at this
 | x :: xs,y :: ys,ha,hb,h=>by
  have ha':=List.pairwise_cons.1 ha;have hb':=List.pairwise_cons.1 hb
  have e:x=y:=by
   rcases ao.1 ((h x).1 O) with e | hx
   ·exact e
   ·rcases ao.1 ((h y).2 O) with e | hy
    ·exact e.symm
    ·exact absurd ((ha'.1 y hy).tr (hb'.1 x hx)) (fun k=>k.irr)
  subst e
  congr 1
  refine Inc.ext ha'.2 hb'.2 (fun z=>?_);have hz:=h z;simp only [ao] at hz;constructor
  ·intro hm
   rcases hz.1 (.inr hm) with rfl | k
   ·exact absurd (ha'.1 _ hm) (fun k=>k.irr)
   ·exact k
  ·intro hm
   rcases hz.2 (.inr hm) with rfl | k
   ·exact absurd (hb'.1 _ hm) (fun k=>k.irr)
   ·exact k
