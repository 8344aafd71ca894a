/- Contracts of functions, plain laws. Conditions: none. -/
import Derived.Test.YtkoeecdjijfjnaaGreatA3
set_option maxRecDepth 100000
set_option maxHeartbeats 8000000
namespace Go.Proofs.YtkoeecdjijfjnaaGreat
open Go.RowKit
theorem dI {a b:Int}(h:iU a b=0):a=b:=by unfold iU at h;split at h <;> (try split at h) <;> omega
theorem gG {a b:Int}:iU a b<0 ↔ a<b:=by unfold iU;split <;> (try split) <;> omega
theorem mG (a b:Int):iU b a=- iU a b:=by unfold iU;split <;> (try split) <;> (try split) <;> omega
theorem mJ:∀ a b:List UInt8,Op.bytesLess a b=true∨a=b∨Op.bytesLess b a=true
 | [],[]=>.inr (.inl rfl)
 | [],_ :: _=>.inl rfl
 | _ :: _,[]=>.inr (.inr rfl)
 | x :: xs,y :: ys=>by
  simp only [Op.bytesLess,Bool.or_eq_true,decide_eq_true_eq,Bool.and_eq_true,beq_iff_eq];rcases Nat.lt_trichotomy x.toNat y.toNat with h | h | h
  ·exact .inl (.inl (UInt8.lt_iff_toNat_lt.2 h))
  ·have e:x=y:=UInt8.toNat_inj.1 h
   subst e;rcases mJ xs ys with h | h | h
   ·exact .inl (.inr ⟨rfl,h⟩)
   ·exact .inr (.inl (by rw [h]))
   ·exact .inr (.inr (.inr ⟨rfl,h⟩))
  ·exact .inr (.inr (.inl (UInt8.lt_iff_toNat_lt.2 h)))
theorem fG:∀ a b c:List UInt8,Op.bytesLess a b=true->Op.bytesLess b c=true->Op.bytesLess a c=true
 | _,_,[],_,h=>by simp [Op.bytesLess] at h
 | _,[],_ :: _,h,_=>by simp [Op.bytesLess] at h
 | [],_ :: _,_ :: _,_,_=>rfl
 | x :: xs,y :: ys,z :: zs,h,k=>by
  simp only [Op.bytesLess,Bool.or_eq_true,decide_eq_true_eq,Bool.and_eq_true,beq_iff_eq,UInt8.lt_iff_toNat_lt] at h k ⊢;rcases h with h | ⟨rfl,h⟩
  ·rcases k with k | ⟨rfl,k⟩
   ·exact .inl (by omega)
   ·exact .inl h
  ·rcases k with k | ⟨rfl,k⟩
   ·exact .inl k
   ·exact .inr ⟨rfl,fG xs ys zs h k⟩
theorem wW {a b:ByteArray}(h:a.toList=b.toList):a=b:=by
 rw [ByteArray.toList_eq,ByteArray.toList_eq] at h;exact ByteArray.ext (Array.ext' h)
theorem qF {a b:ByteArray}(h:nW a b=0):a=b:=by
 unfold nW at h
 split at h
 ·omega
 ·split at h
  ·next h'=>exact wW h'
  ·omega
theorem uK {a b:ByteArray}:nW a b<0 ↔ Op.bytesLess a.toList b.toList=true:=by
 unfold nW
 by_cases h:Op.bytesLess a.toList b.toList=true
 ·simp [h]
 ·rw [if_neg h]
  constructor
  ·intro k;split at k <;> omega
  ·intro k;exact absurd k h
theorem aEw (a b:ByteArray):nW b a=- nW a b:=by
 rcases mJ a.toList b.toList with h | h | h
 ·have h1:¬ Op.bytesLess b.toList a.toList=true:=fun k=>by have:=fG _ _ _ h k;rw [dO] at this;cases this
  have h2:¬ b.toList=a.toList:=fun k=>by rw [k,dO] at h;cases h
  unfold nW;rw [if_neg h1,if_neg h2,if_pos h]
  rfl
 ·rw [qG h,qG h.symm];rfl
 ·have h1:¬ Op.bytesLess a.toList b.toList=true:=fun k=>by have:=fG _ _ _ h k;rw [dO] at this;cases this
  have h2:¬ a.toList=b.toList:=fun k=>by rw [k,dO] at h;cases h
  unfold nW;rw [if_pos h,if_neg h1,if_neg h2]
theorem aNu {a b c:ByteArray}(h:nW a b<0)(k:nW b c<0):nW a c<0:=uK.2 (fG _ _ _ (uK.1 h) (uK.1 k))
theorem mX {a b:Int}:(if a=0 then b else a)<0 ↔ a<0∨(a=0∧b<0):=by split <;> omega
theorem kP {a b a' b':Int}(h:a'=- a)(k:b'=- b):(if a'=0 then b' else a')=- (if a=0 then b else a):=by subst h k;split <;> split <;> omega
theorem kO {a b:Int}(h:(if a=0 then b else a)=0):a=0∧b=0:=by split at h <;> omega
mutual
theorem mF:∀ x y:GV,cO y x=- cO x y
 | .mk k n s l,.mk k' n' s' l'=>by
  simp only [cO];exact kP (mG k k') (kP (mG n n') (kP (aEw s s') (nD l l')))
theorem nD:∀ x y:List GV,cW y x=- cW x y
 | [],[]=>rfl
 | [],_ :: _=>by simp only [cW];rfl
 | _ :: _,[]=>by simp only [cW]
 | x :: xs,y :: ys=>by
  simp only [cW];exact kP (mF x y) (nD xs ys)
end
mutual
theorem fW:∀ x y:GV,cO x y=0->x=y
 | .mk k n s l,.mk k' n' s' l',h=>by
  simp only [cO] at h;obtain ⟨h1,h⟩:=kO h;obtain ⟨h2,h⟩:=kO h;obtain ⟨h3,h⟩:=kO h;rw [dI h1,dI h2,qF h3,sE l l' h]
theorem sE:∀ x y:List GV,cW x y=0->x=y
 | [],[],_=>rfl
 | [],_ :: _,h=>by simp only [cW] at h;omega
 | _ :: _,[],h=>by simp only [cW] at h;omega
 | x :: xs,y :: ys,h=>by
  simp only [cW] at h;obtain ⟨h1,h2⟩:=kO h;rw [fW x y h1,sE xs ys h2]
end
theorem qE (x:GV):cO x x=0:=by have:=mF x x;omega
theorem aBy (x:List GV):cW x x=0:=by have:=nD x x;omega
mutual
theorem aEu:∀ x y z:GV,cO x y<0->cO y z<0->cO x z<0
 | .mk k n s l,.mk k' n' s' l',.mk k'' n'' s'' l'',h,h'=>by
  simp only [cO] at h h' ⊢;rw [mX] at h h' ⊢;rcases h with h | ⟨e,h⟩
  ·rcases h' with h' | ⟨e',h'⟩
   ·rw [gG] at h h' ⊢;exact .inl (by omega)
   ·rw [<- dI e'];exact .inl h
  ·rw [dI e]
   rcases h' with h' | ⟨e',h'⟩
   ·exact .inl h'
   ·refine .inr ⟨e',?_⟩
    rw [mX] at h h' ⊢;rcases h with h | ⟨e,h⟩
    ·rcases h' with h' | ⟨e',h'⟩
     ·rw [gG] at h h' ⊢;exact .inl (by omega)
     ·rw [<- dI e'];exact .inl h
    ·rw [dI e]
     rcases h' with h' | ⟨e',h'⟩
     ·exact .inl h'
     ·refine .inr ⟨e',?_⟩
      rw [mX] at h h' ⊢;rcases h with h | ⟨e,h⟩
      ·rcases h' with h' | ⟨e',h'⟩
       ·exact .inl (aNu h h')
       ·rw [<- qF e'];exact .inl h
      ·rw [qF e]
       rcases h' with h' | ⟨e',h'⟩
       ·exact .inl h'
       ·exact .inr ⟨e',aAd l l' l'' h h'⟩
theorem aAd:∀ x y z:List GV,cW x y<0->cW y z<0->cW x z<0
 | _,_,[],_,h=>by
  rename_i y _
  cases y <;> simp [cW] at h
 | _,[],_ :: _,h,_=>by
  rename_i x _ _ _
  cases x <;> simp [cW] at h
 | [],_ :: _,_ :: _,_,_=>by simp [cW]
 | x :: xs,y :: ys,z :: zs,h,h'=>by
  simp only [cW] at h h' ⊢;rw [mX] at h h' ⊢;rcases h with h | ⟨e,h⟩
  ·rcases h' with h' | ⟨e',h'⟩
   ·exact .inl (aEu x y z h h')
   ·rw [<- fW y z e'];exact .inl h
  ·rw [fW x y e]
   rcases h' with h' | ⟨e',h'⟩
   ·exact .inl h'
   ·exact .inr ⟨e',aAd xs ys zs h h'⟩
end
def ltV (x y:GV):Prop:=cO x y<0
theorem ltV.tr {x y z:GV}(h:ltV x y)(k:ltV y z):ltV x z:=aEu x y z h k
theorem ltV.irr {x:GV}(h:ltV x x):False:=by unfold ltV at h;rw [qE] at h;omega
abbrev Inc (l:List GV):Prop:=l.Pairwise ltV
theorem Inc.ext:∀ {a b:List GV},Inc a->Inc b->(∀ x,x ∈ a ↔ x ∈ b)->a=b
 | [],[],_,_,_=>rfl
 | [],y :: ys,_,_,h=>by have:=(h y).2 (by simp);simp at this
 | x :: xs,[],_,_,h=>by have:=(h x).1 (by simp);simp at this
 | x :: xs,y :: ys,ha,hb,h=>by
  have ha':=List.pairwise_cons.1 ha;have hb':=List.pairwise_cons.1 hb
  have e:x=y:=by
   rcases List.mem_cons.1 ((h x).1 (by simp)) with e | hx
   ·exact e
   ·rcases List.mem_cons.1 ((h y).2 (by simp)) with e | hy
    ·exact e.symm
    ·exact absurd ((ha'.1 y hy).tr (hb'.1 x hx)) (fun k=>k.irr)
  subst e
  congr 1
  refine Inc.ext ha'.2 hb'.2 (fun z=>?_);have hz:=h z;simp only [List.mem_cons] at hz
  constructor
  ·intro hm
   rcases hz.1 (.inr hm) with rfl | k
   ·exact absurd (ha'.1 _ hm) (fun k=>k.irr)
   ·exact k
  ·intro hm
   rcases hz.2 (.inr hm) with rfl | k
   ·exact absurd (hb'.1 _ hm) (fun k=>k.irr)
   ·exact k
end Go.Proofs.YtkoeecdjijfjnaaGreat
