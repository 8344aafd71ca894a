/- Contracts and laws. Conditions: none. -/
import Derived.Test.YtkoeecdjijfjnaaGreatDoorB7
set_option linter.all false
set_option maxRecDepth 100000
set_option maxHeartbeats 8000000
namespace Go.Proofs.YtkoeecdjijfjnaaGreatDoor
open Go.RowKit
theorem dJ {a b:Int}(h:iZ a b=0):a=b:=by unfold iZ at h;split at h <;> (try split at h) <;> omega
theorem gH {a b:Int}:iZ a b<0 ↔ a<b:=by unfold iZ;split <;> (try split) <;> omega
theorem mS (a b:Int):iZ b a=- iZ a b:=by unfold iZ;split <;> (try split) <;> (try split) <;> omega
theorem mW:∀ a b:List UInt8,Op.bytesLess a b=true∨a=b∨Op.bytesLess b a=true
 | [],[]=>.inr (.inl rfl)
 | [],_ :: _=>.inl rfl
 | _ :: _,[]=>.inr (.inr rfl)
 | x :: xs,y :: ys=>by
  simp only [Op.bytesLess,Bool.or_eq_true,decide_eq_true_eq,Bool.and_eq_true,beq_iff_eq];rcases Nat.lt_trichotomy x.toNat y.toNat with h | h | h
  ·exact .inl (.inl (UInt8.lt_iff_toNat_lt.2 h))
  ·have e:x=y:=UInt8.toNat_inj.1 h
   subst e;rcases mW xs ys with h | h | h
   ·exact .inl (.inr ⟨rfl,h⟩)
   ·exact .inr (.inl (by rw [h]))
   ·exact .inr (.inr (.inr ⟨rfl,h⟩))
  ·exact .inr (.inr (.inl (UInt8.lt_iff_toNat_lt.2 h)))
theorem fD:∀ a b c:List UInt8,Op.bytesLess a b=true->Op.bytesLess b c=true->Op.bytesLess a c=true
 | _,_,[],_,h=>by simp [Op.bytesLess] at h
 | _,[],_ :: _,h,_=>by simp [Op.bytesLess] at h
 | [],_ :: _,_ :: _,_,_=>rfl
 | x :: xs,y :: ys,z :: zs,h,k=>by
  simp only [Op.bytesLess,Bool.or_eq_true,decide_eq_true_eq,Bool.and_eq_true,beq_iff_eq,UInt8.lt_iff_toNat_lt] at h k ⊢;rcases h with h | ⟨rfl,h⟩
  ·rcases k with k | ⟨rfl,k⟩
   ·exact .inl I
   ·exact .inl h
  ·rcases k with k | ⟨rfl,k⟩
   ·exact .inl k
   ·exact .inr ⟨rfl,fD xs ys zs h k⟩
theorem zI {a b:ByteArray}(h:a.toList=b.toList):a=b:=by
 rw [ByteArray.toList_eq,ByteArray.toList_eq] at h;exact ByteArray.ext (Array.ext' h)
theorem rC {a b:ByteArray}(h:oO a b=0):a=b:=by
 unfold oO at h;split at h
 ·omega
 ·split at h
  ·next h'=>exact zI h'
  ·omega
theorem wG {a b:ByteArray}:oO a b<0 ↔ Op.bytesLess a.toList b.toList=true:=by
 unfold oO;by_cases h:Op.bytesLess a.toList b.toList=true
 ·simp [h]
 ·rw [if_neg h]
  constructor
  ·intro k;split at k <;> omega
  ·intro k;exact absurd k h
theorem En (a b:ByteArray):oO b a=- oO a b:=by
 rcases mW a.toList b.toList with h | h | h
 ·have h1:¬ Op.bytesLess b.toList a.toList=true:=fun k=>by have:=fD _ _ _ h k;rw [dQ] at this;cases this
  have h2:¬ b.toList=a.toList:=fun k=>by rw [k,dQ] at h;cases h
  unfold oO;rw [if_neg h1,if_neg h2,if_pos h];rfl
 ·rw [rE h,rE h.symm];rfl
 ·have h1:¬ Op.bytesLess a.toList b.toList=true:=fun k=>by have:=fD _ _ _ h k;rw [dQ] at this;cases this
  have h2:¬ a.toList=b.toList:=fun k=>by rw [k,dQ] at h;cases h
  unfold oO;rw [if_pos h,if_neg h1,if_neg h2]
theorem FG {a b c:ByteArray}(h:oO a b<0)(k:oO b c<0):oO a c<0:=wG.2 (fD _ _ _ (wG.1 h) (wG.1 k))
theorem nK {a b:Int}:(if a=0 then b else a)<0 ↔ a<0∨(a=0∧b<0):=by split <;> omega
theorem kN {a b a' b':Int}(h:a'=- a)(k:b'=- b):(if a'=0 then b' else a')=- (if a=0 then b else a):=by subst h k;split <;> split <;> omega
theorem kM {a b:Int}(h:(if a=0 then b else a)=0):a=0∧b=0:=by split at h <;> omega
mutual
theorem mR:∀ x y:GV,cS y x=- cS x y
 | .mk k n s l,.mk k' n' s' l'=>by
  simp only [cS];exact kN (mS k k') (kN (mS n n') (kN (En s s') (nP l l')))
theorem nP:∀ x y:List GV,dB y x=- dB x y
 | [],[]=>rfl
 | [],_ :: _=>by simp only [dB];rfl
 | _ :: _,[]=>by simp only [dB]
 | x :: xs,y :: ys=>by
  simp only [dB];exact kN (mR x y) (nP xs ys)
end
mutual
theorem fX:∀ x y:GV,cS x y=0->x=y
 | .mk k n s l,.mk k' n' s' l',h=>by
  simp only [cS] at h;obtain ⟨h1,h⟩:=kM h;obtain ⟨h2,h⟩:=kM h;obtain ⟨h3,h⟩:=kM h;rw [dJ h1,dJ h2,rC h3,tN l l' h]
theorem tN:∀ x y:List GV,dB x y=0->x=y
 | [],[],_=>rfl
 | [],_ :: _,h=>by simp only [dB] at h;omega
 | _ :: _,[],h=>by simp only [dB] at h;omega
 | x :: xs,y :: ys,h=>by
  simp only [dB] at h;obtain ⟨h1,h2⟩:=kM h;rw [fX x y h1,tN xs ys h2]
end
theorem rB (x:GV):cS x x=0:=by have:=mR x x;omega
theorem CT (x:List GV):dB x x=0:=by have:=nP x x;omega
mutual
theorem BT:∀ x y z:GV,cS x y<0->cS y z<0->cS x z<0
 | .mk k n s l,.mk k' n' s' l',.mk k'' n'' s'' l'',h,h'=>by
  simp only [cS] at h h' ⊢;rw [nK] at h h' ⊢;rcases h with h | ⟨e,h⟩
  ·rcases h' with h' | ⟨e',h'⟩
   ·rw [gH] at h h' ⊢;exact .inl I
   ·rw [<- dJ e'];exact .inl h
  ·rw [dJ e]
   rcases h' with h' | ⟨e',h'⟩
   ·exact .inl h'
   ·refine .inr ⟨e',?_⟩
    rw [nK] at h h' ⊢;rcases h with h | ⟨e,h⟩
    ·rcases h' with h' | ⟨e',h'⟩
     ·rw [gH] at h h' ⊢;exact .inl I
     ·rw [<- dJ e'];exact .inl h
    ·rw [dJ e]
     rcases h' with h' | ⟨e',h'⟩
     ·exact .inl h'
     ·refine .inr ⟨e',?_⟩
      rw [nK] at h h' ⊢;rcases h with h | ⟨e,h⟩
      ·rcases h' with h' | ⟨e',h'⟩
       ·exact .inl (FG h h')
       ·rw [<- rC e'];exact .inl h
      ·rw [rC e]
       rcases h' with h' | ⟨e',h'⟩
       ·exact .inl h'
       ·exact .inr ⟨e',uo l l' l'' h h'⟩
theorem uo:∀ x y z:List GV,dB x y<0->dB y z<0->dB x z<0
 | _,_,[],_,h=>by
  rename_i y _;cases y <;> simp [dB] at h
 | _,[],_ :: _,h,_=>by
  rename_i x _ _ _;cases x <;> simp [dB] at h
 | [],_ :: _,_ :: _,_,_=>by simp [dB]
 | x :: xs,y :: ys,z :: zs,h,h'=>by
  simp only [dB] at h h' ⊢;rw [nK] at h h' ⊢;rcases h with h | ⟨e,h⟩
  ·rcases h' with h' | ⟨e',h'⟩
   ·exact .inl (BT x y z h h')
   ·rw [<- fX y z e'];exact .inl h
  ·rw [fX x y e]
   rcases h' with h' | ⟨e',h'⟩
   ·exact .inl h'
   ·exact .inr ⟨e',uo xs ys zs h h'⟩
end
def ltV (x y:GV):Prop:=cS x y<0
theorem ltV.tr {x y z:GV}(h:ltV x y)(k:ltV y z):ltV x z:=BT x y z h k
theorem ltV.irr {x:GV}(h:ltV x x):False:=by unfold ltV at h;rw [rB] at h;omega
abbrev Inc (l:List GV):Prop:=l.Pairwise ltV
theorem Inc.ext:∀ {a b:List GV},Inc a->Inc b->(∀ x,x ∈ a ↔ x ∈ b)->a=b
 | [],[],_,_,_=>rfl
 | [],y :: ys,_,_,h=>by have:=(h y).2 U;simp at this
 | x :: xs,[],_,_,h=>by have:=(h x).1 U;simp at this
 | x :: xs,y :: ys,ha,hb,h=>by
  have ha':=List.pairwise_cons.1 ha;have hb':=List.pairwise_cons.1 hb
  have e:x=y:=by
   rcases ao.1 ((h x).1 U) with e | hx
   ·exact e
   ·rcases ao.1 ((h y).2 U) with e | hy
    ·exact e.symm
    ·exact absurd ((ha'.1 y hy).tr (hb'.1 x hx)) (fun k=>k.irr)
  subst e
  congr 1
  refine Inc.ext ha'.2 hb'.2 (fun z=>?_);have hz:=h z;simp only [ao] at hz;constructor
  ·intro hm
   rcases hz.1 (.inr hm) with rfl | k
   ·exact absurd (ha'.1 _ hm) (fun k=>k.irr)
   ·exact k
  ·intro hm
   rcases hz.2 (.inr hm) with rfl | k
   ·exact absurd (hb'.1 _ hm) (fun k=>k.irr)
   ·exact k
theorem oC (v:GV):∀ (l:List GV)(i:Nat),∃ a b,l=a ++ b∧(cM v i l).1=i+a.length∧(∀ y ∈ a,ltV y v) ∧
  (((cM v i l).2=true∧∃ c,b=v :: c)∨((cM v i l).2=false∧(b=[]∨∃ y c,b=y :: c∧ltV v y)))
 | [],i=>⟨[],[],rfl,by simp [cM],U,.inr ⟨by simp [cM],.inl rfl⟩⟩
 | x :: xs,i=>by
  by_cases h:cS x v<0
  ·obtain ⟨a,b,e,h1,h2,h3⟩:=oC v xs (i+1)
   refine ⟨x :: a,b,gj,?_,?_,?_⟩
   ·simp only [cM,if_pos h,h1,ai];omega
   ·intro y hy
    rcases ao.1 hy with rfl | hy
    ·exact h
    ·exact h2 y hy
   ·simp only [cM,if_pos h];exact h3
  ·refine ⟨[],x :: xs,rfl,by simp [cM,if_neg h],U,?_⟩
   simp only [cM,if_neg h];by_cases h0:cS x v=0
   ·exact .inl ⟨jg,xs,by rw [fX x v h0]⟩
   ·exact .inr ⟨jg,.inr ⟨x,xs,rfl,by unfold ltV;have:=mR x v;omega⟩⟩
theorem qV (l:List GV)(v:GV):∃ a b,l=a ++ b∧(bK l v).1=a.length∧(∀ y ∈ a,ltV y v) ∧
  (((bK l v).2=true∧∃ c,b=v :: c)∨((bK l v).2=false∧(b=[]∨∃ y c,b=y :: c∧ltV v y))):=by
 obtain ⟨a,b,h1,h2,h3⟩:=oC v l 0;exact ⟨a,b,h1,by unfold bK;omega,h3⟩
theorem eN {l:List GV}{v:GV}(hl:Inc l)(hv:v ∈ l):(bK l v).2=true∧(bK l v).1<l∧l.getD (bK l v).1 default=v:=by
 obtain ⟨a,b,e,h1,h2,h3⟩:=qV l v;rcases h3 with ⟨h3,c,rfl⟩ | ⟨h3,h4⟩
 ·refine ⟨h3,by rw [h1,e];simp,?_⟩
  rw [h1,e];simp
 ·exfalso
  rw [e] at hv hl;have hl':=List.pairwise_append.1 hl;rcases ap.1 hv with hv | hv
  ·exact (h2 v hv).irr
  ·rcases h4 with rfl | ⟨y,c,rfl,h4⟩
   ·simp at hv
   ·rcases ao.1 hv with rfl | hv
    ·exact h4.irr
    ·exact (h4.tr ((List.pairwise_cons.1 hl'.2.1).1 v hv)).irr
theorem LC {l:List GV}{v:GV}(hl:Inc l):Inc (kr l v)∧∀ y,y ∈ kr l v ↔ y=v∨y ∈ l:=by
 obtain ⟨a,b,e,h1,h2,h3⟩:=qV l v;unfold kr;rcases h3 with ⟨h3,c,rfl⟩ | ⟨h3,h4⟩
 ·rw [if_pos h3]
  refine ⟨hl,fun y=>⟨.inr,?_⟩⟩;rintro (rfl | h)
  ·rw [e];simp
  ·exact h
 ·rw [if_neg (by rw [h3];simp),h1,e,List.take_left' rfl,List.drop_left' rfl]
  rw [e] at hl;have hl':=List.pairwise_append.1 hl
  have hb:∀ y ∈ b,ltV v y:=by
   intro y hy;rcases h4 with rfl | ⟨z,c,rfl,h4⟩
   ·simp at hy
   ·rcases ao.1 hy with rfl | hy
    ·exact h4
    ·exact h4.tr ((List.pairwise_cons.1 hl'.2.1).1 y hy)
  refine ⟨List.pairwise_append.2 ⟨hl'.1,List.pairwise_cons.2 ⟨hb,hl'.2.1⟩,?_⟩,fun y=>by simp;constructor <;> (intro h;rcases h with h | h | h <;> simp [h])⟩;intro x hx y hy;rcases ao.1 hy with rfl | hy
  ·exact h2 x hx
  ·exact (h2 x hx).tr (hb y hy)
theorem jT:∀ (l out:List GV),Inc out->Inc (eY out l)∧∀ y,y ∈ eY out l ↔ y ∈ out∨y ∈ l
 | [],out,h=>⟨h,fun y=>by simp [eY]⟩
 | x :: xs,out,h=>by
  obtain ⟨h1,h2⟩:=LC (v:=x) h;obtain ⟨h3,h4⟩:=jT xs (kr out x) h1;refine ⟨h3,fun y=>?_⟩;simp only [eY];rw [h4,h2,ao];constructor
  ·rintro ((h | h) | h)
   ·exact .inr (.inl h)
   ·exact .inl h
   ·exact .inr (.inr h)
  ·rintro (h | h | h)
   ·exact .inl (.inr h)
   ·exact .inl (.inl h)
   ·exact .inr h
theorem jS (l:List GV):Inc (eS l):=(jT l [] .nil).1
theorem eX (l:List GV)(y:GV):y ∈ eS l ↔ y ∈ l:=by have:=(jT l [] .nil).2 y;simpa [eS] using this
theorem oW {l:List GV}(h:Inc l):eS l=l:=Inc.ext (jS l) h (eX l)
theorem nV:∀ (l out:List GV),(eY out l).length<=out+l
 | [],out=>by simp [eY]
 | x :: xs,out=>by
  have h1:=nV xs (kr out x);have h2:=Jn out x;simp only [eY,ai];omega
theorem xR (l:List GV):(eS l).length<=l:=by have:=nV l [];simpa [eS] using this
theorem vQ:∀ {l:List GV},qM l=true ↔ Inc l
 | []=>by simp [qM]
 | [_]=>by simp [qM]
 | a :: b :: l=>by
  simp only [qM,Bool.and_eq_true,decide_eq_true_eq];rw [vQ (l:=b :: l)];show _ ↔ List.Pairwise ltV (a :: b :: l);rw [List.pairwise_cons];constructor
  ·rintro ⟨h1,h2⟩
   refine ⟨?_,h2⟩;intro y hy;rcases ao.1 hy with rfl | hy
   ·exact h1
   ·exact ltV.tr h1 ((List.pairwise_cons.1 h2).1 y hy)
  ·rintro ⟨h1,h2⟩
   exact ⟨h1 b U,h2⟩
theorem BB:∀ {a b:List GV},a.length=b->(a.zip b).all (fun p=>decide (cS p.1 p.2=0))=true->a=b
 | [],[],_,_=>rfl
 | x :: xs,y :: ys,h,k=>by
  simp only [List.zip_cons_cons,List.all_cons,Bool.and_eq_true,decide_eq_true_eq] at k;rw [fX x y k.1,BB ie k.2]
 | [],_ :: _,h,_=>by simp at h
 | _ :: _,[],h,_=>by simp at h
theorem BD:∀ (a:List GV),(a.zip a).all (fun p=>decide (cS p.1 p.2=0))=true
 | []=>rfl
 | x :: xs=>by simp only [List.zip_cons_cons,List.all_cons,rB,BD xs];rfl
theorem sX {a b:List GV}:eF a b=true ↔ a=b:=by
 unfold eF;simp only [Bool.and_eq_true,decide_eq_true_eq];constructor
 ·rintro ⟨h1,h2⟩;exact BB h1 h2
 ·rintro rfl;exact ⟨rfl,BD a⟩
structure GL where
 vals:List GV
 many:Bool
instance:Inhabited GL:=⟨⟨[],false⟩⟩
def eE (lo:Int):Nat->List GV
 | 0=>[]
 | n+1=>.mk 0 lo ByteArray.empty [] :: eE (lo+1) n
def eZ (rows:List (List GV))(vals:List GV):List (List GV):=rows.flatMap (fun r=>vals.map (fun v=>r ++ [v]))
def bU (before:List GL):List (List GV)->List Int->Option (List (List GV))
 | rows,[]=>some rows
 | rows,z :: zs=>if (before.getD z.toNat default).many=true∨1024<rows.length*(before.getD z.toNat default).vals.length then none
   else bU before (eZ rows (before.getD z.toNat default).vals) zs
def xV (x:GN)(before:List GL):GL :=
 match bU before [[]] x.kids with
 | none=>⟨[],true⟩
 | some rows=>⟨eS (rows.map (cB x.name)),false⟩
def jL (before:List GL)(bind:Bool):Nat->List GV->Bool->List Int->GL
 | _,out,m,[]=>if m then ⟨[],true⟩ else ⟨out,false⟩
 | k,out,m,z :: zs=>if bind=true∧k=0 then jL before bind (k+1) out m zs
   else jL before bind (k+1) (eS (out ++ (before.getD z.toNat default).vals)) (m || (before.getD z.toNat default).many || decide (1024<(eS (out ++ (before.getD z.toNat default).vals)).length)) zs
def cQ (before:List GL)(x:GN):GL :=
 if x.kind=0 then ⟨[x.value],false⟩
 else if x.kind=1 then (if 1024<=x.hi - x.lo then ⟨[],true⟩ else ⟨eE x.lo (x.hi - x.lo+1).toNat,false⟩)
 else if x.kind=3 then xV x before
 else jL before (decide (x.kind=4)) 0 [] false x.kids
def jN {β:Type}(f:List β->GN->β):List β->List GN->List β
 | acc,[]=>acc
 | acc,x :: xs=>jN f (acc ++ [f acc x]) xs
theorem lQ {β:Type}(f:List β->GN->β):∀ (a b:List GN)(acc:List β),jN f acc (a ++ b)=jN f (jN f acc a) b
 | [],_,_=>rfl
 | x :: xs,b,acc=>by simp only [List.cons_append,jN];exact lQ f xs b _
theorem dU {β:Type}(f:List β->GN->β):∀ (a:List GN)(acc:List β),(jN f acc a).length=acc+a
 | [],_=>rfl
 | x :: xs,acc=>by simp only [jN];rw [dU f xs];simp;omega
theorem AU {β:Type}(f:List β->GN->β):∀ (a:List GN)(acc:List β),∃ l,jN f acc a=acc ++ l
 | [],acc=>⟨[],by simp [jN]⟩
 | x :: xs,acc=>by
  obtain ⟨l,h⟩:=AU f xs (acc ++ [f acc x]);exact ⟨f acc x :: l,by simp only [jN];rw [h];simp⟩
theorem gX {β:Type}(f:List β->GN->β)(l:List GN)(i:Nat)(hi:i<=l):jN f [] (l.take i)=(jN f [] l).take i:=by
 have h:=lQ f (l.take i) (l.drop i) [];rw [List.take_append_drop] at h;obtain ⟨r,hr⟩:=AU f (l.drop i) (jN f [] (l.take i));rw [h,hr,List.take_left'];rw [dU];simp;omega
theorem iW {β:Type}(f:List β->GN->β)(l:List GN)(x:GN):jN f [] (l ++ [x])=jN f [] l ++ [f (jN f [] l) x]:=by
 rw [lQ];rfl
theorem pH {β:Type}(f:List β->GN->β)(d:β)(l:List GN){i:Nat}(hi:i<l):(jN f [] l).getD i d=f (jN f [] (l.take i)) (l.getD i default):=by
 have h:=gX f l (i+1) I;rw [aW default hi,iW] at h;have hl:(jN f [] (l.take i))=i:=by rw [dU];simp;omega
 have h2:((jN f [] l).take (i+1)).getD i d=(jN f [] l).getD i d:=by simp [List.getD]
 rw [<- h2,<- h];have:(jN f [] (l.take i) ++ [f (jN f [] (l.take i)) (l.getD i default)]).getD (jN f [] (l.take i)) d=f (jN f [] (l.take i)) (l.getD i default):=by simp
 rw [hl] at this;exact this
def aE (l:List GN):List GL:=jN cQ [] l
def aI (l:List GN):List Int:=jN gZ [] l
def bS (l:List GN):List Int:=jN jO [] l
def iI (t:List GN)(x:GN):Int :=
 if ((aE t).getD (x.kids.getD 0 0).toNat default).many then 4
 else if eF ((aE t).getD (x.kids.getD 0 0).toNat default).vals x.values then 0 else 1
def cY (t:List GN)(i:Nat):Int :=
 if iK i (t.getD i default)=0 then
  (if 256<(aI t).getD i 0∨1024<(bS t).getD i 0 then 4
   else if (t.getD i default).kind=4 then iI t (t.getD i default) else 0)
 else iK i (t.getD i default)
def dD (t:List GN):Nat->Nat->Int
 | _,0=>0
 | i,n+1=>if cY t i=0 then dD t (i+1) n else cY t i
def bE (t:List GN):Int:=if 4096<t.length then 4 else dD t 0 t
theorem jR:∀ (t:List GN)(i n:Nat),dD t i n=0 ↔ ∀ j,i<=j->j<i+n->cY t j=0
 | _,i,0=>by simp only [dD,true_iff];intro j h1 h2;omega
 | t,i,n+1=>by
  simp only [dD];by_cases h:cY t i=0
  ·rw [if_pos h,jR t (i+1) n]
   constructor
   ·intro h1 j h2 h3
    rcases Nat.eq_or_lt_of_le h2 with rfl | h2
    ·exact h
    ·exact h1 j I I
   ·intro h1 j h2 h3
    exact h1 j I I
  ·rw [if_neg h]
   constructor
   ·intro h1;exact absurd h1 h
   ·intro h1;exact absurd (h1 i I I) h
def aO (t:List GN)(i:Nat):Prop:=i<=t∧t.length<=4096∧∀ j,j<i->cY t j=0
structure cR (j:Nat)(x:GN):Prop where
 kind:0<=x.kind∧x.kind<=4
 unused:gO x=true
 kids:∀ z ∈ x.kids,0<=z∧z<(j:Int)
 choice:x.kind=2->1<=x.kids.length∧x.kids.length<=256∧x.weights.length=x.kids∧(x.labels.length=0∨x.labels.length=x.kids)
 seq:x.kind=3->x.kids.length<=256∧(bF x.name=true∨(rO x.name=true∧x.kids.length<=16))
 bind:x.kind=4->x.kids.length=x.values+1
 inc:Inc x.values
 valid:cW (bY x)=0
 numbers:bQ x=true
theorem kK {j:Nat}{x:GN}:iK j x=0 ↔ cR j x:=by
 unfold iK;constructor
 ·intro h
  split at h
  ·omega
  ·next hf =>
   rw [Bool.not_eq_false] at hf;split at h
   ·next hv =>
    split at h
    ·next hn =>
     unfold eO fmA fmC fmS fmK at hf;simp only [Bool.and_eq_true,Bool.not_eq_true',Bool.or_eq_false_iff,Bool.and_eq_false_imp,decide_eq_false_iff_not,decide_eq_true_eq,Bool.not_eq_false',List.all_eq_true] at hf;obtain ⟨⟨⟨⟨⟨⟨h1,h2⟩,h3⟩,h4⟩,h5⟩,h6,h7⟩,h8⟩:=hf;refine ⟨⟨I,I⟩,h1,fun z hz=>?_,fun hk=>?_,fun hk=>?_,fun hk=>?_,vQ.1 h8,hv,hn⟩
     ·have:=h4 z hz;omega
     ·obtain ⟨⟨⟨a,b⟩,c⟩,d⟩:=h5 hk
      refine ⟨I,I,c,?_⟩;by_cases hl:x.labels.length=0
      ·exact .inl hl
      ·exact .inr (d I)
     ·obtain ⟨a,b⟩:=h6 hk
      refine ⟨I,?_⟩;by_cases he:bF x.name=true
      ·exact .inl he
      ·obtain ⟨c,d⟩:=b (by simpa using he)
       exact .inr ⟨c,I⟩
     ·exact h7 hk
    ·omega
   ·omega
 ·intro h
  have hf:eO j x=true:=by
   unfold eO fmA fmC fmS fmK;simp only [Bool.and_eq_true,Bool.not_eq_true',Bool.or_eq_false_iff,Bool.and_eq_false_imp,decide_eq_false_iff_not,decide_eq_true_eq,Bool.not_eq_false',List.all_eq_true];refine ⟨⟨⟨⟨⟨⟨h.unused,by have:=h.kind;omega⟩,by have:=h.kind;omega⟩,fun z hz=>by have:=h.kids z hz;omega⟩,fun hk=>?_⟩,fun hk=>?_,fun hk=>h.bind hk⟩,vQ.2 h.inc⟩
   ·obtain ⟨a,b,c,d⟩:=h.choice hk
    exact ⟨⟨⟨I,I⟩,c⟩,fun hl=>by omega⟩
   ·obtain ⟨a,b⟩:=h.seq hk
    refine ⟨I,fun he=>?_⟩;rcases b with b | ⟨b,c⟩
    ·rw [b] at he;cases he
    ·exact ⟨b,I⟩
  rw [if_neg (by simp [hf]),if_pos h.valid,if_pos h.numbers]
structure wW (t:List GN)(j:Nat):Prop where
 node:cR j (t.getD j default)
 len:(aI t).getD j 0<=256
 size:(bS t).getD j 0<=1024
 many:(t.getD j default).kind=4->((aE t).getD ((t.getD j default).kids.getD 0 0).toNat default).many=false
 vals:(t.getD j default).kind=4->((aE t).getD ((t.getD j default).kids.getD 0 0).toNat default).vals=(t.getD j default).values
theorem mU {t:List GN}{j:Nat}:cY t j=0 ↔ wW t j:=by
 unfold cY;constructor
 ·intro h
  split at h
  ·next hn =>
   split at h
   ·omega
   ·next hl =>
    split at h
    ·next hk =>
     unfold iI at h;split at h
     ·omega
     ·next hm =>
      split at h
      ·next hs=>exact ⟨kK.1 hn,I,I,fun _=>by simpa using hm,fun _=>sX.1 hs⟩
      ·omega
    ·next hk=>exact ⟨kK.1 hn,I,I,fun h=>absurd h hk,fun h=>absurd h hk⟩
  ·next hn=>exact absurd h hn
 ·intro h
  rw [if_pos (kK.2 h.node),if_neg (by have:=h.len;have:=h.size;omega)];split
  ·next hk =>
   unfold iI;rw [if_neg (by rw [h.many hk];simp),if_pos (sX.2 (h.vals hk))]
  ·rfl
theorem aO.at_ {t:List GN}{i j:Nat}(h:aO t i)(hj:j<i):wW t j:=mU.1 (h.2.2 j hj)
theorem aO.mono {t:List GN}{i j:Nat}(h:aO t i)(hj:j<=i):aO t j:=⟨j3,h.2.1,fun k hk=>h.2.2 k I⟩
theorem dH {t:List GN}:bE t=0 ↔ aO t t.length:=by
 unfold bE aO;constructor
 ·intro h
  split at h
  ·omega
  ·next hl=>exact ⟨ab _,I,fun j hj=>(jR t 0 t).1 h j I I⟩
 ·rintro ⟨_,h1,h2⟩
  rw [if_neg I];exact (jR t 0 t).2 (fun j _ hj=>h2 j I)
theorem aZ {x:GN}(h:bQ x=true):x.lo<=x.hi∧-4611686018427387904<=x.lo∧x.hi<=4611686018427387904∧x.hi<x.lo+1099511627776:=by
 unfold bQ wX at h;simp only [Bool.and_eq_true,Bool.not_eq_true',Bool.or_eq_false_iff,decide_eq_false_iff_not] at h;omega
theorem dR (lo:Int)(n:Nat):(eE lo n)=n:=by
 induction n generalizing lo with
 | zero=>rfl
 | succ n ih=>simp [eE,ih]
theorem iQ {lo:Int}{n:Nat}{v:GV}:v ∈ eE lo n ↔ ∃ k:Int,lo<=k∧k<lo+n∧v=.mk 0 k ByteArray.empty []:=by
 induction n generalizing lo with
 | zero=>simp only [eE,List.not_mem_nil,false_iff];rintro ⟨k,h1,h2,_⟩;omega
 | succ n ih =>
  simp only [eE,ao,ih];constructor
  ·rintro (h | ⟨k,h1,h2,h3⟩)
   ·exact ⟨lo,I,I,h⟩
   ·exact ⟨k,I,I,h3⟩
  ·rintro ⟨k,h1,h2,h3⟩
   by_cases hk:k=lo
   ·subst hk;exact .inl h3
   ·exact .inr ⟨k,I,I,h3⟩
theorem DX (a b:Int):cS (.mk 0 a ByteArray.empty []) (.mk 0 b ByteArray.empty [])=iZ a b:=by
 simp only [cS,dB];rw [lP rfl,rE rfl];simp only [if_true];split
 ·next h=>exact h.symm
 ·rfl
theorem Hy (lo:Int)(n:Nat):Inc (eE lo n):=by
 induction n generalizing lo with
 | zero=>exact .nil
 | succ n ih =>
  refine List.pairwise_cons.2 ⟨fun y hy=>?_,ih _⟩;obtain ⟨k,h1,h2,rfl⟩:=iQ.1 hy;unfold ltV;rw [DX,gH];omega
abbrev mu (l:List (List GV)):Prop:=l.Pairwise (fun a b=>dB a b<0)
theorem tO {a b:List GV}(h:a.length=b)(x y:GV):dB (a ++ [x]) (b ++ [y])=if dB a b=0 then cS x y else dB a b:=by
 induction a generalizing b with
 | nil =>
  cases b with
  | nil=>simp only [List.nil_append,dB,if_true];split <;> omega
  | cons _ _=>simp at h
 | cons u us ih =>
  cases b with
  | nil=>simp at h
  | cons v vs =>
   simp only [List.cons_append,dB];rw [ih ie];by_cases h0:cS u v=0
   ·simp [h0]
   ·simp [h0]
theorem gR (rows:List (List GV))(vals:List GV):(eZ rows vals).length=rows*vals:=by
 unfold eZ
 induction rows with
 | nil=>simp
 | cons r rs ih=>simp only [List.flatMap_cons,aa,List.length_map,ih,ai,Nat.add_mul];omega
theorem jY {rows:List (List GV)}{vals:List GV}{r:List GV}:r ∈ eZ rows vals ↔ ∃ q ∈ rows,∃ v ∈ vals,r=q ++ [v]:=by
 unfold eZ;simp only [List.mem_flatMap,List.mem_map];constructor
 ·rintro ⟨q,hq,v,hv,rfl⟩;exact ⟨q,hq,v,hv,rfl⟩
 ·rintro ⟨q,hq,v,hv,rfl⟩;exact ⟨q,hq,v,hv,rfl⟩
theorem K3 {rows:List (List GV)}{vals:List GV}{n:Nat}(hr:mu rows)(hn:∀ r ∈ rows,r.length=n)(hv:Inc vals) :
  mu (eZ rows vals)∧∀ r ∈ eZ rows vals,r.length=n+1:=by
 refine ⟨?_,fun r h=>by obtain ⟨q,hq,v,_,rfl⟩:=jY.1 h;simp [hn q hq]⟩;unfold eZ
 induction rows with
 | nil=>simp
 | cons q qs ih =>
  rw [List.flatMap_cons];have hq:=List.pairwise_cons.1 hr;refine List.pairwise_append.2 ⟨?_,ih hq.2 (fun r h=>hn r (by simp [h])),?_⟩
  ·rw [List.pairwise_map]
   refine hv.imp (fun {a b} h=>?_);rw [tO rfl,CT,if_pos rfl];exact h
  ·intro a ha b hb
   obtain ⟨v,_,rfl⟩:=List.mem_map.1 ha;obtain ⟨r,hr,hb⟩:=List.mem_flatMap.1 hb;obtain ⟨u,_,rfl⟩:=List.mem_map.1 hb;have h1:=hq.1 r hr;rw [tO (by rw [hn q U,hn r (by simp [hr])])];rw [if_neg I];exact h1
theorem Hw (s:ByteArray)(a b:List GV):cS (cB s a) (cB s b)=dB a b:=by
 unfold cB;split <;> simp [cS,lP,rE]
theorem yN (s:ByteArray){rows:List (List GV)}(h:mu rows):Inc (rows.map (cB s)):=by
 rw [Inc,List.pairwise_map];exact h.imp (fun {a b} h=>by unfold ltV;rw [Hw];exact h)
structure LOK (l:GL):Prop where
 none_:l.many=true->l.vals=[]
 inc:Inc l.vals
 some_:l.many=false->l.vals ≠ []
 few:l.vals.length<=1024
theorem Inc.nil:Inc []:=List.Pairwise.nil
theorem LOK.many_:LOK ⟨[],true⟩:=⟨fun _=>rfl,Inc.nil,fun h=>(by cases h),af _⟩
theorem nG {before:List GL}:∀ (zs:List Int)(rows:List (List GV))(n:Nat),(∀ z ∈ zs,LOK (before.getD z.toNat default))->mu rows->(∀ r ∈ rows,r.length=n)->rows ≠ []->rows.length<=1024 ->
  ∀ out,bU before rows zs=some out->mu out∧out ≠ []∧out.length<=1024∧(∀ r ∈ out,r.length=n+zs)
 | [],rows,n,_,h1,h2,h3,h4,out,h=>by
  simp only [bU,Option.some.injEq] at h;subst h;exact ⟨h1,h3,h4,h2⟩
 | z :: zs,rows,n,hz,h1,h2,h3,h4,out,h=>by
  simp only [bU] at h;split at h
  ·cases h
  ·next hm =>
   have hl:=hz z U
   have hmf:(before.getD z.toNat default).many=false:=by
    cases e:(before.getD z.toNat default).many
    ·rfl
    ·exact absurd (.inl e) hm
   have hne:=hl.some_ hmf;obtain ⟨h5,h6⟩:=K3 h1 h2 hl.inc;have hlen:=gR rows (before.getD z.toNat default).vals;have hpos:0<rows.length*(before.getD z.toNat default).vals.length:=Nat.mul_pos (List.length_pos_iff.2 h3) (List.length_pos_iff.2 hne);obtain ⟨a,b,c,d⟩:=nG zs _ (n+1) (fun y hy=>hz y dh) h5 h6 (by intro e;rw [e] at hlen;rw [<- hlen] at hpos;exact absurd hpos dx) (by rw [hlen];omega) out h;exact ⟨a,b,c,fun r hr=>by rw [d r hr];simp;omega⟩
theorem rj {before:List GL}{bind:Bool}:∀ (zs:List Int)(k:Nat)(out:List GV)(m:Bool),(∀ z ∈ zs,LOK (before.getD z.toNat default))->Inc out->(m=false->out.length<=1024) ->
  (out ≠ []∨m=true∨(if bind=true∧k=0 then 2<=zs.length else 1<=zs.length))->LOK (jL before bind k out m zs)
 | [],k,out,m,_,h1,h2,h3=>by
  simp only [jL];split
  ·exact LOK.many_
  ·next hm =>
   have hmf:m=false:=by simpa using hm
   refine ⟨fun h=>(by cases h),h1,fun _=>?_,h2 hmf⟩;rcases h3 with h3 | h3 | h3
   ·exact h3
   ·exact absurd h3 hm
   ·split at h3 <;> simp at h3
 | z :: zs,k,out,m,hz,h1,h2,h3=>by
  simp only [jL];split
  ·next hb =>
   refine rj zs (k+1) out m (fun y hy=>hz y dh) h1 h2 ?_;rcases h3 with h3 | h3 | h3
   ·exact .inl h3
   ·exact .inr (.inl h3)
   ·rw [if_pos hb] at h3
    refine .inr (.inr ?_);rw [if_neg I];simp at h3;omega
  ·next hb =>
   have hl:=hz z U;refine rj zs (k+1) _ _ (fun y hy=>hz y dh) (jS _) ?_ ?_
   ·intro h
    simp only [Bool.or_eq_false_iff,decide_eq_false_iff_not] at h;omega
   ·cases e:(before.getD z.toNat default).many
    ·left
     have hne:=hl.some_ e;intro h0;obtain ⟨v,hv⟩:=List.exists_mem_of_ne_nil _ hne;have:=(eX (out ++ (before.getD z.toNat default).vals) v).2 (List.mem_append_right _ hv);rw [h0] at this;simp at this
    ·right;left;simp
theorem gU {t:List GN}{j:Nat}(hj:j<t){z:Int}(hz:0<=z∧z<(j:Int)):(aE (t.take j)).getD z.toNat default=(aE t).getD z.toNat default:=by
 unfold aE;rw [gX _ _ _ I];have h:z.toNat<j:=by omega
 simp [List.getD,h]
theorem iV {t:List GN}{j:Nat}(hj:j<t):(aE t).getD j default=cQ (aE (t.take j)) (t.getD j default):=pH cQ default t hj
theorem mJ {t:List GN}{i:Nat}(h:aO t i):∀ j,j<i->LOK ((aE t).getD j default):=by
 intro j
 induction j using Nat.strongRecOn with
 | ind j ih =>
  intro hj;have hjt:j<t:=by have:=h.1;omega
  have hc:=h.at_ hj;rw [iV hjt];generalize hx:t.getD j default=x at *;have hn:cR j x:=by have:=hc.node;rw [hx] at this;exact this
  have hk:∀ z ∈ x.kids,LOK ((aE (t.take j)).getD z.toNat default):=by
   intro z hz;have hz':=hn.kids z hz;rw [gU hjt hz'];exact ih z.toNat I I
  unfold cQ;split
  ·exact ⟨fun h=>(by cases h),List.pairwise_singleton _ _,fun _=>by simp,U⟩
  ·split
   ·have hr:=aZ hn.numbers
    split
    ·exact LOK.many_
    ·refine ⟨fun h=>(by cases h),Hy _ _,fun _ e=>?_,?_⟩
     ·have:=dR x.lo (x.hi - x.lo+1).toNat
      have e':eE x.lo (x.hi - x.lo+1).toNat=[]:=e;rw [e'] at this;simp at this;omega
     ·show (eE x.lo (x.hi - x.lo+1).toNat).length<=1024
      rw [dR];omega
   ·split
    ·unfold xV
     split
     ·exact LOK.many_
     ·next rows hrows =>
      obtain ⟨a,b,c,d⟩:=nG x.kids [[]] 0 hk (List.pairwise_singleton _ _) U U U rows hrows;have hi:=yN x.name a;refine ⟨fun h=>(by cases h),jS _,fun _=>?_,?_⟩
      ·show eS _ ≠ []
       rw [oW hi];simpa using b
      ·show (eS _).length<=1024
       rw [oW hi];simpa using c
    ·next h0 h1 h3 =>
     refine rj _ _ _ _ hk Inc.nil (fun _=>af _) (.inr (.inr ?_));have hkd:=hn.kind;by_cases h2:x.kind=2
     ·rw [if_neg (by simp [h2])]
      have:=(hn.choice h2).1;omega
     ·have h4:x.kind=4:=by omega
      rw [if_pos (by simp [h4])];have hb:=hn.bind h4;have hm:=hc.many jt;have hv:=hc.vals jt;rw [hx] at hm hv;have hz:x.kids.getD 0 0 ∈ x.kids:=aC I;have hz':=hn.kids _ hz;have hl:=ih (x.kids.getD 0 0).toNat I I;have:=hl.some_ hm;rw [hv] at this;have:=List.length_pos_iff.2 this;omega
theorem cJ {t:List GN}{i:Nat}(h:aO t i){j:Nat}(hj:j<i):(t.getD j default).kids.length<=1025∧(t.getD j default).values.length<=1024∧((t.getD j default).kind=4->1<=(t.getD j default).values.length):=by
 have hc:=h.at_ hj;have hn:=hc.node;generalize hx:t.getD j default=x at *;have hu:=hn.unused;unfold gO unA unB unC at hu;simp only [Bool.and_eq_true,Bool.not_eq_true',Bool.or_eq_false_iff,Bool.and_eq_false_imp,Bool.or_eq_true,decide_eq_false_iff_not,decide_eq_true_eq,Bool.not_eq_false'] at hu;have hkd:=hn.kind;by_cases h4:x.kind=4
 ·have hb:=hn.bind h4
  have hm:=hc.many jt;have hv:=hc.vals jt;rw [hx] at hm hv;have hz:x.kids.getD 0 0 ∈ x.kids:=aC I;have hz':=hn.kids _ hz;have hl:=mJ h (x.kids.getD 0 0).toNat I;have h1:=hl.some_ hm;have h2:=hl.few;rw [hv] at h1 h2;have:=List.length_pos_iff.2 h1;exact ⟨I,h2,fun _=>by omega⟩
 ·have hv:x.values.length=0:=by
   have:=hu.1.2.2 h4;omega
  refine ⟨?_,I,fun h=>absurd h h4⟩;by_cases h2:x.kind=2
  ·have:=hn.choice h2;omega
  by_cases h3:x.kind=3
  ·have:=hn.seq h3;omega
  have:x.kids.length=0:=by
   rcases hu.2 with ⟨a,b⟩ | h
   ·omega
   ·omega
  omega
def New (P:Nat->Prop)(B:Nat):Nat->Prop:=fun b=>P b∨B<=b
section
variable {w w':World}{P Q:Nat->Prop}
theorem Sl.carry {size:Nat}{A:Option Addr}{n:Nat}{cs:List Value}(h:Sl w P size A n cs)(hs:0<size)(hk:aB P w w')(hPQ:∀ b,b<w.heap.size->P b->Q b):Sl w' Q size A n cs :=
 ⟨h.1,fun hn=>by
  obtain ⟨b,off,e,hb,hc⟩:=h.2 hn;have hl:0<cs.length:=by rw [h.1];exact Nat.mul_pos hn hs
  have hlt:b<w:=bB (hc 0 cs[0] jz);exact ⟨b,off,e,hPQ b hlt hb,fun j u hu=>(World.cell?_of_block (w:=w) (w':=w') (hk b hlt hb)).trans (hc j u hu)⟩⟩
mutual
theorem RV.carry (hk:aB P w w')(hPQ:∀ b,b<w.heap.size->P b->Q b):∀ {x:GV}{cs:List Value},RV w P x cs->RV w' Q x cs
 | .mk k n s kids,cs,h=>by
  simp only [RV] at h ⊢;obtain ⟨h1,h2,h3,A,c,css,h4,h5,h6,h7,h8⟩:=h;exact ⟨h1,h2,h3,A,c,css,h4,h5,h6,h7.carry I hk hPQ,RVs.carry hk hPQ h8⟩
theorem RVs.carry (hk:aB P w w')(hPQ:∀ b,b<w.heap.size->P b->Q b):∀ {l:List GV}{cs:List Value},RVs w P l cs->RVs w' Q l cs
 | [],cs,h=>by simp only [RVs] at h ⊢;exact h
 | x :: xs,cs,h=>by
  simp only [RVs] at h ⊢;obtain ⟨c1,c2,h1,h2,h3⟩:=h;exact ⟨c1,c2,h1,RV.carry hk hPQ h2,RVs.carry hk hPQ h3⟩
end
theorem bZ.carry {v:Value}{l:List GV}(h:bZ w P v l)(hk:aB P w w')(hPQ:∀ b,b<w.heap.size->P b->Q b):bZ w' Q v l:=by
 obtain ⟨A,c,css,h1,h2,h3,h4,h5⟩:=h;exact ⟨A,c,css,h1,h2,h3,h4.carry I hk hPQ,RVs.carry hk hPQ h5⟩
theorem VAt.carry {x:GV}{A:Option Addr}{c:Nat}(h:VAt w P x A c)(hk:aB P w w')(hPQ:∀ b,b<w.heap.size->P b->Q b):VAt w' Q x A c :=
 ⟨h.kind,h.n,h.s,h.len,h.cap,h.kids.carry hk hPQ⟩
theorem bL.carry {v:Value}{l:List Int}(h:bL w P v l)(hk:aB P w w')(hPQ:∀ b,b<w.heap.size->P b->Q b):bL w' Q v l:=by
 obtain ⟨A,c,hv,h1,h2,h3,h4⟩:=h;exact ⟨A,c,hv,h1,h2,h3,h4.carry I hk hPQ⟩
theorem Lst.carry {α:Type}{size:Nat}{R R':α->List Value->Prop}{v:Value}{l:List α}(h:Lst w P size R v l)(hs:0<size)(hk:aB P w w')(hPQ:∀ b,b<w.heap.size->P b->Q b)(hR:∀ x ∈ l,∀ cs,R x cs->R' x cs):Lst w' Q size R' v l:=by
 obtain ⟨A,c,css,h1,h2,h3,h4,h5⟩:=h;exact ⟨A,c,css,h1,h2,h3,h4.carry hs hk hPQ,h5.mono hR⟩
theorem nS.carry {v:Value}{l:List ByteArray}(h:nS w P v l)(hk:aB P w w')(hPQ:∀ b,b<w.heap.size->P b->Q b):nS w' Q v l:=Lst.carry h I hk hPQ (fun _ _ _ h=>h)
theorem NAt.carry {x:GN}{a:NA}(h:NAt w P x a)(hk:aB P w w')(hPQ:∀ b,b<w.heap.size->P b->Q b):NAt w' Q x a :=
 ⟨h.kind,h.name,h.lo,h.hi,h.weights.carry hk hPQ,h.labels.carry hk hPQ,h.values.carry hk hPQ,h.kids.carry hk hPQ,h.value.carry hk hPQ⟩
theorem RN.carry {x:GN}{cs:List Value}(h:RN w P x cs)(hk:aB P w w')(hPQ:∀ b,b<w.heap.size->P b->Q b):RN w' Q x cs:=by
 obtain ⟨a,e,h⟩:=h;exact ⟨a,e,h.carry hk hPQ⟩
theorem Nds.carry {v:Value}{l:List GN}(h:Nds w P v l)(hk:aB P w w')(hPQ:∀ b,b<w.heap.size->P b->Q b):Nds w' Q v l:=Lst.carry h I hk hPQ (fun _ _ _ h=>RN.carry h hk hPQ)
theorem bZ.imp {v:Value}{l:List GV}(h:bZ w P v l)(hPQ:∀ b,b<w.heap.size->P b->Q b):bZ w Q v l:=h.carry (fun _ _ _=>rfl) hPQ
theorem bZ.grow {v:Value}{l:List GV}(h:bZ w P v l)(hx:Ext w w')(hPQ:∀ b,b<w.heap.size->P b->Q b):bZ w' Q v l:=h.carry (aB.of_ext hx) hPQ
end
def kp (w:World)(P:Nat->Prop)(l:List GV)(cs:List Value):Prop:=∃ v,cs=[v]∧bZ w P v l
def Rws (w:World)(P:Nat->Prop)(v:Value)(rows:List (List GV)):Prop:=Lst w P 1 (kp w P) v rows
def RGL (w:World)(P:Nat->Prop)(g:GL)(cs:List Value):Prop:=∃ v,cs=[v,.bool g.many]∧bZ w P v g.vals
def GLs (w:World)(P:Nat->Prop)(v:Value)(l:List GL):Prop:=Lst w (fun b=>b<w.heap.size) 2 (RGL w P) v l
section
variable {w w':World}{P Q:Nat->Prop}
theorem kp.len (l:List GV)(cs:List Value)(h:kp w P l cs):cs.length=1:=by obtain ⟨v,rfl,_⟩:=h;rfl
theorem RGL.len (g:GL)(cs:List Value)(h:RGL w P g cs):cs.length=2:=by obtain ⟨v,rfl,_⟩:=h;rfl
theorem kp.carry {l:List GV}{cs:List Value}(h:kp w P l cs)(hk:aB P w w')(hPQ:∀ b,b<w.heap.size->P b->Q b):kp w' Q l cs:=by
 obtain ⟨v,e,h⟩:=h;exact ⟨v,e,h.carry hk hPQ⟩
theorem RGL.carry {g:GL}{cs:List Value}(h:RGL w P g cs)(hk:aB P w w')(hPQ:∀ b,b<w.heap.size->P b->Q b):RGL w' Q g cs:=by
 obtain ⟨v,e,h⟩:=h;exact ⟨v,e,h.carry hk hPQ⟩
theorem Rws.carry {v:Value}{l:List (List GV)}(h:Rws w P v l)(hk:aB P w w')(hPQ:∀ b,b<w.heap.size->P b->Q b):Rws w' Q v l:=Lst.carry h I hk hPQ (fun _ _ _ h=>h.carry hk hPQ)
theorem GLs.grow {v:Value}{l:List GL}(h:GLs w P v l)(hx:Ext w w')(hPQ:∀ b,b<w.heap.size->P b->Q b):GLs w' Q v l:=Lst.carry h I (aB.of_ext hx) (fun b hb _=>ac hb hx.size) (fun _ _ _ h=>h.carry (aB.of_ext hx) hPQ)
theorem Rws.ext {v:Value}{l:List (List GV)}(h:Rws w P v l)(hx:Ext w w'):Rws w' P v l:=h.carry (aB.of_ext hx) (fun _ _ h=>h)
theorem GLs.ext {v:Value}{l:List GL}(h:GLs w P v l)(hx:Ext w w'):GLs w' P v l:=h.grow hx (fun _ _ h=>h)
theorem Lst.form {α:Type}{size:Nat}{R:α->List Value->Prop}{v:Value}{l:List α}(h:Lst w P size R v l):∃ A c,v=.slice A l c∧l<=c∧(l.length<=17592186044416∧c<=9223372036854775807):=by
 obtain ⟨A,c,_,h1,h2,h3,_⟩:=h;exact ⟨A,c,h1,h2,h3⟩
theorem Rws.get {A:Option Addr}{n c:Nat}{l:List (List GV)}(h:Rws w P (.slice A n c) l){i:Nat}(hi:i<l) :
  ∃ b off A' d,A=some ↑(qt b off)∧P b∧bZ w P (.slice A' (l.getD i []) d) (l.getD i [])∧qc w b (off+i) (.slice A' (l.getD i []) d):=by
 obtain ⟨b,off,c',cs,e,hb,_,_,⟨v,rfl,hv⟩,hc⟩:=Lst.at_ kp.len h [] hi;injection e with e _ _;obtain ⟨A',d,ev,_⟩:=hv.form;subst ev;refine ⟨b,off,A',d,e,hb,hv,?_⟩;have:=hc 0 _ rfl
 simpa using this
theorem GLs.get {A:Option Addr}{n c:Nat}{l:List GL}(h:GLs w P (.slice A n c) l){i:Nat}(hi:i<l) :
  ∃ b off A' d,A=some ↑(qt b off)∧b<w∧bZ w P (.slice A' (l.getD i default).vals.length d) (l.getD i default).vals∧qc w b (off+i*2) (.slice A' (l.getD i default).vals.length d) ∧
   qc w b (off+i*2+1) (.bool (l.getD i default).many):=by
 obtain ⟨b,off,c',cs,e,hb,_,_,⟨v,rfl,hv⟩,hc⟩:=Lst.at_ RGL.len h default hi;injection e with e _ _;obtain ⟨A',d,ev,_⟩:=hv.form;subst ev;exact ⟨b,off,A',d,e,hb,hv,hc 0 _ rfl,hc 1 _ rfl⟩
theorem Lst.of_own {α:Type}{size base:Nat}{e:TypeId}{R:α->List Value->Prop}{v:Value}{l:List α}{xs:List Value}(ho:w.ownsRow base e size v l xs)(hR:RL R l xs)(hl:l.length<=17592186044416)
  (hQ:∀ b,v.ownBlock=some b->Q b):Lst w Q size R v l:=by
 obtain ⟨A,c,e,h1,h2,h3⟩:=Sl.of_own ho;unfold maxLen at h2;exact ⟨A,c,xs,e,h1,⟨hl,h2⟩,h3 Q hQ,hR⟩
theorem bZ.of_own {base:Nat}{e:TypeId}{v:Value}{l:List GV}{xs:List Value}(ho:w.ownsRow base e 4 v l xs)(hR:RVs w Q l xs)(hl:l.length<=17592186044416)
  (hQ:∀ b,v.ownBlock=some b->Q b):bZ w Q v l:=CO.2 (Lst.of_own ho (Bm.1 hR) hl hQ)
theorem _root_.Go.World.ownsRow.block_lt {base:Nat}{e:TypeId}{size:Nat}{v:Value}{n:Nat}{xs:List Value}(h:w.ownsRow base e size v n xs){b:Nat}(hb:v.ownBlock=some b):b<w:=by
 rcases h.2 with ⟨rfl,_⟩ | ⟨g,cap,cur,rfl,h1,h2,_⟩
 ·simp [Value.ownBlock] at hb
 ·simp [Value.ownBlock] at hb;subst hb;exact Blk.lt (t:=e) h2
theorem _root_.Go.World.ownsRow.len_cast {base:Nat}{e:TypeId}{size:Nat}{v:Value}{n m:Nat}{xs ys:List Value}(h:w.ownsRow base e size v n xs)(e1:n=m)(e2:xs=ys):w.ownsRow base e size v m ys:=e1 ▸ e2 ▸ h
end
def Off (P:Nat->Prop)(B:Nat)(w:World)(v:Value):Nat->Prop:=fun b=>(P b∨B<=b)∧b<w∧some b ≠ v.ownBlock
theorem aB.off {P:Nat->Prop}{B:Nat}{w w':World}{v:Value}(hf:Fr (fun k=>some k=v.ownBlock) w w'):aB (Off P B w v) w w':=fun b hb h=>hf.block b hb h.2.2
def zM (P:Nat->Prop)(g:GL)(w:World)(e:Ending)(w':World):Prop :=
 ∃ A c,e=.returned (.agg #[.slice A g.vals c,g.many])∧bZ w' (New P w) (.slice A g.vals c) g.vals∧Ext w w'
theorem Tryz.info56:(Tryz.prog.info? 56).map (fun i=>(i.zero,i.size,i.bytes))=some (some ↑qn,1,24):=av
def Bd (P:Nat->Prop)(B N:Nat):Nat->Prop:=fun b=>(P b∨B<=b)∧b<N
def C4 (x:GN)(before:List GL)(P:Nat->Prop)(B:Nat)(W:World)(v k:Value)(wr:World):Prop :=
 ∃ (j:Nat) (rows:List (List GV)),j<=x.kids∧k=↑j∧Rws wr (New P B) v rows∧Ext W wr∧rows.length<=1024∧(∀ r ∈ rows,r.length=j)∧bU before [[]] x.kids=bU before rows (x.kids.drop j)
def JR (P:Nat->Prop)(B:Nat)(W:World)(rows:List (List GV))(vals:List GV)(v i:Value)(wr:World):Prop :=
 ∃ (k:Nat) (xs:List Value),k<=rows∧i=↑k∧wr.ownsRow W 56 1 v (eZ (rows.take k) vals) xs∧RL (kp wr (Off P B wr v)) (eZ (rows.take k) vals) xs∧Ext W wr
def LT (P:Nat->Prop)(B:Nat)(W:World)(done:List (List GV))(r:List GV)(vals:List GV)(v i:Value)(wr:World):Prop :=
 ∃ (k:Nat) (xs:List Value),k<=vals∧i=↑k∧wr.ownsRow W 56 1 v (done ++ (vals.take k).map (fun u=>r ++ [u])) xs∧RL (kp wr (Off P B wr v)) (done ++ (vals.take k).map (fun u=>r ++ [u])) xs∧Ext W wr
def LQ (P:Nat->Prop)(B:Nat)(W:World)(name:ByteArray)(rows:List (List GV))(v i:Value)(wr:World):Prop :=
 ∃ (k:Nat) (xs:List Value),k<=rows∧i=↑k∧wr.ownsRow W 58 4 v k xs∧RVs wr (Bd P B W) ((rows.take k).map (cB name)) xs∧Ext W wr
theorem DN (rows:List (List GV))(r:List GV)(vals:List GV):eZ (rows ++ [r]) vals=eZ rows vals ++ vals.map (fun u=>r ++ [u]):=by
 unfold eZ;rw [List.flatMap_append];simp
theorem EJ {P:Nat->Prop}{B N:Nat}{wr w2 w4:World}{v v' vr:Value}{next:List (List GV)}{row:List GV}{xs cr:List Value}
  (hB:B<=N)(ho:wr.ownsRow N 56 1 v next xs)(hN:N<=wr)(hr:RL (kp wr (Off P B wr v)) next xs)(h2:Ext wr w2)(hrow:w2.ownsRow wr 58 4 vr row cr)
  (hcr:RVs w2 (Bd P B N) row cr)(hl:row.length<=100000)(hf:Fr (fun k=>some k=v.ownBlock) (w2.alloc (qk #[vr] 56)) w4)
  (hown:v'.ownBlock=v.ownBlock∨v'.ownBlock=some (w2.alloc (qk #[vr] 56)).heap.size):RL (kp w4 (Off P B w4 v')) (next ++ [row]) (xs ++ [vr]):=by
 have hs2:=h2.size;have hs4:=hf.size;simp at hs4;have h24:Fr (fun k=>some k=v.ownBlock) w2 w4:=(ar ((aq w2).alloc' _)).trans hf;have h04:Fr (fun k=>some k=v.ownBlock) wr w4:=(ar h2).trans h24;have hv:∀ b,v.ownBlock=some b->N<=b∧b<wr:=fun b hb=>⟨ho.block_ge hb,ho.block_lt hb⟩
 have hne:∀ b,b<w2.heap.size->some b ≠ v.ownBlock->some b ≠ v'.ownBlock:=by
  intro b hb h;rcases hown with e | e
  ·rw [e];exact h
  ·rw [e];intro e';injection e' with e';simp at e';omega
 refine RL.append (hr.mono (fun l _ cs h=>h.carry (aB.off h04) (fun b hb h=>⟨h.1,I,hne b I h.2.2⟩))) (RL.one ⟨vr,rfl,?_⟩);refine (bZ.of_own (Q:=fun b=>(P b∨B<=b)∧some b ≠ v.ownBlock) hrow (RVs.carry (fun _ _ _=>rfl) ?_ hcr) I ?_).carry (fun b hb h=>h24.block b hb h.2) (fun b hb h=>⟨h.1,I,hne b hb h.2⟩)
 ·rintro b hb ⟨h1,h3⟩
  exact ⟨h1,fun e=>by have:=(hv b e.symm).1;omega⟩
 ·intro b hb
  have hge:=hrow.block_ge hb;exact ⟨.inr I,fun e=>by have:=(hv b e.symm).2;omega⟩
theorem VAt.made {w:World}{P:Nat->Prop}{name:ByteArray}{kids:List GV}{A:Option Addr}{c:Nat}(hn:name.size<=17592186044416)(h:bZ w P (.slice A kids c) kids):VAt w P (cB name kids) A c:=by
 obtain ⟨h1,h2⟩:=h.le;unfold cB;split
 ·exact ⟨by simp [I64,GV.kind],by simp [I64,GV.n],by simp [GV.s],h1,h2,h⟩
 ·exact ⟨by simp [I64,GV.kind],by simp [I64,GV.n],hn,h1,h2,h⟩
theorem bZ.slice_parts {w:World}{P:Nat->Prop}{A:Option Addr}{n c:Nat}{l:List GV}(h:bZ w P (.slice A n c) l):∃ css,Sl w P 4 A l css∧RVs w P l css:=by
 obtain ⟨A',c',css,e,_,_,h1,h2⟩:=h;injection e with e _ _;subst e;exact ⟨css,h1,h2⟩
theorem mG {a b:Nat}(ha:a<=1024)(hb:b<=1024):wrap64 ((a:Int)*(b:Int))=((a*b:Nat):Int):=by
 have h:a*b<=1024*1024:=Nat.mul_le_mul ha hb;have e:(a:Int)*(b:Int)=((a*b:Nat):Int):=by simp
 rw [e];exact IntWalk.wrap64_in _ I
theorem uP (x:GN)(a:NA)(P:Nat->Prop)(before:List GL)(vb:Value)(w:World)(hx:NAt w P x a)(hb:GLs w P vb before)
  (hkids:∀ z ∈ x.kids,0<=z∧z<(before:Int))(hlok:∀ z ∈ x.kids,LOK (before.getD z.toNat default))(hkl:x.kids.length<=2000)(hP:∀ b,P b->b<w) :
  qg 119 #[fE x a,vb] w (zM P (xV x before) w):=by
 have HX:=aYf hx;have HPP:=aYf hP;have HB:=aYf hb;have HK:=aYf hkids;have HLOK:=aYf hlok;obtain ⟨Ab,cb,eb,hb1,hb2⟩:=Lst.form hb;subst eb;obtain ⟨hkl1,hkl2⟩:=hx.kids.le;clear hx hb hkids hlok hP;obtain ⟨i0,hi,hz0,hz1,hz2⟩:=info_parts Tryz.info58;have HI:=aYf hi;obtain ⟨i1,hi',hz0',hz1',hz2'⟩:=info_parts Tryz.info56;have HI':=aYf hi';clear hi hi';have HSEQ:=aYf (show xV x before=match bU before [[]] x.kids with | none=>⟨[],true⟩ | some rows=>⟨eS (rows.map (cB x.name)),false⟩ from rfl);go_enter Tryz.func119,Tryz.ntmps119;go_wp2_with fail;have HE:=aYf (show Ext w (((w.alloc (qk (aN x a).toArray 60)).alloc (qk #[qn,false] 135)).alloc (qk #[qn] 56)) from (((aq w).alloc' _).alloc' _).alloc' _);have HBX:=aYf (((aw w 60 (aN x a).toArray).alloc (qk #[qn,false] 135)).alloc (qk #[qn] 56));have HBR:=aYf ((az (w.alloc (qk (aN x a).toArray 60)) 135 #[qn,false] (g:=w.heap.size+1) U).alloc (qk #[qn] 56))
 have HR0:=aYf (show Rws (((w.alloc (qk (aN x a).toArray 60)).alloc (qk #[qn,false] 135)).alloc (qk #[qn] 56)) (New P (w+2)) (.slice (qp (w.heap.size+1+1)) 1 1) [[]] from
  ⟨some ↑(qp (w.heap.size+1+1)),1,[↑qn],rfl,U,U,⟨rfl,fun _=>⟨w.heap.size+1+1,0,rfl,.inr I,fun j u hu=>rK _ _ _ _ _ _ U fy⟩⟩,
   RL.one ⟨_,rfl,none,0,[],rfl,U,U,⟨rfl,fun h=>absurd h U⟩,rfl⟩⟩)
 generalize hW:((w.alloc (qk (aN x a).toArray 60)).alloc (qk #[qn,false] 135)).alloc (qk #[qn] 56)=W at *;clear hW;go_loopw [5,6] (fun v k wr=>C4 x before P (w+2) W v k wr) (fun _ k _=>x.kids.length - (intOf k).toNat)
 case atStart=>exact ⟨0,[[]],af _,rfl,HR0.out,aq _,U,U,rfl⟩
 case round =>
  obtain ⟨j,rows,hj,rfl,hrows,hxr,hrl,hrr,ht⟩:=hrel;have HT:=aYf ht;have HXR:=aYf hxr;have HRR:=aYf hrr;have HROWS:=aYf hrows;obtain ⟨A5,c5,e5,h51,h52⟩:=Lst.form hrows;subst e5;have hbx7:=(HBX.out.ext hxr).cell' (u:=.slice a.kA x.kids a.kc) 7 rfl;have BR:=aYf (HBR.out.ext hxr);have r0:=BR.out.cell' (u:=qn) 0 rfl;have r1:=BR.out.cell' (u:=false) 1 rfl;have f0:=BR.out.frozen 0;have f1:=BR.out.frozen 1;have hlr:=BR.out.lt;have hbx:=(HBX.out.ext hxr).lt;clear ht hxr hrr hrows;by_cases hlt:j<x.kids
  ·obtain ⟨b1,o1,e1,-,-,g1⟩:=(HX.out.kids.ext (HE.out.trans' HXR.out)).get hlt
   rw [e1] at hbx7;clear e1;have hz:=HK.out _ (aC (d:=0) hlt);have HLZ:=aYf (HLOK.out _ (aC (d:=0) hlt));have HD:=aYf (show bU before [[]] x.kids=_ from by rw [HT.out,aJ 0 hlt,bU]);generalize x.kids.getD j 0=z at *;obtain ⟨b2,o2,A2,d2,rfl,-,hv2,g2,g3⟩:=(HB.out.ext (HE.out.trans' HXR.out)).get (i:=z.toNat) I;have HV2:=aYf hv2;have hfew:=HLZ.out.few;have hvle:=hv2.le;clear hv2;generalize before.getD z.toNat default=l at *;obtain ⟨vals,many⟩:=l;simp only at HD g2 g3 hfew HV2 hvle;cases many
   ·by_cases hp:1024<rows.length*vals
    ·have tp:decide (1024<wrap64 ((rows:Int)*(vals:Int)))=true:=by rw [mG hrl hfew];exact aYi I
     have HQ:=aYf (show xV x before=⟨[],true⟩ by rw [HSEQ.out,HD.out,if_pos (.inr hp)]);clear hp;go_wp2_with fail;have q:=((BR.out.set_ 0 qn).set_ 1 true).alloc (qk #[.slice A2 vals d2,false] 135);have q0:=q.cell' (u:=qn) 0 rfl;have q1:=q.cell' (u:=true) 1 rfl;clear q;rw [HQ.out];refine bodyPost_ret (v:=.agg #[qn,true]) (by simp [results,Tryz.results119,go_sem,q0,q1]) rfl ⟨none,0,rfl,⟨none,0,[],rfl,U,U,⟨rfl,fun h=>absurd h U⟩,rfl⟩,?_⟩;exact ((((HE.out.trans' HXR.out).setCell' (p:=qp (w+1)) cm _).setCell' (p:=qt (w+1) 1) cm _).alloc' _)
    ·have tp:decide (1024<wrap64 ((rows:Int)*(vals:Int)))=false:=by rw [mG hrl hfew];exact aYj I
     have HQ:=aYf (show bU before [[]] x.kids=bU before (eZ rows vals) (x.kids.drop (j+1)) by rw [HD.out,if_neg bh]);have hp':rows.length*vals<=1024:=by omega
     have HP:=aYf hp';clear hp hp';go_wp2_with fail;have HX1:=aYf (HXR.out.alloc' (qk #[.slice A2 vals d2,false] 135));have HBL:=aYf (aw wr 135 #[.slice A2 vals d2,false]);have HRW:=aYf (HROWS.out.carry (Q:=Bd P (w+2) (wr.alloc (qk #[.slice A2 vals d2,false] 135))) (aB.of_ext ((aq wr).alloc' (qk #[.slice A2 vals d2,false] 135))) (fun b hb h=>⟨h,bh⟩));have HVW:=aYf (HV2.out.grow (Q:=Bd P (w+2) (wr.alloc (qk #[.slice A2 vals d2,false] 135))) ((aq wr).alloc' (qk #[.slice A2 vals d2,false] 135)) (fun b hb h=>⟨.inl h,bh⟩));have hwr:w.heap.size+2<=(wr.alloc (qk #[.slice A2 vals d2,false] 135)):=by simp;omega
     have hgl:wr.heap.size<(wr.alloc (qk #[.slice A2 vals d2,false] 135)):=U;generalize hW1:wr.alloc (qk #[.slice A2 vals d2,false] 135)=W1 at *;clear hW1;obtain ⟨wo,rfl⟩:∃ wo:World,wo=wr:=⟨_,rfl⟩;clear hbx7 g1 g2 g3 r0 r1 f0 f1 tp;go_loopw [8,9] (fun v k wq=>JR P (w+2) W1 rows vals v k wq) (fun _ k _=>rows.length - (intOf k).toNat)
     case atStart=>exact ⟨0,[],af _,rfl,aT _ _ _ _,rfl,aq _⟩
     case round =>
      obtain ⟨k,xs,hk,rfl,hown8,hrl8,hxq⟩:=hrel;have HOWN8:=aYf hown8;have HRL8:=aYf hrl8;have HXQ:=aYf hxq;clear hown8 hrl8 hxq;by_cases hlt2:k<rows
      ·go_wp2_with fail
       obtain ⟨b5,o5,A6,d6,rfl,-,hv6,g6⟩:=HRW.out.get hlt2;have HV6:=aYf hv6;have HG6:=aYf g6;have h6l:=HRR.out _ (aC (d:=[]) hlt2);have HRS:=aYf (show eZ (rows.take (k+1)) vals=eZ (rows.take k) vals ++ vals.map (fun u=>rows.getD k [] ++ [u]) by rw [aW [] hlt2,DN])
       have hdl:(eZ (rows.take k) vals).length+vals.length<=1024:=by
        rw [gR,ak];have:=HP.out;have h3:(min k rows.length+1)*vals.length<=rows*vals:=Nat.mul_le_mul_right _ I;rw [Nat.add_mul] at h3;omega
       clear hv6 g6;have h6l':(rows.getD k []).length<=2000:=by omega
       clear h6l;generalize rows.getD k []=r at *;generalize eZ (rows.take k) vals=done at *;go_loopw [8,10] (fun v i wz=>LT P (w+2) W1 done r vals v i wz) (fun _ i _=>vals.length - (intOf i).toNat)
       case atStart=>exact ⟨0,xs,af _,rfl,by simpa using HOWN8.out,by simpa using HRL8.out,HXQ.out⟩
       case round =>
        obtain ⟨m,ys,hm,rfl,hownz,hrlz,hxz⟩:=hrel;have HOWNZ:=aYf hownz;have HRLZ:=aYf hrlz;have HXZ:=aYf hxz;have hgl0:=(HBL.out.ext hxz).cell' (u:=.slice A2 vals d2) 0 rfl;have hszz:=hxz.size;clear hownz hrlz hxz;by_cases hlt3:m<vals
        ·obtain ⟨bv,ov,Av,dv,rfl,-,hvv,gv0,gv1,gv2,gv3⟩:=(HVW.out.ext HXZ.out).get hlt3
         have g6:=aA HXZ.out HG6.out;have HVV:=aYf hvv
         have HTM:=aYf (show done ++ (vals.take (m+1)).map (fun u=>r ++ [u])=(done ++ (vals.take m).map (fun u=>r ++ [u])) ++ [r ++ [vals.getD m default]] by
          rw [aW default hlt3,List.map_append,ah];rfl)
         have hnl:(done ++ (vals.take m).map (fun u=>r ++ [u])).length<=1024:=bh;clear hvv;obtain ⟨c6,hs6,hr6⟩:=(HV6.out.ext HXZ.out).slice_parts;have HS6:=aYf hs6;have HR6:=aYf hr6;clear hs6 hr6;generalize vals.getD m default=u at *
         go_wp2_with (first
          | (at_builtin;refine aM _ rfl (.tmp 55) (.tmp 59) 56 dd wr 58 i0 _ 4 56 Tryz.underlying56 HI.out hz0 hz1 hz2 rfl I qn 0 [] rfl (aT _ _ _ _) _ A6 r d6 c6 rfl HS6.out HR6.out.oneCell I I (ab _) ?_;intro v11 w1 ho1 hbl1;have k0:=aA hbl1 hgl0;have k1:=aA hbl1 gv0;have k2:=aA hbl1 gv1;have k3:=aA hbl1 gv2;have k4:=aA hbl1 gv3)
          | (at_builtin;refine aM _ rfl (.tmp 62) (.tmp 68) 56 dd wr 58 i0 _ 4 56 Tryz.underlying56 HI.out hz0 hz1 hz2 rfl I v11 _ _ rfl (ho1.alloc _) (fun _=>True) (qp w1) 1 1 (qh u Av dv) rfl (Sl.new w1 _ _ _ _ rfl) ci I I (by have:=hbl1.size;simp;omega) ?_;intro v12 w2 ho2 hbl2;simp only [Nat.zero_add,List.nil_append] at ho2;obtain ⟨A12,c12,e12,-,-,-⟩:=Sl.of_own ho2;subst e12;have hx2:Ext wr w2:=(hbl1.alloc hbl1.size _).trans hbl2)
          | (at_builtin;refine aS _ rfl (.tmp 61) (.tmp 70) 155 dd W1 56 i1 _ 1 24 Tryz.underlying155 HI'.out hz0' hz1' hz2' rfl I u8 _ _ rfl ((HOWNZ.out.ext_ hx2).alloc _) (fun _=>True) (qp w2) 1 1 [.slice A12 _ c12] rfl (Sl.new w2 _ _ _ _ rfl) ci I I (by have:=hx2.size;simp;omega) ?_;intro v14 w4 ho4 hf4 hb4))
         go_roundw
         case rel =>
          refine ⟨m+1,ys ++ [.slice A12 (r+1) c12],I,by go_num,?_,?_,?_⟩
          ·rw [HTM.out]
           exact ho4.len_cast bh rfl
          ·rw [HTM.out]
           refine EJ (N:=W1.heap.size) hwr HOWNZ.out hszz HRLZ.out hx2 (ho2.len_cast U rfl) ?_ bh hf4 hb4;refine RVs.append ?_ (RVs.one ((HVV.out.ext hx2).rv));exact RVs.carry (aB.of_ext hx2) (fun _ _ h=>h) HR6.out
          ·exact Fr.new_ext (((ar (HXZ.out.trans' hx2)).alloc _).trans hf4) (fun b hb=>HOWNZ.out.block_ge hb.symm)
         case measure=>simp [intOf];omega
        ·have HTV:=aYf (show vals.take m=vals from an I)
         go_wp2_with fail;go_roundw
         case rel =>
          refine ⟨k+1,ys,I,by go_num,?_,?_,HXZ.out⟩
          ·rw [HRS.out]
           have:=HOWNZ.out;rw [HTV.out] at this;exact this
          ·rw [HRS.out]
           have:=HRLZ.out;rw [HTV.out] at this;exact this
         case measure=>simp [intOf];omega
      ·have HTR:=aYf (show rows.take k=rows from an I)
       go_wp2_with fail;go_roundw
       case rel =>
        have ho:=HOWN8.out;have hr:=HRL8.out;rw [HTR.out] at ho hr;have hlen:=gR rows vals;have hp:=HP.out;refine ⟨j+1,eZ rows vals,I,by go_num,?_,HX1.out.trans' HXQ.out,I,?_,HQ.out⟩
        ·refine Lst.of_own ho (hr.mono (fun l _ cs h=>h.carry (fun _ _ _=>rfl) (fun b _ h=>h.1))) I (fun b hb=>.inr ?_)
         have:=ho.block_ge hb;omega
        ·intro q hq
         obtain ⟨q',hq',u,_,rfl⟩:=jY.1 hq;simp [HRR.out q' hq']
       case measure=>simp [intOf];omega
   ·have HQ:=aYf (show xV x before=⟨[],true⟩ by rw [HSEQ.out,HD.out,if_pos (.inl rfl)])
    go_wp2_with fail;have q:=((BR.out.set_ 0 qn).set_ 1 true).alloc (qk #[.slice A2 vals d2,true] 135);have q0:=q.cell' (u:=qn) 0 rfl;have q1:=q.cell' (u:=true) 1 rfl;clear q;rw [HQ.out];refine bodyPost_ret (v:=.agg #[qn,true]) (by simp [results,Tryz.results119,go_sem,q0,q1]) rfl ⟨none,0,rfl,⟨none,0,[],rfl,U,U,⟨rfl,fun h=>absurd h U⟩,rfl⟩,?_⟩;exact ((((HE.out.trans' HXR.out).setCell' (p:=qp (w+1)) cm _).setCell' (p:=qt (w+1) 1) cm _).alloc' _)
  ·have HQ:=aYf (show xV x before=⟨eS (rows.map (cB x.name)),false⟩ by rw [HSEQ.out,HT.out,drop_nil I];rfl)
   have HRW:=aYf (HROWS.out.carry (Q:=Bd P (w+2) wr) (fun _ _ _=>rfl) (fun b hb h=>⟨h,hb⟩));have HNM:=aYf HX.out.name;have hwr:w.heap.size+2<=wr:=by omega
   have HBXR:=aYf (HBX.out.ext HXR.out);go_wp2_with fail;clear hbx7 r0 r1 f0 f1;obtain ⟨wo,rfl⟩:∃ wo:World,wo=wr:=⟨_,rfl⟩;go_loopw [12,13] (fun v i wz=>LQ P (w+2) wo x.name rows v i wz) (fun _ i _=>rows.length - (intOf i).toNat)
   case atStart=>exact ⟨0,[],af _,rfl,aT _ _ _ _,rfl,aq _⟩
   case round =>
    obtain ⟨k,xs,hk,rfl,hown,hrv,hxz⟩:=hrel;have HOWN:=aYf hown;have HRV:=aYf hrv;have HXZ:=aYf hxz;have hszz:=hxz.size;clear hown hrv hxz;by_cases hlt4:k<rows
    ·obtain ⟨b5,o5,A6,d6,rfl,hb5,hv6,g6⟩:=(HRW.out.ext HXZ.out).get hlt4
     replace hb5:=hb5.2
     have HTM:=aYf (show (rows.take (k+1)).map (cB x.name)=(rows.take k).map (cB x.name) ++ [cB x.name (rows.getD k [])] by
      rw [aW [] hlt4,List.map_append];rfl)
     have HVM:=aYf (VAt.made HNM.out hv6);clear hv6;generalize rows.getD k []=r at *;have BX:=aYf (HBXR.out.ext HXZ.out);have x0:=BX.out.cell' (u:=↑x.kind) 0 rfl;have x1:=BX.out.cell' (u:=x.name) 1 rfl;have x2:=BX.out.cell' (u:=↑x.lo) 2 rfl;have x3:=BX.out.cell' (u:=↑x.hi) 3 rfl;have x4:=BX.out.cell' (u:=.slice a.wA x.weights a.wc) 4 rfl;have x5:=BX.out.cell' (u:=.slice a.lA x.labels a.lc) 5 rfl;have x6:=BX.out.cell' (u:=.slice a.vA x.values a.vc) 6 rfl;have x7:=BX.out.cell' (u:=.slice a.kA x.kids a.kc) 7 rfl;have x8:=BX.out.cell' (u:=↑x.value.kind) 8 rfl;have x9:=BX.out.cell' (u:=↑x.value.n) 9 rfl;have x10:=BX.out.cell' (u:=x.value.s) 10 rfl;have x11:=BX.out.cell' (u:=.slice a.xA x.value.kids a.xc) 11 rfl;have hk1:(k:Int)<(rows:Int):=by omega
     have hk0:(0:Int)<=(k:Int):=I;go_wp2_with fail
     go_region_held3 (fun w'=>qc w' w 0 x.kind∧qc w' w 1 x.name∧qc w' w 2 x.lo∧qc w' w 3 x.hi∧qc w' w 4 (.slice a.wA x.weights a.wc)∧qc w' w 5 (.slice a.lA x.labels a.lc)∧qc w' w 6 (.slice a.vA x.values a.vc)∧qc w' w 7 (.slice a.kA x.kids a.kc)∧qc w' w 8 x.value.kind∧qc w' w 9 x.value.n∧qc w' w 10 x.value.s∧qc w' w 11 (.slice a.xA x.value.kids a.xc)∧qc w' b5 (o5+k) (.slice A6 r d6))
      (first
       | go_keep
       | (go_split_ands
          exact ⟨aA hxa ‹_›,aA hxa ‹_›,aA hxa ‹_›,aA hxa ‹_›,aA hxa ‹_›,aA hxa ‹_›,aA hxa ‹_›,aA hxa ‹_›,aA hxa ‹_›,aA hxa ‹_›,aA hxa ‹_›,aA hxa ‹_›,aA hxa ‹_›⟩)
       | (go_split_ands
          exact ⟨(hbl2.cell (p:=qt w _) hbx).trans ‹_›,(hbl2.cell (p:=qt w _) hbx).trans ‹_›,(hbl2.cell (p:=qt w _) hbx).trans ‹_›,(hbl2.cell (p:=qt w _) hbx).trans ‹_›,(hbl2.cell (p:=qt w _) hbx).trans ‹_›,(hbl2.cell (p:=qt w _) hbx).trans ‹_›,(hbl2.cell (p:=qt w _) hbx).trans ‹_›,(hbl2.cell (p:=qt w _) hbx).trans ‹_›,(hbl2.cell (p:=qt w _) hbx).trans ‹_›,(hbl2.cell (p:=qt w _) hbx).trans ‹_›,(hbl2.cell (p:=qt w _) hbx).trans ‹_›,(hbl2.cell (p:=qt w _) hbx).trans ‹_›,(hbl2.cell (p:=qt b5 _) hb5).trans ‹_›⟩))
      (first
       | (go_at_call 137;refine (pX x a r A6 d6 _).mono ?_;rintro e w1 ⟨rfl,hxa⟩;have hszw:=hxa.size)
       | (refine bW _ (by rfl) (.tmp 79) (.tmp 86) 56 (by rfl) wo 58 i0 _ 4 56 Tryz.underlying56 HI.out hz0 hz1 hz2 rfl (by omega) u12 _ _ (by rfl) ((HOWN.out.ext_ ((aq wr).drew'.trans' hxa)).alloc _) (fun _=>True) (qp w1) 1 1 [.int .i64 (cB x.name r).kind,.int .i64 (cB x.name r).n,.string (cB x.name r).s,.slice A6 (cB x.name r).kids.length d6] (by rfl) (Sl.new w1 _ _ _ _ rfl) (by simp [Value.oneCell']) (by omega) (by omega) (by have:=hxa.size;simp at this ⊢;omega) ?_;intro v2 w2 ho2 hbl2))
     have HX1:=aYf ((aq wr).drew'.trans' hxa);have HX2:=aYf (show Ext wo w2 from ((HXZ.out.trans' HX1.out).alloc' _).trans hbl2);have HO2:=aYf ho2;have hbl3:Below wo wr w2:=((HX1.out.mono hszz).alloc (by have:=HX1.out.size;omega) _).trans hbl2;have HBL3:=aYf hbl3;clear ho2 hbl2 hbl3 hxa hszw;go_wp2_with fail;go_roundw
     case rel =>
      refine ⟨k+1,_,I,by go_num,HO2.out,?_,HX2.out⟩;rw [HTM.out];have hk:aB (Bd P (w+2) wo) wr w2:=fun b _ h=>HBL3.out.block b h.2
      exact RVs.append (RVs.carry hk (fun _ _ h=>h) HRV.out) (RVs.one ((HVM.out.carry hk (fun _ _ h=>h)).rv))
     case measure=>simp [intOf];omega
    ·have HTR:=aYf (show rows.take k=rows from an I)
     have hkr:k=rows:=I
     have HVL:=aYf (show bZ wr (New P (w+2)) u12 (rows.map (cB x.name)) from by
      have ho:=HOWN.out;have hr:=HRV.out;rw [HTR.out] at hr;refine bZ.of_own (ho.len_cast (by simp [hkr]) rfl) (RVs.carry (fun _ _ _=>rfl) (fun b _ h=>h.1) hr) bh (fun b hb=>.inr ?_);have:=ho.block_ge hb;omega)
     clear hkr;have BR:=aYf (HBR.out.ext (HXR.out.trans' HXZ.out));go_wp2_with fail;refine (Gy (rows.map (cB x.name)) (New P (w+2)) _ _ HVL.out bh).mono ?_;rintro e w1 ⟨v2,ys,rfl,ho,hr,hx1⟩;have BR1:=aYf (BR.out.ext hx1)
     have HRES:=aYf (show bZ w1 (New P (w+2)) v2 (eS (rows.map (cB x.name))) from
      bZ.of_own ho hr (by have:=xR (rows.map (cB x.name));simp at this;omega) (fun b hb=>.inr (by have:=ho.block_ge hb;omega)))
     obtain ⟨A7,c7,e7,-,-⟩:=HRES.out.form;subst e7;have HX1:=aYf (HXR.out.trans' (HXZ.out.trans' hx1));have r0:=BR1.out.cell' (u:=qn) 0 rfl;have r1:=BR1.out.cell' (u:=false) 1 rfl;have f0:=BR1.out.frozen 0;have f1:=BR1.out.frozen 1;clear hx1 ho hr;go_wp2_with fail;have q:=((BR1.out.set_ 0 (.slice A7 (eS (rows.map (cB x.name))) c7)).set_ 1 false);have q0:=q.cell' (u:=.slice A7 (eS (rows.map (cB x.name))) c7) 0 rfl;have q1:=q.cell' (u:=false) 1 rfl;clear q;rw [HQ.out];refine bodyPost_ret (v:=.agg #[.slice A7 (eS (rows.map (cB x.name))) c7,false]) (by simp [results,Tryz.results119,go_sem,q0,q1]) rfl ⟨A7,c7,rfl,?_,?_⟩
     ·refine HRES.out.carry (fun b hb h=>?_) (fun b hb h=>h.elim .inl (fun h=>.inr I))
      have hne:b ≠ w.heap.size+1:=by
       rcases h with h | h
       ·have:=HPP.out b h;omega
       ·omega
      rw [Below.heap_setCell _ _ _ _ hne,Below.heap_setCell _ _ _ _ hne]
     ·exact (((HE.out.trans' HX1.out).setCell' (p:=qp (w+1)) cm _).setCell' (p:=qt (w+1) 1) cm _)
theorem uQ (x:GN)(a:NA)(P:Nat->Prop)(before:List GL)(vb:Value)(w:World)(hx:NAt w P x a)(hb:GLs w P vb before)
  (hkids:∀ z ∈ x.kids,0<=z∧z<(before:Int))(hlok:∀ z ∈ x.kids,LOK (before.getD z.toNat default))(hkl:x.kids.length<=2000) :
  qg 119 #[fE x a,vb] w (zM P (xV x before) w):=by
 refine (uP x a (fun b=>P b∧b<w) before vb w (hx.carry (fun _ _ _=>rfl) (fun b h1 h2=>⟨h2,h1⟩)) (hb.grow (aq _) (fun b h1 h2=>⟨h2,h1⟩)) hkids hlok hkl (fun b h=>h.2)).mono ?_;rintro e w' ⟨A,c,h1,h2,h3⟩;exact ⟨A,c,h1,h2.imp (fun b _ h=>h.elim (fun h=>.inl h.1) .inr),h3⟩
