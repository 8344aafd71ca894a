/- Contracts of functions. Conditions: none. -/
import Derived.Test.YtkoeecdjijfjnaaGreatG3
import Derived.Test.YtkoeecdjijfjnaaGreatH1
set_option maxRecDepth 100000
set_option maxHeartbeats 8000000
namespace Go.Proofs.YtkoeecdjijfjnaaGreat
theorem xD:∀ x y:List Int,jD y x=- jD x y
 | [],[]=>rfl
 | [],_ :: _=>by simp only [jD];rfl
 | _ :: _,[]=>by simp only [jD]
 | x :: xs,y :: ys=>by
  simp only [jD];exact kG (mD x y) (xD xs ys)
theorem xC:∀ x y:List Int,jD x y=0->x=y
 | [],[],_=>rfl
 | [],_ :: _,h=>by simp only [jD] at h;omega
 | _ :: _,[],h=>by simp only [jD] at h;omega
 | x :: xs,y :: ys,h=>by
  simp only [jD] at h;obtain ⟨h1,h2⟩:=kF h;rw [dD h1,xC xs ys h2]
theorem aE3:∀ x y z:List Int,jD x y<0->jD y z<0->jD x z<0
 | [],[],_,h,_=>by simp only [jD] at h;omega
 | [],_ :: _,[],_,h=>by simp only [jD] at h;omega
 | [],_ :: _,_ :: _,_,_=>by simp only [jD];omega
 | _ :: _,[],_,h,_=>by simp only [jD] at h;omega
 | _ :: _,_ :: _,[],_,h=>by simp only [jD] at h;omega
 | x :: xs,y :: ys,z :: zs,h,k=>by
  simp only [jD] at h k ⊢;rw [mY] at h k ⊢;rcases h with h | ⟨e,h⟩ <;> rcases k with k | ⟨e',k⟩
  ·exact .inl (fU.2 (by have:=fU.1 h;have:=fU.1 k;omega))
  ·exact .inl (by rw [<- dD e'];exact h)
  ·exact .inl (by rw [dD e];exact k)
  ·exact .inr ⟨by rw [dD e];exact e',aE3 xs ys zs h k⟩
theorem qB (x y:List Int):gN y x=- gN x y:=kG (mD _ _) (xD x y)
theorem qA {x y:List Int}(h:gN x y=0):x=y:=xC x y (kF h).2
theorem zH {x y z:List Int}(h:gN x y<0)(k:gN y z<0):gN x z<0:=by
 unfold gN at h k ⊢;rw [mY] at h k ⊢;rcases h with h | ⟨e,h⟩ <;> rcases k with k | ⟨e',k⟩
 ·exact .inl (fU.2 (by have:=fU.1 h;have:=fU.1 k;omega))
 ·exact .inl (by rw [<- dD e'];exact h)
 ·exact .inl (by rw [dD e];exact k)
 ·exact .inr ⟨by rw [dD e];exact e',aE3 x y z h k⟩
theorem qC (x:List Int):gN x x=0:=by have:=qB x x;omega
def ltP (x y:List Int):Prop:=gN x y<0
theorem ltP.tr {x y z:List Int}(h:ltP x y)(k:ltP y z):ltP x z:=zH h k
theorem aLb (x y:List Int):ltP x y∨x=y∨ltP y x:=by
 unfold ltP;have:=qB x y;rcases Int.lt_trichotomy (gN x y) 0 with h | h | h
 ·exact .inl h
 ·exact .inr (.inl (qA h))
 ·exact .inr (.inr U)
abbrev aT6 (l:List (List Int)):Prop:=l.Pairwise ltP
def aEf (x:List Int):List (List Int)->List (List Int)
 | []=>[x]
 | y :: ys=>if gN y x<0 then y :: aEf x ys else if gN y x=0 then y :: ys else x :: y :: ys
theorem aAr (x:List Int):∀ (l:List (List Int))(z:List Int),z ∈ aEf x l ↔ z=x∨z ∈ l
 | [],z=>by simp [aEf]
 | y :: ys,z=>by
  simp only [aEf]
  split
  ·simp only [List.mem_cons,aAr x ys z]
   constructor
   ·rintro (h | h | h) <;> simp [h]
   ·rintro (h | h | h) <;> simp [h]
  ·split
   ·next h=>rw [qA h];simp
   ·simp
theorem aAs (x:List Int):∀ {l:List (List Int)},aT6 l->aT6 (aEf x l)
 | [],_=>by simp [aEf]
 | y :: ys,h=>by
  have h':=List.pairwise_cons.1 h;simp only [aEf]
  split
  ·next hlt =>
   refine List.pairwise_cons.2 ⟨fun z hz=>?_,aAs x h'.2⟩;rcases (aAr x ys z).1 hz with rfl | hz
   ·exact hlt
   ·exact h'.1 z hz
  ·split
   ·exact h
   ·next h1 h2 =>
    have hxy:ltP x y:=by
     rcases aLb x y with k | k | k
     ·exact k
     ·exact absurd (by rw [k];exact qC y) h2
     ·exact absurd k h1
    refine List.pairwise_cons.2 ⟨fun z hz=>?_,h⟩;rcases List.mem_cons.1 hz with rfl | hz
    ·exact hxy
    ·exact hxy.tr (h'.1 z hz)
def aUx:Int->List (List Int)->List (List Int)
 | _,[]=>[]
 | b,y :: ys=>if 2+(y.length:Int)<=b then y :: aUx (b - (2+(y.length:Int))) ys else []
def aVn:List (List Int)->Int
 | []=>0
 | y :: ys=>2+(y.length:Int)+aVn ys
def aU6 (ok:List Int->Bool):List (List Int)->List (List Int)->List (List Int)
 | Q,[]=>Q
 | Q,x :: xs=>aU6 ok (if ok x then aEf x Q else Q) xs
end Go.Proofs.YtkoeecdjijfjnaaGreat
namespace Go.Proofs.YtkoeecdjijfjnaaGreat
open Go.RowKit
structure GE where
 path:List Int
 kind:Int
 at_:Int
 code:Int
 fresh:Bool
 hits:Int
instance:Inhabited GE:=⟨⟨[],0,0,0,false,0⟩⟩
def wE (e:GE):Int:=2+(e.path.length:Int)
def dF:List GE->Int
 | []=>0
 | e :: es=>wE e+dF es
def bB (p:List Int):List GE->Nat
 | []=>0
 | e :: es=>if gN e.path p<0 then bB p es+1 else 0
def fT (p:List Int)(L:List GE):Bool:=decide (bB p L<L.length) && decide (gN (L.getD (bB p L) default).path p=0)
def aV (e x:GE):GE:={ e with hits:=wrap64 (e.hits+x.hits),fresh:=e.fresh || x.fresh }
def dN (L:List GE)(x:GE):List GE :=
 if fT x.path L then L.set (bB x.path L) (aV (L.getD (bB x.path L) default) x) else L.take (bB x.path L) ++ x :: L.drop (bB x.path L)
def iU:Nat->Nat->List GE->Nat
 | _,k,[]=>k
 | i,k,e :: es=>iU (i+1) (if e.fresh then k else i) es
def nU (L:List GE):Nat:=iU 0 (L.length - 1) L
def aLn (b:Int):Nat->List GE->List GE
 | 0,L=>L
 | n+1,L=>if b<dF L∨256<L.length then aLn b n (L.eraseIdx (nU L)) else L
def uF (b:Int)(L:List GE):List GE:=aLn b L.length L
def qE (ok:List Int->Bool)(b:Int)(L:List GE)(x:GE):List GE :=
 if ok x.path then (if fT x.path L then dN L x else uF b (dN L x)) else L
def uV (ok:List Int->Bool)(b:Int)(L:List GE)(x:GE):Bool :=
 if ok x.path then (if fT x.path L then false else fT x.path (uF b (dN L x))) else false
def aBd (ok:List Int->Bool)(x:GE):Int:=if ok x.path then 0 else 11
def tT:List GE->GE->List GE
 | [],x=>[x]
 | e :: es,x=>if gN e.path x.path<0 then e :: tT es x else if gN e.path x.path=0 then aV e x :: es else x :: e :: es
theorem mA (p:List Int):∀ L,bB p L<=L.length
 | []=>by simp [bB]
 | e :: es=>by have:=mA p es;simp only [bB];split <;> simp <;> omega
theorem aHl {p:List Int}{e:GE}{es:List GE}(h:gN e.path p<0):bB p (e :: es)=bB p es+1:=by simp only [bB];rw [if_pos h]
theorem aHm {p:List Int}{e:GE}{es:List GE}(h:¬ gN e.path p<0):bB p (e :: es)=0:=by simp only [bB];rw [if_neg h]
theorem tU:∀ (L:List GE)(x:GE),dN L x=tT L x
 | [],x=>by simp [dN,tT,fT,bB]
 | e :: es,x=>by
  have ih:=tU es x;simp only [tT];unfold dN fT at ih ⊢
  by_cases h1:gN e.path x.path<0
  ·have hf:=aHl (es:=es) h1
   generalize bB x.path (e :: es)=k at *;subst hf;rw [if_pos h1,<- ih];simp only [List.length_cons,List.getD_cons_succ,List.set_cons_succ,List.take_succ_cons,List.drop_succ_cons,Nat.add_lt_add_iff_right]
   split <;> simp
  ·have hf:=aHm (es:=es) h1
   generalize bB x.path (e :: es)=k at *;subst hf;rw [if_neg h1]
   by_cases h2:gN e.path x.path=0
   ·rw [if_pos h2]
    simp [h2]
   ·rw [if_neg h2]
    simp [h2]
theorem pL:∀ (L:List GE)(x:GE),(tT L x).map GE.path=aEf x.path (L.map GE.path)
 | [],x=>rfl
 | e :: es,x=>by
  simp only [tT,List.map_cons,aEf]
  split
  ·simp [pL es x]
  ·split
   ·rfl
   ·rfl
theorem aB9 (L:List GE)(x:GE):(dN L x).map GE.path=aEf x.path (L.map GE.path):=by rw [tU,pL]
abbrev uW (L:List GE):Prop:=aT6 (L.map GE.path)
theorem uW.join {L:List GE}(h:uW L)(x:GE):uW (dN L x):=by unfold uW;rw [aB9];exact aAs _ h
theorem wW (p:List Int):∀ (L:List GE)(k:Nat),k<bB p L->gN (L.getD k default).path p<0
 | [],k,h=>by simp [bB] at h
 | e :: es,k,h=>by
  simp only [bB] at h
  split at h
  ·next hlt =>
   cases k with
   | zero=>exact hlt
   | succ k=>exact wW p es k U
  ·omega
theorem rT {p:List Int}:∀ {L:List GE},uW L->∀ (k:Nat),bB p L<=k->k<L.length->¬ gN (L.getD k default).path p<0
 | [],_,k,_,h=>by simp at h
 | e :: es,hi,k,h1,h2=>by
  have hi':=List.pairwise_cons.1 hi;simp only [bB] at h1
  split at h1
  ·cases k with
   | zero=>omega
   | succ k=>exact rT hi'.2 k U fz
  ·next hn =>
   cases k with
   | zero=>exact hn
   | succ k =>
    intro hk
    apply hn
    have hk2:k<es.length:=fz
    have hm:es.getD k default ∈ es:=by
     have h3:es.getD k default=es[k]:=by simp [hk2]
     rw [h3];exact List.getElem_mem hk2
    exact zH (hi'.1 _ (List.mem_map.2 ⟨es.getD k default,hm,rfl⟩)) hk
theorem nB {p:List Int}{L:List GE}(hi:uW L){k:Nat}(hk:k<=L.length)(h1:∀ j,j<k->gN (L.getD j default).path p<0)(h2:∀ j,k<=j->j<L.length->¬ gN (L.getD j default).path p<0):k=bB p L:=by
 rcases Nat.lt_trichotomy k (bB p L) with h | h | h
 ·have:=mA p L
  exact absurd (wW p L k h) (h2 k (Nat.le_refl _) U)
 ·exact h
 ·exact absurd (h1 _ h) (rT hi _ (Nat.le_refl _) U)
theorem aEg {L:List GE}(hi:uW L){i j:Nat}(hij:i<j)(hj:j<L.length):gN (L.getD i default).path (L.getD j default).path<0:=by
 have:=List.pairwise_iff_getElem.1 hi i j ab ik hij;have h1:L.getD i default=L[i]:=by simp [show i<L.length by omega]
 have h2:L.getD j default=L[j]:=by simp [hj]
 rw [h1,h2]
 simpa [ltP] using this
theorem tV {L:List GE}(hi:uW L)(p:List Int){i j:Nat}(hij:i<=j)(hj:j<L.length)(h:gN (L.getD j default).path p<0):gN (L.getD i default).path p<0:=by
 rcases Nat.eq_or_lt_of_le hij with rfl | hij
 ·exact h
 ·exact zH (aEg hi hij hj) h
theorem aHd {p:List Int}{L:List GE}(h:fT p L=true):p ∈ L.map GE.path:=by
 unfold fT at h;simp only [Bool.and_eq_true,decide_eq_true_eq] at h;refine List.mem_map.2 ⟨L.getD (bB p L) default,?_,qA h.2⟩;have:L.getD (bB p L) default=L[bB p L]:=by simp [h.1]
 rw [this];exact List.getElem_mem _
theorem rU:∀ (L:List GE)(i k n:Nat),k<n->i+L.length<=n->iU i k L<n
 | [],i,k,n,h,_=>by simp only [iU];exact h
 | e :: es,i,k,n,h,h2=>by
  simp only [List.length_cons] at h2;simp only [iU];refine rU es (i+1) _ n ?_ U
  split <;> omega
theorem aA5 {L:List GE}(h:0<L.length):nU L<L.length:=rU L 0 _ _ U U
def aX4 (f:Bool)(L:List GE):Prop:=∀ e ∈ L,e.fresh=f
theorem wO:∀ (L:List GE)(x:GE),(tT L x).length<=L.length+1
 | [],x=>by simp [tT]
 | e :: es,x=>by have:=wO es x;simp only [tT];split <;> (try split) <;> simp <;> omega
structure aYh (ok:List Int->Bool)(b:Int)(f:Bool)(ps:List (List Int))(L:List GE):Prop where
 paths:L.map GE.path=aUx b (aU6 ok [] ps)
 all:aX4 f L
 len:L.length<=ps.length
end Go.Proofs.YtkoeecdjijfjnaaGreat
namespace Go.Proofs.YtkoeecdjijfjnaaGreat
open Go.RowKit
structure EAt (w:World)(P:Nat->Prop)(e:GE)(A:Option Addr)(c:Nat):Prop where
 path:aU w P (.slice A e.path.length c) e.path
 kind:I64 e.kind
 at_:I64 e.at_
 code:I64 e.code
 hits:I64 e.hits
def cD (e:GE)(A:Option Addr)(c:Nat):List Value:=[.slice A e.path.length c,.int .i64 e.kind,.int .i64 e.at_,.int .i64 e.code,.bool e.fresh,.int .i64 e.hits]
abbrev aEt (e:GE)(A:Option Addr)(c:Nat):Value:=.agg #[.slice A e.path.length c,↑e.kind,↑e.at_,↑e.code,.bool e.fresh,↑e.hits]
def REn (w:World)(P:Nat->Prop)(e:GE)(cs:List Value):Prop:=∃ A c,cs=cD e A c∧EAt w P e A c
section
variable {w w':World}{P Q:Nat->Prop}
theorem EAt.carry {e:GE}{A:Option Addr}{c:Nat}(h:EAt w P e A c)(hk:aB P w w')(hPQ:∀ b,b<w.heap.size->P b->Q b):EAt w' Q e A c:=⟨h.path.carry hk hPQ,h.kind,h.at_,h.code,h.hits⟩
theorem EAt.ext {e:GE}{A:Option Addr}{c:Nat}(h:EAt w P e A c)(hx:Ext w w'):EAt w' P e A c:=h.carry (aB.of_ext hx) (fun _ _ h=>h)
theorem fP:aMm 6 REn:=⟨fun _ _ _ _ h=>by obtain ⟨A,c,rfl,_⟩:=h;rfl,fun _ _ _ _ _ _ h hk hPQ=>by obtain ⟨A,c,e,h⟩:=h;exact ⟨A,c,e,h.carry hk hPQ⟩⟩
end
def Ens (w:World)(P:Nat->Prop)(v:Value)(L:List GE):Prop:=Lst w P 6 (REn w P) v L
section
variable {w w':World}{P Q:Nat->Prop}
theorem Ens.carry {v:Value}{L:List GE}(h:Ens w P v L)(hk:aB P w w')(hPQ:∀ b,b<w.heap.size->P b->Q b):Ens w' Q v L:=Lst.carry h U hk hPQ (fun x _ cs hx=>fP.carry _ _ _ _ _ _ hx hk hPQ)
theorem Ens.ext {v:Value}{L:List GE}(h:Ens w P v L)(hx:Ext w w'):Ens w' P v L:=h.carry (aB.of_ext hx) (fun _ _ h=>h)
theorem Ens.get {A:Option Addr}{n c:Nat}{L:List GE}(h:Ens w P (.slice A n c) L){i:Nat}(hi:i<L.length):∃ b off A' d,A=some ⟨b,off,none⟩∧P b∧EAt w P (L.getD i default) A' d∧(∀ j u,(cD (L.getD i default) A' d)[j]?=some u->w.cell? ⟨b,off+i*6+j,none⟩=some u):=by
 obtain ⟨b,off,c',cs,e,hb,_,_,⟨A',d,rfl,hv⟩,hc⟩:=Lst.at_ (fP.len w P) h default hi;injection e with e _ _;exact ⟨b,off,A',d,e,hb,hv,hc⟩
end
theorem bY {w:World}{g:Nat}{t:TypeId}{u0 u1 u2 u3 u4 u5:Value}(h:Blk w g t #[u0,u1,u2,u3,u4,u5]):w.cell? ⟨g,0,none⟩=some u0∧w.cell? ⟨g,1,none⟩=some u1∧w.cell? ⟨g,2,none⟩=some u2∧w.cell? ⟨g,3,none⟩=some u3∧w.cell? ⟨g,4,none⟩=some u4∧w.cell? ⟨g,5,none⟩=some u5:=⟨h.cell' 0 rfl,h.cell' 1 rfl,h.cell' 2 rfl,h.cell' 3 rfl,h.cell' 4 rfl,h.cell' 5 rfl⟩
theorem sB (x y:GE)(A B:Option Addr)(c d:Nat)(P Q:Nat->Prop)(w:World)(hx:EAt w P x A c)(hy:EAt w Q y B d) :
  Calls Tryz.prog 56 #[aEt x A c,aEt y B d] w (dV (.int .i64 (gN x.path y.path)) w):=by
 have HX:=aYl hx;have HY:=aYl hy;clear hx hy;go_enter Tryz.func56,Tryz.ntmps56;go_wp2_with fail;refine (nS x.path y.path P Q _ _ _ (HX.out.path.ext (((Ext.refl _).alloc' _).alloc' _)) (HY.out.path.ext (((Ext.refl _).alloc' _).alloc' _))).mono ?_;rintro e w1 ⟨rfl,hx1⟩;have HX1:=aYl ((((Ext.refl w).alloc' _).alloc' _).trans' hx1);clear hx1;go_wp2_with fail;go_ret;exact ⟨rfl,HX1.out⟩
def aUd (l:List GE)(p:List Int)(W:World)(s9 s10:Value)(wr:World):Prop:=∃ i j:Nat,i<=j∧j<=l.length∧s9=↑i∧s10=↑j∧Ext W wr∧(∀ k,k<i->gN (l.getD k default).path p<0)∧(∀ k,j<=k->k<l.length->0<=gN (l.getD k default).path p)
theorem aA1 {l:List GE}{p:List Int}{i:Nat}(hinc:uW l)(hi:i<=l.length)(h1:∀ k,k<i->gN (l.getD k default).path p<0)(h2:∀ k,i<=k->k<l.length->¬ gN (l.getD k default).path p<0) :
  bB p l=i∧fT p l=(decide (i<l.length) && decide (gN (l.getD i default).path p=0)):=by
 have h:=nB hinc hi h1 h2;unfold fT;rw [<- h];exact ⟨rfl,rfl⟩
theorem xH (l:List GE)(x:GE)(A:Option Addr)(c:Nat)(P Q:Nat->Prop)(v:Value)(w:World)(hl:Ens w P v l)(hx:EAt w Q x A c)(hinc:uW l)(hlen:l.length<=1000000) :
  Calls Tryz.prog 107 #[v,aEt x A c,.func (.func 56) #[] #[]] w (aFr (.int .i64 (bB x.path l)) (.bool (fT x.path l)) w):=by
 have HL:=aYl hl;have HX:=aYl hx;have HI:=aYl hinc;obtain ⟨Al,cl,el,h1,h2⟩:=Lst.form hl;subst el;clear hl hx hinc;go_enter Tryz.func107,Tryz.ntmps107;go_wp2_with fail;have HE:=aYl ((Ext.refl w).alloc' (.cells #[.slice A x.path.length c,↑x.kind,↑x.at_,↑x.code,.bool x.fresh,↑x.hits] 102));have HB:=aYl (Blk.new w 102 #[.slice A x.path.length c,↑x.kind,↑x.at_,↑x.code,.bool x.fresh,↑x.hits]);generalize w.alloc (.cells #[.slice A x.path.length c,↑x.kind,↑x.at_,↑x.code,.bool x.fresh,↑x.hits] 102)=W at *;go_loopw [9,10] (fun a b wr=>aUd l x.path W a b wr) (fun a b _=>(intOf b).toNat - (intOf a).toNat)
 case atStart=>exact ⟨0,l.length,Nat.zero_le _,Nat.le_refl _,rfl,rfl,Ext.refl _,fun k hk=>by omega,fun k hk hk'=>by omega⟩
 case round =>
  obtain ⟨i,j,hij,hj,rfl,rfl,hE,hlo,hhi⟩:=hrel;have HE1:=aYl hE;have HLO:=aYl hlo;have HHI:=aYl hhi;clear hE hlo hhi
  by_cases hlt:i<j
  ·go_upto_region 5 with fail
   obtain ⟨h,hh⟩:∃ h:Nat,((i:Int)+(j:Int)) / 2=(h:Int):=⟨(((i:Int)+(j:Int)) / 2).toNat,U⟩;have h1':i<=h:=by omega
   have h2':h<j:=U
   rw [hh];clear hh;have hhl:h<l.length:=by omega
   obtain ⟨b1,o1,A1,d1,rfl,-,hv1,hgc⟩:=(HL.out.ext (HE.out.trans' HE1.out)).get hhl;have HV1:=aYl hv1;have HMX:=aYl (HX.out.ext (HE.out.trans' HE1.out));obtain ⟨x0,x1,x2,x3,x4,x5⟩:=bY (HB.out.ext HE1.out);have HG:=aYl (show ∃ y,y=l.getD h default from ⟨_,rfl⟩);obtain ⟨y,hy⟩:=HG.out;have HY:=aYl hy;rw [<- hy] at HV1 hgc;have g10:=hgc 0 _ rfl;have g11:=hgc 1 _ rfl;have g12:=hgc 2 _ rfl;have g13:=hgc 3 _ rfl;have g14:=hgc 4 _ rfl;have g15:=hgc 5 _ rfl;rw [Nat.add_zero] at g10;clear hgc;clear hv1 hy HG;have hq0:(0:Int)<=(h:Int):=by omega
   have hq1:(h:Int)<(l.length:Int):=U
   go_still_tail 6,aa;go_wp2_with fail;refine (sB y x A1 A d1 c P Q _ (HV1.out.ext (Ext.refl _).drew') (HMX.out.ext (Ext.refl _).drew')).mono ?_;rintro e w2 ⟨rfl,hx2⟩;have HX2:=aYl (HE1.out.trans' ((Ext.refl _).drew'.trans' hx2));clear hx2
   by_cases hz:gN y.path x.path<0
   ·have HZ:=aYl hz
    go_wp2_with fail;go_roundw
    case rel=>exact ⟨h+1,j,U,hj,by go_num,rfl,HX2.out,fun k hk=>tV HI.out x.path (show k<=h by omega) hhl (by rw [<- HY.out];exact HZ.out),HHI.out⟩
    case measure=>simp [intOf];omega
   ·have HZ:=aYl hz
    go_wp2_with fail;go_roundw
    case rel=>exact ⟨i,h,h1',U,rfl,rfl,HX2.out,HLO.out,fun k hk hk'=>Int.not_lt.1 (fun hc=>absurd (show gN y.path x.path<0 by rw [HY.out];exact tV HI.out x.path hk hk' hc) (Int.not_lt.2 HZ.out))⟩
    case measure=>simp [intOf];omega
  ·obtain rfl:i=j:=by omega
   have HF:=aYl (aA1 (p:=x.path) HI.out hj HLO.out (fun k hk hk'=>Int.not_lt.2 (HHI.out k hk hk')));clear HLO HHI
   by_cases hn:i<l.length
   ·have hd:decide (i<l.length)=true:=aYo hn
    obtain ⟨b1,o1,A1,d1,rfl,-,hv1,hgc⟩:=(HL.out.ext (HE.out.trans' HE1.out)).get hn;have HF2:=aYl (show fT x.path l=decide (gN (l.getD i default).path x.path=0) by rw [HF.out.2,hd];rfl);have HMX:=aYl (HX.out.ext (HE.out.trans' HE1.out));have HV1:=aYl hv1;obtain ⟨x0,x1,x2,x3,x4,x5⟩:=bY (HB.out.ext HE1.out);generalize l.getD i default=y at *;have g10:=hgc 0 _ rfl;have g11:=hgc 1 _ rfl;have g12:=hgc 2 _ rfl;have g13:=hgc 3 _ rfl;have g14:=hgc 4 _ rfl;have g15:=hgc 5 _ rfl;rw [Nat.add_zero] at g10;clear hgc;have hq0:(0:Int)<=(i:Int):=by omega
    have hq1:(i:Int)<(l.length:Int):=U
    clear hv1;go_upto_region 8 with fail
    go_region_held3 (fun w'=>w'.cell? ⟨b1,o1+i*6,none⟩=some (.slice A1 y.path.length d1)∧w'.cell? ⟨b1,o1+i*6+1,none⟩=some (.int .i64 y.kind)∧w'.cell? ⟨b1,o1+i*6+2,none⟩=some (.int .i64 y.at_)∧w'.cell? ⟨b1,o1+i*6+3,none⟩=some (.int .i64 y.code)∧w'.cell? ⟨b1,o1+i*6+4,none⟩=some (.bool y.fresh)∧w'.cell? ⟨b1,o1+i*6+5,none⟩=some (.int .i64 y.hits)∧w'.cell? ⟨w.heap.size,0,none⟩=some (.slice A x.path.length c)∧w'.cell? ⟨w.heap.size,1,none⟩=some (.int .i64 x.kind)∧w'.cell? ⟨w.heap.size,2,none⟩=some (.int .i64 x.at_)∧w'.cell? ⟨w.heap.size,3,none⟩=some (.int .i64 x.code)∧w'.cell? ⟨w.heap.size,4,none⟩=some (.bool x.fresh)∧w'.cell? ⟨w.heap.size,5,none⟩=some (.int .i64 x.hits))
     (first
      | go_keep
      | (go_split_ands
         exact ⟨aA hx2 ‹_›,aA hx2 ‹_›,aA hx2 ‹_›,aA hx2 ‹_›,aA hx2 ‹_›,aA hx2 ‹_›,aA hx2 ‹_›,aA hx2 ‹_›,aA hx2 ‹_›,aA hx2 ‹_›,aA hx2 ‹_›,aA hx2 ‹_›⟩))
     (first
      | (go_at_call 56;refine (sB y x A1 A d1 c P Q _ (HV1.out.ext (Ext.refl _).drew') (HMX.out.ext (Ext.refl _).drew')).mono ?_;rintro e w2 ⟨rfl,hx2⟩))
    have HX2:=aYl (HE1.out.trans' ((Ext.refl _).drew'.trans' hx2));clear hx2;go_wp2_with fail;go_ret2;exact ⟨fe,HE.out.trans' HX2.out⟩
   ·have hd:decide (i<l.length)=false:=aYp hn
    have HF2:=aYl (show fT x.path l=false by rw [HF.out.2,hd];rfl);go_wp2_with fail;go_quiet (fail);go_wp2_with fail;go_ret2;exact ⟨fe,HE.out.trans' (HE1.out.trans' (Ext.drewN _ _))⟩
theorem wB (l:List GE)(x:GE)(A:Option Addr)(c:Nat)(P Q:Nat->Prop)(v:Value)(w:World)(hl:Ens w P v l)(hx:EAt w Q x A c)(hinc:uW l)(hlen:l.length<=1000000) :
  Calls Tryz.prog 55 #[v,aEt x A c,.func (.func 56) #[] #[]] w (aFr (.int .i64 (bB x.path l)) (.bool (fT x.path l)) w):=by
 have HC:=aYl (fun (W:World) (h:Ext w W)=>xH l x A c P Q v W (hl.ext h) (hx.ext h) hinc hlen);obtain ⟨Al,cl,el,h1,h2⟩:=Lst.form hl;subst el;clear hl hx hinc;go_enter Tryz.func55,Tryz.ntmps55;go_wp2_with fail;refine (HC.out _ ((Ext.refl w).alloc' _)).mono ?_;rintro e w1 ⟨rfl,hx1⟩;have HX1:=aYl (((Ext.refl w).alloc' _).trans' hx1);clear hx1;go_wp2_with fail;go_ret2;exact ⟨rfl,HX1.out⟩
theorem aBp (x:GE)(A:Option Addr)(c:Nat)(w:World)(h:x.path.length<=1000000000)(_:c<=9223372036854775807)(_:x.path.length<=c):Calls Tryz.prog 53 #[aEt x A c] w (dV (.int .i64 (wE x)) w):=by
 have HW:=aYl (show wE x=2+(x.path.length:Int) from rfl);go_enter Tryz.func53,Tryz.ntmps53;go_wp2_with fail;go_ret;exact ⟨aH HW.out.symm,(Ext.refl _).alloc' _⟩
end Go.Proofs.YtkoeecdjijfjnaaGreat
