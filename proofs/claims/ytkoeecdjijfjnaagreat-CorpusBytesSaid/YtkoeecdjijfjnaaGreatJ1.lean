/- Contracts and laws. Conditions: none. -/
import Derived.Test.YtkoeecdjijfjnaaGreatH1
import Derived.Test.YtkoeecdjijfjnaaGreatG3
set_option linter.all false
set_option maxRecDepth 100000
set_option maxHeartbeats 8000000
namespace Go.Proofs.YtkoeecdjijfjnaaGreat
theorem aA3:∀ x y,jI y x=- jI x y
 | [],[]=>rfl
 | [],_ :: _=>by simp only [jI];rfl
 | _ :: _,[]=>by simp only [jI]
 | x :: xs,y :: ys=>by
  simp only [jI];exact kK (nP x y) (aA3 xs ys)
theorem aA2:∀ x y,jI x y=0->x=y
 | [],[],_=>rfl
 | [],_ :: _,h=>by simp only [jI] at h;omega
 | _ :: _,[],h=>by simp only [jI] at h;omega
 | x :: xs,y :: ys,h=>by
  simp only [jI] at h;obtain ⟨h1,h2⟩:=kJ h;rw [cX h1,aA2 xs ys h2]
theorem aIo:∀ x y z,jI x y<0->jI y z<0->jI x z<0
 | [],[],_,h,_=>by simp only [jI] at h;omega
 | [],_ :: _,[],_,h=>by simp only [jI] at h;omega
 | [],_ :: _,_ :: _,_,_=>by simp only [jI];omega
 | _ :: _,[],_,h,_=>by simp only [jI] at h;omega
 | _ :: _,_ :: _,[],_,h=>by simp only [jI] at h;omega
 | x :: xs,y :: ys,z :: zs,h,k=>by
  simp only [jI] at h k ⊢;rw [lS] at h k ⊢;rcases h with h | ⟨e,h⟩ <;> rcases k with k | ⟨e',k⟩
  ·exact .inl (fK.2 (by have:=fK.1 h;have:=fK.1 k;omega))
  ·exact .inl (by rw [<- cX e'];exact h)
  ·exact .inl (by rw [cX e];exact k)
  ·exact .inr ⟨by rw [cX e];exact e',aIo xs ys zs h k⟩
theorem tE (x y):fC y x=- fC x y:=kK (nP _ _) (aA3 x y)
theorem nN {x y}(h:fC x y=0):x=y:=aA2 x y (kJ h).2
theorem yC {x y z}(h:fC x y<0)(k:fC y z<0):fC x z<0:=by
 unfold fC at h k ⊢;rw [lS] at h k ⊢;rcases h with h | ⟨e,h⟩ <;> rcases k with k | ⟨e',k⟩
 ·exact .inl (fK.2 (by have:=fK.1 h;have:=fK.1 k;omega))
 ·exact .inl (by rw [<- cX e'];exact h)
 ·exact .inl (by rw [cX e];exact k)
 ·exact .inr ⟨by rw [cX e];exact e',aIo x y z h k⟩
theorem nO (x):fC x x=0:=by have:=tE x x;omega
def ltP (x y:List Int):Prop:=fC x y<0
theorem ltP.tr {x y z}(h:ltP x y)(k:ltP y z):ltP x z:=yC h k
theorem aP6 (x y):ltP x y∨x=y∨ltP y x:=by
 unfold ltP;have:=tE x y;rcases Int.lt_trichotomy (fC x y) 0 with h | h | h
 ·exact .inl h
 ·exact .inr (.inl (nN h))
 ·exact .inr (.inr I)
abbrev aGc (l:List (List Int)):Prop:=l.Pairwise ltP
def yS (x:List Int):List (List Int)->List (List Int)
 | []=>[x]
 | y :: ys=>if fC y x<0 then y :: yS x ys else if fC y x=0 then y :: ys else x :: y :: ys
theorem xH (x):∀ l z,z ∈ yS x l ↔ z=x∨z ∈ l
 | [],z=>by simp [yS]
 | y :: ys,z=>by
  simp only [yS];split
  ·simp only [ao,xH x ys z]
   constructor
   ·rintro (h | h | h) <;> simp [h]
   ·rintro (h | h | h) <;> simp [h]
  ·split
   ·next h=>rw [nN h];simp
   ·simp
theorem qJ (x):∀ {l},aGc l->aGc (yS x l)
 | [],_=>by simp [yS]
 | y :: ys,h=>by
  have h':=List.pairwise_cons.1 h;simp only [yS];split
  ·next hlt =>
   refine List.pairwise_cons.2 ⟨fun z hz=>?_,qJ x h'.2⟩;rcases (xH x ys z).1 hz with rfl | hz
   ·exact hlt
   ·exact h'.1 z hz
  ·split
   ·exact h
   ·next h1 h2 =>
    have hxy:ltP x y:=by
     rcases aP6 x y with k | k | k
     ·exact k
     ·exact absurd (by rw [k];exact nO y) h2
     ·exact absurd k h1
    refine List.pairwise_cons.2 ⟨fun z hz=>?_,h⟩;rcases ao.1 hz with rfl | hz
    ·exact hxy
    ·exact hxy.tr (h'.1 z hz)
def gV:Int->List (List Int)->List (List Int)
 | _,[]=>[]
 | b,y :: ys=>if 2+(y:Int)<=b then y :: gV (b - (2+(y:Int))) ys else []
def aBz:List (List Int)->Int
 | []=>0
 | y :: ys=>2+(y:Int)+aBz ys
theorem lL:∀ l,0<=aBz l
 | []=>by simp [aBz]
 | y :: ys=>by have:=lL ys;simp only [aBz];omega
def aMl (ok:List Int->Bool):List (List Int)->List (List Int)->List (List Int)
 | Q,[]=>Q
 | Q,x :: xs=>aMl ok (if ok x then yS x Q else Q) xs
end Go.Proofs.YtkoeecdjijfjnaaGreat
namespace Go.Proofs.YtkoeecdjijfjnaaGreat
open Go.RowKit
structure GE where
 path:List Int
 kind:Int
 at_:Int
 code:Int
 fresh:Bool
 hits:Int
instance:Inhabited GE:=⟨⟨[],0,0,0,false,0⟩⟩
def wE (e:GE):Int:=2+(e.path:Int)
def bC:List GE->Int
 | []=>0
 | e :: es=>wE e+bC es
def aZ (p:List Int):List GE->Nat
 | []=>0
 | e :: es=>if fC e.path p<0 then aZ p es+1 else 0
def gE (p:List Int)(L:List GE):Bool:=decide (aZ p L<L) && decide (fC (L.getD (aZ p L) default).path p=0)
def aO (e x:GE):GE:={ e with hits:=wrap64 (e.hits+x.hits),fresh:=e.fresh || x.fresh }
def cY (L:List GE)(x:GE):List GE :=
 if gE x.path L then L.set (aZ x.path L) (aO (L.getD (aZ x.path L) default) x) else L.take (aZ x.path L) ++ x :: L.drop (aZ x.path L)
def fB:Nat->Nat->List GE->Nat
 | _,k,[]=>k
 | i,k,e :: es=>fB (i+1) (if e.fresh then k else i) es
def nJ (L:List GE):Nat:=fB 0 (L.length - 1) L
def aCt (b:Int):Nat->List GE->List GE
 | 0,L=>L
 | n+1,L=>if b<bC L∨256<L.length then aCt b n (L.eraseIdx (nJ L)) else L
def vF (b:Int)(L:List GE):List GE:=aCt b L L
def lB (ok:List Int->Bool)(b:Int)(L:List GE)(x:GE):List GE :=
 if ok x.path then (if gE x.path L then cY L x else vF b (cY L x)) else L
def tO (ok:List Int->Bool)(b:Int)(L:List GE)(x:GE):Bool :=
 if ok x.path then (if gE x.path L then false else gE x.path (vF b (cY L x))) else false
def yU (ok:List Int->Bool)(x:GE):Int:=if ok x.path then 0 else 11
def mU:List GE->GE->List GE
 | [],x=>[x]
 | e :: es,x=>if fC e.path x.path<0 then e :: mU es x else if fC e.path x.path=0 then aO e x :: es else x :: e :: es
theorem mX (p):∀ L,aZ p L<=L
 | []=>by simp [aZ]
 | e :: es=>by have:=mX p es;simp only [aZ];split <;> simp <;> omega
theorem aLv {p e es}(h:fC e.path p<0):aZ p (e :: es)=aZ p es+1:=by simp only [aZ];rw [if_pos h]
theorem aLw {p e es}(h:¬ fC e.path p<0):aZ p (e :: es)=0:=by simp only [aZ];rw [if_neg h]
theorem kL:∀ L x,cY L x=mU L x
 | [],x=>by simp [cY,mU,gE,aZ]
 | e :: es,x=>by
  have ih:=kL es x;simp only [mU];unfold cY gE at ih ⊢;by_cases h1:fC e.path x.path<0
  ·have hf:=aLv (es:=es) h1
   generalize aZ x.path (e :: es)=k at *;subst hf;rw [if_pos h1,<- ih];simp only [ai,List.getD_cons_succ,List.set_cons_succ,List.take_succ_cons,List.drop_succ_cons,Nat.add_lt_add_iff_right];split <;> simp
  ·have hf:=aLw (es:=es) h1
   generalize aZ x.path (e :: es)=k at *;subst hf;rw [if_neg h1];by_cases h2:fC e.path x.path=0
   ·rw [if_pos h2]
    simp [h2]
   ·rw [if_neg h2]
    simp [h2]
theorem sD:∀ L x,(mU L x).map GE.path=yS x.path (L.map GE.path)
 | [],x=>rfl
 | e :: es,x=>by
  simp only [mU,List.map_cons,yS];split
  ·simp [sD es x]
  ·split
   ·rfl
   ·rfl
theorem uT (L x):(cY L x).map GE.path=yS x.path (L.map GE.path):=by rw [kL,sD]
abbrev mB (L:List GE):Prop:=aGc (L.map GE.path)
theorem mB.join {L}(h:mB L)(x):mB (cY L x):=by unfold mB;rw [uT];exact qJ _ h
theorem aAu (p):∀ L k,k<aZ p L->fC (L.getD k default).path p<0
 | [],k,h=>by simp [aZ] at h
 | e :: es,k,h=>by
  simp only [aZ] at h;split at h
  ·next hlt =>
   cases k with
   | zero=>exact hlt
   | succ k=>exact aAu p es k I
  ·omega
theorem uV {p}:∀ {L},mB L->∀ k,aZ p L<=k->k<L->¬ fC (L.getD k default).path p<0
 | [],_,k,_,h=>by simp at h
 | e :: es,hi,k,h1,h2=>by
  have hi':=List.pairwise_cons.1 hi;simp only [aZ] at h1;split at h1
  ·cases k with
   | zero=>omega
   | succ k=>exact uV hi'.2 k I i2
  ·next hn =>
   cases k with
   | zero=>exact hn
   | succ k =>
    intro hk;apply hn;have hk2:k<es:=i2
    have hm:es.getD k default ∈ es:=by
     have h3:es.getD k default=es[k]:=by simp [hk2]
     rw [h3];exact List.getElem_mem hk2
    exact yC (hi'.1 _ (List.mem_map.2 ⟨es.getD k default,hm,rfl⟩)) hk
theorem oQ {p L}(hi:mB L){k:Nat}(hk:k<=L)(h1:∀ j,j<k->fC (L.getD j default).path p<0)(h2:∀ j,k<=j->j<L.length->¬ fC (L.getD j default).path p<0):k=aZ p L:=by
 rcases Nat.lt_trichotomy k (aZ p L) with h | h | h
 ·have:=mX p L
  exact absurd (aAu p L k h) (h2 k (ab _) I)
 ·exact h
 ·exact absurd (h1 _ h) (uV hi _ (ab _) I)
theorem aAm {L}(hi:mB L){i j:Nat}(hij:i<j)(hj:j<L):fC (L.getD i default).path (L.getD j default).path<0:=by
 have:=List.pairwise_iff_getElem.1 hi i j bh jo hij;have h1:L.getD i default=L[i]:=by simp [show i<L by omega]
 have h2:L.getD j default=L[j]:=by simp [hj]
 rw [h1,h2]
 simpa [ltP] using this
theorem xI {L}(hi:mB L)(p){i j:Nat}(hij:i<=j)(hj:j<L)(h:fC (L.getD j default).path p<0):fC (L.getD i default).path p<0:=by
 rcases Nat.eq_or_lt_of_le hij with rfl | hij
 ·exact h
 ·exact yC (aAm hi hij hj) h
theorem aDp {p L}(h:gE p L=true):p ∈ L.map GE.path:=by
 unfold gE at h;simp only [Bool.and_eq_true,decide_eq_true_eq] at h;refine List.mem_map.2 ⟨L.getD (aZ p L) default,?_,nN h.2⟩;have:L.getD (aZ p L) default=L[aZ p L]:=by simp [h.1]
 rw [this];exact List.getElem_mem _
theorem kD:∀ L,bC L=aBz (L.map GE.path)
 | []=>rfl
 | e :: es=>by simp only [bC,List.map_cons,aBz,wE,kD es]
theorem yI (L):0<=bC L:=by rw [kD];exact lL _
theorem vC:∀ (L:List GE)(i k n:Nat),k<n->i+L<=n->fB i k L<n
 | [],i,k,n,h,_=>by simp only [fB];exact h
 | e :: es,i,k,n,h,h2=>by
  simp only [ai] at h2;simp only [fB];refine vC es (i+1) _ n ?_ I;split <;> omega
theorem yA {L}(h:0<L.length):nJ L<L:=vC L 0 _ _ I I
def aJw (f:Bool)(L:List GE):Prop:=∀ e ∈ L,e.fresh=f
theorem sE:∀ L x,(mU L x).length<=L+1
 | [],x=>by simp [mU]
 | e :: es,x=>by have:=sE es x;simp only [mU];split <;> (try split) <;> simp <;> omega
structure aMx (ok:List Int->Bool)(b:Int)(f:Bool)(ps:List (List Int))(L:List GE):Prop where
 paths:L.map GE.path=gV b (aMl ok [] ps)
 all:aJw f L
 len:L.length<=ps
end Go.Proofs.YtkoeecdjijfjnaaGreat
namespace Go.Proofs.YtkoeecdjijfjnaaGreat
open Go.RowKit
structure EAt (w:World)(P:Nat->Prop)(e:GE)(A:Option Addr)(c:Nat):Prop where
 path:Ints w P (.slice A e.path c) e.path
 kind:I64 e.kind
 at_:I64 e.at_
 code:I64 e.code
 hits:I64 e.hits
def aV (e:GE)(A:Option Addr)(c:Nat):List Value:=[.slice A e.path c,e.kind,e.at_,e.code,e.fresh,e.hits]
abbrev aD6 (e:GE)(A:Option Addr)(c:Nat):Value:=.agg #[.slice A e.path c,e.kind,e.at_,e.code,e.fresh,e.hits]
def REn (w:World)(P:Nat->Prop)(e:GE)(cs:List Value):Prop:=∃ A c,cs=aV e A c∧EAt w P e A c
section
variable {w w':World}{P Q:Nat->Prop}
theorem EAt.carry {e A c}(h:EAt w P e A c)(hk:aB P w w')(hPQ:∀ b,b<w.heap.size->P b->Q b):EAt w' Q e A c:=⟨h.path.carry hk hPQ,h.kind,h.at_,h.code,h.hits⟩
theorem EAt.ext {e A c}(h:EAt w P e A c)(hx:Ext w w'):EAt w' P e A c:=h.carry (aB.of_ext hx) (fun _ _ h=>h)
theorem eN:aJl 6 REn:=⟨fun _ _ _ _ h=>by obtain ⟨A,c,rfl,_⟩:=h;rfl,fun _ _ _ _ _ _ h hk hPQ=>by obtain ⟨A,c,e,h⟩:=h;exact ⟨A,c,e,h.carry hk hPQ⟩⟩
end
def Ens (w:World)(P:Nat->Prop)(v:Value)(L:List GE):Prop:=Lst w P 6 (REn w P) v L
section
variable {w w':World}{P Q:Nat->Prop}
theorem Ens.carry {v L}(h:Ens w P v L)(hk:aB P w w')(hPQ:∀ b,b<w.heap.size->P b->Q b):Ens w' Q v L:=Lst.carry h I hk hPQ (fun x _ cs hx=>eN.carry _ _ _ _ _ _ hx hk hPQ)
theorem Ens.ext {v L}(h:Ens w P v L)(hx:Ext w w'):Ens w' P v L:=h.carry (aB.of_ext hx) (fun _ _ h=>h)
theorem Ens.get {A n c L}(h:Ens w P (.slice A n c) L){i:Nat}(hi:i<L):∃ b off A' d,A=some ↑(qt b off)∧P b∧EAt w P (L.getD i default) A' d∧(∀ j u,(aV (L.getD i default) A' d)[j]?=some u->qc w b (off+i*6+j) u):=by
 obtain ⟨b,off,c',cs,e,hb,_,_,⟨A',d,rfl,hv⟩,hc⟩:=Lst.at_ (eN.len w P) h default hi;injection e with e _ _;exact ⟨b,off,A',d,e,hb,hv,hc⟩
end
theorem bZ {w g t u0 u1 u2 u3 u4 u5}(h:Blk w g t #[u0,u1,u2,u3,u4,u5]):qc w g 0 u0∧qc w g 1 u1∧qc w g 2 u2∧qc w g 3 u3∧qc w g 4 u4∧qc w g 5 u5:=⟨h.cell' 0 rfl,h.cell' 1 rfl,h.cell' 2 rfl,h.cell' 3 rfl,h.cell' 4 rfl,h.cell' 5 rfl⟩
theorem pC (x y A B c d P Q w)(hx:EAt w P x A c)(hy:EAt w Q y B d) :
  qg 56 #[aD6 x A c,aD6 y B d] w (dI (.int .i64 (fC x.path y.path)) w):=by
 have HX:=a4b hx;have HY:=a4b hy;clear hx hy;go_enter Tryz.func56,Tryz.ntmps56;go_wp2_with fail;refine (pU x.path y.path P Q _ _ _ (HX.out.path.ext (((aq _).alloc' _).alloc' _)) (HY.out.path.ext (((aq _).alloc' _).alloc' _))).mono ?_;rintro e w1 ⟨rfl,hx1⟩;have HX1:=a4b ((((aq w).alloc' _).alloc' _).trans' hx1);clear hx1;go_wp2_with fail;go_ret;exact ⟨rfl,HX1.out⟩
def aZz (l:List GE)(p:List Int)(W:World)(s9 s10:Value)(wr:World):Prop:=∃ i j:Nat,i<=j∧j<=l.length∧s9=↑i∧s10=↑j∧Ext W wr∧(∀ k,k<i->fC (l.getD k default).path p<0)∧(∀ k,j<=k->k<l.length->0<=fC (l.getD k default).path p)
theorem aD0 {l p}{i:Nat}(hinc:mB l)(hi:i<=l)(h1:∀ k,k<i->fC (l.getD k default).path p<0)(h2:∀ k,i<=k->k<l.length->¬ fC (l.getD k default).path p<0) :
  aZ p l=i∧gE p l=(decide (i<l) && decide (fC (l.getD i default).path p=0)):=by
 have h:=oQ hinc hi h1 h2;unfold gE;rw [<- h];exact ⟨rfl,rfl⟩
theorem aA7 (l x A c P Q v w)(hl:Ens w P v l)(hx:EAt w Q x A c)(hinc:mB l)(hlen:l.length<=1000000000) :
  qg 107 #[v,aD6 x A c,.func (.func 56) #[] #[]] w (aC0 (.int .i64 (aZ x.path l)) (gE x.path l) w):=by
 have HL:=a4b hl;have HX:=a4b hx;have HI:=a4b hinc;obtain ⟨Al,cl,el,h1,h2⟩:=Lst.form hl;subst el;clear hl hx hinc;go_enter Tryz.func107,Tryz.ntmps107;go_wp2_with fail;have HE:=a4b ((aq w).alloc' (qk #[.slice A x.path c,x.kind,x.at_,x.code,x.fresh,x.hits] 102));have HB:=a4b (aw w 102 #[.slice A x.path c,x.kind,x.at_,x.code,x.fresh,x.hits]);generalize w.alloc (qk #[.slice A x.path c,x.kind,x.at_,x.code,x.fresh,x.hits] 102)=W at *;go_loopw [9,10] (fun a b wr=>aZz l x.path W a b wr) (fun a b _=>(intOf b).toNat - (intOf a).toNat)
 case atStart=>exact ⟨0,l.length,af _,ab _,rfl,rfl,aq _,fun k hk=>by omega,fun k hk hk'=>by omega⟩
 case round =>
  obtain ⟨i,j,hij,hj,rfl,rfl,hE,hlo,hhi⟩:=hrel;have HE1:=a4b hE;have HLO:=a4b hlo;have HHI:=a4b hhi;clear hE hlo hhi;by_cases hlt:i<j
  ·go_upto_region 5 with fail
   obtain ⟨h,hh⟩:∃ h:Nat,((i:Int)+(j:Int)) / 2=(h:Int):=⟨(((i:Int)+(j:Int)) / 2).toNat,I⟩;have h1':i<=h:=by omega
   have h2':h<j:=I;rw [hh];clear hh;have hhl:h<l.length:=by omega
   obtain ⟨b1,o1,A1,d1,rfl,-,hv1,hgc⟩:=(HL.out.ext (HE.out.trans' HE1.out)).get hhl;have HV1:=a4b hv1;have HMX:=a4b (HX.out.ext (HE.out.trans' HE1.out));obtain ⟨x0,x1,x2,x3,x4,x5⟩:=bZ (HB.out.ext HE1.out);have HG:=a4b (show ∃ y,y=l.getD h default from ⟨_,rfl⟩);obtain ⟨y,hy⟩:=HG.out;have HY:=a4b hy;rw [<- hy] at HV1 hgc;have g10:=hgc 0 _ rfl;have g11:=hgc 1 _ rfl;have g12:=hgc 2 _ rfl;have g13:=hgc 3 _ rfl;have g14:=hgc 4 _ rfl;have g15:=hgc 5 _ rfl;rw [Nat.add_zero] at g10;clear hgc;clear hv1 hy HG;have hq0:(0:Int)<=(h:Int):=by omega
   have hq1:(h:Int)<(l:Int):=I
   go_still_tail 6,U;go_wp2_with fail;refine (pC y x A1 A d1 c P Q _ (HV1.out.ext (aq _).drew') (HMX.out.ext (aq _).drew')).mono ?_;rintro e w2 ⟨rfl,hx2⟩;have HX2:=a4b (HE1.out.trans' ((aq _).drew'.trans' hx2));clear hx2;by_cases hz:fC y.path x.path<0
   ·have HZ:=a4b hz
    go_wp2_with fail;go_roundw
    case rel=>exact ⟨h+1,j,I,hj,by go_num,rfl,HX2.out,fun k hk=>xI HI.out x.path (show k<=h by omega) hhl (by rw [<- HY.out];exact HZ.out),HHI.out⟩
    case measure=>simp [intOf];omega
   ·have HZ:=a4b hz
    go_wp2_with fail;go_roundw
    case rel=>exact ⟨i,h,h1',I,rfl,rfl,HX2.out,HLO.out,fun k hk hk'=>Int.not_lt.1 (fun hc=>absurd (show fC y.path x.path<0 by rw [HY.out];exact xI HI.out x.path hk hk' hc) (Int.not_lt.2 HZ.out))⟩
    case measure=>simp [intOf];omega
  ·obtain rfl:i=j:=by omega
   have HF:=a4b (aD0 (p:=x.path) HI.out hj HLO.out (fun k hk hk'=>Int.not_lt.2 (HHI.out k hk hk')));clear HLO HHI;by_cases hn:i<l
   ·have hd:decide (i<l)=true:=a4e hn
    obtain ⟨b1,o1,A1,d1,rfl,-,hv1,hgc⟩:=(HL.out.ext (HE.out.trans' HE1.out)).get hn;have HF2:=a4b (show gE x.path l=decide (fC (l.getD i default).path x.path=0) by rw [HF.out.2,hd];rfl);have HMX:=a4b (HX.out.ext (HE.out.trans' HE1.out));have HV1:=a4b hv1;obtain ⟨x0,x1,x2,x3,x4,x5⟩:=bZ (HB.out.ext HE1.out);generalize l.getD i default=y at *;have g10:=hgc 0 _ rfl;have g11:=hgc 1 _ rfl;have g12:=hgc 2 _ rfl;have g13:=hgc 3 _ rfl;have g14:=hgc 4 _ rfl;have g15:=hgc 5 _ rfl;rw [Nat.add_zero] at g10;clear hgc;have hq0:(0:Int)<=(i:Int):=by omega
    have hq1:(i:Int)<(l:Int):=I;clear hv1;go_upto_region 8 with fail
    go_region_held3 (fun w'=>qc w' b1 (o1+i*6) (.slice A1 y.path d1)∧qc w' b1 (o1+i*6+1) y.kind∧qc w' b1 (o1+i*6+2) y.at_∧qc w' b1 (o1+i*6+3) y.code∧qc w' b1 (o1+i*6+4) y.fresh∧qc w' b1 (o1+i*6+5) y.hits∧qc w' w 0 (.slice A x.path c)∧qc w' w 1 x.kind∧qc w' w 2 x.at_∧qc w' w 3 x.code∧qc w' w 4 x.fresh∧qc w' w 5 x.hits)
     (first
      | go_keep
      | (go_split_ands
         exact ⟨aA hx2 ‹_›,aA hx2 ‹_›,aA hx2 ‹_›,aA hx2 ‹_›,aA hx2 ‹_›,aA hx2 ‹_›,aA hx2 ‹_›,aA hx2 ‹_›,aA hx2 ‹_›,aA hx2 ‹_›,aA hx2 ‹_›,aA hx2 ‹_›⟩))
     (first
      | (go_at_call 56;refine (pC y x A1 A d1 c P Q _ (HV1.out.ext (aq _).drew') (HMX.out.ext (aq _).drew')).mono ?_;rintro e w2 ⟨rfl,hx2⟩))
    have HX2:=a4b (HE1.out.trans' ((aq _).drew'.trans' hx2));clear hx2;go_wp2_with fail;go_ret2;exact ⟨gq,HE.out.trans' HX2.out⟩
   ·have hd:decide (i<l)=false:=a4f hn
    have HF2:=a4b (show gE x.path l=false by rw [HF.out.2,hd];rfl);go_wp2_with fail;go_quiet (fail);go_wp2_with fail;go_ret2;exact ⟨gq,HE.out.trans' (HE1.out.trans' (Ext.drewN _ _))⟩
theorem aAa (l x A c P Q v w)(hl:Ens w P v l)(hx:EAt w Q x A c)(hinc:mB l)(hlen:l.length<=1000000000) :
  qg 55 #[v,aD6 x A c,.func (.func 56) #[] #[]] w (aC0 (.int .i64 (aZ x.path l)) (gE x.path l) w):=by
 have HC:=a4b (fun (W:World) (h:Ext w W)=>aA7 l x A c P Q v W (hl.ext h) (hx.ext h) hinc hlen);obtain ⟨Al,cl,el,h1,h2⟩:=Lst.form hl;subst el;clear hl hx hinc;go_enter Tryz.func55,Tryz.ntmps55;go_wp2_with fail;refine (HC.out _ ((aq w).alloc' _)).mono ?_;rintro e w1 ⟨rfl,hx1⟩;have HX1:=a4b (((aq w).alloc' _).trans' hx1);clear hx1;go_wp2_with fail;go_ret2;exact ⟨rfl,HX1.out⟩
theorem aEv (x A c w)(h:x.path.length<=1000000000)(h2:c<=9223372036854775807)(h3:x.path<=c):qg 53 #[aD6 x A c] w (dI (.int .i64 (wE x)) w):=by
 have HW:=a4b (show wE x=2+(x.path:Int) from rfl);go_enter Tryz.func53,Tryz.ntmps53;go_wp2_with fail;go_ret;exact ⟨aI HW.out.symm,(aq _).alloc' _⟩
end Go.Proofs.YtkoeecdjijfjnaaGreat
