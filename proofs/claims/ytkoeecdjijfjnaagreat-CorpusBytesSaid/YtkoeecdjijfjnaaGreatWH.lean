/- Contracts and laws. Conditions: none. -/
import Derived.Laws.BytesArg
import Derived.Test.YtkoeecdjijfjnaaGreatMA
import Derived.Test.YtkoeecdjijfjnaaGreatED
import Derived.Test.YtkoeecdjijfjnaaGreatR1
set_option linter.all false
set_option maxRecDepth 100000
set_option maxHeartbeats 8000000
namespace Go.Proofs.YtkoeecdjijfjnaaGreat
def oB (n:Nat):List Int:=if n<128 then [(n:Int)] else ((n % 128+128:Nat):Int) :: oB (n / 128)
termination_by n
decreasing_by omega
def zig (n:Int):Nat:=if n<0 then (-(2*n+1)).toNat else (2*n).toNat
def zag (z:Nat):Int:=if z % 2=1 then -(z / 2:Nat) - 1 else (z / 2:Nat)
def fE (n:Int):List Int:=oB (zig n)
def aQl (b:Bool):List Int:=[if b then 1 else 0]
def lJ (l:List Int):List Int:=oB l.length ++ l
def nF (l:List Int):List Int:=oB l.length ++ l.flatMap fE
def oS {α:Type}(f:α->List Int)(l:List α):List Int:=fE l.length ++ l.flatMap f
def Byt (l:List Int):Prop:=∀ x ∈ l,0<=x∧x<256
abbrev Dec (α:Type):Type:=List Int->Option (α × List Int)
def nH:List Int->Nat->Option (Nat × List Int)
 | [],_=>none
 | b :: l,i=>if (i=9∧1<b)∨(0<i∧b=0) then none else if b<128 then some (b.toNat,l) else (nH l (i+1)).map fun x=>(b.toNat % 128+128*x.1,x.2)
def sX:Dec Nat:=fun l=>nH l 0
def eD:Dec Int:=fun l=>(sX l).map fun x=>(zag x.1,x.2)
def aGf:Dec Bool
 | []=>none
 | b :: l=>if 1<b then none else some (b == 1,l)
def qQ:Dec (List Int):=fun l=>(sX l).bind fun x=>if x.2.length<x.1 then none else some (x.2.take x.1,x.2.drop x.1)
def iR {α:Type}(d:Dec α):Nat->Dec (List α)
 | 0,l=>some ([],l)
 | n+1,l=>(d l).bind fun x=>(iR d n x.2).map fun y=>(x.1 :: y.1,y.2)
def kC:Dec (List Int):=fun l=>(sX l).bind fun x=>if x.2.length<x.1 then none else iR eD x.1 x.2
def oC {α:Type}(m:Nat)(d:Dec α):Dec (List α):=fun l=>(eD l).bind fun x=>if x.1<0∨m<x.1 then none else iR d x.1.toNat x.2
def mC {α:Type}(d:Dec α)(f:α->List Int)(G:α->Prop):Prop:=∀ l x r,Byt l->d l=some (x,r)->l=f x ++ r∧G x
def nZ {α:Type}(d:Dec α)(f:α->List Int)(x:α):Prop:=∀ r,d (f x ++ r)=some (x,r)
theorem aN4 (z):zig (zag z)=z:=by unfold zig zag;split <;> split <;> omega
theorem aN5 (n):zag (zig n)=n:=by unfold zig zag;split <;> split <;> omega
theorem aRp (z)(h:z<18446744073709551616):-9223372036854775808<=zag z∧zag z<=9223372036854775807:=by unfold zag;split <;> omega
theorem aGj (n)(h:-9223372036854775808<=n∧n<=9223372036854775807):zig n<18446744073709551616:=by unfold zig;split <;> omega
theorem Byt.tail {b l}(h:Byt (b :: l)):Byt l:=fun x hx=>h x (List.mem_cons_of_mem _ hx)
theorem Byt.drop {n l}(h:Byt l):Byt (l.drop n):=fun x hx=>h x (List.mem_of_mem_drop hx)
theorem Byt.app {l m}:Byt (l ++ m) ↔ Byt l∧Byt m:=by unfold Byt;simp only [ap];exact ⟨fun h=>⟨fun x hx=>h x (.inl hx),fun x hx=>h x (.inr hx)⟩,fun h x hx=>hx.elim (h.1 x) (h.2 x)⟩
theorem dM {n}(h:n<128):oB n=[(n:Int)]:=by rw [oB,if_pos h]
theorem iZ {n}(h:¬ n<128):oB n=((n % 128+128:Nat):Int) :: oB (n / 128):=by rw [oB,if_neg h]
theorem xY:∀ n,Byt (oB n):=by
 intro n
 induction n using Nat.strongRecOn with
 | _ n ih =>
  by_cases h:n<128
  ·rw [dM h];intro x hx;simp at hx;omega
  ·rw [iZ h];intro x hx
   rcases ao.1 hx with rfl | hx
   ·omega
   ·exact ih (n / 128) I x hx
theorem aHd (i):128 ^ (i+1)=128*128 ^ i:=by rw [Nat.pow_succ,Nat.mul_comm]
def zO:Nat->Nat
 | 0=>2
 | k+1=>128*zO k
theorem aDd:∀ k,2<=zO k
 | 0=>by simp [zO]
 | k+1=>by have:=aDd k;simp only [zO];omega
theorem sW:∀ l k n r,Byt l->k<=9->nH l (9 - k)=some (n,r)->l=oB n ++ r∧n<zO k∧(k<9->0<n)
 | [],k,n,r,_,_,h=>by simp [nH] at h
 | b :: l,k,n,r,hb,hk,h=>by
  have h0:=hb b (List.mem_cons_self ..);rw [nH] at h;split at h
  ·simp at h
  rename_i h1;split at h
  ·rename_i h2
   obtain ⟨rfl,rfl⟩:=Prod.mk.inj (Option.some.inj h);rw [dM I];refine ⟨bh,?_,?_⟩
   ·rcases k with _ | k
    ·simp only [zO];omega
    ·have:=aDd k
     simp only [zO];omega
   ·intro hk9;omega
  ·rename_i h2
   have hk0:k ≠ 0:=I;obtain ⟨k,rfl⟩:=Nat.exists_eq_succ_of_ne_zero hk0;rw [show 9 - (k+1)+1=9 - k by omega] at h;cases h3:nH l (9 - k) with
   | none=>rw [h3] at h;simp at h
   | some x =>
    obtain ⟨m,q⟩:=x;rw [h3] at h;obtain ⟨rfl,rfl⟩:=Prod.mk.inj (Option.some.inj h);obtain ⟨h4,h5,h6⟩:=sW l k m q hb.tail I h3;have h7:=h6 I;dsimp only;rw [iZ I];refine ⟨?_,by simp only [zO];omega,fun _=>by omega⟩;rw [show (b.toNat % 128+128*m) / 128=m by omega,show (b.toNat % 128+128*m) % 128=b.toNat % 128 by omega,h4];simp;omega
theorem aOf:zO 9=18446744073709551616:=cq
theorem sV:∀ k n r,k<=9->n<zO k->(k<9->0<n)->nH (oB n ++ r) (9 - k)=some (n,r)
 | 0,n,r,_,h,h'=>by
  have:=h' I;simp only [zO] at h;rw [dM I,List.cons_append,nH,if_neg I,if_pos I];simp
 | k+1,n,r,hk,h,h'=>by
  by_cases h1:n<128
  ·rw [dM h1,List.cons_append,nH,if_neg I,if_pos I]
   simp
  ·rw [iZ h1,List.cons_append,nH,if_neg I,if_neg I,show 9 - (k+1)+1=9 - k by omega,sV k (n / 128) r I (by simp only [zO] at h;omega) I]
   simp;omega
theorem kO {l n r}(hl:Byt l)(h:sX l=some (n,r)):l=oB n ++ r∧n<18446744073709551616:=by
 obtain ⟨h1,h2,-⟩:=sW l 9 n r hl I h;rw [aOf] at h2;exact ⟨h1,h2⟩
theorem oV {n}(h:n<18446744073709551616):nZ sX oB n:=fun r=>sV 9 n r I (by rw [aOf];exact h) I
theorem bU:mC eD fE (fun n=>-9223372036854775808<=n∧n<=9223372036854775807):=by
 intro l x r hl h;unfold eD at h;cases h1:sX l with
 | none=>rw [h1] at h;simp at h
 | some y =>
  obtain ⟨z,q⟩:=y;rw [h1] at h;obtain ⟨rfl,rfl⟩:=Prod.mk.inj (Option.some.inj h);obtain ⟨h2,h3⟩:=kO hl h1;exact ⟨by unfold fE;rw [aN4];exact h2,aRp z h3⟩
theorem cE {n}(h:-9223372036854775808<=n∧n<=9223372036854775807):nZ eD fE n:=fun r=>by
 unfold eD fE;rw [oV (aGj n h) r];simp [aN5]
theorem aFz:mC aGf aQl (fun _=>True):=by
 intro l x r hl h;cases l with
 | nil=>simp [aGf] at h
 | cons b l =>
  have h0:=hl b (List.mem_cons_self ..);rw [aGf] at h;split at h
  ·simp at h
  ·obtain ⟨rfl,rfl⟩:=Prod.mk.inj (Option.some.inj h)
   refine ⟨?_,trivial⟩;have:b=0∨b=1:=by omega
   rcases this with rfl | rfl <;> rfl
theorem aFy (b):nZ aGf aQl b:=fun r=>by cases b <;> rfl
theorem oY:mC qQ lJ Byt:=by
 intro l x r hl h;unfold qQ at h;cases h1:sX l with
 | none=>rw [h1] at h;simp at h
 | some y =>
  obtain ⟨z,q⟩:=y;rw [h1] at h;simp only [aj] at h;split at h
  ·simp at h
  ·obtain ⟨rfl,rfl⟩:=Prod.mk.inj (Option.some.inj h)
   obtain ⟨h2,h3⟩:=kO hl h1;rw [h2,Byt.app] at hl;refine ⟨?_,fun x hx=>hl.2 x (List.mem_of_mem_take hx)⟩;unfold lJ;rw [ak,Nat.min_eq_left I,ah,List.take_append_drop];exact h2
theorem uZ {l}(h:l.length<18446744073709551616):nZ qQ lJ l:=fun r=>by
 unfold qQ lJ;rw [ah,oV h];simp
theorem kQ {α}{d:Dec α}{f G}(hd:mC d f G):∀ n,mC (iR d n) (fun l=>l.flatMap f) (fun l=>l.length=n∧∀ x ∈ l,G x)
 | 0,l,x,r,_,h=>by
  obtain ⟨rfl,rfl⟩:=Prod.mk.inj (Option.some.inj h);exact ⟨rfl,rfl,O⟩
 | n+1,l,x,r,hl,h=>by
  rw [iR] at h;cases h1:d l with
  | none=>rw [h1] at h;simp at h
  | some y =>
   rw [h1] at h;simp only [aj] at h;cases h2:iR d n y.2 with
   | none=>rw [h2] at h;simp at h
   | some z =>
    rw [h2] at h;obtain ⟨rfl,rfl⟩:=Prod.mk.inj (Option.some.inj h);obtain ⟨h3,h4⟩:=hd l y.1 y.2 hl h1;rw [h3,Byt.app] at hl;obtain ⟨h5,h6,h7⟩:=kQ hd n y.2 z.1 z.2 hl.2 h2;refine ⟨?_,by simp [h6],fun u hu=>?_⟩
    ·show l=List.flatMap f (y.1 :: z.1) ++ z.2
     rw [List.flatMap_cons,ah,<- h5];exact h3
    ·rcases ao.1 hu with rfl | hu
     ·exact h4
     ·exact h7 u hu
theorem kP {α d f}:∀ (l:List α),(∀ x ∈ l,nZ d f x)->∀ r,iR d l (l.flatMap f ++ r)=some (l,r)
 | [],_,r=>rfl
 | x :: l,h,r=>by
  rw [List.flatMap_cons,ah,ai,iR,h x (List.mem_cons_self ..)];simp only [aj];rw [kP l (fun y hy=>h y (List.mem_cons_of_mem _ hy))];rfl
theorem gG {α m}{d:Dec α}{f G}(hd:mC d f G):mC (oC m d) (oS f) (fun l=>l.length<=m∧∀ x ∈ l,G x):=by
 intro l x r hl h;unfold oC at h;cases h1:eD l with
 | none=>rw [h1] at h;simp at h
 | some y =>
  rw [h1] at h;simp only [aj] at h;split at h
  ·simp at h
  ·obtain ⟨h2,h3⟩:=bU l y.1 y.2 hl h1
   rw [h2,Byt.app] at hl;obtain ⟨h5,h6,h7⟩:=kQ hd _ y.2 x r hl.2 h;refine ⟨?_,I,h7⟩;unfold oS;rw [h6,show ((y.1.toNat:Nat):Int)=y.1 by omega,ah,<- h5];exact h2
theorem gF {α}{m:Nat}{d f}{l:List α}(h:∀ x ∈ l,nZ d f x)(hm:l<=m)(h1:l.length<=9223372036854775807):nZ (oC m d) (oS f) l:=fun r=>by
 unfold oC oS;rw [ah,cE I];simp only [aj];rw [if_neg I,Int.toNat_natCast];exact kP l h r
theorem sY:mC kC nF (fun l=>∀ n ∈ l,-9223372036854775808<=n∧n<=9223372036854775807):=by
 intro l x r hl h;unfold kC at h;cases h1:sX l with
 | none=>rw [h1] at h;simp at h
 | some y =>
  obtain ⟨z,q⟩:=y;rw [h1] at h;simp only [aj] at h;split at h
  ·simp at h
  ·obtain ⟨h2,h3⟩:=kO hl h1
   rw [h2,Byt.app] at hl;obtain ⟨h5,h6,h7⟩:=kQ bU _ q x r hl.2 h;refine ⟨?_,h7⟩;unfold nF;rw [h6,ah,<- h5];exact h2
theorem cK {α:Type}(f:α->List Int)(hf:∀ x,1<=(f x).length):∀ l:List α,l.length<=(l.flatMap f)
 | []=>by simp
 | x :: l=>by
  have:=cK f hf l;have:=hf x;simp only [ai,List.flatMap_cons,aa];omega
theorem nC (n):1<=(oB n).length:=by rw [oB];split <;> simp
theorem aCr {l}(h:∀ n ∈ l,-9223372036854775808<=n∧n<=9223372036854775807)(h1:l.length<18446744073709551616):nZ kC nF l:=fun r=>by
 unfold kC nF;rw [ah,oV h1];simp only [aj];have:=cK fE (fun n=>nC _) l;rw [if_neg ip];exact kP l (fun n hn=>cE (h n hn)) r
end Go.Proofs.YtkoeecdjijfjnaaGreat
namespace Go.Proofs.YtkoeecdjijfjnaaGreat
open Go.RowKit
def sB (s:ByteArray):List Int:=s.data.toList.map fun b=>(b.toNat:Int)
def jM (s:ByteArray):List Int:=lJ (sB s)
def yT:Dec ByteArray:=fun l=>(qQ l).map fun x=>(strOfNums x.1,x.2)
mutual
def fQ:GV->List Int
 | .mk k n s l=>fE k ++ (fE n ++ (jM s ++ (fE l.length ++ nB l)))
def nB:List GV->List Int
 | []=>[]
 | x :: l=>fQ x ++ nB l
end
def uW (m:Nat):Nat->Dec GV
 | 0=>fun _=>none
 | f+1=>fun l=>(eD l).bind fun k=>(eD k.2).bind fun n=>(yT n.2).bind fun s=>(oC m (uW m f) s.2).map fun c=>(.mk k.1 n.1 s.1 c.1,c.2)
def dS (x:GN):List Int:=fE x.kind ++ (jM x.name ++ (fE x.lo ++ (fE x.hi ++ (oS fE x.weights ++ (oS jM x.labels ++ (oS fQ x.values ++ (oS fE x.kids ++ fQ x.value)))))))
def tZ (m:Nat):Dec GN:=fun l=>(eD l).bind fun k=>(yT k.2).bind fun n=>(eD n.2).bind fun lo=>(eD lo.2).bind fun hi=>(oC m eD hi.2).bind fun ws=>(oC m yT ws.2).bind fun ls=>(oC m (uW m 131072) ls.2).bind fun vs=>(oC m eD vs.2).bind fun ks=>(uW m 131072 ks.2).map fun v=>(⟨k.1,n.1,lo.1,hi.1,ws.1,ls.1,vs.1,ks.1,v.1⟩,v.2)
def oR (t:List GN):List Int:=oS dS t
def uY (b:List Int):Option (List GN):=match oC b (tZ b) b with
 | some (t,[])=>some t
 | _=>none
def sU (e:GE):List Int:=nF e.path ++ (fE e.kind ++ (fE e.at_ ++ (fE e.code ++ (aQl e.fresh ++ fE e.hits))))
def lW:Dec GE:=fun l=>(kC l).bind fun p=>(eD p.2).bind fun k=>(eD k.2).bind fun a=>(eD a.2).bind fun c=>(aGf c.2).bind fun f=>(eD f.2).map fun h=>(⟨p.1,k.1,a.1,c.1,f.1,h.1⟩,h.2)
def qP (t:List GN)(b:Int)(L:List GE):List Int:=lJ (oR t) ++ (fE b ++ (fE L.length ++ L.flatMap sU))
theorem nA:∀ l,nB l=l.flatMap fQ
 | []=>by simp [nB]
 | x :: l=>by simp only [nB,List.flatMap_cons];rw [nA l]
theorem aRx (s):Byt (sB s):=by
 intro x hx;simp only [sB,List.mem_map] at hx;obtain ⟨b,-,rfl⟩:=hx;have:=b.toNat_lt;omega
theorem hH (s):(sB s)=s.size:=by
 unfold sB;rw [List.length_map,Array.length_toList];rfl
theorem aRu (s):strOfNums (sB s)=s:=by
 unfold strOfNums sB;obtain ⟨d⟩:=s
 congr 1
 rw [List.map_map]
 have:((fun n:Int=>UInt8.ofNat n.toNat) ∘ fun b:UInt8=>(b.toNat:Int))=id:=by
  funext b;simp
 rw [this];simp
theorem aRw {l}(h:Byt l):sB (strOfNums l)=l:=by
 unfold sB;rw [strOfNums_data,List.map_map]
 induction l with
 | nil=>rfl
 | cons x l ih =>
  have h0:=h x (List.mem_cons_self ..);rw [List.map_cons,ih h.tail]
  congr 1
  simp only [Function.comp];rw [UInt8.toNat_ofNat_of_lt' (by simp only [UInt8.size];omega)];omega
theorem oX:mC yT jM (fun _=>True):=by
 intro l x r hl h;unfold yT at h;cases h1:qQ l with
 | none=>rw [h1] at h;simp at h
 | some y =>
  rw [h1] at h;obtain ⟨rfl,rfl⟩:=Prod.mk.inj (Option.some.inj h);obtain ⟨h2,h3⟩:=oY l y.1 y.2 hl h1;refine ⟨?_,trivial⟩;unfold jM;rw [aRw h3];exact h2
theorem oW {s}(h:s.size<18446744073709551616):nZ yT jM s:=fun r=>by
 unfold yT jM;rw [uZ (by rw [hH];exact h)];simp [aRu]
theorem cB {α β:Type}{d f G}(hd:mC d f G){l r y}{k:α × List Int->Option (β × List Int)}(hl:Byt l)(h:(d l).bind k=some (y,r)):∃ x q,l=f x ++ q∧G x∧Byt q∧k (x,q)=some (y,r):=by
 cases h1:d l with
 | none=>rw [h1] at h;simp at h
 | some x =>
  rw [h1] at h;obtain ⟨h2,h3⟩:=hd l x.1 x.2 hl h1;refine ⟨x.1,x.2,h2,h3,?_,h⟩;rw [h2,Byt.app] at hl;exact hl.2
theorem tG {α β:Type}{d f G}(hd:mC d f G){l r y}{k:α->β}(hl:Byt l)(h:(d l).map (fun x=>(k x.1,x.2))=some (y,r)):∃ x,l=f x ++ r∧G x∧k x=y:=by
 cases h1:d l with
 | none=>rw [h1] at h;simp at h
 | some x =>
  rw [h1] at h;obtain ⟨rfl,rfl⟩:=Prod.mk.inj (Option.some.inj h);obtain ⟨h2,h3⟩:=hd l x.1 x.2 hl h1;exact ⟨x.1,h2,h3,rfl⟩
theorem oU (m):∀ f,mC (uW m f) fQ (fun _=>True)
 | 0=>fun l x r _ h=>by simp [uW] at h
 | f+1=>fun l x r hl h=>by
  rw [uW] at h;obtain ⟨k,l1,rfl,-,b1,h⟩:=cB bU hl h;obtain ⟨n,l2,rfl,-,b2,h⟩:=cB bU b1 h;obtain ⟨s,l3,rfl,-,b3,h⟩:=cB oX b2 h;obtain ⟨c,rfl,-,rfl⟩:=tG (k:=fun c=>GV.mk k n s c) (gG (oU m f)) b3 h;refine ⟨?_,trivial⟩;simp only [fQ,oS,nA,ah]
theorem aCq (m):mC (tZ m) dS (fun _=>True):=fun l x r hl h=>by
 unfold tZ at h;obtain ⟨k,l1,rfl,-,b1,h⟩:=cB bU hl h;obtain ⟨n,l2,rfl,-,b2,h⟩:=cB oX b1 h;obtain ⟨lo,l3,rfl,-,b3,h⟩:=cB bU b2 h;obtain ⟨hi,l4,rfl,-,b4,h⟩:=cB bU b3 h;obtain ⟨ws,l5,rfl,-,b5,h⟩:=cB (gG bU) b4 h;obtain ⟨ls,l6,rfl,-,b6,h⟩:=cB (gG oX) b5 h;obtain ⟨vs,l7,rfl,-,b7,h⟩:=cB (gG (oU m 131072)) b6 h;obtain ⟨ks,l8,rfl,-,b8,h⟩:=cB (gG bU) b7 h;obtain ⟨v,rfl,-,rfl⟩:=tG (k:=fun v=>(⟨k,n,lo,hi,ws,ls,vs,ks,v⟩:GN)) (oU m 131072) b8 h;refine ⟨?_,trivial⟩;simp only [dS,ah]
theorem uX {b t}(hb:Byt b)(h:uY b=some t):b=oR t:=by
 unfold uY at h;cases h1:oC b (tZ b) b with
 | none=>rw [h1] at h;simp at h
 | some x =>
  obtain ⟨y,r⟩:=x;rw [h1] at h;cases r with
  | nil =>
   simp at h;subst h;have:=(gG (aCq b) b y [] hb h1).1
   simpa [oR] using this
  | cons=>simp at h
theorem vB:mC lW sU (fun _=>True):=fun l x r hl h=>by
 unfold lW at h;obtain ⟨p,l1,rfl,-,b1,h⟩:=cB sY hl h;obtain ⟨k,l2,rfl,-,b2,h⟩:=cB bU b1 h;obtain ⟨a,l3,rfl,-,b3,h⟩:=cB bU b2 h;obtain ⟨c,l4,rfl,-,b4,h⟩:=cB bU b3 h;obtain ⟨f,l5,rfl,-,b5,h⟩:=cB aFz b4 h;obtain ⟨u,rfl,-,rfl⟩:=tG (k:=fun u=>(⟨p,k,a,c,f,u⟩:GE)) bU b5 h;refine ⟨?_,trivial⟩;simp only [sU,ah]
end Go.Proofs.YtkoeecdjijfjnaaGreat
namespace Go.Proofs.YtkoeecdjijfjnaaGreat
open Go.RowKit
mutual
def wfV:GV->Prop
 | .mk k n s l=>I64 k∧I64 n∧s.size<=17592186044416∧aN6 l
def aN6:List GV->Prop
 | []=>True
 | x :: l=>wfV x∧aN6 l
end
theorem aJz {l}(h:aN6 l):∀ x ∈ l,wfV x:=by
 induction l with
 | nil=>simp
 | cons y l ih =>
  intro x hx;simp only [aN6] at h;rcases ao.1 hx with rfl | hx
  ·exact h.1
  ·exact ih h.2 x hx
theorem fA {α:Type}(f:α->List Int){l:List α}{x}(h:x ∈ l):(f x).length<=(l.flatMap f):=by
 induction l with
 | nil=>cases h
 | cons y l ih =>
  rw [List.flatMap_cons,aa];rcases ao.1 h with rfl | h
  ·omega
  ·have:=ih h;omega
theorem dB (n):1<=(fE n).length:=nC _
theorem nD (s):1<=(jM s).length:=by
 unfold jM lJ;have:=nC (sB s);rw [aa];omega
theorem kN:∀ x,1<=(fQ x).length
 | .mk k n s l=>by
  have:=dB k;simp only [fQ,aa];omega
theorem gA {α}(f:α->List Int)(hf:∀ x,1<=(f x).length)(l):l.length<=(oS f l):=by
 unfold oS;have:=cK f hf l;rw [aa];omega
theorem cA {α β:Type}{d f x q}{k:α × List Int->Option (β × List Int)}(h:nZ d f x):(d (f x ++ q)).bind k=k (x,q):=by rw [h];rfl
theorem oT (m:Nat)(hm:m<=1000000000000):∀ f x,wfV x->gsz x<=f->(fQ x)<=m->nZ (uW m f) fQ x
 | 0,.mk k n s l,_,h,_=>by simp [gsz] at h
 | f+1,.mk k n s l,hw,h,hl=>fun r=>by
  simp only [wfV] at hw;simp only [fQ,aa,nA] at hl;have h1:=cK fQ kN l;have hc:nZ (oC m (uW m f)) (oS fQ) l:=gF (fun x hx=>oT m hm f x (aJz hw.2.2.2 x hx) (by have:=eY (x:=.mk k n s l) (y:=x) hx;omega) (by have:=fA fQ hx;omega)) I I;rw [uW];simp only [fQ,ah,nA];rw [cA (cE hw.1)];dsimp only;rw [cA (cE hw.2.1)];dsimp only;rw [cA (oW (by have:=hw.2.2.1;omega))];dsimp only;have:=hc r;unfold oS at this;rw [ah] at this;rw [this];rfl
structure wfN (x:GN):Prop where
 kind:I64 x.kind
 name:x.name.size<=17592186044416
 lo:I64 x.lo
 hi:I64 x.hi
 ws:∀ n ∈ x.weights,I64 n
 ls:∀ s ∈ x.labels,s.size<=17592186044416
 vs:∀ v ∈ x.values,wfV v∧gsz v<=131072
 ks:∀ n ∈ x.kids,I64 n
 v:wfV x.value∧gsz x.value<=131072
theorem aCp (m:Nat)(hm:m<=1000000000000){x}(h:wfN x)(hl:(dS x)<=m):nZ (tZ m) dS x:=fun r=>by
 simp only [dS,aa] at hl;have h1:=gA fE dB x.weights;have h2:=gA jM nD x.labels;have h3:=gA fQ kN x.values;have h4:=gA fE dB x.kids
 have hf:∀ v ∈ x.values,(fQ v).length<=(oS fQ x.values):=fun v hv=>by
  unfold oS;rw [aa];have:=fA fQ hv;omega
 unfold tZ dS;simp only [ah];rw [cA (cE h.kind)];dsimp only;rw [cA (oW (by have:=h.name;omega))];dsimp only;rw [cA (cE h.lo)];dsimp only;rw [cA (cE h.hi)];dsimp only;rw [cA (gF (fun n hn=>cE (h.ws n hn)) I I)];dsimp only;rw [cA (gF (fun s hs=>oW (by have:=h.ls s hs;omega)) I I)];dsimp only;rw [cA (gF (fun v hv=>oT m hm 131072 v (h.vs v hv).1 (h.vs v hv).2 (by have:=hf v hv;omega)) I I)];dsimp only;rw [cA (gF (fun n hn=>cE (h.ks n hn)) I I)];dsimp only;rw [oT m hm 131072 x.value h.v.1 h.v.2 I];rfl
theorem sR (x):1<=(dS x).length:=by
 have:=dB x.kind;simp only [dS,aa];omega
theorem aFt {t}(h:∀ x ∈ t,wfN x)(hl:(oR t).length<=1000000000000):uY (oR t)=some t:=by
 unfold uY;have h1:=gA dS sR t
 have hf:∀ x ∈ t,(dS x).length<=(oR t):=fun x hx=>by
  unfold oR oS;rw [aa];have:=fA dS hx;omega
 have:=gF (m:=(oR t).length) (fun x hx=>aCp (oR t) hl (h x hx) (hf x hx)) (by unfold oR at *;omega) (by unfold oR at *;omega) [];rw [List.append_nil] at this;unfold oR at *;rw [this]
structure wfE (e:GE):Prop where
 path:∀ n ∈ e.path,I64 n
 len:e.path.length<=1000000000000
 kind:I64 e.kind
 at_:I64 e.at_
 code:I64 e.code
 hits:I64 e.hits
theorem aFu {e}(h:wfE e):nZ lW sU e:=fun r=>by
 unfold lW sU;simp only [ah];rw [cA (aCr h.path (by have:=h.len;omega))];dsimp only;rw [cA (cE h.kind)];dsimp only;rw [cA (cE h.at_)];dsimp only;rw [cA (cE h.code)];dsimp only;rw [cA (aFy _)];dsimp only;rw [cE h.hits];rfl
theorem aD5 (e):1<=(sU e).length:=by
 unfold sU nF;have:=nC e.path;simp only [aa];omega
mutual
theorem aCi:∀ x,4*gsz x<=(fQ x)
 | .mk k n s l=>by
  have h1:=dB k;have h2:=dB n;have h3:=nD s;have h4:=dB l;have h5:=aDq l;simp only [fQ,aa,gsz];omega
theorem aDq:∀ l,4*iQ l<=(nB l)
 | []=>by simp [iQ]
 | x :: l=>by
  have h1:=aCi x;have h2:=aDq l;simp only [nB,aa,iQ];omega
end
end Go.Proofs.YtkoeecdjijfjnaaGreat
namespace Go.Proofs.YtkoeecdjijfjnaaGreat
open Go.RowKit
theorem aHw:(Tryz.prog.info? 5).map (fun i=>(i.zero,i.size,i.bytes))=some (some (.int .u8 0),1,1):=U
theorem oH:Tryz.prog.underlying 74=some (.slice 5):=U
def By (B:Nat)(v:Value)(l:List Int)(w:World):Prop:=w.ownsRow B 5 1 v l (l.map (Value.int .u8))
structure qW (S:World)(u v:Value)(w:World):Prop where
 fr:Fr (fun k=>some k=u.ownBlock) S w
 own:v.ownBlock=u.ownBlock∨∃ b,v.ownBlock=some b∧S<=b
structure Ou (S:World)(u:Value)(B:Nat)(v:Value)(l:List Int)(w:World):Prop where
 row:By B v l w
 gr:qW S u v w
 lo:B<=S
abbrev nl:Value:=.slice none 0 0
abbrev Out (w0:World)(v:Value)(l:List Int)(w:World):Prop:=Ou w0 nl w0 v l w
def jD (l:List Int)(w0:World)(e:Ending)(w:World):Prop:=∃ v,e=.returned v∧Out w0 v l w
theorem lI {w:World}{base e size n v xs}(h:w.ownsRow base e size v n xs){b}(hb:v.ownBlock=some b):base<=b:=by
 rcases h.2 with ⟨rfl,_⟩ | ⟨g,cap,cur,rfl,hg,_⟩
 ·cases hb
 ·cases hb;exact hg
theorem xD {w:World}{base base' e size n v xs}(h:w.ownsRow base e size v n xs)(hb:base'<=base):w.ownsRow base' e size v n xs:=by
 refine ⟨h.1,?_⟩;rcases h.2 with h | ⟨g,cap,cur,h1,h2,h3⟩
 ·exact .inl h
 ·exact .inr ⟨g,cap,cur,h1,ae hb h2,h3⟩
section
variable {S w w0 w1:World}{u v v':Value}{l l2:List Int}{B:Nat}
theorem qW.rf (S u):qW S u u S:=⟨au _ _,.inl rfl⟩
theorem qW.ext (h:qW S u v w)(hx:Ext w w1):qW S u v w1:=⟨h.fr.trans (ar hx),h.own⟩
theorem qW.trans (h:qW S u v w)(k:qW w v v' w1):qW S u v' w1:=by
 have hs:=h.fr.size;refine ⟨h.fr.trans_new (k.fr.mono fun b hb=>?_),?_⟩
 ·rcases h.own with e | ⟨c,e,hc⟩
  ·exact .inl (hb.trans e)
  ·rw [e] at hb;cases hb;exact .inr hc
 ·rcases k.own with e | ⟨c,e,hc⟩
  ·rw [e];exact h.own
  ·exact .inr ⟨c,e,I⟩
theorem qW.old (h:qW S u v w)(hx:Ext w0 S)(hu:∀ b,u.ownBlock=some b->w0<=b):Ext w0 w:=Fr.new_ext ((ar hx).trans h.fr) (fun b hb=>hu b hb.symm)
theorem qW.ex (h:qW S nl v w):Ext S w:=h.old (aq S) (fun _ h=>nomatch h)
theorem qW.blk {g t cs}(h:qW S u v w)(hb:Blk S g t cs)(hg:some g ≠ u.ownBlock):Blk w g t cs:=hb.fr h.fr hg
theorem Ou.ext (h:Ou S u B v l w)(hx:Ext w w1):Ou S u B v l w1:=⟨h.row.ext_ hx,h.gr.ext hx,h.lo⟩
theorem Ou.ex (h:Ou S nl B v l w):Ext S w:=h.gr.ex
theorem Ou.lift (h:Out w v l w1)(hx:Ext w0 w):Out w0 v l w1:=by
 have hs:=hx.size;refine ⟨xD h.row hs,⟨(ar hx).trans h.gr.fr,?_⟩,ab _⟩;rcases h.gr.own with e | ⟨c,e,hc⟩
 ·exact .inl e
 ·exact .inr ⟨c,e,I⟩
theorem Ou.none (w):Out w qn [] w:=⟨aP _ _ _ _,qW.rf _ _,ab _⟩
theorem Ou.sl (h:Ou S u B v l w):∃ A c,v=.slice A l c∧l<=c∧c<=9223372036854775807∧Sl w (fun b=>B<=b∧some b=v.ownBlock) 1 A l (l.map (Value.int .u8)):=by
 obtain ⟨A,c,e,h1,h2,h3⟩:=Sl.of_own h.row;unfold maxLen at h2;exact ⟨A,c,e,h1,I,h3 _ (fun b hb=>⟨lI h.row hb,hb.symm⟩)⟩
theorem aGo {l:List Int}:∀ u ∈ l.map (Value.int .u8),u.oneCell'=true:=by
 intro u hu;simp only [List.mem_map] at hu;obtain ⟨x,-,rfl⟩:=hu;rfl
end
section
variable {ops:Array Oper}{Q:Exit->Act->World->Prop}{a:Act}{S w w0:World}{rest:List Oper}{o o1 o2 o3:Oper}{d d1 d2 t B:Nat}{u v:Value}{l l2:List Int}{s x:Operand}
theorem lap {T:Nat->Prop}{A:Option Addr}{n c:Nat}(hO:Ou S u B v l w)(hsl:Sl w T 1 A n (l2.map (Value.int .u8)))(hn:n=l2)(hlen:l.length+l2<=1000000000000)(h:∀ v' w',Ou S u B v' (l ++ l2) w'->WL ops Q rest (Pt a d v') w')
  (hg:o.guard=none:=by exact rfl)(hd:o.dst=some d:=by exact rfl)(ho:o.op=.call { callee:=.builtin .append,args:=#[s,x],argTypes:=#[74,74] }:=by exact rfl)(hs:Ev a s=v:=by simp [*])(hx:Ev a x=.slice A n c:=by (simp [*];try rfl)):WL ops Q (o :: rest) a w:=by
 subst hn;refine la oH aHw hO.row hsl I I (ae hO.lo hO.gr.fr.size) aGo (fun v' w' h1 hf hv=>h v' w' ⟨by unfold By;rw [aa,List.map_append];exact h1,hO.gr.trans ⟨hf,hv.elim .inl (fun e=>.inr ⟨_,e,ab _⟩)⟩,hO.lo⟩) hg hd ho rfl I hs hx
theorem pK (a0:Act)(L:List Nat){f:FuncId}{xs:Array Operand}{ats:Array TypeId}{fn:Func}{vs:Array Value}(hf:Tryz.prog.funcs[f]?=some fn)(hc:qg f vs w (jD l2 w))(hO:Ou S u B v l w)(hlen:l.length+l2<=1000000000000)(h:∀ a' v' w',Ag L a0 a'->qq a' t v'->Ou S u B v' (l ++ l2) w'->Q .normal a' w')
  (hg1:o1.guard=none:=by exact rfl)(hd1:o1.dst=some d1:=by exact rfl)(hop1:o1.op=Op.call { callee:=Callee.value (Operand.func f),args:=xs,argTypes:=ats }:=by exact rfl)(hg2:o2.guard=none:=by exact rfl)(hd2:o2.dst=some d2:=by exact rfl)(ho2:o2.op=.call { callee:=.builtin .append,args:=#[s,.tmp d1],argTypes:=#[74,74] }:=by exact rfl)(hg3:o3.guard=none:=by exact rfl)(hd3:o3.dst=some t:=by exact rfl)(ho3:o3.op=.assign (.tmp d2):=by exact rfl)
  (hn:(fn.name == "runtime.NumGoroutine")=false:=by rfl) (hb:fn.body.isNone=false:=by rfl) (hv:xs.map (Ev a)=vs:=by simp [*]) (hz1:d1<a.tmps.size:=by simp [*]) (hz2:d2<a.tmps.size:=by simp [*]) (hz3:t<a.tmps.size:=by simp [*]) (hs:∀ v2,Ev (Pt a d1 v2) s=v:=by (intro v2;simp [*])) (hA:∀ v2 v',Ag L a0 (Pt (Pt (Pt a d1 v2) d2 v') t v'):=by (intro v2 v';(repeat refine .put ?_ rfl);exact .rf)):WL ops Q [o1,o2,o3] a w:=by
 refine lc hf hc ?_ hg1 hd1 hop1 hn hb hv;rintro e w1 ⟨v2,rfl,hO2⟩;refine ⟨_,rfl,?_⟩;obtain ⟨A,c,rfl,-,-,hsl⟩:=hO2.sl;refine lap (c:=c) (hO.ext hO2.ex) hsl rfl hlen (fun v' w' h'=>?_) hg2 hd2 ho2 (hs _) (by simp [hz1]);exact l_v hg3 hd3 (by simp [execOp,ho3,go_sem,hz2]) (bS (h _ v' w' (hA _ _) (by simp [hz3]) h'))
theorem lcE (a0:Act)(L:List Nat){f:FuncId}{xs:Array Operand}{ats:Array TypeId}{fn:Func}{vs:Array Value}(hf:Tryz.prog.funcs[f]?=some fn)(hc:qg f vs w (jD l2 w))(hx:Ext w0 w)(h:∀ a' v' w',Ag L a0 a'->qq a' t v'->Out w0 v' l2 w'->Q .normal a' w')
  (hg1:o1.guard=none:=by exact rfl)(hd1:o1.dst=some d1:=by exact rfl)(hop1:o1.op=Op.call { callee:=Callee.value (Operand.func f),args:=xs,argTypes:=ats }:=by exact rfl)(hg3:o3.guard=none:=by exact rfl)(hd3:o3.dst=some t:=by exact rfl)(ho3:o3.op=.assign (.tmp d1):=by exact rfl)
  (hn:(fn.name == "runtime.NumGoroutine")=false:=by rfl) (hb:fn.body.isNone=false:=by rfl) (hv:xs.map (Ev a)=vs:=by simp [*]) (hz1:d1<a.tmps.size:=by simp [*]) (hz3:t<a.tmps.size:=by simp [*]) (hA:∀ v',Ag L a0 (Pt (Pt a d1 v') t v'):=by (intro v';(repeat refine .put ?_ rfl);exact .rf)):WL ops Q [o1,o3] a w:=by
 refine lc hf hc ?_ hg1 hd1 hop1 hn hb hv;rintro e w1 ⟨v2,rfl,hO2⟩;refine ⟨_,rfl,?_⟩;exact l_v hg3 hd3 (by simp [execOp,ho3,go_sem,hz1]) (bS (h _ v2 w1 (hA _) (by simp [hz3]) (hO2.lift hx)))
theorem lbE (a0:Act)(L:List Nat){z:Int}(hO:Ou S u B v l w)(hlen:l.length+1<=1000000000000)(h:∀ a' v' w',Ag L a0 a'->qq a' t v'->Ou S u B v' (l ++ [z]) w'->Q .normal a' w')
  (hg1:o1.guard=none:=by exact rfl)(hd1:o1.dst=some d1:=by exact rfl)(hr1:(execOp (Ev a) o1).run Tryz.prog w=.ok (.value (.slice (qp w) 1 1)) (w.alloc (qk #[.int .u8 z] 5)):=by (simp [execOp,go_sem, *];try rfl))(hg2:o2.guard=none:=by exact rfl)(hd2:o2.dst=some d2:=by exact rfl)(ho2:o2.op=.call { callee:=.builtin .append,args:=#[s,.tmp d1],argTypes:=#[74,74] }:=by exact rfl)(hg3:o3.guard=none:=by exact rfl)(hd3:o3.dst=some t:=by exact rfl)(ho3:o3.op=.assign (.tmp d2):=by exact rfl)
  (hz1:d1<a.tmps.size:=by simp [*])(hz2:d2<a.tmps.size:=by simp [*])(hz3:t<a.tmps.size:=by simp [*])(hs:∀ v2,Ev (Pt a d1 v2) s=v:=by (intro v2;simp [*]))(hA:∀ v2 v',Ag L a0 (Pt (Pt (Pt a d1 v2) d2 v') t v'):=by (intro v2 v';(repeat refine .put ?_ rfl);exact .rf)):WL ops Q [o1,o2,o3] a w:=by
 refine l_v hg1 hd1 hr1 ?_;refine lap (c:=1) (l2:=[z]) (hO.ext ((aq w).alloc' _)) (Sl.new w [.int .u8 z] 5 1 1 rfl) rfl hlen (fun v' w' h'=>?_) hg2 hd2 ho2 (hs _) (by simp [hz1]);exact l_v hg3 hd3 (by simp [execOp,ho3,go_sem,hz2]) (bS (h _ v' w' (hA _ _) (by simp [hz3]) h'))
end
theorem aIc:∀ k n,n<zO k->(oB n)<=k+1
 | 0,n,h=>by simp only [zO] at h;rw [dM I];simp
 | k+1,n,h=>by
  by_cases h1:n<128
  ·rw [dM h1];simp
  ·rw [iZ h1,ai]
   have:=aIc k (n / 128) (by simp only [zO] at h;omega);omega
theorem sQ {n}(h:n<18446744073709551616):(oB n).length<=10:=aIc 9 n (by rw [aOf];exact h)
theorem aIe {n}(h:I64 n):(fE n).length<=10:=sQ (aGj n h)
theorem wr8 {z}(h:0<=z)(h':z<256):IntKind.u8.wrap z=z:=ia
theorem wrU {z}(h:0<=z)(h':z<18446744073709551616):IntKind.u64.wrap z=z:=ia
noncomputable def aRn:=RG Tryz.f129
noncomputable abbrev a2u:Code:=.seq (aRn 0) (.seq (aRn 1) (.seq (.block 0 (.loop (.seq (.seq (aRn 2) (.cond (.tmp 5) .skip (.exit 0))) (.block 1 (.seq (aRn 3) (aRn 4)))))) (.seq (aRn 5) .ret)))
theorem a3j:Tryz.f129.body=some a2u:=U
theorem aBv (n:Nat)(hn:n<18446744073709551616)(w):qg 129 #[.int .u64 (n:Int)] w (jD (oB n) w):=by
 refine bW Tryz.func129 a3j rfl O (fun a Q sz df ea hQ=>?_);have e0:=ea 0 (.int .u64 (n:Int)) rfl;refine rS ?_;refine lv ?_;refine lN a [0] ?_;intro a1 u1;refine u1.c1 sz df e0 fun sz df e0=>?_
 refine rS ?_;refine lv ?_;refine lE a1 [0] 3 ?_;intro a2 u2 e3;refine u2.c1 sz df e0 fun sz df e0=>?_
 have h10:=sQ hn;refine wp_seq (wp_block (wp_loop (fun a' V=>∃ (m:Nat) (v:Value) (l:List Int),Ag [] a2 a'∧qq a' 0 (.int .u64 (m:Int))∧qq a' 3 v∧Out w v l V∧oB n=l ++ oB m∧m<=n) (fun a' _=>(intOf (Ev a' (.tmp 0))).toNat) ⟨n,_,[],.rf,e0,e3,Ou.none w,rfl,ab _⟩ ?_));clear e0 e3;rintro a3 V ⟨m,v,l,u3,e0,e3,hO,hE,hm⟩;refine u3.c0 sz df fun sz df=>?_
 have m0:=e0;have hl:=congrArg List.length hE;rw [aa] at hl;refine wp_seq (rS ?_);iterate 2 refine lv ?_
 refine lE a3 [0,3] 5 ?_;intro a4 u4 e5;refine u4.c2 sz df e0 e3 fun sz df e0 e3=>?_
 by_cases hlt:m<128
 ·refine wp_cond_false (e5.trans bh) (wp_exit (rS ?_))
  have hw:=wr8 (z:=m) I I;iterate 3 refine lv ?_
  refine lbE a4 [] hO (z:=m) I ?_;intro a5 v5 w5 u5 e2 hO5;rw [dM hlt] at hE;exact wp_ret (hQ _ _ _ (u5.df.trans df) (by simp [results,Tryz.results129,go_sem,evT e2];try rfl) ⟨v5,rfl,by rw [hE];exact hO5⟩)
 ·refine wp_cond_true (e5.trans bh) (wp_skip (wp_block (rS ?_)))
  have hw1:=wrU (z:=128+(m:Int) % 128) I I;have hw2:=wr8 (z:=128+(m:Int) % 128) I I;iterate 5 refine lv ?_
  refine lbE a4 [0] hO (z:=128+(m:Int) % 128) I ?_;intro a5 v5 w5 u5 e3 hO5;refine u5.c1 sz df e0 fun sz df e0=>?_
  have hw3:=wrU (z:=(m:Int) / 128) I I;refine rW ?_;iterate 3 refine lv ?_
  refine lE a5 [3] 0 ?_;intro a6 u6 f0;have hd:(128:Int)+(m:Int) % 128=((m % 128+128:Nat):Int):=by omega
  refine ⟨⟨m / 128,v5,_,(u3.trans (u4.mono rfl)).trans ((u5.mono rfl).trans (u6.mono rfl)),f0.trans O,u6.get 3 e3,hO5,?_,I⟩,?_⟩
  ·rw [hE,iZ hlt,hd]
   simp
  ·rw [f0,m0]
   simp only [intOf];omega
noncomputable def aWu:=RG Tryz.f132
noncomputable abbrev a2r:Code:=.seq (aWu 0) (.seq (.seq (aWu 1) (.cond (.tmp 4) (.seq (aWu 2) .ret) .skip)) (.seq (aWu 3) .ret))
theorem a3g:Tryz.f132.body=some a2r:=U
theorem aRo (n)(hn:I64 n)(w):qg 132 #[↑n] w (dI (.int .u64 (zig n:Int)) w):=by
 refine bW Tryz.func132 a3g rfl O (fun a Q sz df ea hQ=>?_);have e0:=ea 0 (↑n) rfl;unfold I64 at hn;refine rS ?_;refine lv ?_;refine lN a [0] ?_;intro a1 u1;refine u1.c1 sz df e0 fun sz df e0=>?_
 refine wp_seq (rS ?_);iterate 2 refine lv ?_
 refine lE a1 [0] 4 ?_;intro a2 u2 e4;refine u2.c1 sz df e0 fun sz df e0=>?_
 by_cases h:n<0
 ·have h1:=wrI (a:=n+1) I I
  have h2:=wrI (a:=-(n+1)) I I;have h3:=wrU (z:=-(n+1)) I I;have h4:=wrU (z:=2*-(n+1)) I I;have h5:=wrU (z:=2*-(n+1)+1) I I;refine wp_cond_true (e4.trans (by simp [h])) (rS ?_);iterate 7 refine lv ?_
  refine lE a2 [] 2 ?_;intro a3 u3 e2;exact wp_ret (hQ _ _ _ (u3.df.trans df) (by simp [results,Tryz.results132,go_sem,evT e2];try rfl) ⟨by unfold zig;rw [if_pos h];congr 2;omega,aq _⟩)
 ·have h3:=wrU (z:=n) I I
  have h4:=wrU (z:=2*n) I I;refine wp_cond_false (e4.trans bh) (wp_skip (rS ?_));iterate 4 refine lv ?_
  refine lE a2 [] 2 ?_;intro a3 u3 e2;exact wp_ret (hQ _ _ _ (u3.df.trans df) (by simp [results,Tryz.results132,go_sem,evT e2];try rfl) ⟨by unfold zig;rw [if_neg h];congr 2;omega,aq _⟩)
noncomputable def R83:=RG Tryz.f83
noncomputable abbrev c83:Code:=.seq (R83 0) (.seq (R83 1) .ret)
theorem b83:Tryz.f83.body=some c83:=U
theorem iO (n)(hn:I64 n)(w):qg 83 #[↑n] w (jD (fE n) w):=by
 refine bW Tryz.func83 b83 rfl O (fun a Q sz df ea hQ=>?_);have e0:=ea 0 (↑n) rfl;refine rS ?_;refine lv ?_;refine lN a [0] ?_;intro a1 u1;refine u1.c1 sz df e0 fun sz df e0=>?_
 refine rS ?_;refine lv ?_;refine lc Tryz.func132 (aRo n hn w) ?_;rintro e w1 ⟨rfl,x1⟩;refine ⟨_,rfl,?_⟩;refine lcE a1 [] Tryz.func129 (aBv (zig n) (aGj n hn) w1) x1 ?_;intro a2 v2 w2 u2 e2 hO;exact wp_ret (hQ _ _ _ (u2.df.trans df) (by simp [results,Tryz.results83,go_sem,evT e2];try rfl) ⟨v2,rfl,hO⟩)
noncomputable def R85:=RG Tryz.f85
noncomputable abbrev c85:Code:=.seq (R85 0) (.seq (.seq (R85 1) (.cond (.tmp 3) (.seq (R85 2) .ret) .skip)) (.seq (R85 3) .ret))
theorem b85:Tryz.f85.body=some c85:=U
theorem aVj (b:Bool)(w):qg 85 #[b] w (jD (aQl b) w):=by
 refine bW Tryz.func85 b85 rfl O (fun a Q sz df ea hQ=>?_);have e0:=ea 0 b rfl;refine rS ?_;refine lv ?_;refine lN a [0] ?_;intro a1 u1;refine u1.c1 sz df e0 fun sz df e0=>?_
 refine wp_seq (rS ?_);refine lv ?_;refine lE a1 [0] 3 ?_;intro a2 u2 e3;refine u2.c1 sz df e0 fun sz df e0=>?_
 have hO:∀ z:Int,Out w (.slice (qp w) 1 1) [z] (w.alloc (qk #[.int .u8 z] 5)):=fun z=>⟨⟨rfl,.inr ⟨w.heap.size,1,#[.int .u8 z],rfl,ab _,aw w 5 _,ab _,cq,rfl,rfl⟩⟩,⟨ar ((aq w).alloc' _),.inr ⟨_,rfl,ab _⟩⟩,ab _⟩
 cases b
 ·refine wp_cond_false e3 (wp_skip (rS ?_))
  iterate 2 refine lv ?_
  refine lE a2 [] 2 ?_;intro a3 u3 e2;exact wp_ret (hQ _ _ _ (u3.df.trans df) (by simp [results,Tryz.results85,go_sem,evT e2];try rfl) ⟨_,rfl,hO 0⟩)
 ·refine wp_cond_true e3 (rS ?_)
  iterate 2 refine lv ?_
  refine lE a2 [] 2 ?_;intro a3 u3 e2;exact wp_ret (hQ _ _ _ (u3.df.trans df) (by simp [results,Tryz.results85,go_sem,evT e2];try rfl) ⟨_,rfl,hO 1⟩)
noncomputable def R81:=RG Tryz.f81
noncomputable abbrev c81:Code:=.seq (R81 0) (.seq (R81 1) .ret)
theorem b81:Tryz.f81.body=some c81:=U
theorem aR1 {P A}{n c:Nat}(l:List Int)(w)(hn:n=l)(hl:l.length<=100000000000)(hs:Sl w P 1 A n (l.map (Value.int .u8))):qg 81 #[.slice A n c] w (jD (lJ l) w):=by
 subst hn;refine bW Tryz.func81 b81 rfl O (fun a Q sz df ea hQ=>?_);have e0:=ea 0 (.slice A l c) rfl;refine rS ?_;refine lv ?_;refine lN a [0] ?_;intro a1 u1;refine u1.c1 sz df e0 fun sz df e0=>?_
 refine rS ?_;have h1:=wrU (z:=l.length) I I;iterate 3 refine lv ?_
 refine lc Tryz.func129 (aBv l I w) ?_;rintro e w1 ⟨v1,rfl,hO⟩;refine ⟨_,rfl,?_⟩;refine lv ?_;have h2:=sQ (n:=l.length) I;refine lap (A:=A) (c:=c) hO (hs.keep (Q:=fun _=>True) (aB.of_ext hO.ex) (fun _ _=>trivial)) rfl I ?_;intro v2 w2 hO2;refine lv ?_;refine lE a1 [] 2 ?_;intro a2 u2 e2;exact wp_ret (hQ _ _ _ (u2.df.trans df) (by simp [results,Tryz.results81,go_sem,evT e2];try rfl) ⟨v2,rfl,hO2⟩)
theorem aL8 (s:ByteArray)(w):∃ k W,(convert 9 74 s).run Tryz.prog w=.ok (.slice (qp w) s.size k) W∧Ext w W∧Sl W (fun _=>True) 1 (qp w) s.size ((sB s).map (Value.int .u8)):=by
 refine ⟨_,_,run_bytes_of_string w 9 74 5 _ U U U,(aq w).drew'.alloc' _,by rw [List.length_map,hH,Nat.mul_one],fun _=>⟨_,0,rfl,trivial,fun j u hu=>?_⟩⟩
 have hj:j<s.size:=by
  rw [<- hH];rcases Nat.lt_or_ge j (sB s).length with h | h
  ·exact h
  ·rw [List.getElem?_eq_none fw] at hu;cases hu
 have:(bytesRow s (grownCap w s.size 0 5))[j]?=some u:=by
  unfold bytesRow;rw [Array.getElem?_append_left (by rw [Array.size_map];exact hj),<- hu,<- Array.getElem?_toList];simp only [sB,Array.toList_map,List.map_map];rfl
 rw [Nat.zero_add,<- this];exact iA w.drew _ _ _ _
noncomputable def a04:=RG Tryz.f130
noncomputable abbrev a2t:Code:=.seq (a04 0) (.seq (a04 1) .ret)
theorem a3i:Tryz.f130.body=some a2t:=U
theorem aBn (s:ByteArray)(hs:s.size<=100000000000)(w):qg 130 #[s] w (jD (jM s) w):=by
 refine bW Tryz.func130 a3i rfl O (fun a Q sz df ea hQ=>?_);have e0:=ea 0 s rfl;refine rS ?_;refine lv ?_;refine lN a [0] ?_;intro a1 u1;refine u1.c1 sz df e0 fun sz df e0=>?_
 refine rS ?_;obtain ⟨k,W,hcv,hx,hsl⟩:=aL8 s w;iterate 2 refine lv ?_
 refine lcE a1 [] Tryz.func81 (aR1 (c:=k) (sB s) W (hH s).symm (by rw [hH];exact hs) hsl) hx ?_;intro a2 v2 w2 u2 e2 hO;exact wp_ret (hQ _ _ _ (u2.df.trans df) (by simp [results,Tryz.results130,go_sem,evT e2];try rfl) ⟨v2,rfl,hO⟩)
end Go.Proofs.YtkoeecdjijfjnaaGreat
namespace Go.Proofs.YtkoeecdjijfjnaaGreat
open Go.RowKit
theorem sL {α}(f:α->List Int){l:List α}{k:Nat}(d)(hk:k<l):(l.take (k+1)).flatMap f=(l.take k).flatMap f ++ f (l.getD k d):=by
 rw [qE d hk,List.flatMap_append];simp
theorem aCl {α:Type}(f:α->List Int)(l:List α)(k):((l.take k).flatMap f).length<=(l.flatMap f):=by
 rw [show l.flatMap f=(l.take k).flatMap f ++ (l.drop k).flatMap f by rw [<- List.flatMap_append,List.take_append_drop],aa];omega
theorem xW (x):fQ x=fE x.kind ++ (fE x.n ++ (jM x.s ++ (fE x.kids.length ++ x.kids.flatMap fQ))):=by
 obtain ⟨k,n,s,l⟩:=x;simp only [fQ,nA,GV.kind,GV.n,GV.s,GV.kids]
noncomputable def aJv:=RG Tryz.f131
noncomputable abbrev a2s:Code:=.seq (aJv 0) (.seq (aJv 1) (.seq (aJv 2) (.seq (aJv 3) (.seq (aJv 4) (.seq (.seq (aJv 5) (.block 0 (.loop (.seq (.seq (aJv 6) (.cond (.tmp 28) .skip (.exit 0))) (.seq (.block 1 (aJv 8)) (aJv 7)))))) (.seq (aJv 9) .ret))))))
theorem a3h:Tryz.f131.body=some a2s:=U
theorem vV:∀ N x A c P w,gsz x<N->VAt w P x A c->(fQ x).length<=100000000000->qg 131 #[dA x A c] w (jD (fQ x) w)
 | 0,_,_,_,_,_,h,_,_=>by omega
 | N+1,x,A,c,P,w,hN,hx,hlen=>by
  have hkid:=fun y hy=>@eY x y hy
  refine bW Tryz.func131 a3h rfl O (fun a Q sz df ea hQ=>?_);have e0:=ea 0 (dA x A c) rfl;obtain ⟨hk,hn,hs,-,hcap,hks⟩:=hx;rw [xW] at hlen;simp only [aa] at hlen;have h1:=aIe hk;have h2:=aIe hn;have h3:x.s.size<=(jM x.s):=by unfold jM lJ;rw [aa,hH];omega
  have h4:=aIe (n:=x.kids.length) br;refine rS ?_;have hE:Ext w (w.alloc (qk (qh x A c) 85)):=(aq _).alloc' _;have hB:=aw w 85 (qh x A c);iterate 2 refine lv ?_
  refine lE a [] 1 ?_;intro a1 u1 e1;refine u1.c0 sz df fun sz df=>?_
  generalize w.alloc (qk (qh x A c) 85)=W at *;have b0:=hB.cell' (u:=↑x.kind) 0 rfl;refine rS ?_;iterate 2 refine lv ?_
  refine lcE a1 [1] Tryz.func83 (iO x.kind hk W) (aq W) ?_;intro a2 v2 w2 u2 e3 hO;refine u2.c1 sz df e1 fun sz df e1=>?_
  have b1:=(hB.ext hO.ex).cell' (u:=↑x.n) 1 rfl;refine rS ?_;iterate 3 refine lv ?_
  refine pK a2 [1] Tryz.func83 (iO x.n hn w2) hO I ?_;clear e3 hO;intro a3 v3 w3 u3 e3 hO;refine u3.c1 sz df e1 fun sz df e1=>?_
  have b2:=(hB.ext hO.ex).cell' (u:=x.s) 2 rfl;refine rS ?_;iterate 3 refine lv ?_
  refine pK a3 [1] Tryz.func130 (aBn x.s I w3) hO ip ?_;clear e3 hO;intro a4 v4 w4 u4 e3 hO;refine u4.c1 sz df e1 fun sz df e1=>?_
  have b3:=(hB.ext hO.ex).cell' (u:=.slice A x.kids c) 3 rfl;refine rS ?_;iterate 4 refine lv ?_
  refine pK a4 [1] Tryz.func83 (iO x.kids br w4) hO ip ?_;clear e3 hO b3;intro a5 v5 w5 u5 e3 hO;refine u5.c1 sz df e1 fun sz df e1=>?_
  refine wp_seq (rS ?_);refine lv ?_;refine lE a5 [1,3] 4 ?_;intro a6 u6 e4;refine u6.c2 sz df e1 e3 fun sz df e1 e3=>?_
  generalize hpre:((fE x.kind ++ fE x.n) ++ jM x.s) ++ fE x.kids.length=pre at hO;have hpl:=congrArg List.length hpre;simp only [aa] at hpl;refine wp_block (wp_loop (fun a' V=>∃ (j:Nat) (v:Value),Ag [1] a6 a'∧qq a' 4 (j:Int)∧qq a' 3 v∧Out W v (pre ++ (x.kids.take j).flatMap fQ) V∧j<=x.kids) (fun a' _=>(x.kids.length - intOf (Ev a' (.tmp 4))).toNat) ⟨0,_,.rf,e4,e3,by simpa using hO,af _⟩ ?_);clear e3 e4 hO;rintro a7 V ⟨j,v,u7,e4,e3,hO,hj⟩;refine u7.c1 sz df e1 fun sz df e1=>?_
  have m4:=e4;have b3:=(hB.ext hO.ex).cell' (u:=.slice A x.kids c) 3 rfl;refine wp_seq (rS ?_);iterate 5 refine lv ?_
  refine lE a7 [1,3,4] 28 ?_;intro a8 u8 e28;refine u8.c3 sz df e1 e3 e4 fun sz df e1 e3 e4=>?_
  by_cases hlt:j<x.kids
  ·refine wp_cond_true (e28.trans dm) (wp_skip (wp_seq (wp_block (rW ?_))))
   obtain ⟨b,off,A',d,e',-,hv,g0,g1,g2,g3⟩:=(hks.ext (hE.trans' hO.ex)).get hlt;have hlj:=fA fQ (aD (d:=default) hlt);have hgk:=hkid _ (aD (d:=default) hlt);have htk:=sL fQ default hlt;have htl:=aCl fQ x.kids (j+1);rw [htk,aa] at htl;rw [e'] at b3;generalize x.kids.getD j default=y at *;have hji:(j:Int)<x.kids:=by omega
   iterate 6 refine lv ?_
   refine pK a8 [1,4] Tryz.func131 (vV N y A' d P V I hv I) hO ip ?_;clear e3 hO;intro a9 v9 w9 u9 e3 hO;refine u9.c2 sz df e1 e4 fun sz df e1 e4=>?_
   refine rW ?_;iterate 3 refine lv ?_
   refine lE a9 [1,3] 4 ?_;clear e4;intro c1 z1 e4;refine ⟨⟨j+1,_,((u7.trans (u8.mono rfl)).trans (u9.mono rfl)).trans (z1.mono rfl),e4.trans O,z1.get 3 e3,by rw [htk,<- ah];exact hO,hlt⟩,?_⟩;rw [e4,m4];simp only [intOf];omega
  ·refine wp_cond_false (e28.trans dm) (wp_exit (rS ?_))
   iterate 2 refine lv ?_
   refine lE a8 [] 2 ?_;intro a9 u9 e2;rw [an I] at hO;refine wp_ret (hQ _ _ _ (u9.df.trans df) (by simp [results,Tryz.results131,go_sem,evT e2];try rfl) ⟨v,rfl,?_⟩);have:=hO.lift hE;rw [<- hpre] at this;rw [xW]
   simpa only [ah] using this
end Go.Proofs.YtkoeecdjijfjnaaGreat
namespace Go.Proofs.YtkoeecdjijfjnaaGreat
open Go.RowKit
section
variable {l:List Nat}{a a':Act}{s:Nat}
theorem Ag.tl (h:Ag (s :: l) a a'):Ag l a a':=⟨h.sz,h.df,fun t ht=>h.ev t (List.mem_cons_of_mem _ ht)⟩
theorem Ag.hd {v}(h:Ag (s :: l) a a')(e:qq a s v):qq a' s v:=(h.ev s (List.mem_cons_self ..)).trans e
end
theorem lR {α f}{l:List α}(d){S w u v B pre s t bl bb rT rB rC a Q}(K)
  (h0:qq a s qz)(h3:qq a 3 v)(hO:Ou S u B v pre w)(hlen:pre.length+(l.flatMap f)<=1000000000000)(hll:l.length<=1000000000000)
  (hT:∀ R b V v' (j:Nat),Ag K a b->qq b s (j:Int)->qW S u v' V->(∀ b',Ag (3 :: s :: K) b b'->qq b' t (decide (j<l))->R .normal b' V)->qw rT R b V)
  (hB:∀ R b V v' (j:Nat) pre',j<l->Ag K a b->qq b s (j:Int)->qq b 3 v'->Ou S u B v' pre' V->pre'.length+(f (l.getD j d))<=1000000000000->(∀ b' v2 V',Ag (s :: K) b b'->qq b' 3 v2->Ou S u B v2 (pre' ++ f (l.getD j d)) V'->R .normal b' V')->qw rB R b V)
  (hC:∀ R b V (j:Nat),Ag K a b->qq b s (j:Int)->IntKind.i64.wrap ((j:Int)+1)=(j:Int)+1->(∀ b',Ag (3 :: K) b b'->qq b' s (.int .i64 ((j:Int)+1))->R .normal b' V)->qw rC R b V)
  (hQ:∀ b v' V,Ag K a b->qq b 3 v'->Ou S u B v' (pre ++ l.flatMap f) V->Q .normal b V):qw (.block bl (.loop (.seq (.seq rT (.cond (.tmp t) .skip (.exit bl))) (.seq (.block bb rB) rC)))) Q a w:=by
 refine wp_block (wp_loop (fun a' V=>∃ (j:Nat) (v:Value),Ag K a a'∧qq a' s (j:Int)∧qq a' 3 v∧Ou S u B v (pre ++ (l.take j).flatMap f) V∧j<=l) (fun a' _=>(l.length - intOf (Ev a' (.tmp s))).toNat) ⟨0,_,.rf,h0,h3,by simpa using hO,af _⟩ ?_);rintro b V ⟨j,v',u0,es,e3,hO',hj⟩;refine wp_seq (wp_seq (hT _ b V v' j u0 es hO'.gr (fun b1 u1 et=>?_)));have es1:=u1.tl.hd es;have e31:=u1.hd e3;have k1:=u0.trans u1.tl.tl;by_cases hlt:j<l
 ·have htk:=sL f d hlt
  have htl:=aCl f l (j+1);rw [htk,aa] at htl;refine wp_cond_true (et.trans dm) (wp_skip (wp_seq (wp_block (hB _ b1 V v' j _ hlt k1 es1 e31 hO' ij (fun b2 v2 V2 u2 e32 hO2=>?_)))));have k2:=k1.trans u2.tl;refine hC _ b2 V2 j k2 (u2.hd es1) (wrI I I) (fun b3 u3 es3=>?_);refine ⟨⟨j+1,v2,k2.trans u3.tl,es3.trans O,u3.hd e32,by rw [htk,<- ah];exact hO2,hlt⟩,?_⟩;rw [es3,es];simp only [intOf];omega
 ·refine wp_cond_false (et.trans dm) (wp_exit ?_)
  rw [an I] at hO'
  simpa [Exit.then,Exit.inBlock] using hQ b1 v' V k1 e31 hO'
noncomputable def R84:=RG Tryz.f84
noncomputable abbrev c84:Code:=.seq (R84 0) (.seq (R84 1) (.seq (.seq (R84 2) (.block 0 (.loop (.seq (.seq (R84 3) (.cond (.tmp 12) .skip (.exit 0))) (.seq (.block 1 (R84 5)) (R84 4)))))) (.seq (R84 6) .ret)))
theorem b84:Tryz.f84.body=some c84:=U
theorem aUy {P A n c}(l w)(hl:Ints w P (.slice A n c) l)(hlen:(nF l).length<=100000000000):qg 84 #[.slice A n c] w (jD (nF l) w):=by
 obtain ⟨A',c',e,h1,h2,h64,-⟩:=id hl;cases e;refine bW Tryz.func84 b84 rfl O (fun a Q sz df ea hQ=>?_);have e0:=ea 0 (.slice A l c) rfl;refine rS ?_;refine lv ?_;refine lN a [0] ?_;intro a1 u1;refine u1.c1 sz df e0 fun sz df e0=>?_
 refine rS ?_;have hw:=wrU (z:=l.length) I I;iterate 3 refine lv ?_
 refine lcE a1 [0] Tryz.func129 (aBv l I w) (aq w) ?_;intro a2 v2 w2 u2 e3 hO;refine u2.c1 sz df e0 fun sz df e0=>?_
 refine wp_seq (rS ?_);refine lv ?_;refine lE a2 [0,3] 4 ?_;intro a3 u3 e4;refine u3.c2 sz df e0 e3 fun sz df e0 e3=>?_
 have hfl:nF l=oB l.length ++ l.flatMap fE:=rfl;have hll:=cK fE dB l;rw [hfl,aa] at hlen;refine lR (f:=fE) (l:=l) 0 [0] e4 e3 hO I I ?_ ?_ ?_ ?_
 ·intro R b V v' j u e4 hg hR
  refine u.c1 sz df e0 fun sz df e0=>?_
  refine rW ?_;iterate 4 refine lv ?_
  exact lE b [3,4,0] 12 hR (he:=by simp [*])
 ·intro R b V v' j pre hj u e4 e3 hO hlen' hR
  refine u.c1 sz df e0 fun sz df e0=>?_
  obtain ⟨b1,o1,rfl,-,-,g1⟩:=(hl.ext hO.ex).get hj;have hy:I64 (l.getD j 0):=h64 _ (aD hj);generalize l.getD j 0=y at *;have hji:(j:Int)<l:=by omega
  refine rW ?_;iterate 5 refine lv ?_
  exact pK b [4,0] Tryz.func83 (iO y hy V) hO hlen' hR
 ·intro R b V j u e4 hw hR
  refine u.c0 sz df fun sz df=>?_
  refine rW ?_;iterate 3 refine lv ?_
  exact lE b [3,0] 4 hR (he:=by simp [*])
 ·intro b v V u e3 hO
  refine u.c0 sz df fun sz df=>?_
  refine rS ?_;iterate 2 refine lv ?_
  refine lE b [] 2 ?_;intro b2 u2 e2;exact wp_ret (hQ _ _ _ (u2.df.trans df) (by simp [results,Tryz.results84,go_sem,evT e2];try rfl) ⟨v,rfl,hO⟩)
abbrev zN:List Value:=[qz,qe,qz,qz,qn,qn,qn,qn,qz,qz,qe,qn]
abbrev zEn:List Value:=[qn,qz,qz,qz,false,qz]
theorem aFh {ops:Array Oper}{Q:Exit->Act->World->Prop}{a:Act}{w:World}{rest:List Oper}{o1 o2:Oper}{d:Nat}(t:TypeId)(zs us:List Value)(hl:us.length=zs)(h:∀ w',Blk w' w t us.toArray->Ext w w'->WL ops Q rest (Pt a d (qp w)) w')
  (hg1:o1.guard=none:=by exact rfl)(hd1:o1.dst=some d:=by exact rfl)(hr1:(execOp (Ev a) o1).run Tryz.prog w=.ok (.value (qp w)) (w.alloc (qk zs.toArray t)):=by (simp [execOp,go_sem, *];try first | rfl | exact ⟨rfl,rfl⟩))(hg2:o2.guard=none:=by exact rfl)(hd2:o2.dst=none:=by exact rfl)
  (hr2:∀ W,Blk W w t zs.toArray->(execOp (Ev (Pt a d (qp w))) o2).run Tryz.prog W=.ok .skip (W.setCells w 0 us):=by (intro W hB;simp [execOp,go_sem,hB.cell,hB.frozen, *];try rfl)):WL ops Q (o1 :: o2 :: rest) a w:=by
 have hB:=aw w t zs.toArray;have hX:Ext w (w.alloc (qk zs.toArray t)):=(aq w).alloc' _;refine l_v hg1 hd1 hr1 (l_s hg2 hd2 (hr2 _ hB) (h _ ?_ ((ar (M:=fun _=>False) hX).setCells us 0 (.inr (ab _))).ext));have:=aG us 0 hB I
 simpa [hl] using this
noncomputable def R82:=RG Tryz.f82
noncomputable abbrev c82:Code:=.seq (R82 0) (.seq (R82 1) (.seq (.seq (R82 2) (.block 0 (.loop (.seq (.seq (R82 3) (.cond (.tmp 18) .skip (.exit 0))) (.seq (.block 1 (.seq (R82 5) (.seq (R82 6) (.seq (R82 7) (.seq (R82 8) (.seq (R82 9) (.seq (R82 10) (.seq (.seq (R82 11) (.block 2 (.loop (.seq (.seq (R82 12) (.cond (.tmp 56) .skip (.exit 2))) (.seq (.block 3 (R82 14)) (R82 13)))))) (.seq (R82 15) (.seq (.seq (R82 16) (.block 4 (.loop (.seq (.seq (R82 17) (.cond (.tmp 77) .skip (.exit 4))) (.seq (.block 5 (R82 19)) (R82 18)))))) (.seq (R82 20) (.seq (.seq (R82 21) (.block 6 (.loop (.seq (.seq (R82 22) (.cond (.tmp 98) .skip (.exit 6))) (.seq (.block 7 (R82 24)) (R82 23)))))) (.seq (R82 25) (.seq (.seq (R82 26) (.block 8 (.loop (.seq (.seq (R82 27) (.cond (.tmp 119) .skip (.exit 8))) (.seq (.block 9 (R82 29)) (R82 28)))))) (R82 30))))))))))))))) (R82 4)))))) (.seq (R82 31) .ret)))
theorem b82:Tryz.f82.body=some c82:=U
theorem aLx (t:List GN)(P A c w)(ht:Nds w P (.slice A t c) t)(hlen:(oR t).length<=100000000000):qg 82 #[.agg #[.slice A t c]] w (jD (oR t) w):=by
 have hll:=cK dS sR t;have hfl:oR t=fE t.length ++ t.flatMap dS:=rfl;rw [hfl,aa] at hlen;refine bW Tryz.func82 b82 rfl O (fun a Q sz df ea hQ=>?_);have e0:=ea 0 (.agg #[.slice A t c]) rfl;refine rS ?_;have hE:Ext w (w.alloc (qk #[.slice A t c] 25)):=(aq _).alloc' _;have hB:=aw w 25 #[.slice A t c];iterate 2 refine lv ?_
 refine lE a [] 1 ?_;intro a1 u1 e1;generalize w.alloc (qk #[.slice A t c] 25)=W at *;refine u1.c0 sz df fun sz df=>?_
 have b0:=hB.cell' (u:=.slice A t c) 0 rfl;refine rS ?_;iterate 3 refine lv ?_
 refine lcE a1 [1] Tryz.func83 (iO t br W) (aq W) ?_;intro a2 v2 w2 u2 e3 hO;refine u2.c1 sz df e1 fun sz df e1=>?_
 clear b0;refine wp_seq (rS ?_);refine lv ?_;refine lE a2 [1,3] 4 ?_;intro a3 u3 e4;refine u3.c2 sz df e1 e3 fun sz df e1 e3=>?_
 refine lR (f:=dS) (l:=t) default [1] e4 e3 hO I I ?_ ?_ ?_ ?_
 ·intro R b V v' j u e4 hg hR
  refine u.c1 sz df e1 fun sz df e1=>?_
  have b0:=(hB.ext hg.ex).cell' (u:=.slice A t c) 0 rfl;refine rW ?_;iterate 5 refine lv ?_
  exact lE b [3,4,1] 18 hR (he:=by simp [*])
 ·clear e3 e4 hO hQ
  intro R b0 V v0 j pre hj u e4 e3 hO hlen' hR;refine u.c1 sz df e1 fun sz df e1=>?_
  have hlow:∀ k,v0.ownBlock=some k->w<=k:=fun k hk=>ae hE.size (lI hO.row hk)
  have hne0:some V.heap.size ≠ v0.ownBlock:=fun h=>by have:=hO.row.block_lt h.symm;omega
  have hEV:=hE.trans' hO.ex;obtain ⟨bt,ot,na,rfl,-,hna,hc⟩:=ht.get hj;have q:=(hB.ext hO.ex).cell' (u:=.slice (qt bt ot) t c) 0 rfl;have q0:=aA hEV hc.c0;have q1:=aA hEV hc.c1;have q2:=aA hEV hc.c2;have q3:=aA hEV hc.c3;have q4:=aA hEV hc.c4;have q5:=aA hEV hc.c5;have q6:=aA hEV hc.c6;have q7:=aA hEV hc.c7;have q8:=aA hEV hc.c8;have q9:=aA hEV hc.c9;have q10:=aA hEV hc.c10;have q11:=aA hEV hc.c11;have hji:(j:Int)<t:=by omega
  have hxl:=fA dS (aD (d:=default) hj);generalize t.getD j default=x at *;clear hc hB;refine rS ?_;iterate 5 refine lv ?_
  clear q q0 q1 q2 q3 q4 q5 q6 q7 q8 q9 q10 q11 hji;refine aFh 87 zN (aK x na) rfl ?_;intro V1 hX hx1;have hw1:=hEV.trans' hx1;have hO1:Ou V1 v0 W v0 pre V1:=⟨hO.row.ext_ hx1,qW.rf _ _,ae hO.lo (ae hO.gr.fr.size hx1.size)⟩;replace hR:=fun b' v2 V' (h1:Ag [4,1] b0 b') (h2:qq b' 3 v2) (h3:Ou V1 v0 W v2 (pre ++ dS x) V')=>hR b' v2 V' h1 h2 ⟨h3.row,(hO.ext hx1).gr.trans h3.gr,hO.lo⟩
  clear hO hx1;refine lE b0 [3,4,1] 5 ?_;intro b1 z1 e5;have hold:∀ {v2 V2},qW V1 v0 v2 V2->Ext w V2:=fun hg=>hg.old hw1 hlow
  have hcell:∀ {v2 V2} (hg:qW V1 v0 v2 V2) (i:Nat) {y:Value},(aK x na).toArray[i]?=some y->qc V2 V i y:=fun hg i _ hy=>(hg.blk hX hne0).cell' i hy
  clear hX hne0 hlow hw1 hEV;simp only [dS,oS,aa] at hlen' hxl;have k1:=cK fE dB x.weights;have k2:=cK jM nD x.labels;have k3:=cK fQ kN x.values;have k4:=cK fE dB x.kids;refine z1.c3 sz df e1 e3 e4 fun sz df e1 e3 e4=>?_
  have hnl:x.name.size<=(jM x.name):=by unfold jM lJ;rw [aa,hH];omega
  have q:=hcell hO1.gr 0 (y:=↑x.kind) rfl;refine rS ?_;iterate 3 refine lv ?_
  refine pK b1 [1,4,5] Tryz.func83 (iO x.kind hna.kind _) hO1 co ?_;clear e3 q hO1;intro b2 y2 V3 z2 e3 hO1;refine z2.c3 sz df e1 e4 e5 fun sz df e1 e4 e5=>?_
  have q:=hcell hO1.gr 1 (y:=x.name) rfl;refine rS ?_;iterate 3 refine lv ?_
  refine pK b2 [1,4,5] Tryz.func130 (aBn x.name I _) hO1 co ?_;clear e3 q hO1;intro b3 y3 V4 z3 e3 hO1;refine z3.c3 sz df e1 e4 e5 fun sz df e1 e4 e5=>?_
  have q:=hcell hO1.gr 2 (y:=↑x.lo) rfl;refine rS ?_;iterate 3 refine lv ?_
  refine pK b3 [1,4,5] Tryz.func83 (iO x.lo hna.lo _) hO1 co ?_;clear e3 q hO1;intro b4 y4 V5 z4 e3 hO1;refine z4.c3 sz df e1 e4 e5 fun sz df e1 e4 e5=>?_
  have q:=hcell hO1.gr 3 (y:=↑x.hi) rfl;refine rS ?_;iterate 3 refine lv ?_
  refine pK b4 [1,4,5] Tryz.func83 (iO x.hi hna.hi _) hO1 co ?_;clear e3 q hO1;intro b5 y5 V6 z5 e3 hO1;refine z5.c3 sz df e1 e4 e5 fun sz df e1 e4 e5=>?_
  have q:=hcell hO1.gr 4 (y:=.slice na.wA x.weights na.wc) rfl;refine rS ?_;iterate 4 refine lv ?_
  refine pK b5 [1,4,5] Tryz.func83 (iO x.weights (by have:=hna.weights.le;unfold I64;omega) _) hO1 co ?_;clear e3 q hO1;intro b6 y6 V7 z6 e3 hO1;refine z6.c3 sz df e1 e4 e5 fun sz df e1 e4 e5=>?_
  refine wp_seq (rS ?_);refine lv ?_;refine lE b6 [1,3,4,5] 6 ?_;intro b7 z7 e6;refine z7.c4 sz df e1 e3 e4 e5 fun sz df e1 e3 e4 e5=>?_
  refine lR (f:=fE) (l:=x.weights) 0 [1,4,5] e6 e3 hO1 co I ?_ ?_ ?_ ?_
  ·intro R b V v' j u e6 hg hR
   refine u.c1 sz df e5 fun sz df e5=>?_
   have q:=hcell hg 4 (y:=.slice na.wA x.weights na.wc) rfl;refine rW ?_;iterate 5 refine lv ?_
   exact lE b [3,6,1,4,5] 56 hR (he:=by simp [*])
  ·intro R b V v' j pre' hj u e6 e3 hO hl hR
   refine u.c1 sz df e5 fun sz df e5=>?_
   have q:=hcell hO.gr 4 (y:=.slice na.wA x.weights na.wc) rfl;obtain ⟨b1,o1,h1,-,-,g1⟩:=(hna.weights.ext (hold hO.gr)).get hj;rw [h1] at q
   have hy:I64 (x.weights.getD j 0):=by
    obtain ⟨_,_,_,_,_,h64,_⟩:=id hna.weights;exact h64 _ (aD hj)
   generalize x.weights.getD j 0=y at *;have hji:(j:Int)<x.weights:=by omega
   refine rW ?_;iterate 6 refine lv ?_
   exact pK b [6,1,4,5] Tryz.func83 (iO y hy V) hO hl hR
  ·intro R b V j u e6 hw hR
   refine u.c0 sz df fun sz df=>?_
   refine rW ?_;iterate 3 refine lv ?_
   exact lE b [3,1,4,5] 6 hR (he:=by simp [*])
  clear e3 e6 hO1;intro b8 y8 V9 z8 e3 hO1;refine z8.c3 sz df e1 e4 e5 fun sz df e1 e4 e5=>?_
  have q:=hcell hO1.gr 5 (y:=.slice na.lA x.labels na.lc) rfl;refine rS ?_;iterate 4 refine lv ?_
  refine pK b8 [1,4,5] Tryz.func83 (iO x.labels (by have:=hna.labels.le;unfold I64;omega) _) hO1 co ?_;clear e3 q hO1;intro b9 y9 V10 z9 e3 hO1;refine z9.c3 sz df e1 e4 e5 fun sz df e1 e4 e5=>?_
  refine wp_seq (rS ?_);refine lv ?_;refine lE b9 [1,3,4,5] 7 ?_;intro b10 z10 e7;refine z10.c4 sz df e1 e3 e4 e5 fun sz df e1 e3 e4 e5=>?_
  refine lR (f:=jM) (l:=x.labels) default [1,4,5] e7 e3 hO1 co I ?_ ?_ ?_ ?_
  ·intro R b V v' j u e7 hg hR
   refine u.c1 sz df e5 fun sz df e5=>?_
   have q:=hcell hg 5 (y:=.slice na.lA x.labels na.lc) rfl;refine rW ?_;iterate 5 refine lv ?_
   exact lE b [3,7,1,4,5] 77 hR (he:=by simp [*])
  ·intro R b V v' j pre' hj u e7 e3 hO hl hR
   refine u.c1 sz df e5 fun sz df e5=>?_
   have q:=hcell hO.gr 5 (y:=.slice na.lA x.labels na.lc) rfl;obtain ⟨b1,o1,h1,g1⟩:=(hna.labels.ext (hold hO.gr)).get hj;rw [h1] at q;have hy:(x.labels.getD j default).size<=(jM (x.labels.getD j default)):=by unfold jM lJ;rw [aa,hH];omega
   have hz:=fA jM (aD (d:=default) hj);generalize x.labels.getD j default=y at *;have hji:(j:Int)<x.labels:=by omega
   refine rW ?_;iterate 6 refine lv ?_
   exact pK b [7,1,4,5] Tryz.func130 (aBn y I V) hO hl hR
  ·intro R b V j u e7 hw hR
   refine u.c0 sz df fun sz df=>?_
   refine rW ?_;iterate 3 refine lv ?_
   exact lE b [3,1,4,5] 7 hR (he:=by simp [*])
  clear e3 e7 hO1;intro b11 y11 V12 z11 e3 hO1;refine z11.c3 sz df e1 e4 e5 fun sz df e1 e4 e5=>?_
  have q:=hcell hO1.gr 6 (y:=.slice na.vA x.values na.vc) rfl;refine rS ?_;iterate 4 refine lv ?_
  refine pK b11 [1,4,5] Tryz.func83 (iO x.values (by have:=hna.values.le;unfold I64;omega) _) hO1 co ?_;clear e3 q hO1;intro b12 y12 V13 z12 e3 hO1;refine z12.c3 sz df e1 e4 e5 fun sz df e1 e4 e5=>?_
  refine wp_seq (rS ?_);refine lv ?_;refine lE b12 [1,3,4,5] 8 ?_;intro b13 z13 e8;refine z13.c4 sz df e1 e3 e4 e5 fun sz df e1 e3 e4 e5=>?_
  refine lR (f:=fQ) (l:=x.values) default [1,4,5] e8 e3 hO1 co I ?_ ?_ ?_ ?_
  ·intro R b V v' j u e8 hg hR
   refine u.c1 sz df e5 fun sz df e5=>?_
   have q:=hcell hg 6 (y:=.slice na.vA x.values na.vc) rfl;refine rW ?_;iterate 5 refine lv ?_
   exact lE b [3,8,1,4,5] 98 hR (he:=by simp [*])
  ·intro R b V v' j pre' hj u e8 e3 hO hl hR
   refine u.c1 sz df e5 fun sz df e5=>?_
   have q:=hcell hO.gr 6 (y:=.slice na.vA x.values na.vc) rfl;obtain ⟨b1,o1,A',d,h1,-,hv,g0,g1,g2,g3⟩:=(hna.values.ext (hold hO.gr)).get hj;rw [h1] at q;have hz:=fA fQ (aD (d:=default) hj);generalize x.values.getD j default=y at *;have hji:(j:Int)<x.values:=by omega
   refine rW ?_;iterate 6 refine lv ?_
   exact pK b [8,1,4,5] Tryz.func131 (vV (gsz y+1) y A' d P V I hv I) hO hl hR
  ·intro R b V j u e8 hw hR
   refine u.c0 sz df fun sz df=>?_
   refine rW ?_;iterate 3 refine lv ?_
   exact lE b [3,1,4,5] 8 hR (he:=by simp [*])
  clear e3 e8 hO1;intro b14 y14 V15 z14 e3 hO1;refine z14.c3 sz df e1 e4 e5 fun sz df e1 e4 e5=>?_
  have q:=hcell hO1.gr 7 (y:=.slice na.kA x.kids na.kc) rfl;refine rS ?_;iterate 4 refine lv ?_
  refine pK b14 [1,4,5] Tryz.func83 (iO x.kids (by have:=hna.kids.le;unfold I64;omega) _) hO1 co ?_;clear e3 q hO1;intro b15 y15 V16 z15 e3 hO1;refine z15.c3 sz df e1 e4 e5 fun sz df e1 e4 e5=>?_
  refine wp_seq (rS ?_);refine lv ?_;refine lE b15 [1,3,4,5] 9 ?_;intro b16 z16 e9;refine z16.c4 sz df e1 e3 e4 e5 fun sz df e1 e3 e4 e5=>?_
  refine lR (f:=fE) (l:=x.kids) 0 [1,4,5] e9 e3 hO1 co I ?_ ?_ ?_ ?_
  ·intro R b V v' j u e9 hg hR
   refine u.c1 sz df e5 fun sz df e5=>?_
   have q:=hcell hg 7 (y:=.slice na.kA x.kids na.kc) rfl;refine rW ?_;iterate 5 refine lv ?_
   exact lE b [3,9,1,4,5] 119 hR (he:=by simp [*])
  ·intro R b V v' j pre' hj u e9 e3 hO hl hR
   refine u.c1 sz df e5 fun sz df e5=>?_
   have q:=hcell hO.gr 7 (y:=.slice na.kA x.kids na.kc) rfl;obtain ⟨b1,o1,h1,-,-,g1⟩:=(hna.kids.ext (hold hO.gr)).get hj;rw [h1] at q
   have hy:I64 (x.kids.getD j 0):=by
    obtain ⟨_,_,_,_,_,h64,_⟩:=id hna.kids;exact h64 _ (aD hj)
   generalize x.kids.getD j 0=y at *;have hji:(j:Int)<x.kids:=by omega
   refine rW ?_;iterate 6 refine lv ?_
   exact pK b [9,1,4,5] Tryz.func83 (iO y hy V) hO hl hR
  ·intro R b V j u e9 hw hR
   refine u.c0 sz df fun sz df=>?_
   refine rW ?_;iterate 3 refine lv ?_
   exact lE b [3,1,4,5] 9 hR (he:=by simp [*])
  clear e3 e9 hO1;intro b17 y17 V18 z17 e3 hO1;refine z17.c3 sz df e1 e4 e5 fun sz df e1 e4 e5=>?_
  have q8:=hcell hO1.gr 8 (y:=↑x.value.kind) rfl;have q9:=hcell hO1.gr 9 (y:=↑x.value.n) rfl;have q10:=hcell hO1.gr 10 (y:=x.value.s) rfl;have q11:=hcell hO1.gr 11 (y:=.slice na.xA x.value.kids na.xc) rfl;refine rW ?_;iterate 3 refine lv ?_
  refine pK b17 [1,4,5] Tryz.func131 (vV (gsz x.value+1) x.value na.xA na.xc P _ I (hna.value.ext (hold hO1.gr)) I) hO1 co ?_;clear e3 hO1;intro b18 y18 V19 z18 e3 hO1;refine z18.c3 sz df e1 e4 e5 fun sz df e1 e4 e5=>?_
  refine hR _ _ _ ((((((((((((((((((z1.mono rfl).trans (z2.mono rfl)).trans (z3.mono rfl)).trans (z4.mono rfl)).trans (z5.mono rfl)).trans (z6.mono rfl)).trans (z7.mono rfl)).trans (z8.mono rfl)).trans (z9.mono rfl)).trans (z10.mono rfl)).trans (z11.mono rfl)).trans (z12.mono rfl)).trans (z13.mono rfl)).trans (z14.mono rfl)).trans (z15.mono rfl)).trans (z16.mono rfl)).trans (z17.mono rfl)).trans (z18.mono rfl)) e3 ?_
  simpa only [dS,oS,ah] using hO1
 ·intro R b V j u e4 hw hR
  refine u.c0 sz df fun sz df=>?_
  refine rW ?_;iterate 3 refine lv ?_
  exact lE b [3,1] 4 hR (he:=by simp [*])
 ·intro b v V u e3 hO
  refine u.c0 sz df fun sz df=>?_
  refine rS ?_;iterate 2 refine lv ?_
  refine lE b [] 2 ?_;intro b2 u2 e2;exact wp_ret (hQ _ _ _ (u2.df.trans df) (by simp [results,Tryz.results82,go_sem,evT e2];try rfl) ⟨v,rfl,Ou.lift hO hE⟩)
end Go.Proofs.YtkoeecdjijfjnaaGreat
namespace Go.Proofs.YtkoeecdjijfjnaaGreat
open Go.RowKit
noncomputable def R36:=RG Tryz.f36
noncomputable abbrev c36:Code:=.seq (R36 0) (.seq (R36 1) (.seq (R36 2) (.seq (R36 3) (.seq (.seq (R36 4) (.block 0 (.loop (.seq (.seq (R36 5) (.cond (.tmp 33) .skip (.exit 0))) (.seq (.block 1 (.seq (R36 7) (.seq (R36 8) (.seq (R36 9) (.seq (R36 10) (.seq (R36 11) (.seq (R36 12) (R36 13)))))))) (R36 6)))))) (.seq (R36 14) .ret)))))
theorem b36:Tryz.f36.body=some c36:=U
theorem aLz {t vn b L m P ve}(w)(hM:MAt t vn b L m P ve w)(hlen:(qP t b L).length<=10000000000):qg 36 #[qp m] w (jD (qP t b L) w):=by
 obtain ⟨A,c,rfl,hA1,hA2,hA3⟩:=hM.tree.form;obtain ⟨A1,c1,hve,hB1,hB2,hB3⟩:=hM.ens.form;subst hve;have hbI:=hM.bI;have hll:=cK sU aD5 L;simp only [qP,lJ,aa] at hlen;refine bW Tryz.func36 b36 rfl O (fun a Q sz df ea hQ=>?_);have e0:=ea 0 (qp m) rfl;refine rS ?_;refine lv ?_;refine lN a [0] ?_;intro a1 u1;refine u1.c1 sz df e0 fun sz df e0=>?_
 refine rS ?_;have q:=hM.box.cell' (u:=.slice A t c) 0 rfl;iterate 4 refine lv ?_
 clear q;refine lc Tryz.func82 (aLx t P A c w hM.tree I) ?_;rintro e w1 ⟨v1,rfl,hO1⟩;refine ⟨_,rfl,?_⟩;obtain ⟨A2,c2,rfl,-,-,hs2⟩:=hO1.sl;refine lcE a1 [0] Tryz.func81 (aR1 (c:=c2) (oR t) w1 rfl I hs2) (aq w1) ?_;intro a2 v2 w2 u2 e3 hO;refine u2.c1 sz df e0 fun sz df e0=>?_
 replace hO:=Ou.lift hO hO1.ex;have q:=(hM.box.ext hO.ex).cell' (u:=↑b) 1 rfl;refine rS ?_;iterate 5 refine lv ?_
 refine pK a2 [0] Tryz.func83 (iO b br w2) hO il ?_;clear e3 hO q;intro a3 v3 w3 u3 e3 hO;refine u3.c1 sz df e0 fun sz df e0=>?_
 have q:=(hM.box.ext hO.ex).cell' (u:=.slice A1 L c1) 2 rfl;refine rS ?_;iterate 6 refine lv ?_
 refine pK a3 [0] Tryz.func83 (iO L br w3) hO il ?_;clear e3 hO q;intro a4 v4 w4 u4 e3 hO;refine u4.c1 sz df e0 fun sz df e0=>?_
 refine wp_seq (rS ?_);refine lv ?_;refine lE a4 [0,3] 4 ?_;intro a5 u5 e4;refine u5.c2 sz df e0 e3 fun sz df e0 e3=>?_
 refine lR (f:=sU) (l:=L) default [0] e4 e3 hO il I ?_ ?_ ?_ ?_
 ·intro R b' V v' j u e4 hg hR
  refine u.c1 sz df e0 fun sz df e0=>?_
  have q:=(hM.box.ext hg.ex).cell' (u:=.slice A1 L c1) 2 rfl;refine rW ?_;iterate 7 refine lv ?_
  exact lE b' [3,4,0] 33 hR (he:=by simp [*])
 ·clear e3 e4 hO hQ
  intro R b0 V v0 j pre hj u e4 e3 hO hlen' hR;refine u.c1 sz df e0 fun sz df e0=>?_
  have hne0:some V.heap.size ≠ v0.ownBlock:=fun h=>by have:=hO.row.block_lt h.symm;omega
  have hlow:∀ k,v0.ownBlock=some k->w<=k:=fun k hk=>lI hO.row hk
  have hEV:=hO.ex;obtain ⟨bt,ot,A',d,rfl,-,hx,hc⟩:=hM.ens.get hj;have q:=(hM.box.ext hEV).cell' (u:=.slice (qt bt ot) L c1) 2 rfl;have q0:=aA hEV (hc 0 _ rfl);have q1:=aA hEV (hc 1 _ rfl);have q2:=aA hEV (hc 2 _ rfl);have q3:=aA hEV (hc 3 _ rfl);have q4:=aA hEV (hc 4 _ rfl);have q5:=aA hEV (hc 5 _ rfl);rw [Nat.add_zero] at q0;have hji:(j:Int)<L:=by omega
  have hxl:=fA sU (aD (d:=default) hj);generalize L.getD j default=x at *;clear hc;refine rS ?_;iterate 7 refine lv ?_
  clear q q0 q1 q2 q3 q4 q5 hji;refine aFh 60 zEn (aV x A' d) rfl ?_;intro V1 hX hx1;have hw1:=hEV.trans' hx1;have hO1:Ou V1 v0 w v0 pre V1:=⟨hO.row.ext_ hx1,qW.rf _ _,ae hO.lo (ae hO.gr.fr.size hx1.size)⟩;replace hR:=fun b' v2 V' (h1:Ag [4,0] b0 b') (h2:qq b' 3 v2) (h3:Ou V1 v0 w v2 (pre ++ sU x) V')=>hR b' v2 V' h1 h2 ⟨h3.row,(hO.ext hx1).gr.trans h3.gr,hO.lo⟩
  clear hO hx1;refine lE b0 [3,4,0] 5 ?_;intro b1 z1 e5;have hold:∀ {v2 V2},qW V1 v0 v2 V2->Ext w V2:=fun hg=>hg.old hw1 hlow
  have hcell:∀ {v2 V2} (hg:qW V1 v0 v2 V2) (i:Nat) {y:Value},(aV x A' d).toArray[i]?=some y->qc V2 V i y:=fun hg i _ hy=>(hg.blk hX hne0).cell' i hy
  clear hX hne0 hlow hw1 hEV;simp only [sU,aa] at hlen' hxl;refine z1.c2 sz df e3 e4 fun sz df e3 e4=>?_
  have q:=hcell hO1.gr 0 (y:=.slice A' x.path d) rfl;refine rS ?_;iterate 3 refine lv ?_
  refine pK b1 [0,4,5] Tryz.func84 (aUy x.path _ (hx.path.ext (hold hO1.gr)) I) hO1 co ?_;clear e3 q hO1;intro b2 y2 V3 z2 e3 hO1;refine z2.c1 sz df e5 fun sz df e5=>?_
  have q:=hcell hO1.gr 1 (y:=↑x.kind) rfl;refine rS ?_;iterate 4 refine lv ?_
  refine pK b2 [0,4,5] Tryz.func83 (iO x.kind hx.kind _) hO1 co ?_;clear e3 q hO1;intro b3 y3 V4 z3 e3 hO1;refine z3.c1 sz df e5 fun sz df e5=>?_
  have q:=hcell hO1.gr 2 (y:=↑x.at_) rfl;refine rS ?_;iterate 4 refine lv ?_
  refine pK b3 [0,4,5] Tryz.func83 (iO x.at_ hx.at_ _) hO1 co ?_;clear e3 q hO1;intro b4 y4 V5 z4 e3 hO1;refine z4.c1 sz df e5 fun sz df e5=>?_
  have q:=hcell hO1.gr 3 (y:=↑x.code) rfl;refine rS ?_;iterate 4 refine lv ?_
  refine pK b4 [0,4,5] Tryz.func83 (iO x.code hx.code _) hO1 co ?_;clear e3 q hO1;intro b5 y5 V6 z5 e3 hO1;refine z5.c1 sz df e5 fun sz df e5=>?_
  have q:=hcell hO1.gr 4 (y:=x.fresh) rfl;refine rS ?_;iterate 3 refine lv ?_
  refine pK b5 [0,4,5] Tryz.func85 (aVj x.fresh _) hO1 co ?_;clear e3 q hO1;intro b6 y6 V7 z6 e3 hO1;refine z6.c1 sz df e5 fun sz df e5=>?_
  have q:=hcell hO1.gr 5 (y:=↑x.hits) rfl;refine rW ?_;iterate 3 refine lv ?_
  refine pK b6 [0,4,5] Tryz.func83 (iO x.hits hx.hits _) hO1 co ?_;clear e3 q hO1;intro b7 y7 V8 z7 e3 hO1;refine hR _ _ _ (((((((z1.mono rfl).trans (z2.mono rfl)).trans (z3.mono rfl)).trans (z4.mono rfl)).trans (z5.mono rfl)).trans (z6.mono rfl)).trans (z7.mono rfl)) e3 ?_
  simpa only [sU,ah] using hO1
 ·intro R b' V j u e4 hw hR
  refine u.c0 sz df fun sz df=>?_
  refine rW ?_;iterate 3 refine lv ?_
  exact lE b' [3,0] 4 hR (he:=by simp [*])
 ·intro b' v V u e3 hO
  refine u.c0 sz df fun sz df=>?_
  refine rS ?_;iterate 2 refine lv ?_
  refine lE b' [] 2 ?_;intro b2 u2 e2;exact wp_ret (hQ _ _ _ (u2.df.trans df) (by simp [results,Tryz.results36,go_sem,evT e2];try rfl) ⟨v,rfl,by simpa only [qP,ah] using hO⟩)
end Go.Proofs.YtkoeecdjijfjnaaGreat
namespace Go.Proofs.YtkoeecdjijfjnaaGreat
open Go.RowKit
theorem Sl.u8 {w T A}{l:List Int}{j:Nat}(h:Sl w T 1 A l (l.map (Value.int .u8)))(hj:j<l):∃ b off,A=some ↑(qt b off)∧T b∧qc w b (off+j) (.int .u8 (l.getD j 0)):=by
 obtain ⟨b,off,e,hb,hc⟩:=h.2 I;exact ⟨b,off,e,hb,hc j _ (by simp [hj])⟩
theorem a2g {ops:Array Oper}{K:Act->World->Prop}{S:World->Prop}{bf:Nat->Bool}{n:Nat}{is:List Nat}{a:Act}{w:World}{v:Value}(a0:Act)(L:List Nat)(d:Nat)(h:∀ a',Ag L a0 a'->qq a' d v->K a' w)(hr:Region.ready .any ops (mkL ops.size is)=[]:=by kernel_rfl)(hA:Ag L a0 a:=by (repeat refine .put ?_ rfl);exact .rf)(he:qq a d v:=by simp [*];rfl):WD ops K S bf n is a w:=jN hr (h a hA he)
noncomputable def R35:=RG Tryz.f35
noncomputable abbrev c35:Code:=.seq (R35 0) (.seq (.seq (R35 1) (.cond (.tmp 10) (.seq (R35 2) .ret) .skip)) (.seq (.seq (R35 3) (.block 0 (.loop (.seq (.seq (R35 4) (.cond (.tmp 14) .skip (.exit 0))) (.seq (.block 1 (.seq (R35 6) (.cond (.tmp 25) (.seq (R35 7) .ret) .skip))) (R35 5)))))) (.seq (R35 8) .ret)))
theorem b35:Tryz.f35.body=some c35:=U
theorem aMy {T T' A A' c c'}(l l':List Int)(w)(hl:l.length<=1000000000000)(hl':l'.length<=1000000000000)(h:Sl w T 1 A l (l.map (Value.int .u8)))(h':Sl w T' 1 A' l' (l'.map (Value.int .u8))):qg 35 #[.slice A l c,.slice A' l' c'] w (dI (decide (l=l')) w):=by
 refine bW Tryz.func35 b35 rfl O (fun a Q sz df ea hQ=>?_);have e0:=ea 0 (.slice A l c) rfl;have e1:=ea 1 (.slice A' l' c') rfl;refine rS ?_;refine lv ?_;refine lN a [0,1] ?_;intro a1 u1;refine u1.c2 sz df e0 e1 fun sz df e0 e1=>?_
 refine wp_seq (rS ?_);iterate 5 refine lv ?_
 refine lE a1 [0,1] 10 ?_;intro a2 u2 e10;refine u2.c2 sz df e0 e1 fun sz df e0 e1=>?_
 by_cases hn:l'.length=l
 ·refine wp_cond_false (e10.trans (by simp [hn])) (wp_skip (wp_seq (rS ?_)))
  refine lv ?_;refine lE a2 [0,1] 5 ?_;intro a3 u3 e5;refine u3.c2 sz df e0 e1 fun sz df e0 e1=>?_
  refine wp_block (wp_loop (fun a' V=>∃ j:Nat,Ag [0,1] a3 a'∧qq a' 5 (j:Int)∧j<=l.length∧l.take j=l'.take j∧Ext w V) (fun a' _=>(l.length - intOf (Ev a' (.tmp 5))).toNat) ⟨0,.rf,e5,af _,rfl,aq _⟩ ?_);clear e5;rintro a4 V ⟨j,u4,e5,hj,hp,hx⟩;refine u4.c2 sz df e0 e1 fun sz df e0 e1=>?_
  have m5:=e5;refine wp_seq (rS ?_);iterate 4 refine lv ?_
  refine lE a4 [0,1,5] 14 ?_;intro a5 u5 e14;refine u5.c3 sz df e0 e1 e5 fun sz df e0 e1 e5=>?_
  by_cases hlt:j<l
  ·refine wp_cond_true (e14.trans dm) (wp_skip (wp_seq (wp_block (wp_seq ?_))))
   obtain ⟨b,off,rfl,-,hc⟩:=h.u8 hlt;obtain ⟨b',off',rfl,-,hc'⟩:=h'.u8 (j:=j) I;have t1:=qE 0 hlt;have t2:=qE (l:=l') (k:=j) 0 I;have hx1:=hx.drew';have hyy:l=l'->l.getD j 0=l'.getD j 0:=fun h=>by rw [h]
   generalize l.getD j 0=y at *;generalize l'.getD j 0=y' at *;have hji:(j:Int)<l:=by omega
   refine rD (fun w'=>Ext w w') (fun _=>true) 9 ?_;generalize V.drew=V1 at *;have hS:=hx1;refine dt 0 [0,1,2,3,4,5,6,7,8] ?_;iterate 3 refine tv ?_
   refine tv ?_ (hy:=by intro w' hw;have:=aA hw hc;simp [execOp,go_sem, *];rfl);iterate 3 refine tv ?_
   refine tv ?_ (hy:=by intro w' hw;have:=aA hw hc';simp [execOp,go_sem, *];rfl);refine tv ?_;refine t_e ?_;refine a2g a5 [0,1,5] 25 ?_;intro a6 u6 e25;refine u6.c3 sz df e0 e1 e5 fun sz df e0 e1 e5=>?_
   by_cases he:y=y'
   ·refine wp_cond_false (e25.trans iz) (wp_skip (rW ?_))
    iterate 3 refine lv ?_
    refine lE a6 [0,1] 5 ?_;clear e5;intro b7 u7 e5;refine ⟨⟨j+1,((u4.trans (u5.mono rfl)).trans (u6.mono rfl)).trans u7,e5.trans O,hlt,by rw [t1,t2,hp,he],hx1⟩,?_⟩;rw [e5,m5];simp only [intOf];omega
   ·refine wp_cond_true (e25.trans (by simpa using he)) (rS ?_)
    refine lv ?_;refine lE a6 [] 4 ?_;intro b7 u7 e4;exact wp_ret (hQ _ _ _ (u7.df.trans df) (by simp [results,Tryz.results35,go_sem,evT e4];try rfl) ⟨by rw [a4f (fun h=>he (hyy h))],hx1⟩)
  ·refine wp_cond_false (e14.trans dm) (wp_exit (rS ?_))
   refine lv ?_;refine lE a5 [] 4 ?_;intro b7 u7 e4;rw [an I,an I] at hp;exact wp_ret (hQ _ _ _ (u7.df.trans df) (by simp [results,Tryz.results35,go_sem,evT e4];try rfl) ⟨by rw [a4e hp],hx⟩)
 ·refine wp_cond_true (e10.trans bh) (rS ?_)
  refine lv ?_;refine lE a2 [] 4 ?_;intro a3 u3 e4;exact wp_ret (hQ _ _ _ (u3.df.trans df) (by simp [results,Tryz.results35,go_sem,evT e4];try rfl) ⟨by rw [a4f (fun h=>hn jq)],aq _⟩)
noncomputable def R37:=RG Tryz.f37
noncomputable abbrev c37:Code:=.seq (R37 0) (.seq (R37 1) (.seq (R37 2) .ret))
theorem b37:Tryz.f37.body=some c37:=U
theorem aQh {T A}{c:Nat}(l:List Int)(most:Nat)(w)(hl:l.length<=1000000000000000∧l<=c∧c<=9223372036854775807)(hm:most<=1000000000)(h:Sl w T 1 A l (l.map (Value.int .u8))):qg 37 #[.slice A l c,↑(most:Int)] w (jD (l.take most) w):=by
 refine bW Tryz.func37 b37 rfl O (fun a Q sz df ea hQ=>?_);have e0:=ea 0 (.slice A l c) rfl;have e1:=ea 1 (↑(most:Int)) rfl;refine rS ?_;refine lv ?_;refine lN a [0,1] ?_;intro a1 u1;refine u1.c2 sz df e0 e1 fun sz df e0 e1=>?_
 refine rS ?_;refine lv ?_;refine lE a1 [0,1] 5 ?_;intro a2 u2 e5;refine u2.c2 sz df e0 e1 fun sz df e0 e1=>?_
 refine rS ?_;obtain ⟨k,hk⟩:∃ k:Nat,(l.take most).length=k:=⟨_,rfl⟩;have hkl':=hk;rw [ak] at hk;have hk2:(if most<l then (most:Int) else l.length)=(k:Int):=by split <;> omega
 have hkc:k<=c:=I;have hkl:k<=l.length:=I;iterate 6 refine lv ?_
 refine lv ?_
 have hsl:Sl w T 1 A k ((l.take most).map (Value.int .u8)):=by
  refine ⟨by rw [List.length_map,hkl',Nat.mul_one],fun h0=>?_⟩;obtain ⟨b,off,e,hb,hc⟩:=h.2 I;refine ⟨b,off,e,hb,fun j u hu=>hc j u ?_⟩;rw [List.map_take,List.getElem?_take] at hu;split at hu
  ·exact hu
  ·cases hu
 refine lap (c:=c) (Ou.none w) hsl hkl'.symm (by rw [hkl',List.length_nil];omega) ?_;intro v' w' hO;refine lv ?_;refine lE a2 [] 4 ?_;intro a3 u3 e4;exact wp_ret (hQ _ _ _ (u3.df.trans df) (by simp [results,Tryz.results37,go_sem,evT e4];try rfl) ⟨v',rfl,hO⟩)
end Go.Proofs.YtkoeecdjijfjnaaGreat
