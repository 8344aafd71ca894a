/- Contracts of functions, plain laws. Conditions: none. -/
import Derived.Deep.RegionHeld3
import Derived.Test.YtkoeecdjijfjnaaGreatG3
import Derived.Test.YtkoeecdjijfjnaaGreatF7
set_option maxRecDepth 100000
set_option maxHeartbeats 8000000
namespace Go.Proofs.YtkoeecdjijfjnaaGreat
open Go.RowKit
def dZ (lens:List Int)(before:List GV)(x:GN):GV :=
 if 0<lens.getD before.length 0 then default
 else if x.kind=0 then x.value
 else if x.kind=3 then cE x.name (x.kids.map (fun z=>before.getD z.toNat default))
 else if x.kind=4 then before.getD (x.kids.getD 1 0).toNat default
 else default
def sA (t:List GN):List GV:=jJ (dZ (aT t)) [] t
def eH (t:List GN)(j:Nat):List GV:=jJ (dZ (aT t)) [] (t.take j)
theorem gY {t:List GN}{j:Nat}(hj:j<=t.length):(eH t j).length=j:=by unfold eH;rw [eM];simp;omega
theorem aNn {t:List GN}{j:Nat}(hj:j<=t.length){k:Nat}(hk:k<j):(eH t j).getD k default=(sA t).getD k default:=by
 unfold eH sA;rw [gZ _ t j hj];simp [List.getD,hk]
theorem aNo {t:List GN}{j:Nat}(hj:j<t.length):(sA t).getD j default=dZ (aT t) (eH t j) (t.getD j default):=oL _ default t hj
theorem aBu {t:List GN}{j:Nat}(hj:j<t.length):eH t (j+1)=eH t j ++ [dZ (aT t) (eH t j) (t.getD j default)]:=by
 unfold eH;rw [aZ default hj,iR]
theorem aEm (t:List GN):eH t t.length=sA t:=by unfold eH sA;rw [List.take_length]
theorem lV {r:Int->Int->GR}{name:ByteArray}{at_:Int}{F:Int->GV}:∀ (zs:List Int)(acc:List GV),(∀ z ∈ zs,r z at_=⟨F z,0,-1⟩)->bR r name at_ 0 acc zs=⟨cE name (acc ++ zs.map F),0,-1⟩
 | [],acc,_=>by simp [bR]
 | z :: zs,acc,h=>by
  have hz:=h z (by simp);simp only [bR,Int.add_zero,hz,if_true];rw [lV zs _ (fun y hy=>h y (by simp [hy]))];simp
theorem pC {before:List GL}{F:Int->GV}:∀ (zs:List Int)(r:List GV),(∀ z ∈ zs,before.getD z.toNat default=⟨[F z],false⟩)->bS before [r] zs=some [r ++ zs.map F]
 | [],r,_=>by simp [bS]
 | z :: zs,r,h=>by
  have hz:=h z (by simp);simp only [bS,hz];rw [if_neg (by simp)];have:fA [r] [F z]=[r ++ [F z]]:=rfl;rw [this,pC zs _ (fun y hy=>h y (by simp [hy]))];simp
theorem vM (v:GV):eS [v]=[v]:=oF (List.pairwise_singleton _ _)
theorem wF {before:List Int}:∀ {zs:List Int},(∀ z ∈ zs,0<=before.getD z.toNat 0)->nU before zs=0->∀ z ∈ zs,before.getD z.toNat 0=0
 | [],_,_,z,hz=>by simp at hz
 | y :: ys,h,hs,z,hz=>by
  simp only [nU] at hs
  have hn:∀ {l:List Int},(∀ z ∈ l,0<=before.getD z.toNat 0)->0<=nU before l:=by
   intro l
   induction l with
   | nil=>intro _;simp [nU]
   | cons u us ih=>intro hh;have:=ih (fun w hw=>hh w (by simp [hw]));have:=hh u (by simp);simp only [nU];omega
  have h1:=h y (by simp);have h2:=hn (l:=ys) (fun w hw=>h w (by simp [hw]));rcases List.mem_cons.1 hz with rfl | hz
  ·omega
  ·exact wF (fun w hw=>h w (by simp [hw])) (by omega) z hz
theorem aRq {t:List GN}{n:Nat}(h:bJ t n)(path:List Int):∀ j,j<n->(aT t).getD j 0=0 ->
  (∀ (f:Nat)(at_:Int),j<f->aW t path f j at_=⟨(sA t).getD j default,0,-1⟩)∧(aI t).getD j default=⟨[(sA t).getD j default],false⟩:=by
 intro j
 induction j using Nat.strongRecOn with
 | ind j ih =>
  intro hj h0;have hjt:j<t.length:=by have:=h.1;omega
  have hc:=h.at_ hj;have hL:=kC h j hj;have hlg:=iQ hjt;have hfg:=aNo hjt;have L2:=hL.range;have L4:=hL.seq;have L5:=hL.choice;have L6:=hL.bind;have hn:=hc.node;have hcm:=hc.many;have hcv:=hc.vals;have hft:=gY (t:=t) (j:=j) (by omega)
  have hread:∀ (f:Nat) (at_:Int),j<f->aW t path f j at_=dA (aW t path (f - 1)) path j (t.getD j default) at_:=by
   intro f at_ hf
   cases f with
   | zero=>omega
   | succ f=>simp only [aW,Int.toNat_natCast,Nat.add_sub_cancel]
  generalize hx:t.getD j default=x at *;have hkl:∀ z ∈ x.kids,(aI (t.take j)).getD z.toNat default=(aI t).getD z.toNat default:=fun z hz=>gV hjt (hn.kids z hz)
  have hkf:∀ z ∈ x.kids,(eH t j).getD z.toNat default=(sA t).getD z.toNat default:=fun z hz=>aNn (by omega) (by have:=hn.kids z hz;omega)
  have hln:∀ z ∈ x.kids,0<=(aT t).getD z.toNat 0:=fun z hz=>(kC h z.toNat (by have:=hn.kids z hz;omega)).bd.1
  have hkd:=hn.kind;unfold dZ at hfg;rw [if_neg (by rw [hft];omega)] at hfg
  by_cases k0:x.kind=0
  ·rw [if_pos k0] at hfg
   rw [hfg,hlg];refine ⟨fun f at_ hf=>?_,by unfold cN;rw [if_pos k0]⟩;rw [hread f at_ hf];unfold dA;rw [if_pos k0]
  rw [if_neg k0] at hfg
  by_cases k1:x.kind=1
  ·have:=L2 k1;omega
  by_cases k2:x.kind=2
  ·have:=(L5 k2).1;omega
  by_cases k3:x.kind=3
  ·rw [if_pos k3] at hfg
   have hz0:=wF hln (by rw [<- L4 k3];exact h0);have hmap:x.kids.map (fun z=>(eH t j).getD z.toNat default)=x.kids.map (fun z=>(sA t).getD z.toNat default):=List.map_congr_left hkf;rw [hmap] at hfg;rw [hfg,hlg];refine ⟨fun f at_ hf=>?_,?_⟩
   ·rw [hread f at_ hf]
    unfold dA;rw [if_neg k0,if_pos k3];rw [lV (F:=fun z=>(sA t).getD z.toNat default)]
    ·simp
    ·intro z hz
     have hzz:=hn.kids z hz;have:=(ih z.toNat (by omega) (by omega) (hz0 z hz)).1 (f - 1) at_ (by omega);rw [Int.toNat_of_nonneg hzz.1] at this;exact this
   ·unfold cN
    rw [if_neg k0,if_neg k1,if_pos k3];unfold vO;rw [pC (F:=fun z=>(sA t).getD z.toNat default)]
    ·simp [vM]
    ·intro z hz
     rw [hkl z hz];have hzz:=hn.kids z hz;exact (ih z.toNat (by omega) (by omega) (hz0 z hz)).2
  ·have k4:x.kind=4:=by omega
   rw [if_neg k3,if_pos k4] at hfg;have hb:=hn.bind k4;have hbl:=L6 k4;have hm0:x.kids.getD 0 0 ∈ x.kids:=aG (by omega);have hz0:=hn.kids _ hm0;have hln0:=hln _ hm0;have l0:(aT t).getD (x.kids.getD 0 0).toNat 0=0:=by have:=hbl.1;omega
   have i0:=ih (x.kids.getD 0 0).toNat (by omega) (by omega) l0;have hv:=hcv k4;rw [i0.2] at hv;have hvl:x.values.length=1:=by rw [<- hv];rfl
   have hm1:x.kids.getD 1 0 ∈ x.kids:=aG (by omega);have hz1:=hn.kids _ hm1;have hln1:=hln _ hm1;have l1:(aT t).getD (x.kids.getD 1 0).toNat 0=0:=by have:=hbl.2 1 (by omega) (by omega);omega
   have i1:=ih (x.kids.getD 1 0).toNat (by omega) (by omega) l1;rw [hkf _ hm1] at hfg;rw [hfg,hlg]
   have hfind:(cR x.values ((sA t).getD (x.kids.getD 0 0).toNat default)).1=0:=by
    have:=(kD hn.inc (v:=(sA t).getD (x.kids.getD 0 0).toNat default) (by rw [<- hv];simp)).2.1;omega
   refine ⟨fun f at_ hf=>?_,?_⟩
   ·rw [hread f at_ hf]
    unfold dA;rw [if_neg k0,if_neg k3,if_pos k4];have r0:=i0.1 (f - 1) at_ (by omega);rw [Int.toNat_of_nonneg hz0.1] at r0;have r1:=i1.1 (f - 1) at_ (by omega);rw [Int.toNat_of_nonneg hz1.1] at r1;rw [r0,if_pos rfl];simp only [hfind,Int.add_zero,Nat.zero_add,r1]
   ·unfold cN
    rw [if_neg k0,if_neg k1,if_neg k3]
    have hk2:x.kids=[x.kids.getD 0 0,x.kids.getD 1 0]:=by
     have hl2:x.kids.length=2:=by omega
     match hkk:x.kids,hl2 with
     | [a,b],_=>rfl
    rw [hk2];have e1:=hkl _ hm1;rw [i1.2] at e1;simp [-List.getD_eq_getElem?_getD,jH,k4,e1,vM]
    rfl
structure GF where
 val:GV
 at_:Int
 good:Bool
def cJ (path:List Int)(x:GN)(at_:Int)(good:Bool):Int × Int × Bool :=
 if (path.length:Int)<=at_∨path.getD at_.toNat 0<0∨bE x<=path.getD at_.toNat 0 then (0,at_,false) else (path.getD at_.toNat 0,at_+1,good)
def fF (r:Int->Int->Bool->GF)(name:ByteArray):Int->Bool->List GV->List Int->GF
 | at_,good,acc,[]=>⟨cE name acc,at_,good⟩
 | at_,good,acc,z :: zs=>fF r name (r z at_ good).at_ (r z at_ good).good (acc ++ [(r z at_ good).val]) zs
def nA (r:Int->Int->Bool->GF)(t:List GN)(path:List Int)(i:Int)(x:GN)(at_:Int)(good:Bool):GF :=
 if (aT t).getD i.toNat 0=0 then ⟨(sA t).getD i.toNat default,at_,good⟩
 else if x.kind=1 then ⟨.mk 0 (x.lo+(cJ path x at_ good).1) ByteArray.empty [],(cJ path x at_ good).2.1,(cJ path x at_ good).2.2⟩
 else if x.kind=2 then r (x.kids.getD (cJ path x at_ good).1.toNat 0) (cJ path x at_ good).2.1 (cJ path x at_ good).2.2
 else if x.kind=4 then r (x.kids.getD ((cR x.values (r (x.kids.getD 0 0) at_ good).val).1+1) 0) (r (x.kids.getD 0 0) at_ good).at_ (r (x.kids.getD 0 0) at_ good).good
 else fF r x.name at_ good [] x.kids
def iT (t:List GN)(path:List Int):Nat->Int->Int->Bool->GF
 | 0,_,at_,good=>⟨default,at_,good⟩
 | f+1,i,at_,good=>nA (iT t path f) t path i (t.getD i.toNat default) at_ good
structure aOf (t:List GN)(path:List Int)(i:Nat)(at_:Int)(good:Bool)(s:GR)(r:GF):Prop where
 at0:at_<=r.at_∧r.at_<=path.length
 mem:((aI t).getD i default).many=false->r.val ∈ ((aI t).getD i default).vals
 bad:good=false->r.good=false
 yes:good=true->s.stop=-1->r.val=s.val∧r.at_=at_+s.used∧r.good=true
 no:good=true->¬ s.stop=-1->r.good=false
structure aB8 (t:List GN)(path:List Int)(name:ByteArray)(at0 used:Int)(good:Bool)(acc:List GV)(zs:List Int)(s:GR)(r:GF):Prop where
 bd:at0+used<=r.at_∧r.at_<=path.length
 mem:(∀ z ∈ zs,((aI t).getD z.toNat default).many=false)->∃ vs,aOg (aI t) vs zs∧r.val=cE name (acc ++ vs)
 bad:good=false->r.good=false
 yes:good=true->s.stop=-1->r.val=s.val∧r.at_=at0+s.used∧r.good=true
 no:good=true->¬ s.stop=-1->r.good=false
theorem pY {t:List GN}{path:List Int}{i:Nat}{name:ByteArray}{rr:Int->Int->GR}{r:Int->Int->Bool->GF}{at0:Int}
  (hr:∀ (z k:Int)(g:Bool),0<=z->z<i->0<=k->k<=path.length->aOf t path z.toNat k g (rr z k) (r z k g))(h0:0<=at0) :
  ∀ (zs:List Int) (used:Int) (good:Bool) (acc:List GV),(∀ z ∈ zs,0<=z∧z<(i:Int))->0<=used->at0+used<=path.length ->
   aB8 t path name at0 used good acc zs (bR rr name at0 used acc zs) (fF r name (at0+used) good acc zs)
 | [],used,good,acc,_,h1,h2=>by
  simp only [bR,fF];exact ⟨⟨Int.le_refl _,h2⟩,fun _=>⟨[],trivial,by simp⟩,fun h=>h,fun h _=>⟨rfl,rfl,h⟩,fun _ h=>absurd rfl h⟩
 | z :: zs,used,good,acc,hz,h1,h2=>by
  have hz0:=hz z (by simp);have hb:=hr z (at0+used) good hz0.1 hz0.2 (by omega) h2;simp only [bR,fF];generalize rr z (at0+used)=s at *;generalize r z (at0+used) good=b at *;obtain ⟨v,a,g⟩:=b;have ha:=hb.at0;have hbad:=hb.bad;have hyes:=hb.yes;have hno:=hb.no;have hmem:=hb.mem;simp only at ha hbad hyes hno hmem ⊢;have ih:=pY (name:=name) hr h0 zs (a - at0) g (acc ++ [v]) (fun y hy=>hz y (by simp [hy])) (by omega) (by omega);have e:at0+(a - at0)=a:=by omega
  rw [e] at ih;have ih0:=ih.bd;have ihb:=ih.bad;have ihm:=ih.mem;have ihy:=ih.yes;have ihn:=ih.no;generalize fF r name a g (acc ++ [v]) zs=R at *;refine ⟨⟨by omega,ih0.2⟩,fun hm=>?_,fun hg=>ihb (hbad hg),fun hg hs=>?_,fun hg hs=>?_⟩
  ·obtain ⟨vs,q1,q2⟩:=ihm (fun y hy=>hm y (by simp [hy]))
   exact ⟨v :: vs,⟨hmem (hm z (by simp)),q1⟩,by rw [q2];simp⟩
  ·by_cases hs1:s.stop=-1
   ·obtain ⟨y1,y2,y3⟩:=hyes hg hs1
    subst y1 y3;have e2:a - at0=used+s.used:=by omega
    rw [e2] at ihy;rw [if_pos hs1] at hs ⊢;exact ihy rfl hs
   ·rw [if_neg hs1] at hs
    exact absurd hs hs1
  ·by_cases hs1:s.stop=-1
   ·obtain ⟨y1,y2,y3⟩:=hyes hg hs1
    subst y1 y3;have e2:a - at0=used+s.used:=by omega
    rw [e2] at ihn;rw [if_pos hs1] at hs;exact ihn rfl hs
   ·exact ihb (hno hg hs1)
theorem aEk {t:List GN}{n:Nat}(h:bJ t n)(path:List Int)(hpl:path.length<=1000000):∀ (f:Nat)(i:Nat)(at_:Int)(good:Bool),i<f->i<n->0<=at_->at_<=path.length ->
  aOf t path i at_ good (aW t path f i at_) (iT t path f i at_ good)
 | 0,i,at_,good,hf,_,_,_=>by omega
 | f+1,i,at_,good,hf,hi,ha0,ha1=>by
  have hit:i<t.length:=by have:=h.1;omega
  have hc:=h.at_ hi;have hL:=kC h i hi
  have hr:∀ (z k:Int) (g:Bool),0<=z->z<i->0<=k->k<=path.length->aOf t path z.toNat k g (aW t path f z k) (iT t path f z k g):=fun z k g h1 h2 h3 h4=>by
   have:=aEk h path hpl f z.toNat k g (by omega) (by omega) h3 h4;rw [Int.toNat_of_nonneg h1] at this;exact this
  have hlg:=iQ hit;have hfx:=aRq h path i hi
  by_cases hl0:(aT t).getD i 0=0
  ·obtain ⟨q1,q2⟩:=hfx hl0
   rw [q1 (f+1) at_ hf];simp only [iT,Int.toNat_natCast];unfold nA;rw [Int.toNat_natCast,if_pos hl0];exact ⟨⟨Int.le_refl _,ha1⟩,fun _=>by rw [q2];simp,fun h=>h,fun h _=>⟨rfl,by simp,h⟩,fun _ h=>absurd rfl h⟩
  simp only [aW,iT,Int.toNat_natCast];have hn:=hc.node;have hcm:=hc.many;have hcv:=hc.vals;have L2:=hL.range;have L3:=hL.leaf;generalize hx:t.getD i default=x at *;have hkd:=hn.kind;have hkl:∀ z ∈ x.kids,(aI (t.take i)).getD z.toNat default=(aI t).getD z.toNat default:=fun z hz=>gV hit (hn.kids z hz)
  have k0:¬ x.kind=0:=fun k=>hl0 (L3 k)
  unfold nA dA;rw [Int.toNat_natCast,if_neg hl0,if_neg k0]
  by_cases k3:x.kind=3
  ·have n1:¬ x.kind=1:=by omega
   have n2:¬ x.kind=2:=by omega
   have n4:¬ x.kind=4:=by omega
   simp only [if_pos k3,if_neg n1,if_neg n2,if_neg n4];have hp:=pY (name:=x.name) hr ha0 x.kids 0 good [] (fun z hz=>hn.kids z hz) (Int.le_refl _) (by omega);rw [Int.add_zero] at hp;generalize bR (aW t path f) x.name at_ 0 [] x.kids=S at *;generalize fF (iT t path f) x.name at_ good [] x.kids=R at *;refine ⟨by have:=hp.bd;omega,fun hm=>?_,hp.bad,hp.yes,hp.no⟩;rw [hlg] at hm ⊢;unfold cN at hm ⊢;rw [if_neg k0,if_neg (by omega),if_pos k3] at hm ⊢;unfold vO at hm ⊢
   split at hm
   ·cases hm
   ·next rows hrows =>
    (try rw [hrows])
    have hmm:=jV x.kids _ rows hrows;obtain ⟨vs,h3,h4⟩:=hp.mem (fun z hz=>by rw [<- hkl z hz];exact hmm z hz)
    show R.val ∈ eS _
    rw [eY,h4];refine List.mem_map.2 ⟨vs,?_,by simp⟩;have:=lF x.kids _ rows hrows [] (by simp) vs (h3.cast (fun z hz=>(hkl z hz).symm))
    simpa using this
  by_cases k4:x.kind=4
  ·have n1:¬ x.kind=1:=by omega
   have n2:¬ x.kind=2:=by omega
   simp only [if_neg k3,if_pos k4,if_neg n1,if_neg n2];have hbk:=hn.bind k4;have hz0:x.kids.getD 0 0 ∈ x.kids:=aG (by omega);have hz0':=hn.kids _ hz0;have ha:=hr (x.kids.getD 0 0) at_ good hz0'.1 hz0'.2 ha0 ha1;have hm0:=hcm k4;have hv0:=hcv k4;have hinc:=hn.inc;generalize aW t path f (x.kids.getD 0 0) at_=a at *;generalize iT t path f (x.kids.getD 0 0) at_ good=a' at *;have p1:=ha.at0;have hmem:=ha.mem hm0;rw [hv0] at hmem;obtain ⟨f1,f2,f3⟩:=kD hinc hmem;have hq:(cR x.values a'.val).1+1<x.kids.length:=by omega
   have hzq:=hn.kids _ (aG (d:=0) hq);have hb:=hr (x.kids.getD ((cR x.values a'.val).1+1) 0) a'.at_ a'.good hzq.1 hzq.2 (by omega) p1.2;have b0:=hb.at0;refine ⟨by omega,fun hm=>?_,fun hg=>hb.bad (ha.bad hg),fun hg hs=>?_,fun hg hs=>?_⟩
   ·rw [hlg] at hm ⊢
    unfold cN at hm ⊢;rw [if_neg k0,if_neg (by omega),if_neg k3] at hm ⊢;obtain ⟨h3,h4⟩:=(iX x.kids 0 [] hm).2 _ hq (by omega);rw [hkl _ (aG hq)] at h3 h4;exact h4 _ (hb.mem h3)
   ·by_cases hs1:a.stop=-1
    ·obtain ⟨y1,y2,y3⟩:=ha.yes hg hs1
     rw [if_pos hs1] at hs ⊢;rw [y1,y2,y3] at hb;obtain ⟨z1,z2,z3⟩:=hb.yes rfl hs;rw [y1,y2,y3];exact ⟨z1,by rw [z2];show _=at_+(_+_);omega,z3⟩
    ·rw [if_neg hs1] at hs
     exact absurd hs hs1
   ·by_cases hs1:a.stop=-1
    ·obtain ⟨y1,y2,y3⟩:=ha.yes hg hs1
     rw [if_pos hs1] at hs;rw [y1,y2,y3] at hb ⊢;exact hb.no rfl hs
    ·exact hb.bad (ha.no hg hs1)
  simp only [if_neg k3,if_neg k4];have k12:x.kind=1∨x.kind=2:=by omega
  have hopt:=eR hn
  by_cases hbad:(path.length:Int)<=at_∨path.getD at_.toNat 0<0∨bE x<=path.getD at_.toNat 0
  ·
   have hch:cJ path x at_ good=(0,at_,false):=by unfold cJ;rw [if_pos hbad]
   rw [hch]
   generalize hS:(if (path.length:Int)<=at_ then (⟨bO,0,(i:Int)⟩:GR) else if path.getD at_.toNat 0<0∨bE x<=path.getD at_.toNat 0 then ⟨bO,0,-2⟩
     else if x.kind=1 then ⟨.mk 0 (x.lo+path.getD at_.toNat 0) ByteArray.empty [],1,-1⟩
     else ⟨(aW t path f (x.kids.getD (path.getD at_.toNat 0).toNat 0) (at_+1)).val,(aW t path f (x.kids.getD (path.getD at_.toNat 0).toNat 0) (at_+1)).used+1,(aW t path f (x.kids.getD (path.getD at_.toNat 0).toNat 0) (at_+1)).stop⟩)=S
   have hstop:¬ S.stop=-1:=by
    rw [<- hS]
    split
    ·show ¬ (i:Int)=-1;omega
    ·next h1 =>
     rw [if_pos (by rcases hbad with hb | hb | hb <;> (first | exact absurd hb h1 | exact .inl hb | exact .inr hb))]
     decide
   by_cases k1:x.kind=1
   ·rw [if_pos k1]
    have hnum:=cY hn.numbers;refine ⟨⟨Int.le_refl _,ha1⟩,fun hm=>?_,fun _=>rfl,fun _ hs=>absurd hs hstop,fun _ _=>rfl⟩;rw [hlg] at hm ⊢;unfold cN at hm ⊢;rw [if_neg k0,if_pos k1] at hm ⊢
    split at hm
    ·cases hm
    ·next hr=>rw [if_neg hr];exact iK.2 ⟨x.lo+0,by omega,by omega,rfl⟩
   ·have k2:x.kind=2:=by omega
    rw [if_neg k1,if_pos k2];have hch2:=hn.choice k2;have hq:(0:Int).toNat<x.kids.length:=by simp;omega
    have hzq:=hn.kids _ (aG (d:=0) hq);have hb:=hr (x.kids.getD (0:Int).toNat 0) at_ false hzq.1 hzq.2 ha0 ha1;refine ⟨hb.at0,fun hm=>?_,fun _=>hb.bad rfl,fun _ hs=>absurd hs hstop,fun _ _=>hb.bad rfl⟩;rw [hlg] at hm ⊢;unfold cN at hm ⊢;rw [if_neg k0,if_neg k1,if_neg k3] at hm ⊢;obtain ⟨h3,h4⟩:=(iX x.kids 0 [] hm).2 (0:Int).toNat hq (by simp [k4]);rw [hkl _ (aG hq)] at h3 h4;exact h4 _ (hb.mem h3)
  ·have hch:cJ path x at_ good=(path.getD at_.toNat 0,at_+1,good):=by unfold cJ;rw [if_neg hbad]
   rw [hch];have hb1:¬ (path.length:Int)<=at_:=fun k=>hbad (.inl k)
   have hb2:¬ (path.getD at_.toNat 0<0∨bE x<=path.getD at_.toNat 0):=fun k=>hbad (.inr k)
   rw [if_neg hb1,if_neg hb2];rw [hopt] at hb2;generalize path.getD at_.toNat 0=c at *
   by_cases k1:x.kind=1
   ·simp only [if_pos k1]
    rw [if_pos k1] at hb2;have hnum:=cY hn.numbers;refine ⟨⟨by show at_<=at_+1;omega,by show at_+1<=_;omega⟩,fun hm=>?_,fun hg=>hg,fun hg _=>⟨rfl,rfl,hg⟩,fun _ hs=>absurd rfl hs⟩;rw [hlg] at hm ⊢;unfold cN at hm ⊢;rw [if_neg k0,if_pos k1] at hm ⊢
    split at hm
    ·cases hm
    ·next hr=>rw [if_neg hr];exact iK.2 ⟨x.lo+c,by omega,by omega,rfl⟩
   ·have k2:x.kind=2:=by omega
    simp only [if_neg k1,if_pos k2];rw [if_neg k1] at hb2;have hq:c.toNat<x.kids.length:=by omega
    have hzq:=hn.kids _ (aG (d:=0) hq);have hb:=hr (x.kids.getD c.toNat 0) (at_+1) good hzq.1 hzq.2 (by omega) (by omega);generalize aW t path f (x.kids.getD c.toNat 0) (at_+1)=S at *;have b0:=hb.at0;refine ⟨by omega,fun hm=>?_,hb.bad,fun hg hs=>?_,fun hg hs=>hb.no hg hs⟩
    ·rw [hlg] at hm ⊢
     unfold cN at hm ⊢;rw [if_neg k0,if_neg k1,if_neg k3] at hm ⊢;obtain ⟨h3,h4⟩:=(iX x.kids 0 [] hm).2 c.toNat hq (by simp [k4]);rw [hkl _ (aG hq)] at h3 h4;exact h4 _ (hb.mem h3)
    ·obtain ⟨y1,y2,y3⟩:=hb.yes hg hs
     exact ⟨y1,by rw [y2];show at_+1+S.used=at_+(S.used+1);omega,y3⟩
def aU (t:List GN)(path:List Int):Bool:=decide (0<t.length) && (iT t path t.length ((t.length:Int) - 1) 0 true).good && decide ((iT t path t.length ((t.length:Int) - 1) 0 true).at_=path.length)
theorem aHw {l:List GV}(h:Inc l){i j:Nat}(hij:i<j)(hj:j<l.length):cO (l.getD i default) (l.getD j default)<0:=by
 have:=List.pairwise_iff_getElem.1 h i j (by omega) hj hij;have h1:l.getD i default=l[i]:=by simp [show i<l.length by omega]
 have h2:l.getD j default=l[j]:=by simp [hj]
 rw [h1,h2];exact this
theorem wO {l:List GV}(h:Inc l)(x:GV){i j:Nat}(hij:i<=j)(hj:j<l.length)(hx:cO (l.getD j default) x<0):cO (l.getD i default) x<0:=by
 rcases Nat.eq_or_lt_of_le hij with rfl | hij
 ·exact hx
 ·exact ltV.tr (aHw h hij hj) hx
def aUs (l:List GV)(x:GV)(W:World)(s9 s10:Value)(wr:World):Prop:=∃ i j:Nat,i<=j∧j<=l.length∧s9=.int .i64 i∧s10=.int .i64 j∧Ext W wr∧(∀ k,k<i->cO (l.getD k default) x<0)∧(∀ k,j<=k->k<l.length->0<=cO (l.getD k default) x)
theorem aH2 {l:List GV}{x:GV}{i:Nat}(hi:i<=l.length)(h1:∀ k,k<i->cO (l.getD k default) x<0)(h2:∀ k,i<=k->k<l.length->¬ cO (l.getD k default) x<0) :
  (cR l x).1=i∧(cR l x).2=(decide (i<l.length) && decide (cO (l.getD i default) x=0)):=by
 have hg:∀ (l:List GV) (i o:Nat),i<=l.length->(∀ k,k<i->cO (l.getD k default) x<0)->(∀ k,i<=k->k<l.length->¬ cO (l.getD k default) x<0) ->
   cM x o l=(o+i,(decide (i<l.length) && decide (cO (l.getD i default) x=0))):=by
  intro l
  induction l with
  | nil =>
   intro i o hi _ _;obtain rfl:i=0:=by simpa using hi
   simp [cM]
  | cons y ys ih =>
   intro i o hi h1 h2
   cases i with
   | zero =>
    have:=h2 0 (Nat.le_refl _) (by simp);simp only [List.getD_cons_zero] at this;simp only [cM];rw [if_neg this];simp
   | succ i =>
    have h0:=h1 0 (by omega);simp only [List.getD_cons_zero] at h0;simp only [cM];rw [if_pos h0,ih i (o+1) (by simpa using hi) (fun k hk=>by have:=h1 (k+1) (by omega);simpa using this) (fun k hk hk'=>by have:=h2 (k+1) (by omega) (by simpa using hk');simpa using this)];simp;omega
 have:=hg l i 0 hi h1 h2;unfold cR;rw [this];simp
theorem wX (l:List GV)(x:GV)(A:Option Addr)(c:Nat)(P Q:Nat->Prop)(v:Value)(w:World)(hl:cB w P v l)(hx:VAt w Q x A c)(hinc:Inc l)(hlen:l.length<=1000000) :
  Calls Tryz.prog 218 #[v,eI x A c,.func (.func 134) #[] #[]] w (yQ (.int .i64 (cR l x).1) (.bool (cR l x).2) w):=by
 have HL:=aV4 hl;have HX:=aV4 hx;have HI:=aV4 hinc;obtain ⟨Al,cl,el,h1,h2⟩:=hl.form;subst el;clear hl hx hinc;go_enter Tryz.func218,Tryz.ntmps218;go_wp2_with fail;have HE:=aV4 ((Ext.refl w).alloc' (.cells #[.int .i64 x.kind,.int .i64 x.n,.string x.s,.slice A x.kids.length c] 85));have HB:=aV4 (Blk.new w 85 #[.int .i64 x.kind,.int .i64 x.n,.string x.s,.slice A x.kids.length c]);generalize w.alloc (.cells #[.int .i64 x.kind,.int .i64 x.n,.string x.s,.slice A x.kids.length c] 85)=W at *;go_loopw [9,10] (fun a b wr=>aUs l x W a b wr) (fun a b _=>(intOf b).toNat - (intOf a).toNat)
 case atStart=>exact ⟨0,l.length,Nat.zero_le _,Nat.le_refl _,rfl,rfl,Ext.refl _,fun k hk=>by omega,fun k hk hk'=>by omega⟩
 case round =>
  obtain ⟨i,j,hij,hj,rfl,rfl,hE,hlo,hhi⟩:=hrel;have HE1:=aV4 hE;have HLO:=aV4 hlo;have HHI:=aV4 hhi;clear hE hlo hhi
  by_cases hlt:i<j
  ·go_upto_region 5 with fail
   obtain ⟨h,hh⟩:∃ h:Nat,((i:Int)+(j:Int)) / 2=(h:Int):=⟨(((i:Int)+(j:Int)) / 2).toNat,by omega⟩;have h1':i<=h:=by omega
   have h2':h<j:=by omega
   rw [hh];clear hh;have hhl:h<l.length:=by omega
   obtain ⟨b1,o1,A1,d1,rfl,-,hv1,g10,g11,g12,g13⟩:=(HL.out.ext (HE.out.trans' HE1.out)).get hhl;have HV1:=aV4 hv1;have HMX:=aV4 (HX.out.ext (HE.out.trans' HE1.out));obtain ⟨x0,x1,x2,x3⟩:=aY (HB.out.ext HE1.out);have HG:=aV4 (show ∃ y,y=l.getD h default from ⟨_,rfl⟩);obtain ⟨y,hy⟩:=HG.out;have HY:=aV4 hy;rw [<- hy] at HV1 g10 g11 g12 g13;clear hv1 hy HG;have hq0:(0:Int)<=(h:Int):=by omega
   have hq1:(h:Int)<(l.length:Int):=by omega
   go_still_tail 6,(by kernel_rfl);go_wp2_with fail;refine (bQ y x A1 A d1 c P Q _ (HV1.out.ext (Ext.refl _).drew') (HMX.out.ext (Ext.refl _).drew')).mono ?_;rintro e w2 ⟨rfl,hx2⟩;have HX2:=aV4 (HE1.out.trans' ((Ext.refl _).drew'.trans' hx2));clear hx2
   by_cases hz:cO y x<0
   ·have HZ:=aV4 hz
    go_wp2_with fail;go_roundw
    case rel=>exact ⟨h+1,j,by omega,hj,by go_num,rfl,HX2.out,fun k hk=>wO HI.out x (show k<=h by omega) hhl (by rw [<- HY.out];exact HZ.out),HHI.out⟩
    case measure=>simp [intOf];omega
   ·have HZ:=aV4 hz
    go_wp2_with fail;go_roundw
    case rel=>exact ⟨i,h,h1',by omega,rfl,rfl,HX2.out,HLO.out,fun k hk hk'=>Int.not_lt.1 (fun hc=>absurd (show cO y x<0 by rw [HY.out];exact wO HI.out x hk hk' hc) (Int.not_lt.2 HZ.out))⟩
    case measure=>simp [intOf];omega
  ·obtain rfl:i=j:=by omega
   have HF:=aV4 (aH2 (x:=x) hj HLO.out (fun k hk hk'=>Int.not_lt.2 (HHI.out k hk hk')));clear HLO HHI
   by_cases hn:i<l.length
   ·have hd:decide (i<l.length)=true:=aV7 hn
    have hd':decide ((i:Int)<(l.length:Int))=true:=aV7 (by omega);obtain ⟨b1,o1,A1,d1,rfl,-,hv1,g10,g11,g12,g13⟩:=(HL.out.ext (HE.out.trans' HE1.out)).get hn;have HF2:=aV4 (show (cR l x).2=decide (cO (l.getD i default) x=0) by rw [HF.out.2,hd];rfl);have HMX:=aV4 (HX.out.ext (HE.out.trans' HE1.out));have HV1:=aV4 hv1;obtain ⟨x0,x1,x2,x3⟩:=aY (HB.out.ext HE1.out);generalize l.getD i default=y at *;have hq0:(0:Int)<=(i:Int):=by omega
    have hq1:(i:Int)<(l.length:Int):=by omega
    clear hv1;go_upto_region 8 with fail
    go_region_held3 (fun w'=>w'.cell? ⟨b1,o1+i*4,none⟩=some (.int .i64 y.kind)∧w'.cell? ⟨b1,o1+i*4+1,none⟩=some (.int .i64 y.n)∧w'.cell? ⟨b1,o1+i*4+2,none⟩=some (.string y.s)∧w'.cell? ⟨b1,o1+i*4+3,none⟩=some (.slice A1 y.kids.length d1) ∧
      w'.cell? ⟨w.heap.size,0,none⟩=some (.int .i64 x.kind)∧w'.cell? ⟨w.heap.size,1,none⟩=some (.int .i64 x.n)∧w'.cell? ⟨w.heap.size,2,none⟩=some (.string x.s)∧w'.cell? ⟨w.heap.size,3,none⟩=some (.slice A x.kids.length c))
     (first
      | go_keep
      | (go_split_ands
         exact ⟨aB hx2 ‹_›,aB hx2 ‹_›,aB hx2 ‹_›,aB hx2 ‹_›,aB hx2 ‹_›,aB hx2 ‹_›,aB hx2 ‹_›,aB hx2 ‹_›⟩))
     (first
      | (go_at_call 134;refine (bQ y x A1 A d1 c P Q _ (HV1.out.ext (Ext.refl _).drew') (HMX.out.ext (Ext.refl _).drew')).mono ?_;rintro e w2 ⟨rfl,hx2⟩))
    have HX2:=aV4 (HE1.out.trans' ((Ext.refl _).drew'.trans' hx2));clear hx2;go_wp2_with fail;go_ret2;exact ⟨by rw [HF.out.1,HF2.out];rfl,HE.out.trans' HX2.out⟩
   ·have hd:decide (i<l.length)=false:=aV8 hn
    have hd':decide ((i:Int)<(l.length:Int))=false:=aV8 (by omega);have HF2:=aV4 (show (cR l x).2=false by rw [HF.out.2,hd];rfl);go_wp2_with fail;go_quiet (fail);go_wp2_with fail;go_ret2;exact ⟨by rw [HF.out.1,HF2.out];rfl,HE.out.trans' (HE1.out.trans' (Ext.drewN _ _))⟩
theorem qW (l:List GV)(x:GV)(A:Option Addr)(c:Nat)(P Q:Nat->Prop)(v:Value)(w:World)(hl:cB w P v l)(hx:VAt w Q x A c)(hinc:Inc l)(hlen:l.length<=1000000) :
  Calls Tryz.prog 205 #[v,eI x A c] w (yQ (.int .i64 (cR l x).1) (.bool (cR l x).2) w):=by
 have HC:=aV4 (fun (W:World) (h:Ext w W)=>wX l x A c P Q v W (hl.ext h) (hx.ext h) hinc hlen);obtain ⟨Al,cl,el,h1,h2⟩:=hl.form;subst el;clear hl hx hinc;go_enter Tryz.func205,Tryz.ntmps205;go_wp2_with fail;refine (HC.out _ ((Ext.refl w).alloc' _)).mono ?_;rintro e w1 ⟨rfl,hx1⟩;have HX1:=aV4 (((Ext.refl w).alloc' _).trans' hx1);clear hx1;go_wp2_with fail;go_ret2;exact ⟨rfl,HX1.out⟩
theorem vG (x:GN)(a:NA)(b o:Nat)(y:GV)(A:Option Addr)(c:Nat)(P Q:Nat->Prop)(w:World)(hn:cC w b o x a)(hx:NAt w P x a)(hy:VAt w Q y A c)(hinc:Inc x.values)(hlen:x.values.length<=1000000) :
  Calls Tryz.prog 185 #[.pointer (some ⟨b,o,none⟩),eI y A c] w (dC (.int .i64 ((cR x.values y).1+1)) w):=by
 have HC:=aV4 (fun (W:World) (h:Ext w W)=>qW x.values y A c P Q _ W (hx.values.ext h) (hy.ext h) hinc hlen);have HN:=aV4 hn
 have hf:(cR x.values y).1<=x.values.length:=by
  obtain ⟨p,q,e,h1,_⟩:=qA x.values y;rw [h1,e];simp
 clear hx hy hinc hn;go_enter Tryz.func185,Tryz.ntmps185;go_wp2_with fail;have HE:=aV4 ((Ext.refl w).alloc' (.cells #[.int .i64 y.kind,.int .i64 y.n,.string y.s,.slice A y.kids.length c] 85));have HB:=aV4 (Blk.new w 85 #[.int .i64 y.kind,.int .i64 y.n,.string y.s,.slice A y.kids.length c]);generalize w.alloc (.cells #[.int .i64 y.kind,.int .i64 y.n,.string y.s,.slice A y.kids.length c] 85)=W at *;have n6:=(HN.out.ext HE.out).c6;obtain ⟨x0,x1,x2,x3⟩:=aY HB.out;generalize (cR x.values y).1=f at *;generalize (cR x.values y).2=fb at *
 go_region_held3 (fun w'=>w'.cell? ⟨b,o+6,none⟩=some (.slice a.vA x.values.length a.vc)∧w'.cell? ⟨w.heap.size,0,none⟩=some (.int .i64 y.kind)∧w'.cell? ⟨w.heap.size,1,none⟩=some (.int .i64 y.n)∧w'.cell? ⟨w.heap.size,2,none⟩=some (.string y.s)∧w'.cell? ⟨w.heap.size,3,none⟩=some (.slice A y.kids.length c))
  (first
   | go_keep
   | (go_split_ands
      exact ⟨aB hx2 ‹_›,aB hx2 ‹_›,aB hx2 ‹_›,aB hx2 ‹_›,aB hx2 ‹_›⟩))
  (first
   | (go_at_call 205;refine (HC.out _ HE.out.drew').mono ?_;rintro e w2 ⟨rfl,hx2⟩))
 have HX2:=aV4 (HE.out.drew'.trans' hx2);clear hx2;go_wp2_with fail;go_ret;exact ⟨rfl,HX2.out⟩
theorem aRi (a b c d:Value):∀ n:Nat,(madeCells #[a,b,c,d] (n*4)).toList=(List.replicate n [a,b,c,d]).flatten
 | 0=>by simp [madeCells]
 | n+1=>by
  have ih:=aRi a b c d n;unfold madeCells at ih ⊢;simp only [Array.toList_map,Array.toList_range] at ih ⊢;rw [show (n+1)*4=n*4+1+1+1+1 by omega,List.range_succ,List.range_succ,List.range_succ,List.range_succ,List.replicate_succ',List.flatten_append,<- ih];have e0:(n*4) % 4=0:=by omega
  have e1:(n*4+1) % 4=1:=by omega
  have e2:(n*4+1+1) % 4=2:=by omega
  have e3:(n*4+1+1+1) % 4=3:=by omega
  simp [e0,e1,e2,e3]
theorem aAm (w:World)(P:Nat->Prop):∀ n:Nat,RVs w P (List.replicate n default) (List.replicate n [Value.int .i64 0,.int .i64 0,.string ByteArray.empty,.slice none 0 0]).flatten
 | 0=>by simp [RVs]
 | n+1=>by
  simp only [List.replicate_succ,List.flatten_cons,RVs];exact ⟨_,_,rfl,(VAt.zero (w:=w) P).rv,aAm w P n⟩
theorem RVs.set {w:World}{P:Nat->Prop}{l:List GV}{cs us:List Value}(h:RVs w P l cs){k:Nat}(hk:k<l.length){v:GV}(hv:RV w P v us):RVs w P (l.set k v) (cs.take (k*4) ++ us ++ cs.drop (k*4+us.length)):=by
 have hl:=hv.len;rw [hl,show k*4+4=(k+1)*4 by omega,List.set_eq_take_append_cons_drop,if_pos hk,List.append_assoc];refine RVs.append (h.take k) ?_
 show RVs w P ([v] ++ l.drop (k+1)) _
 exact RVs.append (RVs.one hv) (h.drop (k+1))
theorem fN (w:World)(p:Addr):w.drew.cell? p=w.cell? p:=rfl
theorem fX {w:World}{g o b off:Nat}{u u0 u1 u2 u3:Value}(hne:¬ b=g)(h:w.cell? ⟨b,off,none⟩=some u):((((w.setCell ⟨g,o,none⟩ u0).setCell ⟨g,o+1,none⟩ u1).setCell ⟨g,o+2,none⟩ u2).setCell ⟨g,o+3,none⟩ u3).cell? ⟨b,off,none⟩=some u :=
 fY (p:=⟨g,o+3,none⟩) hne (fY (p:=⟨g,o+2,none⟩) hne (fY (p:=⟨g,o+1,none⟩) hne (fY (p:=⟨g,o,none⟩) hne h)))
theorem eC {w:World}{g o b off:Nat}{u u0 u1 u2 u3:Value}(hne:¬ b=g)(h:w.cell? ⟨b,off,none⟩=some u):((((w.setCell ⟨g,o,none⟩ u0).setCell ⟨g,o+1,none⟩ u1).setCell ⟨g,o+2,none⟩ u2).setCell ⟨g,o+3,none⟩ u3).drew.cell? ⟨b,off,none⟩=some u:=by rw [fN];exact fX hne h
theorem kV {w:World}{g o o':Nat}{u x:Value}(hne:¬ o'=o)(h:w.cell? ⟨g,o',none⟩=some u):(w.setCell ⟨g,o,none⟩ x).cell? ⟨g,o',none⟩=some u:=by
 rw [<- h];exact World.cell?_setCell_other _ _ _ _ (fun e=>hne (by injection e with _ e;exact e.symm))
theorem kW {w:World}{g k z:Nat}{u u0 u1 u2 u3:Value}(hne:¬ z=k){o:Nat}(h:w.cell? ⟨g,o,none⟩=some u)(i:Nat)(hi:i<4)(ho:o=z*4+i):((((w.setCell ⟨g,k*4,none⟩ u0).setCell ⟨g,k*4+1,none⟩ u1).setCell ⟨g,k*4+2,none⟩ u2).setCell ⟨g,k*4+3,none⟩ u3).drew.cell? ⟨g,o,none⟩=some u:=by
 rw [fN];exact kV (by omega) (kV (by omega) (kV (by omega) (kV (by omega) h)))
structure kG (t:List GN)(vn:Value)(gw gs gl gf:Nat)(P:Nat->Prop)(w:World):Prop where
 box:Blk w gw 149 #[.pointer (some ⟨gs,0,none⟩),.slice (some ⟨gl,0,none⟩) t.length t.length,.slice (some ⟨gf,0,none⟩) t.length t.length]
 sets:w.cell? ⟨gs,0,none⟩=some vn
 lens:Blk w gl 3 (mP (aT t))
 fixed:cB w P (.slice (some ⟨gf,0,none⟩) t.length t.length) (sA t)
 nodes:Nds w P vn t
 pw:P gw
 ps:P gs
 pl:P gl
theorem kG.carry {t:List GN}{vn:Value}{gw gs gl gf:Nat}{P Q:Nat->Prop}{w w':World}(h:kG t vn gw gs gl gf P w)(hk:aD P w w')(hPQ:∀ b,b<w.heap.size->P b->Q b):kG t vn gw gs gl gf Q w' :=
 ⟨(hk _ h.box.lt h.pw).trans h.box,by rw [<- h.sets];exact World.cell?_of_block (w:=w) (hk _ (aP h.sets) h.ps),(hk _ h.lens.lt h.pl).trans h.lens,h.fixed.carry hk hPQ,h.nodes.carry hk hPQ,hPQ _ h.box.lt h.pw,hPQ _ (aP h.sets) h.ps,hPQ _ h.lens.lt h.pl⟩
structure WN (t:List GN)(vn:Value)(P:Nat->Prop)(W0:World)(gw gs gl gf:Nat)(ls:List Int)(l:List GV)(w:World):Prop where
 box:Blk w gw 149 #[.pointer (some ⟨gs,0,none⟩),.slice (some ⟨gl,0,none⟩) t.length t.length,.slice (some ⟨gf,0,none⟩) t.length t.length]
 sets:w.cell? ⟨gs,0,none⟩=some vn
 lens:Blk w gl 3 (mP ls)
 fix:∃ cs,Blk w gf 85 cs.toArray∧RVs w (fun b=>(P b∨W0.heap.size<=b)∧b ≠ gl∧b ≠ gf) l cs
 nodes:Nds w P vn t
 n1:gw ≠ gl
 n2:gw ≠ gf
 n3:gl ≠ gf
 n4:gs ≠ gl
 n5:gs ≠ gf
 bw:W0.heap.size<=gw
 bs:W0.heap.size<=gs
 bl:W0.heap.size<=gl
 bf:W0.heap.size<=gf
 llen:ls.length=t.length
 flen:l.length=t.length
 ext:Ext W0 w
section
variable {t:List GN}{vn:Value}{P:Nat->Prop}{W0:World}{gw gs gl gf:Nat}{ls:List Int}{l:List GV}{w w':World}
theorem WN.ext_ (h:WN t vn P W0 gw gs gl gf ls l w)(hx:Ext w w'):WN t vn P W0 gw gs gl gf ls l w':=by
 obtain ⟨cs,h1,h2⟩:=h.fix;exact ⟨h.box.ext hx,aB hx h.sets,h.lens.ext hx,⟨cs,h1.ext hx,RVs.keep (aD.of_ext hx) (fun _ h=>h) h2⟩,h.nodes.ext hx,h.n1,h.n2,h.n3,h.n4,h.n5,h.bw,h.bs,h.bl,h.bf,h.llen,h.flen,h.ext.trans' hx⟩
theorem WN.setLen (h:WN t vn P W0 gw gs gl gf ls l w)(hP:∀ b,P b->b<W0.heap.size)(k:Nat)(v:Int):WN t vn P W0 gw gs gl gf (ls.set k v) l (w.setCell ⟨gl,k,none⟩ (.int .i64 v)):=by
 obtain ⟨cs,h1,h2⟩:=h.fix;have hb:=h.bl;have hl:=h.lens.set_ k (.int .i64 v);rw [uD] at hl
 exact ⟨h.box.far (p:=⟨gl,k,none⟩) h.n1 _,fY h.n4 h.sets,hl,⟨cs,h1.far (p:=⟨gl,k,none⟩) h.n3.symm _,RVs.carry (aD.set (p:=⟨gl,k,none⟩) (fun _ _ _=>rfl) _ (fun hq=>hq.2.1 rfl)) (fun _ _ h=>h) h2⟩,
  h.nodes.carry (aD.set (p:=⟨gl,k,none⟩) (fun _ _ _=>rfl) _ (fun hq=>by have:=hP _ hq;simp at this;omega)) (fun _ _ h=>h),h.n1,h.n2,h.n3,h.n4,h.n5,h.bw,h.bs,h.bl,h.bf,by simp [h.llen],h.flen,((Fr.of_ext (M:=fun _=>False) h.ext).setCell (p:=⟨gl,k,none⟩) (.inr hb) _).ext⟩
theorem WN.setFix (h:WN t vn P W0 gw gs gl gf ls l w)(hP:∀ b,P b->b<W0.heap.size){k:Nat}(hk:k<t.length){v:GV}{us:List Value}(hv:RV w (fun b=>(P b∨W0.heap.size<=b)∧b ≠ gl∧b ≠ gf) v us):WN t vn P W0 gw gs gl gf ls (l.set k v) (w.setCells gf (k*4) us):=by
 obtain ⟨cs,h1,h2⟩:=h.fix;have hb:=h.bf;have hcl:=h2.len;have hfl:=h.flen;have hus:=hv.len;have hkf:¬ (fun b=>(P b∨W0.heap.size<=b)∧b ≠ gl∧b ≠ gf) gf:=fun hq=>hq.2.2 rfl
 have hkp:¬ P gf:=fun hq=>by have:=hP _ hq;omega
 have hs:aD (fun b=>b=gs) w (w.setCells gf (k*4) us):=aD.setCells (fun e=>h.n5 e.symm) us (k*4) (fun _ _ _=>rfl)
 exact ⟨h.box.farCells h.n2 us _,by rw [<- h.sets];exact World.cell?_of_block (w:=w) (hs _ (aP h.sets) rfl),h.lens.farCells h.n3 us _,
  ⟨_,aR us (k*4) h1 (by omega),RVs.carry (aD.setCells hkf us (k*4) (fun _ _ _=>rfl)) (fun _ _ h=>h) (h2.set (by omega) hv)⟩,
  h.nodes.carry (aD.setCells hkp us (k*4) (fun _ _ _=>rfl)) (fun _ _ h=>h),h.n1,h.n2,h.n3,h.n4,h.n5,h.bw,h.bs,h.bl,h.bf,h.llen,by simp [h.flen],((Fr.of_ext (M:=fun _=>False) h.ext).setCells us (k*4) (.inr hb)).ext⟩
theorem WN.frNew (h:WN t vn P W0 gw gs gl gf ls l w)(hf:Fr (fun b=>b=w.heap.size) w w'):WN t vn P W0 gw gs gl gf ls l w':=by
 exact h.ext_ (hf.new_ext (fun b e=>by omega))
theorem WN.getFix (h:WN t vn P W0 gw gs gl gf ls l w){j:Nat}(hj:j<t.length):∃ A c,VAt w (fun b=>(P b∨W0.heap.size<=b)∧b ≠ gl∧b ≠ gf) (l.getD j default) A c ∧
  w.cell? ⟨gf,j*4,none⟩=some (.int .i64 (l.getD j default).kind)∧w.cell? ⟨gf,j*4+1,none⟩=some (.int .i64 (l.getD j default).n)∧w.cell? ⟨gf,j*4+2,none⟩=some (.string (l.getD j default).s)∧w.cell? ⟨gf,j*4+3,none⟩=some (.slice A (l.getD j default).kids.length c):=by
 obtain ⟨cs,h1,h2⟩:=h.fix;have hfl:=h.flen;obtain ⟨A,c,e,hu⟩:=(h2.get (i:=j) (by omega)).at_
 have hx:∀ i,i<4->cs[j*4+i]?=((cs.drop (j*4)).take 4)[i]?:=by
  intro i hi;rw [List.getElem?_take,if_pos hi,List.getElem?_drop]
 unfold cellsOf at e;refine ⟨A,c,hu,?_,?_,?_,?_⟩
 ·have:=hx 0 (by omega);rw [e] at this;exact h1.cell' _ (by simpa using this)
 ·have:=hx 1 (by omega);rw [e] at this;exact h1.cell' _ (by simpa using this)
 ·have:=hx 2 (by omega);rw [e] at this;exact h1.cell' _ (by simpa using this)
 ·have:=hx 3 (by omega);rw [e] at this;exact h1.cell' _ (by simpa using this)
theorem WN.place (h:WN t vn P W0 gw gs gl gf ls l w){j:Nat}(hj:j<t.length):(∃ y,w.cell? ⟨gf,j*4,none⟩=some y)∧(∃ y,w.cell? ⟨gf,j*4+1,none⟩=some y)∧(∃ y,w.cell? ⟨gf,j*4+2,none⟩=some y)∧(∃ y,w.cell? ⟨gf,j*4+3,none⟩=some y) ∧
  w.frozen? ⟨gf,j*4,none⟩=false∧w.frozen? ⟨gf,j*4+1,none⟩=false∧w.frozen? ⟨gf,j*4+2,none⟩=false∧w.frozen? ⟨gf,j*4+3,none⟩=false:=by
 obtain ⟨A,c,_,h1,h2,h3,h4⟩:=h.getFix hj;obtain ⟨cs,hb,_⟩:=h.fix;exact ⟨⟨_,h1⟩,⟨_,h2⟩,⟨_,h3⟩,⟨_,h4⟩,hb.frozen _,hb.frozen _,hb.frozen _,hb.frozen _⟩
end
def oK (t:List GN)(k:Nat):List GV:=eH t k ++ List.replicate (t.length - k) default
theorem zT {t:List GN}{k:Nat}(hk:k<=t.length):(oK t k).length=t.length:=by unfold oK;rw [List.length_append,gY hk];simp;omega
theorem zU {t:List GN}{k j:Nat}(hk:k<=t.length)(hj:j<k):(oK t k).getD j default=(eH t k).getD j default:=by
 unfold oK;have:=gY hk;simp [List.getD,List.getElem?_append,this,hj]
theorem uF {t:List GN}{k:Nat}(hk:k<t.length):(oK t k).set k (dZ (aT t) (eH t k) (t.getD k default))=oK t (k+1):=by
 unfold oK;have hl:=gY (t:=t) (j:=k) (by omega);rw [aBu hk,List.set_append_right _ _ (by omega),hl,Nat.sub_self,show t.length - k=(t.length - (k+1))+1 by omega,List.replicate_succ,List.set_cons_zero,List.append_assoc]
 rfl
theorem aEn {t:List GN}{k:Nat}(hk:k<t.length)(h:dZ (aT t) (eH t k) (t.getD k default)=default):oK t k=oK t (k+1):=by
 rw [<- uF hk,h];unfold oK;have hl:=gY (t:=t) (j:=k) (by omega);rw [List.set_append_right _ _ (by omega),hl,Nat.sub_self,show t.length - k=(t.length - (k+1))+1 by omega,List.replicate_succ,List.set_cons_zero]
theorem uG (t:List GN):oK t t.length=sA t:=by unfold oK;rw [aEm];simp
def aSv (l:List GV)(Pk:Nat->Prop)(gk:Nat)(W:World)(i:Value)(wr:World):Prop :=
 ∃ (j:Nat) (cs:List Value),j<=l.length∧i=.int .i64 j∧Blk wr gk 85 cs.toArray∧cs.length=l.length*4∧RVs wr Pk (l.take j) (cs.take (j*4))∧Fr (fun b=>b=gk) W wr
theorem aN1 {l:List GV}{Pk:Nat->Prop}{gk:Nat}{W wr:World}{j:Nat}{cs us:List Value}(hg:¬ Pk gk)(hj:j<l.length)(hB:Blk wr gk 85 cs.toArray)(hl:cs.length=l.length*4)(hR:RVs wr Pk (l.take j) (cs.take (j*4)))(hx:Fr (fun b=>b=gk) W wr)(hu:RV wr Pk (l.getD j default) us) :
  aSv l Pk gk W (.int .i64 ((j:Int)+1)) (wr.setCells gk (j*4) us):=by
 have hus:=hu.len;have hB1:=aR us (j*4) hB (by omega);have hk:aD Pk wr (wr.setCells gk (j*4) us):=aD.setCells hg us (j*4) (fun _ _ _=>rfl);refine ⟨j+1,_,by omega,by simp,hB1,?_,?_,hx.setCells us (j*4) (.inl rfl)⟩
 ·simp only [List.length_append,List.length_take,List.length_drop];omega
 ·have e:(cs.take (j*4) ++ us ++ cs.drop (j*4+us.length)).take ((j+1)*4)=cs.take (j*4) ++ us:=by
   rw [List.take_append_of_le_length (by simp only [List.length_append,List.length_take];omega),List.take_of_length_le (by simp only [List.length_append,List.length_take];omega)]
  rw [e,aZ default hj];exact RVs.append (RVs.carry hk (fun _ _ h=>h) hR) (RVs.one (RV.carry hk (fun _ _ h=>h) hu))
end Go.Proofs.YtkoeecdjijfjnaaGreat
