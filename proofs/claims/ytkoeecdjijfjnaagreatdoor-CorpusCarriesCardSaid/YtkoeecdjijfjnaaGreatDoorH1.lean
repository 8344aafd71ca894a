/- Contracts and laws. Conditions: none. -/
import Derived.Test.YtkoeecdjijfjnaaGreatDoorG2
set_option linter.all false
set_option maxRecDepth 100000
set_option maxHeartbeats 8000000
namespace Go.Proofs.YtkoeecdjijfjnaaGreatDoor
open Go.RowKit
def dW (lens:List Int)(before:List GV)(x:GN):GV :=
 if 0<lens.getD before 0 then default
 else if x.kind=0 then x.value
 else if x.kind=3 then cB x.name (x.kids.map (fun z=>before.getD z.toNat default))
 else if x.kind=4 then before.getD (x.kids.getD 1 0).toNat default
 else default
def oM (t:List GN):List GV:=jN (dW (aI t)) [] t
def eH (t:List GN)(j:Nat):List GV:=jN (dW (aI t)) [] (t.take j)
theorem gV {t:List GN}{j:Nat}(hj:j<=t):(eH t j)=j:=by unfold eH;rw [dU];simp;omega
theorem JV {t:List GN}{j:Nat}(hj:j<=t){k:Nat}(hk:k<j):(eH t j).getD k default=(oM t).getD k default:=by
 unfold eH oM;rw [gX _ t j hj];simp [List.getD,hk]
theorem K4 {t:List GN}{j:Nat}(hj:j<t):(oM t).getD j default=dW (aI t) (eH t j) (t.getD j default):=pH _ default t hj
theorem IB {t:List GN}{j:Nat}(hj:j<t):eH t (j+1)=eH t j ++ [dW (aI t) (eH t j) (t.getD j default)]:=by
 unfold eH;rw [aW default hj,iW]
theorem GM (t:List GN):eH t t.length=oM t:=by unfold eH oM;rw [List.take_length]
theorem mD {r:Int->Int->GR}{name:ByteArray}{at_:Int}{F:Int->GV}:∀ (zs:List Int)(acc:List GV),(∀ z ∈ zs,r z at_=⟨F z,0,-1⟩)->bX r name at_ 0 acc zs=⟨cB name (acc ++ zs.map F),0,-1⟩
 | [],acc,_=>by simp [bX]
 | z :: zs,acc,h=>by
  have hz:=h z U;simp only [bX,Int.add_zero,hz,if_true];rw [mD zs _ (fun y hy=>h y dh)];simp
theorem pV {before:List GL}{F:Int->GV}:∀ (zs:List Int)(r:List GV),(∀ z ∈ zs,before.getD z.toNat default=⟨[F z],false⟩)->bU before [r] zs=some [r ++ zs.map F]
 | [],r,_=>by simp [bU]
 | z :: zs,r,h=>by
  have hz:=h z U;simp only [bU,hz];rw [if_neg U];have:eZ [r] [F z]=[r ++ [F z]]:=rfl;rw [this,pV zs _ (fun y hy=>h y dh)];simp
theorem xQ (v:GV):eS [v]=[v]:=oW (List.pairwise_singleton _ _)
theorem qH {before:List Int}:∀ {zs:List Int},(∀ z ∈ zs,0<=before.getD z.toNat 0)->gJ before zs=0->∀ z ∈ zs,before.getD z.toNat 0=0
 | [],_,_,z,hz=>by simp at hz
 | y :: ys,h,hs,z,hz=>by
  simp only [gJ] at hs
  have hn:∀ {l:List Int},(∀ z ∈ l,0<=before.getD z.toNat 0)->0<=gJ before l:=by
   intro l
   induction l with
   | nil=>intro _;simp [gJ]
   | cons u us ih=>intro hh;have:=ih (fun w hw=>hh w (by simp [hw]));have:=hh u U;simp only [gJ];omega
  have h1:=h y U;have h2:=hn (l:=ys) (fun w hw=>h w (by simp [hw]));rcases ao.1 hz with rfl | hz
  ·omega
  ·exact qH (fun w hw=>h w (by simp [hw])) I z hz
theorem xw {t:List GN}{n:Nat}(h:aO t n)(path:List Int):∀ j,j<n->(aI t).getD j 0=0 ->
  (∀ (f:Nat)(at_:Int),j<f->cA t path f j at_=⟨(oM t).getD j default,0,-1⟩)∧(aE t).getD j default=⟨[(oM t).getD j default],false⟩:=by
 intro j
 induction j using Nat.strongRecOn with
 | ind j ih =>
  intro hj h0;have hjt:j<t:=by have:=h.1;omega
  have hc:=h.at_ hj;have hL:=bJ h j hj;have hlg:=iV hjt;have hfg:=K4 hjt;have L2:=hL.range;have L4:=hL.seq;have L5:=hL.choice;have L6:=hL.bind;have hn:=hc.node;have hcv:=hc.vals;have hft:=gV (t:=t) (j:=j) I
  have hread:∀ (f:Nat) (at_:Int),j<f->cA t path f j at_=dZ (cA t path (f - 1)) path j (t.getD j default) at_:=by
   intro f at_ hf;cases f with
   | zero=>omega
   | succ f=>simp only [cA,Int.toNat_natCast,Nat.add_sub_cancel]
  generalize hx:t.getD j default=x at *;have hkl:∀ z ∈ x.kids,(aE (t.take j)).getD z.toNat default=(aE t).getD z.toNat default:=fun z hz=>gU hjt (hn.kids z hz)
  have hkf:∀ z ∈ x.kids,(eH t j).getD z.toNat default=(oM t).getD z.toNat default:=fun z hz=>JV I fo
  have hln:∀ z ∈ x.kids,0<=(aI t).getD z.toNat 0:=fun z hz=>(bJ h z.toNat fo).bd.1
  have hkd:=hn.kind;unfold dW at hfg;rw [if_neg (by rw [hft];omega)] at hfg;by_cases k0:x.kind=0
  ·rw [if_pos k0] at hfg
   rw [hfg,hlg];refine ⟨fun f at_ hf=>?_,by unfold cQ;rw [if_pos k0]⟩;rw [hread f at_ hf];unfold dZ;rw [if_pos k0]
  rw [if_neg k0] at hfg;by_cases k1:x.kind=1
  ·have:=L2 k1;omega
  by_cases k2:x.kind=2
  ·have:=(L5 k2).1;omega
  by_cases k3:x.kind=3
  ·rw [if_pos k3] at hfg
   have hz0:=qH hln (by rw [<- L4 k3];exact h0);have hmap:x.kids.map (fun z=>(eH t j).getD z.toNat default)=x.kids.map (fun z=>(oM t).getD z.toNat default):=List.map_congr_left hkf;rw [hmap] at hfg;rw [hfg,hlg];refine ⟨fun f at_ hf=>?_,?_⟩
   ·rw [hread f at_ hf]
    unfold dZ;rw [if_neg k0,if_pos k3];rw [mD (F:=fun z=>(oM t).getD z.toNat default)]
    ·simp
    ·intro z hz
     have hzz:=hn.kids z hz;have:=(ih z.toNat I I (hz0 z hz)).1 (f - 1) at_ I;rw [Int.toNat_of_nonneg hzz.1] at this;exact this
   ·unfold cQ
    rw [if_neg k0,if_neg k1,if_pos k3];unfold xV;rw [pV (F:=fun z=>(oM t).getD z.toNat default)]
    ·simp [xQ]
    ·intro z hz
     rw [hkl z hz];have hzz:=hn.kids z hz;exact (ih z.toNat I I (hz0 z hz)).2
  ·have k4:x.kind=4:=by omega
   rw [if_neg k3,if_pos k4] at hfg;have hb:=hn.bind k4;have hbl:=L6 k4;have hm0:x.kids.getD 0 0 ∈ x.kids:=aC I;have hz0:=hn.kids _ hm0;have hln0:=hln _ hm0;have l0:(aI t).getD (x.kids.getD 0 0).toNat 0=0:=by have:=hbl.1;omega
   have i0:=ih (x.kids.getD 0 0).toNat I I l0;have hv:=hcv k4;rw [i0.2] at hv;have hvl:x.values.length=1:=by rw [<- hv];rfl
   have hm1:x.kids.getD 1 0 ∈ x.kids:=aC I;have hz1:=hn.kids _ hm1;have hln1:=hln _ hm1;have l1:(aI t).getD (x.kids.getD 1 0).toNat 0=0:=by have:=hbl.2 1 I I;omega
   have i1:=ih (x.kids.getD 1 0).toNat I I l1;rw [hkf _ hm1] at hfg;rw [hfg,hlg]
   have hfind:(bK x.values ((oM t).getD (x.kids.getD 0 0).toNat default)).1=0:=by
    have:=(eN hn.inc (v:=(oM t).getD (x.kids.getD 0 0).toNat default) (by rw [<- hv];simp)).2.1;omega
   refine ⟨fun f at_ hf=>?_,?_⟩
   ·rw [hread f at_ hf]
    unfold dZ;rw [if_neg k0,if_neg k3,if_pos k4];have r0:=i0.1 (f - 1) at_ I;rw [Int.toNat_of_nonneg hz0.1] at r0;have r1:=i1.1 (f - 1) at_ I;rw [Int.toNat_of_nonneg hz1.1] at r1;rw [r0,if_pos rfl];simp only [hfind,Int.add_zero,Nat.zero_add,r1]
   ·unfold cQ
    rw [if_neg k0,if_neg k1,if_neg k3]
    have hk2:x.kids=[x.kids.getD 0 0,x.kids.getD 1 0]:=by
     have hl2:x.kids.length=2:=I
     match hkk:x.kids,hl2 with
     | [a,b],_=>rfl
    rw [hk2];have e1:=hkl _ hm1;rw [i1.2] at e1;simp [-List.getD_eq_getElem?_getD,jL,k4,e1,xQ];rfl
structure GF where
 val:GV
 at_:Int
 good:Bool
def bD (path:List Int)(x:GN)(at_:Int)(good:Bool):Int × Int × Bool :=
 if (path:Int)<=at_∨path.getD at_.toNat 0<0∨aP x<=path.getD at_.toNat 0 then (0,at_,false) else (path.getD at_.toNat 0,at_+1,good)
def bR (r:Int->Int->Bool->GF)(name:ByteArray):Int->Bool->List GV->List Int->GF
 | at_,good,acc,[]=>⟨cB name acc,at_,good⟩
 | at_,good,acc,z :: zs=>bR r name (r z at_ good).at_ (r z at_ good).good (acc ++ [(r z at_ good).val]) zs
def eG (r:Int->Int->Bool->GF)(t:List GN)(path:List Int)(i:Int)(x:GN)(at_:Int)(good:Bool):GF :=
 if (aI t).getD i.toNat 0=0 then ⟨(oM t).getD i.toNat default,at_,good⟩
 else if x.kind=1 then ⟨.mk 0 (x.lo+(bD path x at_ good).1) ByteArray.empty [],(bD path x at_ good).2.1,(bD path x at_ good).2.2⟩
 else if x.kind=2 then r (x.kids.getD (bD path x at_ good).1.toNat 0) (bD path x at_ good).2.1 (bD path x at_ good).2.2
 else if x.kind=4 then r (x.kids.getD ((bK x.values (r (x.kids.getD 0 0) at_ good).val).1+1) 0) (r (x.kids.getD 0 0) at_ good).at_ (r (x.kids.getD 0 0) at_ good).good
 else bR r x.name at_ good [] x.kids
def dF (t:List GN)(path:List Int):Nat->Int->Int->Bool->GF
 | 0,_,at_,good=>⟨default,at_,good⟩
 | f+1,i,at_,good=>eG (dF t path f) t path i (t.getD i.toNat default) at_ good
structure ow (t:List GN)(path:List Int)(i:Nat)(at_:Int)(good:Bool)(s:GR)(r:GF):Prop where
 at0:at_<=r.at_∧r.at_<=path
 mem:((aE t).getD i default).many=false->r.val ∈ ((aE t).getD i default).vals
 bad:good=false->r.good=false
 yes:good=true->s.stop=-1->r.val=s.val∧r.at_=at_+s.used∧r.good=true
 no:good=true->¬ s.stop=-1->r.good=false
structure JO (t:List GN)(path:List Int)(name:ByteArray)(at0 used:Int)(good:Bool)(acc:List GV)(zs:List Int)(s:GR)(r:GF):Prop where
 bd:at0+used<=r.at_∧r.at_<=path
 mem:(∀ z ∈ zs,((aE t).getD z.toNat default).many=false)->∃ vs,lp (aE t) vs zs∧r.val=cB name (acc ++ vs)
 bad:good=false->r.good=false
 yes:good=true->s.stop=-1->r.val=s.val∧r.at_=at0+s.used∧r.good=true
 no:good=true->¬ s.stop=-1->r.good=false
theorem qT {t:List GN}{path:List Int}{i:Nat}{name:ByteArray}{rr:Int->Int->GR}{r:Int->Int->Bool->GF}{at0:Int}
  (hr:∀ (z k:Int)(g:Bool),0<=z->z<i->0<=k->k<=path->ow t path z.toNat k g (rr z k) (r z k g))(h0:0<=at0) :
  ∀ (zs:List Int) (used:Int) (good:Bool) (acc:List GV),(∀ z ∈ zs,0<=z∧z<(i:Int))->0<=used->at0+used<=path ->
   JO t path name at0 used good acc zs (bX rr name at0 used acc zs) (bR r name (at0+used) good acc zs)
 | [],used,good,acc,_,h1,h2=>by
  simp only [bX,bR];exact ⟨⟨Int.le_refl _,h2⟩,fun _=>⟨[],trivial,U⟩,fun h=>h,fun h _=>⟨rfl,rfl,h⟩,fun _ h=>absurd rfl h⟩
 | z :: zs,used,good,acc,hz,h1,h2=>by
  have hz0:=hz z U;have hb:=hr z (at0+used) good hz0.1 hz0.2 I h2;simp only [bX,bR];generalize rr z (at0+used)=s at *;generalize r z (at0+used) good=b at *;obtain ⟨v,a,g⟩:=b;have ha:=hb.at0;have hbad:=hb.bad;have hyes:=hb.yes;have hno:=hb.no;have hmem:=hb.mem;simp only at ha hbad hyes hno hmem ⊢;have ih:=qT (name:=name) hr h0 zs (a - at0) g (acc ++ [v]) (fun y hy=>hz y dh) I I;have e:at0+(a - at0)=a:=by omega
  rw [e] at ih;have ih0:=ih.bd;have ihb:=ih.bad;have ihm:=ih.mem;have ihy:=ih.yes;have ihn:=ih.no;generalize bR r name a g (acc ++ [v]) zs=R at *;refine ⟨⟨I,ih0.2⟩,fun hm=>?_,fun hg=>ihb (hbad hg),fun hg hs=>?_,fun hg hs=>?_⟩
  ·obtain ⟨vs,q1,q2⟩:=ihm (fun y hy=>hm y dh)
   exact ⟨v :: vs,⟨hmem (hm z U),q1⟩,by rw [q2];simp⟩
  ·by_cases hs1:s.stop=-1
   ·obtain ⟨y1,y2,y3⟩:=hyes hg hs1
    subst y1 y3;have e2:a - at0=used+s.used:=by omega
    rw [e2] at ihy;rw [if_pos hs1] at hs ⊢;exact ihy rfl hs
   ·rw [if_neg hs1] at hs
    exact absurd hs hs1
  ·by_cases hs1:s.stop=-1
   ·obtain ⟨y1,y2,y3⟩:=hyes hg hs1
    subst y1 y3;have e2:a - at0=used+s.used:=by omega
    rw [e2] at ihn;rw [if_pos hs1] at hs;exact ihn rfl hs
   ·exact ihb (hno hg hs1)
theorem qS {t:List GN}{n:Nat}(h:aO t n)(path:List Int)(hpl:path.length<=1000000000):∀ (f:Nat)(i:Nat)(at_:Int)(good:Bool),i<f->i<n->0<=at_->at_<=path ->
  ow t path i at_ good (cA t path f i at_) (dF t path f i at_ good)
 | 0,i,at_,good,hf,_,_,_=>by omega
 | f+1,i,at_,good,hf,hi,ha0,ha1=>by
  have hit:i<t:=j3;have hc:=h.at_ hi;have hL:=bJ h i hi
  have hr:∀ (z k:Int) (g:Bool),0<=z->z<i->0<=k->k<=path->ow t path z.toNat k g (cA t path f z k) (dF t path f z k g):=fun z k g h1 h2 h3 h4=>by
   have:=qS h path hpl f z.toNat k g I I h3 h4;rw [Int.toNat_of_nonneg h1] at this;exact this
  have hlg:=iV hit;have hfx:=xw h path i hi;by_cases hl0:(aI t).getD i 0=0
  ·obtain ⟨q1,q2⟩:=hfx hl0
   rw [q1 (f+1) at_ hf];simp only [dF,Int.toNat_natCast];unfold eG;rw [Int.toNat_natCast,if_pos hl0];exact ⟨⟨Int.le_refl _,ha1⟩,fun _=>by rw [q2];simp,fun h=>h,fun h _=>⟨rfl,U,h⟩,fun _ h=>absurd rfl h⟩
  simp only [cA,dF,Int.toNat_natCast];have hn:=hc.node;have hcm:=hc.many;have hcv:=hc.vals;have L2:=hL.range;have L3:=hL.leaf;generalize hx:t.getD i default=x at *;have hkd:=hn.kind;have hkl:∀ z ∈ x.kids,(aE (t.take i)).getD z.toNat default=(aE t).getD z.toNat default:=fun z hz=>gU hit (hn.kids z hz)
  have k0:¬ x.kind=0:=fun k=>hl0 (L3 k)
  unfold eG dZ;rw [Int.toNat_natCast,if_neg hl0,if_neg k0];by_cases k3:x.kind=3
  ·have n1:¬ x.kind=1:=by omega
   have n2:¬ x.kind=2:=I;have n4:¬ x.kind=4:=I;simp only [if_pos k3,if_neg n1,if_neg n2,if_neg n4];have hp:=qT (name:=x.name) hr ha0 x.kids 0 good [] (fun z hz=>hn.kids z hz) (Int.le_refl _) I;rw [Int.add_zero] at hp;generalize bX (cA t path f) x.name at_ 0 [] x.kids=S at *;generalize bR (dF t path f) x.name at_ good [] x.kids=R at *;refine ⟨by have:=hp.bd;omega,fun hm=>?_,hp.bad,hp.yes,hp.no⟩;rw [hlg] at hm ⊢;unfold cQ at hm ⊢;rw [if_neg k0,if_neg I,if_pos k3] at hm ⊢;unfold xV at hm ⊢;split at hm
   ·cases hm
   ·next rows hrows =>
    (try rw [hrows])
    have hmm:=jW x.kids _ rows hrows;obtain ⟨vs,h3,h4⟩:=hp.mem (fun z hz=>by rw [<- hkl z hz];exact hmm z hz);show R.val ∈ eS _;rw [eX,h4];refine List.mem_map.2 ⟨vs,?_,U⟩;have:=lH x.kids _ rows hrows [] U vs (h3.cast (fun z hz=>(hkl z hz).symm))
    simpa using this
  by_cases k4:x.kind=4
  ·have n1:¬ x.kind=1:=by omega
   have n2:¬ x.kind=2:=I;simp only [if_neg k3,if_pos k4,if_neg n1,if_neg n2];have hbk:=hn.bind k4;have hz0:x.kids.getD 0 0 ∈ x.kids:=aC I;have hz0':=hn.kids _ hz0;have ha:=hr (x.kids.getD 0 0) at_ good hz0'.1 hz0'.2 ha0 ha1;have hm0:=hcm k4;have hv0:=hcv k4;have hinc:=hn.inc;generalize cA t path f (x.kids.getD 0 0) at_=a at *;generalize dF t path f (x.kids.getD 0 0) at_ good=a' at *;have p1:=ha.at0;have hmem:=ha.mem hm0;rw [hv0] at hmem;obtain ⟨f1,f2,f3⟩:=eN hinc hmem;have hq:(bK x.values a'.val).1+1<x.kids:=by omega
   have hzq:=hn.kids _ (aC (d:=0) hq);have hb:=hr (x.kids.getD ((bK x.values a'.val).1+1) 0) a'.at_ a'.good hzq.1 hzq.2 I p1.2;have b0:=hb.at0;refine ⟨I,fun hm=>?_,fun hg=>hb.bad (ha.bad hg),fun hg hs=>?_,fun hg hs=>?_⟩
   ·rw [hlg] at hm ⊢
    unfold cQ at hm ⊢;rw [if_neg k0,if_neg I,if_neg k3] at hm ⊢;obtain ⟨h3,h4⟩:=(jA x.kids 0 [] hm).2 _ hq I;rw [hkl _ (aC hq)] at h3 h4;exact h4 _ (hb.mem h3)
   ·by_cases hs1:a.stop=-1
    ·obtain ⟨y1,y2,y3⟩:=ha.yes hg hs1
     rw [if_pos hs1] at hs ⊢;rw [y1,y2,y3] at hb;obtain ⟨z1,z2,z3⟩:=hb.yes rfl hs;rw [y1,y2,y3];exact ⟨z1,by rw [z2];show _=at_+(_+_);omega,z3⟩
    ·rw [if_neg hs1] at hs
     exact absurd hs hs1
   ·by_cases hs1:a.stop=-1
    ·obtain ⟨y1,y2,y3⟩:=ha.yes hg hs1
     rw [if_pos hs1] at hs;rw [y1,y2,y3] at hb ⊢;exact hb.no rfl hs
    ·exact hb.bad (ha.no hg hs1)
  simp only [if_neg k3,if_neg k4];have k12:x.kind=1∨x.kind=2:=by omega
  have hopt:=dA hn;by_cases hbad:(path:Int)<=at_∨path.getD at_.toNat 0<0∨aP x<=path.getD at_.toNat 0
  ·
   have hch:bD path x at_ good=(0,at_,false):=by unfold bD;rw [if_pos hbad]
   rw [hch]
   generalize hS:(if (path:Int)<=at_ then (⟨cX,0,(i:Int)⟩:GR) else if path.getD at_.toNat 0<0∨aP x<=path.getD at_.toNat 0 then ⟨cX,0,-2⟩
     else if x.kind=1 then ⟨.mk 0 (x.lo+path.getD at_.toNat 0) ByteArray.empty [],1,-1⟩
     else ⟨(cA t path f (x.kids.getD (path.getD at_.toNat 0).toNat 0) (at_+1)).val,(cA t path f (x.kids.getD (path.getD at_.toNat 0).toNat 0) (at_+1)).used+1,(cA t path f (x.kids.getD (path.getD at_.toNat 0).toNat 0) (at_+1)).stop⟩)=S
   have hstop:¬ S.stop=-1:=by
    rw [<- hS];split
    ·show ¬ (i:Int)=-1;omega
    ·next h1 =>
     rw [if_pos (by rcases hbad with hb | hb | hb <;> (first | exact absurd hb h1 | exact .inl hb | exact .inr hb))];decide
   by_cases k1:x.kind=1
   ·rw [if_pos k1]
    have hnum:=aZ hn.numbers;refine ⟨⟨Int.le_refl _,ha1⟩,fun hm=>?_,fun _=>rfl,fun _ hs=>absurd hs hstop,fun _ _=>rfl⟩;rw [hlg] at hm ⊢;unfold cQ at hm ⊢;rw [if_neg k0,if_pos k1] at hm ⊢;split at hm
    ·cases hm
    ·next hr=>rw [if_neg hr];exact iQ.2 ⟨x.lo+0,I,I,rfl⟩
   ·have k2:x.kind=2:=by omega
    rw [if_neg k1,if_pos k2];have hch2:=hn.choice k2;have hq:(0:Int).toNat<x.kids:=by simp;omega
    have hzq:=hn.kids _ (aC (d:=0) hq);have hb:=hr (x.kids.getD (0:Int).toNat 0) at_ false hzq.1 hzq.2 ha0 ha1;refine ⟨hb.at0,fun hm=>?_,fun _=>hb.bad rfl,fun _ hs=>absurd hs hstop,fun _ _=>hb.bad rfl⟩;rw [hlg] at hm ⊢;unfold cQ at hm ⊢;rw [if_neg k0,if_neg k1,if_neg k3] at hm ⊢;obtain ⟨h3,h4⟩:=(jA x.kids 0 [] hm).2 (0:Int).toNat hq jf;rw [hkl _ (aC hq)] at h3 h4;exact h4 _ (hb.mem h3)
  ·have hch:bD path x at_ good=(path.getD at_.toNat 0,at_+1,good):=by unfold bD;rw [if_neg hbad]
   rw [hch];have hb1:¬ (path:Int)<=at_:=fun k=>hbad (.inl k)
   have hb2:¬ (path.getD at_.toNat 0<0∨aP x<=path.getD at_.toNat 0):=fun k=>hbad (.inr k)
   rw [if_neg hb1,if_neg hb2];rw [hopt] at hb2;generalize path.getD at_.toNat 0=c at *;by_cases k1:x.kind=1
   ·simp only [if_pos k1]
    rw [if_pos k1] at hb2;have hnum:=aZ hn.numbers;refine ⟨⟨by show at_<=at_+1;omega,by show at_+1<=_;omega⟩,fun hm=>?_,fun hg=>hg,fun hg _=>⟨rfl,rfl,hg⟩,fun _ hs=>absurd rfl hs⟩;rw [hlg] at hm ⊢;unfold cQ at hm ⊢;rw [if_neg k0,if_pos k1] at hm ⊢;split at hm
    ·cases hm
    ·next hr=>rw [if_neg hr];exact iQ.2 ⟨x.lo+c,I,I,rfl⟩
   ·have k2:x.kind=2:=by omega
    simp only [if_neg k1,if_pos k2];rw [if_neg k1] at hb2;have hq:c.toNat<x.kids:=by omega
    have hzq:=hn.kids _ (aC (d:=0) hq);have hb:=hr (x.kids.getD c.toNat 0) (at_+1) good hzq.1 hzq.2 I I;generalize cA t path f (x.kids.getD c.toNat 0) (at_+1)=S at *;have b0:=hb.at0;refine ⟨I,fun hm=>?_,hb.bad,fun hg hs=>?_,fun hg hs=>hb.no hg hs⟩
    ·rw [hlg] at hm ⊢
     unfold cQ at hm ⊢;rw [if_neg k0,if_neg k1,if_neg k3] at hm ⊢;obtain ⟨h3,h4⟩:=(jA x.kids 0 [] hm).2 c.toNat hq jf;rw [hkl _ (aC hq)] at h3 h4;exact h4 _ (hb.mem h3)
    ·obtain ⟨y1,y2,y3⟩:=hb.yes hg hs
     exact ⟨y1,by rw [y2];show at_+1+S.used=at_+(S.used+1);omega,y3⟩
def aQ (t:List GN)(path:List Int):Bool:=decide (0<t.length) && (dF t path t ((t:Int) - 1) 0 true).good && decide ((dF t path t ((t:Int) - 1) 0 true).at_=path)
theorem Dk {l:List GV}(h:Inc l){i j:Nat}(hij:i<j)(hj:j<l):cS (l.getD i default) (l.getD j default)<0:=by
 have:=List.pairwise_iff_getElem.1 h i j I hj hij;have h1:l.getD i default=l[i]:=by simp [show i<l by omega]
 have h2:l.getD j default=l[j]:=by simp [hj]
 rw [h1,h2];exact this
theorem yT {l:List GV}(h:Inc l)(x:GV){i j:Nat}(hij:i<=j)(hj:j<l)(hx:cS (l.getD j default) x<0):cS (l.getD i default) x<0:=by
 rcases Nat.eq_or_lt_of_le hij with rfl | hij
 ·exact hx
 ·exact ltV.tr (Dk h hij hj) hx
def D7 (l:List GV)(x:GV)(W:World)(s9 s10:Value)(wr:World):Prop:=∃ i j:Nat,i<=j∧j<=l.length∧s9=↑i∧s10=↑j∧Ext W wr∧(∀ k,k<i->cS (l.getD k default) x<0)∧(∀ k,j<=k->k<l.length->0<=cS (l.getD k default) x)
theorem Fe {l:List GV}{x:GV}{i:Nat}(hi:i<=l)(h1:∀ k,k<i->cS (l.getD k default) x<0)(h2:∀ k,i<=k->k<l.length->¬ cS (l.getD k default) x<0) :
  (bK l x).1=i∧(bK l x).2=(decide (i<l) && decide (cS (l.getD i default) x=0)):=by
 have hg:∀ (l:List GV) (i o:Nat),i<=l->(∀ k,k<i->cS (l.getD k default) x<0)->(∀ k,i<=k->k<l.length->¬ cS (l.getD k default) x<0) ->
   cM x o l=(o+i,(decide (i<l) && decide (cS (l.getD i default) x=0))):=by
  intro l
  induction l with
  | nil =>
   intro i o hi _ _;obtain rfl:i=0:=by simpa using hi
   simp [cM]
  | cons y ys ih =>
   intro i o hi h1 h2;cases i with
   | zero =>
    have:=h2 0 (ab _) U;simp only [List.getD_cons_zero] at this;simp only [cM];rw [if_neg this];simp
   | succ i =>
    have h0:=h1 0 I;simp only [List.getD_cons_zero] at h0;simp only [cM];rw [if_pos h0,ih i (o+1) (by simpa using hi) (fun k hk=>by have:=h1 (k+1) I;simpa using this) (fun k hk hk'=>by have:=h2 (k+1) I (by simpa using hk');simpa using this)];simp;omega
 have:=hg l i 0 hi h1 h2;unfold bK;rw [this];simp
theorem zJ (l:List GV)(x:GV)(A:Option Addr)(c:Nat)(P Q:Nat->Prop)(v:Value)(w:World)(hl:bZ w P v l)(hx:VAt w Q x A c)(hinc:Inc l)(hlen:l.length<=1000000000) :
  qg 136 #[v,cN x A c,.func (.func 99) #[] #[]] w (zN (.int .i64 (bK l x).1) (.bool (bK l x).2) w):=by
 have HL:=aYf hl;have HX:=aYf hx;have HI:=aYf hinc;obtain ⟨Al,cl,el,h1,h2⟩:=hl.form;subst el;clear hl hx hinc;go_enter Tryz.func136,Tryz.ntmps136;go_wp2_with fail;have HE:=aYf ((aq w).alloc' (qk (qh x A c) 58));have HB:=aYf (aw w 58 (qh x A c));generalize w.alloc (qk (qh x A c) 58)=W at *;go_loopw [9,10] (fun a b wr=>D7 l x W a b wr) (fun a b _=>(intOf b).toNat - (intOf a).toNat)
 case atStart=>exact ⟨0,l.length,af _,ab _,rfl,rfl,aq _,fun k hk=>by omega,fun k hk hk'=>by omega⟩
 case round =>
  obtain ⟨i,j,hij,hj,rfl,rfl,hE,hlo,hhi⟩:=hrel;have HE1:=aYf hE;have HLO:=aYf hlo;have HHI:=aYf hhi;clear hE hlo hhi;by_cases hlt:i<j
  ·go_upto_region 5 with fail
   obtain ⟨h,hh⟩:∃ h:Nat,((i:Int)+(j:Int)) / 2=(h:Int):=⟨(((i:Int)+(j:Int)) / 2).toNat,I⟩;have h1':i<=h:=by omega
   have h2':h<j:=I;rw [hh];clear hh;have hhl:h<l.length:=by omega
   obtain ⟨b1,o1,A1,d1,rfl,-,hv1,g10,g11,g12,g13⟩:=(HL.out.ext (HE.out.trans' HE1.out)).get hhl;have HV1:=aYf hv1;have HMX:=aYf (HX.out.ext (HE.out.trans' HE1.out));obtain ⟨x0,x1,x2,x3⟩:=aU (HB.out.ext HE1.out);have HG:=aYf (show ∃ y,y=l.getD h default from ⟨_,rfl⟩);obtain ⟨y,hy⟩:=HG.out;have HY:=aYf hy;rw [<- hy] at HV1 g10 g11 g12 g13;clear hv1 hy HG;have hq0:(0:Int)<=(h:Int):=by omega
   have hq1:(h:Int)<(l:Int):=I
   go_still_tail 6,av;go_wp2_with fail;refine (bT y x A1 A d1 c P Q _ (HV1.out.ext (aq _).drew') (HMX.out.ext (aq _).drew')).mono ?_;rintro e w2 ⟨rfl,hx2⟩;have HX2:=aYf (HE1.out.trans' ((aq _).drew'.trans' hx2));clear hx2;by_cases hz:cS y x<0
   ·have HZ:=aYf hz
    go_wp2_with fail;go_roundw
    case rel=>exact ⟨h+1,j,I,hj,by go_num,rfl,HX2.out,fun k hk=>yT HI.out x (show k<=h by omega) hhl (by rw [<- HY.out];exact HZ.out),HHI.out⟩
    case measure=>simp [intOf];omega
   ·have HZ:=aYf hz
    go_wp2_with fail;go_roundw
    case rel=>exact ⟨i,h,h1',I,rfl,rfl,HX2.out,HLO.out,fun k hk hk'=>Int.not_lt.1 (fun hc=>absurd (show cS y x<0 by rw [HY.out];exact yT HI.out x hk hk' hc) (Int.not_lt.2 HZ.out))⟩
    case measure=>simp [intOf];omega
  ·obtain rfl:i=j:=by omega
   have HF:=aYf (Fe (x:=x) hj HLO.out (fun k hk hk'=>Int.not_lt.2 (HHI.out k hk hk')));clear HLO HHI;by_cases hn:i<l
   ·have hd:decide (i<l)=true:=aYi hn
    obtain ⟨b1,o1,A1,d1,rfl,-,hv1,g10,g11,g12,g13⟩:=(HL.out.ext (HE.out.trans' HE1.out)).get hn;have HF2:=aYf (show (bK l x).2=decide (cS (l.getD i default) x=0) by rw [HF.out.2,hd];rfl);have HMX:=aYf (HX.out.ext (HE.out.trans' HE1.out));have HV1:=aYf hv1;obtain ⟨x0,x1,x2,x3⟩:=aU (HB.out.ext HE1.out);generalize l.getD i default=y at *;have hq0:(0:Int)<=(i:Int):=by omega
    have hq1:(i:Int)<(l:Int):=I;clear hv1;go_upto_region 8 with fail
    go_region_held3 (fun w'=>qc w' b1 (o1+i*4) y.kind∧qc w' b1 (o1+i*4+1) y.n∧qc w' b1 (o1+i*4+2) y.s∧qc w' b1 (o1+i*4+3) (.slice A1 y.kids d1) ∧
      qc w' w 0 x.kind∧qc w' w 1 x.n∧qc w' w 2 x.s∧qc w' w 3 (.slice A x.kids c))
     (first
      | go_keep
      | (go_split_ands
         exact ⟨aA hx2 ‹_›,aA hx2 ‹_›,aA hx2 ‹_›,aA hx2 ‹_›,aA hx2 ‹_›,aA hx2 ‹_›,aA hx2 ‹_›,aA hx2 ‹_›⟩))
     (first
      | (go_at_call 99;refine (bT y x A1 A d1 c P Q _ (HV1.out.ext (aq _).drew') (HMX.out.ext (aq _).drew')).mono ?_;rintro e w2 ⟨rfl,hx2⟩))
    have HX2:=aYf (HE1.out.trans' ((aq _).drew'.trans' hx2));clear hx2;go_wp2_with fail;go_ret2;exact ⟨il,HE.out.trans' HX2.out⟩
   ·have hd:decide (i<l)=false:=aYj hn
    have HF2:=aYf (show (bK l x).2=false by rw [HF.out.2,hd];rfl);go_wp2_with fail;go_quiet (fail);go_wp2_with fail;go_ret2;exact ⟨il,HE.out.trans' (HE1.out.trans' (Ext.drewN _ _))⟩
theorem sD (l:List GV)(x:GV)(A:Option Addr)(c:Nat)(P Q:Nat->Prop)(v:Value)(w:World)(hl:bZ w P v l)(hx:VAt w Q x A c)(hinc:Inc l)(hlen:l.length<=1000000000) :
  qg 117 #[v,cN x A c] w (zN (.int .i64 (bK l x).1) (.bool (bK l x).2) w):=by
 have HC:=aYf (fun (W:World) (h:Ext w W)=>zJ l x A c P Q v W (hl.ext h) (hx.ext h) hinc hlen);obtain ⟨Al,cl,el,h1,h2⟩:=hl.form;subst el;clear hl hx hinc;go_enter Tryz.func117,Tryz.ntmps117;go_wp2_with fail;refine (HC.out _ ((aq w).alloc' _)).mono ?_;rintro e w1 ⟨rfl,hx1⟩;have HX1:=aYf (((aq w).alloc' _).trans' hx1);clear hx1;go_wp2_with fail;go_ret2;exact ⟨rfl,HX1.out⟩
theorem fT (x:GN)(a:NA)(b o:Nat)(y:GV)(A:Option Addr)(c:Nat)(P Q:Nat->Prop)(w:World)(hn:aR w b o x a)(hx:NAt w P x a)(hy:VAt w Q y A c)(hinc:Inc x.values)(hlen:x.values.length<=1000000000) :
  qg 96 #[qt b o,cN y A c] w (dE (.int .i64 ((bK x.values y).1+1)) w):=by
 have HC:=aYf (fun (W:World) (h:Ext w W)=>sD x.values y A c P Q _ W (hx.values.ext h) (hy.ext h) hinc hlen);have HN:=aYf hn
 have hf:(bK x.values y).1<=x.values:=by
  obtain ⟨p,q,e,h1,_⟩:=qV x.values y;rw [h1,e];simp
 clear hx hy hinc hn;go_enter Tryz.func96,Tryz.ntmps96;go_wp2_with fail;have HE:=aYf ((aq w).alloc' (qk (qh y A c) 58));have HB:=aYf (aw w 58 (qh y A c));generalize w.alloc (qk (qh y A c) 58)=W at *;have n6:=(HN.out.ext HE.out).c6;obtain ⟨x0,x1,x2,x3⟩:=aU HB.out;generalize (bK x.values y).1=f at *;generalize (bK x.values y).2=fb at *
 go_region_held3 (fun w'=>qc w' b (o+6) (.slice a.vA x.values a.vc)∧qc w' w 0 y.kind∧qc w' w 1 y.n∧qc w' w 2 y.s∧qc w' w 3 (.slice A y.kids c))
  (first
   | go_keep
   | (go_split_ands
      exact ⟨aA hx2 ‹_›,aA hx2 ‹_›,aA hx2 ‹_›,aA hx2 ‹_›,aA hx2 ‹_›⟩))
  (first
   | (go_at_call 117;refine (HC.out _ HE.out.drew').mono ?_;rintro e w2 ⟨rfl,hx2⟩))
 have HX2:=aYf (HE.out.drew'.trans' hx2);clear hx2;go_wp2_with fail;go_ret;exact ⟨rfl,HX2.out⟩
