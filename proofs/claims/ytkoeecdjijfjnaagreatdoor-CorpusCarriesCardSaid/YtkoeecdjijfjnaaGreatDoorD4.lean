/- Contracts and laws. Conditions: none. -/
import Derived.Laws.IdiomCopy
import Derived.Test.YtkoeecdjijfjnaaGreatDoorC5
set_option linter.all false
set_option maxRecDepth 100000
set_option maxHeartbeats 8000000
namespace Go.Proofs.YtkoeecdjijfjnaaGreatDoor
open Go.RowKit
theorem pQ {before:List GL}{bind:Bool}:∀ (zs:List Int)(k:Nat)(out:List GV),(jL before bind k out true zs).many=true
 | [],_,_=>by simp [jL]
 | z :: zs,k,out=>by
  simp only [jL];split
  ·exact pQ zs _ _
  ·simp only [Bool.true_or];exact pQ zs _ _
theorem jA {before:List GL}{bind:Bool}:∀ (zs:List Int)(k:Nat)(out:List GV),(jL before bind k out false zs).many=false ->
  (∀ v ∈ out,v ∈ (jL before bind k out false zs).vals)∧∀ m,m<zs.length->¬ (bind=true∧k+m=0) ->
   (before.getD (zs.getD m 0).toNat default).many=false∧∀ v ∈ (before.getD (zs.getD m 0).toNat default).vals,v ∈ (jL before bind k out false zs).vals
 | [],k,out,_=>⟨fun v hv=>by simpa [jL] using hv,fun m hm=>by simp at hm⟩
 | z :: zs,k,out,h=>by
  simp only [jL] at h ⊢;split
  ·next hb =>
   rw [if_pos hb] at h;obtain ⟨h1,h2⟩:=jA zs (k+1) out h;refine ⟨h1,fun m hm hc=>?_⟩;cases m with
   | zero=>exact absurd ⟨hb.1,I⟩ hc
   | succ m=>exact h2 m (by simpa using hm) I
  ·next hb =>
   rw [if_neg hb] at h;simp only [Bool.false_or] at h ⊢;cases e:((before.getD z.toNat default).many || decide (1024<(eS (out ++ (before.getD z.toNat default).vals)).length))
   ·rw [e] at h
    simp only [Bool.or_eq_false_iff] at e;obtain ⟨h1,h2⟩:=jA zs (k+1) _ h;refine ⟨fun v hv=>h1 v ((eX _ v).2 (by simp [hv])),fun m hm hc=>?_⟩;cases m with
    | zero=>exact ⟨e.1,fun v hv=>h1 v ((eX _ v).2 (by simp only [List.getD_cons_zero] at hv;exact ap.2 (.inr hv)))⟩
    | succ m=>exact h2 m (by simpa using hm) I
   ·rw [e,pQ] at h;cases h
def lp (before:List GL):List GV->List Int->Prop
 | [],[]=>True
 | v :: vs,z :: zs=>v ∈ (before.getD z.toNat default).vals∧lp before vs zs
 | _,_=>False
theorem jW {before:List GL}:∀ (zs:List Int)(rows out:List (List GV)),bU before rows zs=some out->∀ z ∈ zs,(before.getD z.toNat default).many=false
 | [],_,_,_,z,hz=>by simp at hz
 | y :: zs,rows,out,h,z,hz=>by
  simp only [bU] at h;split at h
  ·cases h
  ·next hm =>
   rcases ao.1 hz with rfl | hz
   ·cases e:(before.getD z.toNat default).many
    ·rfl
    ·exact absurd (.inl e) hm
   ·exact jW zs _ out h z hz
theorem lH {before:List GL}:∀ (zs:List Int)(rows out:List (List GV)),bU before rows zs=some out->∀ q ∈ rows,∀ vs,lp before vs zs->q ++ vs ∈ out
 | [],rows,out,h,q,hq,vs,hf=>by
  simp only [bU,Option.some.injEq] at h;subst h;cases vs with
  | nil=>simpa using hq
  | cons _ _=>exact hf.elim
 | z :: zs,rows,out,h,q,hq,vs,hf=>by
  simp only [bU] at h;split at h
  ·cases h
  ·cases vs with
   | nil=>exact hf.elim
   | cons v vs =>
    have:=lH zs _ out h (q ++ [v]) (jY.2 ⟨q,hq,v,hf.1,rfl⟩) vs hf.2
    simpa using this
theorem lp.cast {a b:List GL}:∀ {vs:List GV}{zs:List Int},lp a vs zs->(∀ z ∈ zs,a.getD z.toNat default=b.getD z.toNat default)->lp b vs zs
 | [],[],_,_=>trivial
 | v :: vs,z :: zs,h,e=>⟨by rw [<- e z U];exact h.1,h.2.cast (fun y hy=>e y dh)⟩
 | [],_ :: _,h,_=>h.elim
 | _ :: _,[],h,_=>h.elim
structure oF (t:List GN)(path:List Int)(i:Nat)(at_:Int)(r:GR):Prop where
 used0:0<=r.used
 usedL:r.used<=(aI t).getD i 0
 usedP:at_+r.used<=path
 mem:r.stop=-1->((aE t).getD i default).many=false->r.val ∈ ((aE t).getD i default).vals
 stop:r.stop=-1∨r.stop=-2∨(0<=r.stop∧r.stop<=i∧((t.getD r.stop.toNat default).kind=1∨(t.getD r.stop.toNat default).kind=2)∧(path:Int) - at_<(aI t).getD i 0)
structure D1 (t:List GN)(path:List Int)(i:Nat)(name:ByteArray)(at_ used:Int)(acc:List GV)(zs:List Int)(r:GR):Prop where
 used0:0<=r.used
 usedL:r.used<=used+gJ (aI t) zs
 usedP:at_+r.used<=path
 mem:r.stop=-1->(∀ z ∈ zs,((aE t).getD z.toNat default).many=false)->∃ vs,lp (aE t) vs zs∧r.val=cB name (acc ++ vs)
 stop:r.stop=-1∨r.stop=-2∨(0<=r.stop∧r.stop<i∧((t.getD r.stop.toNat default).kind=1∨(t.getD r.stop.toNat default).kind=2)∧(path:Int) - at_<used+gJ (aI t) zs)
theorem ue {t:List GN}{path:List Int}{i:Nat}{name:ByteArray}{r:Int->Int->GR}{at_:Int}(h0:0<=at_)
  (hl:∀ z:Int,0<=z->z<i->0<=(aI t).getD z.toNat 0∧(aI t).getD z.toNat 0<=256)
  (hr:∀ (z:Int)(k:Int),0<=z->z<i->0<=k->k<=path->oF t path z.toNat k (r z k)) :
  ∀ (zs:List Int) (used:Int) (acc:List GV),(∀ z ∈ zs,0<=z∧z<(i:Int))->0<=used->at_+used<=path->D1 t path i name at_ used acc zs (bX r name at_ used acc zs)
 | [],used,acc,_,h1,h2=>by
  simp only [bX];exact ⟨h1,by simp [gJ],h2,fun _ _=>⟨[],trivial,U⟩,.inl rfl⟩
 | z :: zs,used,acc,hz,h1,h2=>by
  have hz0:=hz z U;have hb:=hr z (at_+used) hz0.1 hz0.2 I h2;have hlz:=hl z hz0.1 hz0.2;have hls:=(rz (before:=aI t) (zs:=zs) (fun y hy=>hl y (hz y dh).1 (hz y dh).2)).1;have hu:=hb.used0;have huL:=hb.usedL;have huP:=hb.usedP;simp only [bX];generalize hg:r z (at_+used)=b at *;split
  ·next hs =>
   have hp:=ue h0 hl hr (name:=name) zs (used+b.used) (acc ++ [b.val]) (fun y hy=>hz y dh) I I;generalize bX r name at_ (used+b.used) (acc ++ [b.val]) zs=R at *;have q1:=hp.used0;have q2:=hp.usedL;have q3:=hp.usedP;refine ⟨q1,by simp only [gJ];omega,q3,fun e hm=>?_,?_⟩
   ·obtain ⟨vs,h3,h4⟩:=hp.mem e (fun y hy=>hm y dh)
    exact ⟨b.val :: vs,⟨hb.mem hs (hm z U),h3⟩,by rw [h4];simp⟩
   ·rcases hp.stop with h | h | ⟨a,b',c,d⟩
    ·exact .inl h
    ·exact .inr (.inl h)
    ·exact .inr (.inr ⟨a,b',c,by simp only [gJ];omega⟩)
  ·next hs =>
   refine ⟨by show 0<=used+b.used;omega,by show used+b.used<=_;simp only [gJ];omega,by show at_+(used+b.used)<=_;omega,fun e=>absurd e hs,?_⟩;rcases hb.stop with h | h | ⟨a,b',c,d⟩
   ·exact absurd h hs
   ·exact .inr (.inl h)
   ·exact .inr (.inr ⟨a,by show b.stop<i;omega,c,by simp only [gJ];omega⟩)
theorem vG {t:List GN}{n:Nat}(h:aO t n)(path:List Int)(hpl:path.length<=1000000000):∀ (f:Nat)(i:Nat)(at_:Int),i<f->i<n->0<=at_->at_<=path->oF t path i at_ (cA t path f i at_)
 | 0,i,at_,hf,_,_,_=>by omega
 | f+1,i,at_,hf,hi,ha0,ha1=>by
  have hit:i<t:=j3;have hc:=h.at_ hi;have hL:=bJ h i hi;have hfew:=cJ h hi
  have hr:∀ (z:Int) (k:Int),0<=z->z<i->0<=k->k<=path->oF t path z.toNat k (cA t path f z k):=fun z k h1 h2 h3 h4=>by
   have:=vG h path hpl f z.toNat k I I h3 h4;rw [Int.toNat_of_nonneg h1] at this;exact this
  have hl:∀ z:Int,0<=z->z<i->0<=(aI t).getD z.toNat 0∧(aI t).getD z.toNat 0<=256:=fun z h1 h2=>(bJ h z.toNat I).bd
  have hlg:=iV hit;simp only [cA,Int.toNat_natCast];have hn:=hc.node;have hcm:=hc.many;have hcv:=hc.vals;have L1:=hL.bd;have L2:=hL.range;have L3:=hL.leaf;have L4:=hL.seq;have L5:=hL.choice;have L6:=hL.bind;have hself:(t.getD i default).kind=1∨(t.getD i default).kind=2->((t.getD ((i:Int)).toNat default).kind=1∨(t.getD ((i:Int)).toNat default).kind=2):=fun h=>by simpa using h
  generalize hx:t.getD i default=x at *;have hkd:=hn.kind;have hkl:∀ z ∈ x.kids,(aE (t.take i)).getD z.toNat default=(aE t).getD z.toNat default:=fun z hz=>gU hit (hn.kids z hz)
  unfold dZ;by_cases k0:x.kind=0
  ·rw [if_pos k0]
   refine ⟨Int.le_refl _,ja,by show at_+0<=_;omega,fun _ _=>?_,.inl rfl⟩;rw [hlg];unfold cQ;rw [if_pos k0];simp
  rw [if_neg k0];by_cases k3:x.kind=3
  ·rw [if_pos k3]
   have hp:=ue (name:=x.name) ha0 hl hr x.kids 0 [] (fun z hz=>hn.kids z hz) (Int.le_refl _) I;generalize bX (cA t path f) x.name at_ 0 [] x.kids=R at *;have q1:=hp.used0;have q2:=hp.usedL;have q3:=hp.usedP;have e3:=L4 k3;refine ⟨q1,I,q3,fun e hm=>?_,?_⟩
   ·rw [hlg] at hm ⊢
    unfold cQ at hm ⊢;rw [if_neg k0,if_neg I,if_pos k3] at hm ⊢;unfold xV at hm ⊢;split at hm
    ·cases hm
    ·next rows hrows =>
     (try rw [hrows])
     have hmm:=jW x.kids _ rows hrows;obtain ⟨vs,h3,h4⟩:=hp.mem e (fun z hz=>by rw [<- hkl z hz];exact hmm z hz);show R.val ∈ eS _;rw [eX,h4];refine List.mem_map.2 ⟨vs,?_,U⟩;have:=lH x.kids _ rows hrows [] U vs (h3.cast (fun z hz=>(hkl z hz).symm))
     simpa using this
   ·rcases hp.stop with h | h | ⟨a,b',c,d⟩
    ·exact .inl h
    ·exact .inr (.inl h)
    ·exact .inr (.inr ⟨a,I,c,I⟩)
  rw [if_neg k3];by_cases k4:x.kind=4
  ·rw [if_pos k4]
   have hbk:=hn.bind k4;have hz0:x.kids.getD 0 0 ∈ x.kids:=aC I;have hz0':=hn.kids _ hz0;have ha:=hr (x.kids.getD 0 0) at_ hz0'.1 hz0'.2 ha0 ha1;have e4:=L6 k4;have hm0:=hcm k4;have hv0:=hcv k4;have hinc:=hn.inc;generalize hra:cA t path f (x.kids.getD 0 0) at_=a at *;have p1:=ha.used0;have p2:=ha.usedL;have p3:=ha.usedP;split
   ·next hs =>
    have hmem:=ha.mem hs hm0;rw [hv0] at hmem;obtain ⟨f1,f2,f3⟩:=eN hinc hmem;generalize (bK x.values a.val).1=q at *;have hq:q+1<x.kids:=by omega
    have hzq:=hn.kids _ (aC (d:=0) hq);have hb:=hr (x.kids.getD (q+1) 0) (at_+a.used) hzq.1 hzq.2 I p3;have e5:=e4.2 (q+1) I hq;generalize hrb:cA t path f (x.kids.getD (q+1) 0) (at_+a.used)=b at *;have b1:=hb.used0;have b2:=hb.usedL;have b3:=hb.usedP;refine ⟨by show 0<=a.used+b.used;omega,by show a.used+b.used<=_;omega,by show at_+(a.used+b.used)<=_;omega,fun e hm=>?_,?_⟩
    ·show b.val ∈ _
     rw [hlg] at hm ⊢;unfold cQ at hm ⊢;rw [if_neg k0,if_neg I,if_neg k3] at hm ⊢;obtain ⟨h3,h4⟩:=(jA x.kids 0 [] hm).2 (q+1) hq I;rw [hkl _ (aC hq)] at h3 h4;exact h4 _ (hb.mem e h3)
    ·rcases hb.stop with h | h | ⟨c1,c2,c3,c4⟩
     ·exact .inl h
     ·exact .inr (.inl h)
     ·exact .inr (.inr ⟨c1,by show b.stop<=i;omega,c3,I⟩)
   ·next hs =>
    refine ⟨p1,I,p3,fun e=>absurd e hs,?_⟩;rcases ha.stop with h | h | ⟨c1,c2,c3,c4⟩
    ·exact absurd h hs
    ·exact .inr (.inl h)
    ·exact .inr (.inr ⟨c1,I,c3,I⟩)
  rw [if_neg k4];have k12:x.kind=1∨x.kind=2:=by omega
  have hlen1:1<=(aI t).getD i 0:=by
   rcases k12 with k | k
   ·rw [L2 k];omega
   ·exact (L5 k).1
  split
  ·next hat =>
   refine ⟨Int.le_refl _,ja,by show at_+0<=_;omega,fun e=>?_,.inr (.inr ⟨?_,?_,?_,I⟩)⟩
   ·have:(i:Int)=-1:=e
    omega
   ·show (0:Int)<=(i:Int);omega
   ·show (i:Int)<=(i:Int);omega
   ·exact hself k12
  ·next hat =>
   split
   ·exact ⟨Int.le_refl _,ja,by show at_+0<=_;omega,fun e=>absurd e dx,.inr (.inl rfl)⟩
   ·next hopt =>
    rw [dA hn] at hopt;generalize path.getD at_.toNat 0=c at *;split
    ·next k1 =>
     rw [if_pos k1] at hopt;have hnum:=aZ hn.numbers;refine ⟨by show (0:Int)<=1;omega,by show 1<=_;omega,by show at_+1<=_;omega,fun _ hm=>?_,.inl rfl⟩;show GV.mk 0 (x.lo+c) ByteArray.empty [] ∈ _;rw [hlg] at hm ⊢;unfold cQ at hm ⊢;rw [if_neg k0,if_pos k1] at hm ⊢;split at hm
     ·cases hm
     ·next hr=>rw [if_neg hr];exact iQ.2 ⟨x.lo+c,I,I,rfl⟩
    ·next k1 =>
     rw [if_neg k1] at hopt;have k2:x.kind=2:=by omega
     have hq:c.toNat<x.kids:=I;have hzq:=hn.kids _ (aC (d:=0) hq);have hb:=hr (x.kids.getD c.toNat 0) (at_+1) hzq.1 hzq.2 I I;have e5:=(L5 k2).2 _ (aC (d:=0) hq);generalize cA t path f (x.kids.getD c.toNat 0) (at_+1)=b at *;have b1:=hb.used0;have b2:=hb.usedL;have b3:=hb.usedP;refine ⟨by show 0<=b.used+1;omega,by show b.used+1<=_;omega,by show at_+(b.used+1)<=_;omega,fun e hm=>?_,?_⟩
     ·show b.val ∈ _
      rw [hlg] at hm ⊢;unfold cQ at hm ⊢;rw [if_neg k0,if_neg k1,if_neg k3] at hm ⊢;obtain ⟨h3,h4⟩:=(jA x.kids 0 [] hm).2 c.toNat hq jf;rw [hkl _ (aC hq)] at h3 h4;exact h4 _ (hb.mem e h3)
     ·rcases hb.stop with h | h | ⟨c1,c2,c3,c4⟩
      ·exact .inl h
      ·exact .inr (.inl h)
      ·exact .inr (.inr ⟨c1,by show b.stop<=i;omega,c3,I⟩)
section
variable {ops:Array Oper}{K:Act->World->Prop}{S:World->Prop}{bf:Nat->Bool}{n:Nat}{is is':List Nat}{a:Act}{w w1:World}{o:Oper}{v:Value}{d:Nat}
def WDi (ops:Array Oper)(K:Act->World->Prop)(S:World->Prop)(bf:Nat->Bool)(n i:Nat)(o:Oper)(is:List Nat)(a:Act)(w:World):Prop :=
 ∀ K':Act->World->Prop,(∀ a' w',(bf i=true->S w')->WD ops K S bf n (i :: is) a' w'->K' a' w')->if Region.wanted o (yielded ops a.tmps)=true then Oper.wp Tryz.prog o a w K' (NQ K) else K' (a.put o.dst undef) w
theorem yw {i j:Nat}{oi oj:Oper}(hr:Region.ready .any ops (mkL ops.size is)=[i,j])(hi:ops[i]?=some oi)(hj:ops[j]?=some oj)(h1:WDi ops K S bf n i oi is a w)(h2:WDi ops K S bf n j oj is a w):WD ops K S bf (n+1) is a w:=by
 have one:∀ (k:Nat) (ok:Oper),ops[k]?=some ok->WDi ops K S bf n k ok is a w->wpOp Tryz.prog ops (NQ K) k (fun a' w'=>(bf k=true->S w')∧iC Tryz.prog .any ops (NQ K) S bf n ((mkL ops.size is).setIfInBounds k true) a' w') a w:=by
  intro k ok hk h;have h1:=h (fun a' w'=>(bf k=true->S w')∧iC Tryz.prog .any ops (NQ K) S bf n ((mkL ops.size is).setIfInBounds k true) a' w') (fun a' w' h2 h3=>⟨h2,h3.out⟩);unfold wpOp;simp only [hk];split
  ·rename_i hw
   rw [if_pos hw] at h1;exact .inl h1
  ·rename_i hw
   rw [if_neg hw] at h1;exact h1
 refine ⟨⟨fun h0=>(by rw [h0] at hr;cases hr),fun k hk=>?_⟩⟩;rw [hr] at hk;simp only [ao,List.not_mem_nil,or_false] at hk;rcases hk with rfl | rfl
 ·exact one _ oi hi h1
 ·exact one _ oj hj h2
theorem FV {i:Nat}(hg:o.guard=none)(hd:o.dst=some d)(hrun:(execOp (Ev a) o).run Tryz.prog w=.ok (.value v) w1)(hS:bf i=true->S w1)(h:WD ops K S bf n (i :: is) (Pt a d v) w1):WDi ops K S bf n i o is a w:=fun K' hK=>by
 have hw:Region.wanted o (yielded ops a.tmps)=true:=dy;rw [if_pos hw];unfold Oper.wp;rw [show execOp a.eval o=execOp (Ev a) o from rfl,hrun];show K' (a.put o.dst v) w1;rw [hd];exact hK _ _ hS h
theorem WD.swap {i j:Nat}(hij:i ≠ j)(h:WD ops K S bf n (j :: i :: is) a w):WD ops K S bf n (i :: j :: is) a w:=⟨by
 have e:mkL ops.size (i :: j :: is)=mkL ops.size (j :: i :: is):=Array.setIfInBounds_comm _ _ (Ne.symm hij);rw [e];exact h.out⟩
theorem Ag.both {L:List Nat}{b:Act}(h:Ag L b a):Ag (d :: L) (Pt b d v) (Pt a d v):=⟨by rw [ql,ql];exact h.sz,h.df,fun t ht=>by
 rw [zR,zR,h.sz];rcases ao.1 ht with rfl | ht
 ·simp
 ·rw [h.ev t ht]⟩
end
section
variable {ops:Array Oper}{K:Act->World->Prop}{S:World->Prop}{bf:Nat->Bool}{j g ty B n:Nat}{z:Array Value}{L is:List Nat}{D:Option Nat->World->Prop}{b a:Act}{w w':World}{al:Option Nat}{M:Nat->Prop}{d:Nat}{v:Value}{o oj:Oper}
def AB (g ty:Nat)(z:Array Value)(B:Nat)(al:Option Nat)(a:Act)(w:World):Prop:=∀ G,al=some G->qq a g (qp G)∧Blk w G ty z∧B<=G
theorem AB.step (h:AB g ty z B al a w)(hd:d ≠ g)(hF:Fr M w w')(hM:∀ k,M k->k<B):AB g ty z B al (Pt a d v) w':=fun G e=>by
 obtain ⟨h1,h2,h3⟩:=h G e;exact ⟨by rw [zR,if_neg hd];exact h1,h2.fr hF (fun hm=>by have:=hM _ hm;omega),h3⟩
def jl (j:Nat):Option Nat->List Nat
 | none=>[]
 | some _=>[j]
def jn:Option Nat->Nat
 | none=>1
 | some _=>0
structure WA (ops:Array Oper)(K:Act->World->Prop)(S:World->Prop)(bf:Nat->Bool)(j g ty:Nat)(z:Array Value)(B:Nat)(L:List Nat)(D:Option Nat->World->Prop)(n:Nat)(is:List Nat)(b:Act):Prop where
 out:∀ al a w,Ag L b a->AB g ty z B al a w->D al w->WD ops K S bf (n+jn al) (jl j al ++ is) a w
theorem WA.go (h:WA ops K S bf j g ty z B L D n is b)(hD:D none w):WD ops K S bf (n+1) is b w:=h.out none b w .rf (fun _ h=>by cases h) hD
structure AOp (ops:Array Oper)(S:World->Prop)(j g ty:Nat)(z:Array Value)(B:Nat)(L:List Nat)(D:Option Nat->World->Prop):Prop where
 hop:∃ oj,ops[j]?=some oj∧oj.guard=none∧oj.dst=some g∧oj.op=.alloc ty
 run:∀ a w (oj:Oper),oj.op=.alloc ty->(execOp (Ev a) oj).run Tryz.prog w=.ok (.value (qp w)) (w.alloc (qk z ty))
 nL:L.contains g=false
 new:∀ w,Ext w (w.alloc (qk z ty))->D none w->D (some w.heap.size) (w.alloc (qk z ty))
 low:∀ w,D none w->B<=w
 S:∀ al w,D al w->S w
theorem AOp.it (h:AOp ops S j g ty z B L D)(ho:oj.guard=none∧oj.dst=some g∧oj.op=.alloc ty)(hA:Ag L b a)(hD:D none w)(hk:∀ G a w,Ag L b a->AB g ty z B (some G) a w->D (some G) w->WD ops K S bf n (j :: is) a w)(hs:g<b.tmps.size):WDi ops K S bf n j oj is a w:=by
 have hx:Ext w (w.alloc (qk z ty)):=(aq w).alloc' _;have hm:=h.new w hx hD;refine FV ho.1 ho.2.1 (h.run a w oj ho.2.2) (fun _=>h.S _ _ hm) (hk w _ _ (hA.put h.nL) (fun G e=>?_) hm);obtain rfl:=Option.some.inj e;exact ⟨by rw [zR,if_pos rfl,if_pos (by rw [hA.sz];exact hs)],aw w ty z,h.low w hD⟩
theorem od {f:FuncId}{xs:Array Operand}{ats:Array TypeId}{fn:Func}{vs:Array Value}(i:Nat)(hO:AOp ops S j g ty z B L D)(hs:g<b.tmps.size)(hf:Tryz.prog.funcs[f]?=some fn)
  (hc:∀ al w,(∀ G,al=some G->B<=G∧G<w.heap.size)->D al w->Calls Tryz.prog f vs w fun e w'=>∃ v M D',e=.returned v∧Fr M w w'∧(∀ k,M k->k<B)∧D' al w'∧S w'∧WA ops K S bf j g ty z B (d :: L) D' n (i :: is) (Pt b d v))(hv:∀ a,Ag L b a->xs.map (Ev a)=vs)
  (hr:Region.ready .any ops (mkL ops.size is)=[i,j]∨Region.ready .any ops (mkL ops.size is)=[j,i]:=by first | exact .inl av | exact .inr av)(hrj:Region.ready .any ops (mkL ops.size (j :: is))=[i]:=by kernel_rfl)(hi:ops[i]?=some o:=by exact rfl)(hg:o.guard=none:=by exact rfl)(hd:o.dst=some d:=by exact rfl)(hop:o.op=Op.call { callee:=Callee.value (Operand.func f),args:=xs,argTypes:=ats }:=by exact rfl)(hn:(fn.name == "runtime.NumGoroutine")=false:=by rfl) (hb:fn.body.isNone=false:=by rfl) (hij:i ≠ j:=by decide) (hdg:d ≠ g:=by decide):WA ops K S bf j g ty z B L D (n+1) is b:=by
 have step:∀ al a w m is',Ag L b a->AB g ty z B al a w->D al w->(∀ a' w',WD ops K S bf (n+jn al) (jl j al ++ (i :: is)) a' w'->WD ops K S bf m (i :: is') a' w')->WDi ops K S bf m i o is' a w:=by
  intro al a w m is' hA hB hD hk K' hK;rw [if_pos dy];refine pM f xs ats hop fn hf hn hb vs (hv a hA) ((hc al w (fun G e=>⟨(hB G e).2.2,(hB G e).2.1.lt⟩) hD).mono ?_);rintro e w' ⟨v,M,D',rfl,hF,hM,hD',hS',hW⟩;exact ⟨v,rfl,by rw [hd];exact hK _ _ (fun _=>hS') (hk _ _ (hW.out al _ _ hA.both (hB.step hdg hF hM) hD'))⟩
 have some_:∀ G a w,Ag L b a->AB g ty z B (some G) a w->D (some G) w->WD ops K S bf (n+1) (j :: is) a w:=fun G a w hA hB hD=>l5 i hrj hi (step (some G) a w n (j :: is) hA hB hD (fun a' w' h=>WD.swap hij h))
 obtain ⟨oj,hj,ho⟩:=hO.hop;refine ⟨fun al a w hA hB hD=>?_⟩;cases al with
 | some G=>exact some_ G a w hA hB hD
 | none =>
  have h1:=step none a w (n+1) is hA hB hD (fun a' w' h=>h);have h2:=hO.it ho (bf:=bf) hA hD some_ hs;rcases hr with hr | hr
  ·exact yw hr hi hj h1 h2
  ·exact yw hr hj hi h2 h1
theorem kh (i:Nat)(hO:AOp ops S j g ty z B L D)(h:WA ops K S bf j g ty z B (d :: L) D n (i :: is) (Pt b d v))(hi:ops[i]?=some o:=by exact rfl)(hg:o.guard=none:=by exact rfl)(hd:o.dst=some d:=by exact rfl)(hy:∀ a,Ag L b a->∀ w,S w->(execOp (Ev a) o).run Tryz.prog w=.ok (.value v) w)(ht:tkB ops bf is i=true:=by kernel_rfl)(htj:tkB ops bf (j :: is) i=true:=by kernel_rfl)(hij:i ≠ j:=by decide)(hdg:d ≠ g:=by decide):WA ops K S bf j g ty z B L D (n+1) is b:=by
 refine ⟨fun al a w hA hB hD=>?_⟩;have h1:=h.out al _ _ hA.both (hB.step hdg (au (fun _=>False) w) (fun _ h=>h.elim)) hD;cases al with
 | some G=>exact AY i d v hi hd htj hg (hy a hA) (hO.S _ w hD) (WD.swap hij h1)
 | none=>exact AY i d v hi hd ht hg (hy a hA) (hO.S _ w hD) h1
theorem oh (hO:AOp ops S j g ty z B L D)(hs:g<b.tmps.size)(h:∀ G a w,Ag L b a->qq a g (qp G)->Blk w G ty z->B<=G->D (some G) w->WD ops K S bf n (j :: is) a w)(hr:Region.ready .any ops (mkL ops.size is)=[j]:=by kernel_rfl):WA ops K S bf j g ty z B L D n is b:=by
 have some_:∀ G a w,Ag L b a->AB g ty z B (some G) a w->D (some G) w->WD ops K S bf n (j :: is) a w:=fun G a w hA hB hD=>by
  obtain ⟨h1,h2,h3⟩:=hB G rfl;exact h G a w hA h1 h2 h3 hD
 refine ⟨fun al a w hA hB hD=>?_⟩;cases al with
 | some G=>exact some_ G a w hA hB hD
 | none =>
  obtain ⟨oj,hj,ho⟩:=hO.hop;exact l5 j hr hj (hO.it ho (bf:=bf) hA hD some_ hs)
end
section
variable {ops:Array Oper}{Q:Exit->Act->World->Prop}{a:Act}{w:World}
theorem lF (a0:Act)(L:List Nat)(d:Nat){v:Value}(h:∀ a',Ag L a0 a'->qq a' d v->Q .normal a' w)(hA:Ag L a0 a:=by (repeat refine .put ?_ rfl);exact .rf)(he:qq a d v:=by simp [*]):WL ops Q [] a w:=lE a0 L d h hA he
end
section
variable {ops:Array Oper}{K:Act->World->Prop}{S:World->Prop}{bf:Nat->Bool}{n:Nat}{is is' l:List Nat}{a:Act}{w w1:World}{o:Oper}{d i:Nat}
end
theorem aF {g:Nat}{t:TypeId}:∀ (us:List Value){w:World}{cs:List Value}(o:Nat),Blk w g t cs.toArray->o+us<=cs->Blk (w.setCells g o us) g t (cs.take o ++ us ++ cs.drop (o+us)).toArray
 | [],w,cs,o,h,_=>by simp only [World.setCells,List.append_nil,List.length_nil,Nat.add_zero,List.take_append_drop];exact h
 | u :: us,w,cs,o,h,ho=>by
  simp only [ai] at ho;have h1:=h.set_ o u;simp only [List.setIfInBounds_toArray] at h1;have h2:=aF us (o+1) h1 bh
  have e:(cs.set o u).take (o+1) ++ us ++ (cs.set o u).drop (o+1+us.length)=cs.take o ++ u :: us ++ cs.drop (o+(us.length+1)):=by
   rw [List.drop_set_of_lt I,List.take_succ_eq_append_getElem bh];simp only [List.getElem_set_self,ah,List.cons_append,List.nil_append];rw [List.take_set_of_le I];simp [Nat.add_comm,Nat.add_left_comm]
  rw [e] at h2;exact h2
theorem aB.setCells {Q:Nat->Prop}{g:Nat}(hg:¬ Q g):∀ (us:List Value){w w':World}(o:Nat),aB Q w w'->aB Q w (w'.setCells g o us)
 | [],_,_,_,h=>h
 | u :: us,w,w',o,h=>aB.setCells hg us (o+1) (h.set (p:=qt g o) u hg)
theorem Fr.setCells {M:Nat->Prop}{g:Nat}:∀ (us:List Value){w w':World}(o:Nat),Fr M w w'->(M g∨w<=g)->Fr M w (w'.setCells g o us)
 | [],_,_,_,h,_=>h
 | u :: us,w,w',o,h,hg=>Fr.setCells us (o+1) (h.setCell (p:=qt g o) hg u) hg
theorem Blk.farCells {g g':Nat}{t:TypeId}{cs:Array Value}(hne:g ≠ g'):∀ (us:List Value){w:World}(o:Nat),Blk w g t cs->Blk (w.setCells g' o us) g t cs
 | [],_,_,h=>h
 | u :: us,w,o,h=>Blk.farCells hne us (o+1) (h.far (p:=qt g' o) hne u)
theorem Blk.some_ {w:World}{g:Nat}{t:TypeId}{cs:List Value}(h:Blk w g t cs.toArray){i:Nat}(hi:i<cs):∃ y,qc w g i y:=⟨cs[i],h.cell' i (by simp [hi])⟩
structure ll {α:Type}(size:Nat)(R:World->(Nat->Prop)->α->List Value->Prop):Prop where
 len:∀ w P x cs,R w P x cs->cs=size
 carry:∀ w w' P Q x cs,R w P x cs->aB P w w'->(∀ b,b<w.heap.size->P b->Q b)->R w' Q x cs
def mp {α:Type}(size:Nat)(R:World->(Nat->Prop)->α->List Value->Prop)(l:List α)(g:Nat)(ty:TypeId)(W0:World)(i:Value)(wr:World):Prop :=
 ∃ (k:Nat) (cs:List Value),k<=l∧i=↑k∧Blk wr g ty cs.toArray∧cs.length=l*size∧RL (R wr (fun b=>W0.heap.size<=b∧b ≠ g)) (l.take k) (cs.take (k*size))∧Ext W0 wr
section
variable {α:Type}{size:Nat}{R:World->(Nat->Prop)->α->List Value->Prop}
theorem RL.move {w w':World}{P Q:Nat->Prop}(hE:ll size R){l:List α}{cs:List Value}(h:RL (R w P) l cs)(hk:aB P w w')(hPQ:∀ b,b<w.heap.size->P b->Q b):RL (R w' Q) l cs :=
 h.mono (fun x _ cs hx=>hE.carry w w' P Q x cs hx hk hPQ)
theorem wK {l:List α}{ty:TypeId}{W0:World}(cs:Array Value)(hcs:cs.size=l*size):mp size R l W0 ty W0 qz (W0.alloc (qk cs ty)) :=
 ⟨0,cs.toList,af _,rfl,by simpa using aw W0 ty cs,by simpa using hcs,gh,(aq _).alloc' _⟩
theorem pg (hE:ll size R){l:List α}{g:Nat}{ty:TypeId}{W0 wr w1:World}{k:Nat}{cs us:List Value}(d:α)(hg:W0<=g)(hk:k<l)(hB:Blk wr g ty cs.toArray)(hl:cs.length=l*size)
  (hR:RL (R wr (fun b=>W0.heap.size<=b∧b ≠ g)) (l.take k) (cs.take (k*size)))(hx:Ext W0 wr)(h1:Ext wr w1)(hu:R w1 (fun b=>wr.heap.size<=b) (l.getD k d) us) :
  mp size R l g ty W0 (.int .i64 ((k:Int)+1)) (w1.setCells g (k*size) us):=by
 have hus:=hE.len _ _ _ _ hu;have hkl:k*size+size<=l*size:=by rw [<- Nat.succ_mul];exact Nat.mul_le_mul_right _ hk
 have hB1:=aF us (k*size) (hB.ext h1) I;have hgl:=hB.lt;refine ⟨k+1,_,I,U,hB1,?_,?_,?_⟩
 ·simp only [aa,ak,am];omega
 ·have e:(cs.take (k*size) ++ us ++ cs.drop (k*size+us.length)).take ((k+1)*size)=cs.take (k*size) ++ us:=by
   rw [List.take_append_of_le_length (by simp only [aa,ak];rw [Nat.add_mul];omega),an (by simp only [aa,ak];rw [Nat.add_mul];omega)]
  rw [e,aW d hk];have hg2:¬ (fun b=>W0.heap.size<=b∧b ≠ g) g:=fun h=>h.2 rfl
  refine RL.append ?_ (RL.one ?_)
  ·refine hR.move hE (aB.setCells hg2 us (k*size) (aB.of_ext h1)) (fun _ _ h=>h)
  ·have hk0:aB (fun b=>wr.heap.size<=b) w1 w1:=fun _ _ _=>rfl
   exact hE.carry _ _ _ _ _ _ hu (aB.setCells bh us (k*size) hk0) (fun b _ h=>⟨I,I⟩)
 ·exact ((ar (M:=fun _=>False) (hx.trans' h1)).setCells us (k*size) (.inr hg)).ext
theorem pq (hE:ll size R){l:List α}{g:Nat}{ty:TypeId}{W0 wr:World}{cs:List Value}(hg:W0<=g)(hln:l.length<=17592186044416)(hB:Blk wr g ty cs.toArray)(hl:cs.length=l*size)
  (hR:RL (R wr (fun b=>W0.heap.size<=b∧b ≠ g)) (l.take l) (cs.take (l.length*size))):Lst wr (fun b=>W0.heap.size<=b) size (R wr (fun b=>W0.heap.size<=b)) (.slice (qp g) l l) l:=by
 rw [List.take_length,an I] at hR;exact ⟨_,_,cs,rfl,ab _,⟨hln,I⟩,⟨hl,fun _=>⟨g,0,rfl,hg,fun j u hu=>by rw [Nat.zero_add];exact hB.cell' j fy⟩⟩,hR.move hE (fun _ _ _=>rfl) (fun _ _ h=>h.1)⟩
end
theorem Cn:ll 4 RV:=⟨fun _ _ _ _ h=>h.len,fun _ _ _ _ _ _ h hk hPQ=>RV.carry hk hPQ h⟩
theorem qY:ll 12 RN:=⟨fun _ _ _ _ h=>RN.len _ _ h,fun _ _ _ _ _ _ h hk hPQ=>h.carry hk hPQ⟩
def D2 (x:GV)(w:World)(e:Ending)(w':World):Prop:=∃ A c,e=.returned (cN x A c)∧VAt w' (fun b=>w.heap.size<=b) x A c∧Ext w w'
def uD (x:GV):Prop:=∀ (A:Option Addr)(c:Nat)(P:Nat->Prop)(w:World),VAt w P x A c->qg 108 #[cN x A c] w (D2 x w)
def Bs (l:List GV)(w:World)(e:Ending)(w':World):Prop:=∃ A c,e=.returned (.slice A l c)∧bZ w' (fun b=>w.heap.size<=b) (.slice A l c) l∧Ext w w'
theorem mT (l:List GV)(hF:∀ x ∈ l,uD x)(P:Nat->Prop)(v:Value)(w:World)(hl:bZ w P v l)(hlen:l.length<=1000000000):qg 129 #[v,.func (.func 108) #[] #[]] w (Bs l w):=by
 have HF:=aYf hF;have HV:=aYf hl;obtain ⟨A,c,e,h1,h2⟩:=hl.form;subst e;clear hl hF;by_cases h0:l.length=0
 ·have t0:((l:Int) == 0)=true:=aYh I
  have hnil:l=[]:=List.eq_nil_of_length_eq_zero h0;subst hnil;clear h0;go_enter Tryz.func129,Tryz.ntmps129;go_wp2_with fail;go_ret;exact ⟨none,0,rfl,⟨none,0,[],rfl,ab _,U,⟨rfl,fun h=>by simp at h⟩,j6⟩,aq _⟩
 ·have t0:((l:Int) == 0)=false:=aYg I
  clear h0;obtain ⟨i0,hi,hz0,hz1,hz2⟩:=info_parts Tryz.info58
  have hmk:∀ W:World,(Instr.makeSlice 56 (↑(l:Int)) (↑(l:Int))).run Tryz.prog W=.ok (.slice (qp W) l l) (W.alloc (qk (madeCells #[qz,qz,.string ByteArray.empty,qn] (l*4)) 58)):=by
   intro W;have h:=run_make (P:=Tryz.prog) W 56 58 i0 _ Tryz.underlying56 hi hz0 .i64 .i64 (l:Int) (l:Int) I (Int.le_refl _) fp I;rw [hz1] at h;rw [h];rfl
  have hsz:=size_madeCells #[qz,qz,.string ByteArray.empty,qn] (l*4);generalize madeCells #[qz,qz,.string ByteArray.empty,qn] (l*4)=mc at *;have HSZ:=aYf hsz;clear hsz hi hz0 hz1 hz2 i0;go_enter Tryz.func129,Tryz.ntmps129;go_wp2_with fail;go_loopw [15] (fun i wr=>mp 4 RV l w 58 w i wr) (fun i _=>l.length - (intOf i).toNat)
  case atStart=>exact wK mc HSZ.out
  case round =>
   obtain ⟨k,cs,hk,rfl,hB,hcl,hR,hx⟩:=hrel;have HB:=aYf hB;have HCL:=aYf hcl;have HR:=aYf hR;have HX:=aYf hx;clear hB hcl hR hx;by_cases hlt:k<l
   ·obtain ⟨b1,o1,A1,d1,rfl,-,hv1,g10,g11,g12,g13⟩:=(HV.out.ext HX.out).get hlt
    have HCX:=aYf (HF.out _ (aC (d:=default) hlt) A1 d1 P wr hv1);have HGX:=aYf (show ∃ x,x=l.getD k default from ⟨_,rfl⟩);obtain ⟨x,hgx⟩:=HGX.out;have HG:=aYf hgx;rw [<- hgx] at HCX g10 g11 g12 g13;have hkk:(k:Int)<(l:Int):=by omega
    clear hv1 HGX hgx;go_wp2_with fail;refine (HCX.out).mono ?_;rintro e w1 ⟨A2,d2,rfl,hv2,hx2⟩;have hBB:=HB.out.ext hx2;have hcl:=HCL.out;obtain ⟨y0,q0⟩:=hBB.some_ (i:=k*4) I;obtain ⟨y1,q1⟩:=hBB.some_ (i:=k*4+1) I;obtain ⟨y2,q2⟩:=hBB.some_ (i:=k*4+2) I;obtain ⟨y3,q3⟩:=hBB.some_ (i:=k*4+3) I;have f0:=hBB.frozen (k*4);have f1:=hBB.frozen (k*4+1);have f2:=hBB.frozen (k*4+2);have f3:=hBB.frozen (k*4+3);have HV2:=aYf hv2;have HX2:=aYf hx2;clear hv2 hx2 hBB hcl;go_wp2_with fail;go_roundw
    case rel =>
     have:=HG.out;subst this;exact pg (w1:=w1) Cn default (ab _) hlt HB.out HCL.out HR.out HX.out HX2.out (us:=cellsOf _ A2 d2) HV2.out.rv
    case measure=>simp [intOf];omega
   ·obtain rfl:k=l:=by omega
    go_wp2_with fail;go_ret;exact ⟨_,_,rfl,CO.2 (pq Cn (ab _) I HB.out HCL.out HR.out),HX.out⟩
theorem Tryz.info193:(Tryz.prog.info? 193).map (fun i=>(i.zero,i.size,i.bytes))=some (some (.agg #[qz,qz,qz]),3,24):=av
abbrev fU (r:GR)(A:Option Addr)(c:Nat)(sv:Value):List Value:=[r.val.kind,r.val.n,r.val.s,.slice A r.val.kids c,r.used,r.stop,sv]
abbrev cC (r:GR)(A:Option Addr)(c:Nat)(sv:Value):Array Value:=(fU r A c sv).toArray
abbrev eU:Array Value:=#[qz,qz,qe,qn,qz,qz,qn]
def tX (m N:Nat)(xs:List Value):Prop:=m+1<=N∧∀ u ∈ xs,u.oneCell'=true
theorem tX.nil (f:Nat):tX 0 (6 ^ (f+1)) []:=⟨Nat.pos_of_ne_zero U,U⟩
theorem tX.succ {m f:Nat}{xs:List Value}(h:tX m (6 ^ f) xs):tX m (6 ^ (f+1)) xs:=⟨by have:=h.1;rw [Nat.pow_succ];omega,h.2⟩
theorem CN {f:Nat}(hf:f<14):6 ^ f<=30517578125:=ae (Nat.pow_le_pow_right I I:6 ^ f<=6 ^ 13) dx
theorem tX.le {m f:Nat}{xs:List Value}(h:tX m (6 ^ f) xs)(hf:f<14):m<=30517578125:=ae (Nat.le_of_succ_le h.1) (CN hf)
theorem tX.add {m n f:Nat}{xs ys:List Value}(h:tX m (6 ^ f) xs)(k:tX n (6 ^ f) ys):tX (m+n) (6 ^ (f+1)) (xs ++ ys) :=
 ⟨by have:=h.1;have:=k.1;rw [Nat.pow_succ];omega,fun u hu=>(ap.1 hu).elim (h.2 u) (k.2 u)⟩
def kz (P:Nat->Prop)(r:GR)(N:Nat)(w:World)(e:Ending)(w':World):Prop :=
 ∃ A c sv m xs,e=.returned (.agg (cC r A c sv))∧VAt w' (New P w) r.val A c∧w'.ownsRow w 193 3 sv m xs∧tX m N xs∧Ext w w'
structure RdT (t:List GN)(path:List Int):Prop where
 good:aO t t
 small:t.length<=14
 few:∀ x ∈ t,x.kind=3->x.kids.length<=5
 path:path.length<=1000000000
def mY (t:List GN)(path:List Int)(f:Nat):Prop:=∀ (i:Nat)(at_:Int)(P:Nat->Prop)(vn vp:Value)(w:World),i<f->i<t->0<=at_->at_<=path->(∀ b,P b->b<w)->Nds w P vn t->bL w P vp path ->
  qg 109 #[.agg #[vn],↑i,vp,↑at_] w (kz P (cA t path f i at_) (6 ^ f) w)
theorem m9 {w:World}{base:Nat}{e:TypeId}{size:Nat}{A:Option Addr}{n c:Nat}{xs:List Value}(h:w.ownsRow base e size (.slice A n c) n xs):Sl w (fun _=>True) size A n xs:=by
 obtain ⟨A',c',e,h1,h2,h3⟩:=Sl.of_own h;injection e with e1 _ e3;subst e1 e3;exact h3 _ (fun _ _=>trivial)
theorem nQ {w w':World}{M:Nat->Prop}{b off:Nat}{u:Value}(hf:Fr M w w')(hb:¬ M b)(h:qc w b off u):qc w' b off u:=by
 rw [<- h];exact World.cell?_of_block (w:=w) (hf.block b (bB h) hb)
theorem ye {n:Int}(h:I64 n)(w:World)(P:Nat->Prop):VAt w P (.mk 0 n ByteArray.empty []) none 0 :=
 ⟨by simp [I64,GV.kind],h,by simp [GV.s],ab _,⟨dm,I⟩,⟨none,0,[],rfl,ab _,⟨dm,I⟩,⟨rfl,fun h=>absurd h dm⟩,rfl⟩⟩
theorem VAt.zero (w:World)(P:Nat->Prop):VAt w P cX none 0:=ye cu w P
def RB (P:Nat->Prop)(B:Nat)(r:GR)(N g:Nat)(w:World):Prop :=
 ∃ A c As m cs xs,Blk w g 146 (cC r A c (.slice As m cs))∧VAt w (fun b=>(P b∨B<=b)∧b ≠ g) r.val A c∧w.ownsRow B 193 3 (.slice As m cs) m xs∧tX m N xs∧some g ≠ (Value.slice As m cs).ownBlock∧B<=g
section
variable {ops:Array Oper}{K:Act->World->Prop}{b:Act}{W V0:World}{P:Nat->Prop}{r:GR}{N:Nat}{vs:Array Value}{L is:List Nat}{d dc:Nat}{oi:Oper}{xs:Array Operand}{ats:Array TypeId}
theorem vI (i j s:Nat)(hW:Ext W V0)(hs:d<b.tmps.size)(hsc:dc<b.tmps.size)(hP:∀ k,P k->k<W)(hcall:∀ V,Ext W V->qg 109 vs V (kz P r N V))(hv:∀ a,Ag L b a->xs.map (Ev a)=vs)
  (hK:∀ a' w' G,Ag L b a'->qq a' d (qp G)->RB P W r N G w'->Ext W w'->K a' w')
  (hj:∃ oj,ops[j]?=some oj∧oj.guard=none∧oj.dst=some d∧oj.op=.alloc 146:=by exact ⟨_,rfl,rfl,rfl,rfl⟩)(hi:ops[i]?=some oi:=by exact rfl)(hgi:oi.guard=none:=by exact rfl)(hdi:oi.dst=some dc:=by exact rfl)(hop:oi.op=Op.call { callee:=Callee.value (Operand.func 109),args:=xs,argTypes:=ats }:=by exact rfl)(hst:∃ os,ops[s]?=some os∧os.guard=none∧os.dst=none∧os.op=.store 146 (.tmp d) (.tmp dc):=by exact ⟨_,rfl,rfl,rfl,rfl⟩)
  (hr:Region.ready .any ops (mkL ops.size is)=[i,j]:=by kernel_rfl)(hrj:Region.ready .any ops (mkL ops.size (j :: is))=[i]:=by kernel_rfl)(hri:Region.ready .any ops (mkL ops.size (i :: is))=[j]:=by kernel_rfl)(hrs:Region.ready .any ops (mkL ops.size (j :: i :: is))=[s]:=by kernel_rfl)(hrn:Region.ready .any ops (mkL ops.size (s :: j :: i :: is))=[]:=by kernel_rfl)
  (hL:L.contains d=false:=by rfl)(hLc:L.contains dc=false:=by rfl)(hij:i ≠ j:=by decide)(hdd:dc ≠ d:=by decide):WD ops K (fun V=>Ext W V) (fun _=>true) 3 is b V0:=by
 have run:∀ a w (oj:Oper),oj.op=.alloc 146->(execOp (Ev a) oj).run Tryz.prog w=.ok (.value (qp w)) (w.alloc (qk eU 146)):=fun a w oj h=>by simp [execOp,go_sem,h];try rfl
 refine WA.go (j:=j) (g:=d) (ty:=146) (z:=eU) (B:=W.heap.size) (D:=fun _ V=>Ext W V) (L:=L) ?_ hW;refine od (xs:=xs) i ⟨hj,run,hL,fun w hx q=>q.trans' hx,fun w q=>q.size,fun _ w q=>q⟩ hs Tryz.func109 (fun al V hG q=>(hcall V q).mono ?_) hv (.inl hr) hrj hi hgi hdi hop dd dd hij hdd;rintro e V1 ⟨A,c,sv,m,ys,rfl,hval,hrow,hsp,hx⟩;obtain ⟨As,cs,rfl,-,-,-⟩:=Sl.of_own hrow;have hq:=q.size;refine ⟨_,fun _=>False,fun al V=>Ext W V∧VAt V (fun b=>(P b∨W<=b)∧al ≠ some b) r.val A c∧V.ownsRow W 193 3 (.slice As m cs) m ys∧∀ b,(Value.slice As m cs).ownBlock=some b->al ≠ some b,rfl,ar hx,fun _ h=>h.elim,⟨q.trans' hx,?_,hrow.base_le hq,?_⟩,q.trans' hx,?_⟩
 ·refine hval.carry (fun _ _ _=>rfl) (fun b hb h=>?_)
  rcases h with h | h
  ·exact ⟨.inl h,fun e=>by have:=hP b h;have:=(hG b e).1;omega⟩
  ·exact ⟨.inr I,fun e=>by have:=(hG b e).2;omega⟩
 ·intro b hb e
  have:=hrow.block_ge hb;have:=(hG b e).2;omega
 refine oh ⟨hj,run,by rw [List.contains_cons,hL,Bool.or_false];exact aYg (fun e=>hdd e.symm),fun w hx q=>⟨q.1.trans' hx,q.2.1.carry (aB.of_ext hx) (fun b hb h=>⟨h.1,fun e=>by injection e with e;omega⟩),q.2.2.1.ext_ hx,fun b hb e=>by have:=q.2.2.1.block_lt hb;injection e with e;omega⟩,fun w q=>q.1.size,fun _ w q=>q.1⟩ (by simpa using hs) ?_ hri;intro G a' V hA e hB hG ⟨q1,q2,q3,q4⟩;obtain ⟨os,ho1,ho2,ho3,ho4⟩:=hst;have ec:=hA.get dc (v:=.agg (cC r A c (.slice As m cs))) (by simp [hsc]) U;have hf:Fr (fun k=>k=G) V (V.setCells G 0 (fU r A c (.slice As m cs))):=(au _ V).setCells _ 0 (.inl rfl);have hb:=aF (fU r A c (.slice As m cs)) (cs:=[qz,qz,qe,qn,qz,qz,qn]) 0 hB U;have hE:Ext W (V.setCells G 0 (fU r A c (.slice As m cs))):=((ar q1).trans hf).new_ext (fun b h=>by subst h;exact hG);refine d_s s hrs ho1 ho2 ho3 (w1:=V.setCells G 0 (fU r A c (.slice As m cs))) (by simp [execOp,go_sem,ho4,e,ec,hB.cell,hB.frozen];try rfl) (fun _=>hE) ?_;refine kF hrn (hK a' _ G ?_ e ⟨A,c,As,m,cs,ys,hb,q2.carry (aB.of_fr hf (fun k hk h=>hk.2 (by rw [h]))) (fun k _ h=>⟨h.1,fun e=>h.2 j7⟩),cP q3 hf (fun k hk h=>q4 k hk (by rw [h])),hsp,fun e=>q4 G e.symm rfl,hG⟩ hE);have h1:Ag L b (Pt b dc (.agg (cC r A c (.slice As m cs)))):=Ag.rf.put hLc;exact h1.trans ⟨hA.sz,hA.df,fun t ht=>hA.ev t (List.mem_cons_of_mem _ ht)⟩
end
abbrev rn (used stop:Int)(sv:Value):Array Value:=#[qz,qz,qe,qn,↑used,↑stop,sv]
def mh (P:Nat->Prop)(B:Nat)(w:World)(sv vv:Value):Nat->Prop:=fun b=>(P b∨B<=b)∧b<w∧some b ≠ sv.ownBlock∧some b ≠ vv.ownBlock
structure PSt (P:Nat->Prop)(W:World)(g:Nat)(used:Int)(sv:Value)(m:Nat)(xs:List Value)(vv:Value)(acc:List GV)(ys:List Value)(w:World):Prop where
 gW:g<W
 notP:¬ P g
 out:Blk w g 146 (rn used (-1) sv)
 sp:w.ownsRow W 193 3 sv m xs
 one:∀ u ∈ xs,u.oneCell'=true
 vs:w.ownsRow W 58 4 vv acc ys
 acc:RVs w (mh P W w sv vv) acc ys
 ne:∀ b,sv.ownBlock=some b->vv.ownBlock ≠ some b
 fr:Fr (fun b=>b=g) W w
section
variable {P:Nat->Prop}{W:World}{g:Nat}{used:Int}{sv:Value}{m:Nat}{xs:List Value}{vv:Value}{acc:List GV}{ys:List Value}{w w':World}
theorem PSt.ext (h:PSt P W g used sv m xs vv acc ys w)(hx:Ext w w'):PSt P W g used sv m xs vv acc ys w' :=
 ⟨h.gW,h.notP,h.out.ext hx,h.sp.ext_ hx,h.one,h.vs.ext_ hx,RVs.carry (aB.of_ext hx) (fun b hb h=>⟨h.1,by have:=hx.size;omega,h.2.2⟩) h.acc,h.ne,h.fr.trans (ar hx)⟩
theorem PSt.size (h:PSt P W g used sv m xs vv acc ys w):W.heap.size<=w:=h.fr.size
theorem PSt.set_used (h:PSt P W g used sv m xs vv acc ys w)(u:Int):PSt P W g u sv m xs vv acc ys (w.setCell (qt g 4) (↑u)):=by
 have hb:=h.out.set_ 4 (↑u);simp only [List.setIfInBounds_toArray,List.set_cons_zero,List.set_cons_succ] at hb;refine ⟨h.gW,h.notP,hb,ownsRow_setCell_below h.sp (a:=qt g 4) h.gW _,h.one,ownsRow_setCell_below h.vs (a:=qt g 4) h.gW _,?_,h.ne,h.fr.setCell (p:=qt g 4) (.inl rfl) _⟩;refine RVs.carry (aB.set (fun _ _ _=>rfl) (p:=qt g 4) _ ?_) (fun b hb h=>⟨h.1,by simp [World.setCell];exact h.2.1,h.2.2⟩) h.acc;rintro ⟨h1 | h1,_⟩
 ·exact h.notP h1
 ·have:=h.gW;change W.heap.size<=g at h1;omega
theorem PSt.spans (h:PSt P W g used sv m xs vv acc ys w){w2:World}{sv2:Value}{n:Nat}{news:List Value}(ho:w2.ownsRow W 193 3 sv2 (m+n) (xs ++ news))(hnew:∀ u ∈ news,u.oneCell'=true)
  (hf:Fr (fun k=>some k=sv.ownBlock) w w2)(hb:sv2.ownBlock=sv.ownBlock∨sv2.ownBlock=some w.heap.size) :
  PSt P W g used sv2 (m+n) (xs ++ news) vv acc ys (w2.setCell (qt g 6) sv2):=by
 have hg:=h.gW;have hsp:∀ b,sv.ownBlock=some b->W<=b∧b<w:=fun b hb=>⟨h.sp.block_ge hb,h.sp.block_lt hb⟩
 have hb0:=(h.out.fr hf (fun e=>by have:=(hsp g e.symm).1;omega)).set_ 6 sv2;simp only [List.setIfInBounds_toArray,List.set_cons_zero,List.set_cons_succ] at hb0;have hvv:∀ b,vv.ownBlock=some b->¬ some b=sv.ownBlock:=fun b hb e=>h.ne b e.symm hb
 refine ⟨h.gW,h.notP,hb0,ownsRow_setCell_below ho (a:=qt g 6) h.gW _,fun u hu=>(ap.1 hu).elim (h.one u) (hnew u),ownsRow_setCell_below (cP h.vs hf hvv) (a:=qt g 6) h.gW _,?_,?_,?_⟩
 ·refine RVs.carry (aB.set (fun b hb' hq=>hf.block b hb' (fun e=>hq.2.2.1 e)) (p:=qt g 6) _ ?_) (fun b hb' hq=>⟨hq.1,?_,?_,hq.2.2.2⟩) h.acc
  ·rintro ⟨h1 | h1,_⟩
   ·exact h.notP h1
   ·change W.heap.size<=g at h1;omega
  ·have:=hf.size;simp [World.setCell];omega
  ·rcases hb with e | e
   ·rw [e];exact hq.2.2.1
   ·rw [e];intro e';injection e' with e';omega
 ·intro b hb1 hb2
  rcases hb with e | e
  ·rw [e] at hb1;exact h.ne b hb1 hb2
  ·rw [e] at hb1;injection hb1 with hb1;have:=h.vs.block_lt hb2;omega
 ·refine (h.fr.trans_new (hf.mono (fun b hb=>.inr ?_))).setCell (p:=qt g 6) (.inl rfl) _
  exact (hsp b hb.symm).1
theorem PSt.kid (h:PSt P W g used sv m xs vv acc ys w){w2:World}{vv2:Value}{y:GV}{A:Option Addr}{c:Nat}(ho:w2.ownsRow W 58 4 vv2 (acc+1) (ys ++ cellsOf y A c))
  (hv:VAt w (mh P W w sv vv) y A c)(hf:Fr (fun k=>some k=vv.ownBlock) w w2)(hb:vv2.ownBlock=vv.ownBlock∨vv2.ownBlock=some w.heap.size) :
  PSt P W g used sv m xs vv2 (acc ++ [y]) (ys ++ cellsOf y A c) w2:=by
 have hg:=h.gW;have hvs:∀ b,vv.ownBlock=some b->W<=b∧b<w:=fun b hb=>⟨h.vs.block_ge hb,h.vs.block_lt hb⟩
 have hsv:∀ b,sv.ownBlock=some b->¬ some b=vv.ownBlock:=fun b hb e=>h.ne b hb e.symm
 have hk:aB (mh P W w sv vv) w w2:=fun b hb' hq=>hf.block b hb' (fun e=>hq.2.2.2 e)
 have hQ:∀ b,b<w.heap.size->mh P W w sv vv b->mh P W w2 sv vv2 b:=by
  intro b hb' hq;refine ⟨hq.1,by have:=hf.size;omega,hq.2.2.1,?_⟩;rcases hb with e | e
  ·rw [e];exact hq.2.2.2
  ·rw [e];intro e';injection e' with e';omega
 refine ⟨h.gW,h.notP,h.out.fr hf (fun e=>by have:=(hvs g e.symm).1;omega),cP h.sp hf hsv,h.one,ho.len_cast U rfl,RVs.append (RVs.carry hk hQ h.acc) (RVs.one (hv.carry hk hQ).rv),?_,?_⟩
 ·intro b hb1 hb2
  rcases hb with e | e
  ·rw [e] at hb2;exact h.ne b hb1 hb2
  ·rw [e] at hb2;injection hb2 with hb2;have:=h.sp.block_lt hb1;omega
 ·exact h.fr.trans_new (hf.mono (fun b hb=>.inr (hvs b hb.symm).1))
end
