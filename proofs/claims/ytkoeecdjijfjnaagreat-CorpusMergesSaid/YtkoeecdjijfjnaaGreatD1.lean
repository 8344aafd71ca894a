/- Contracts of functions, plain laws. Conditions: none. -/
import Derived.Test.YtkoeecdjijfjnaaGreatC4
set_option maxRecDepth 100000
set_option maxHeartbeats 8000000
namespace Go.Proofs.YtkoeecdjijfjnaaGreat
open Go.RowKit
def nF (before:List Int):List Int->Int
 | []=>0
 | z :: zs=>before.getD z.toNat 0+nF before zs
theorem yI {before:List Int}:∀ {zs:List Int},(∀ z ∈ zs,0<=before.getD z.toNat 0∧before.getD z.toNat 0<=256)->0<=nF before zs∧nF before zs<=256*zs.length
 | [],_=>by simp [nF]
 | z :: zs,h=>by
  have h1:=h z U;have h2:=yI (zs:=zs) (fun y hy=>h y ap);simp only [nF,List.length_cons];omega
theorem zV {before:List Int}:∀ {zs:List Int}{s:Int},(∀ z ∈ zs,0<=before.getD z.toNat 0∧before.getD z.toNat 0<=256)->0<=s->s+256*zs.length<=1000000000->bV before s zs=s+nF before zs
 | [],s,_,_,_=>by simp [bV,nF]
 | z :: zs,s,h,h0,h1=>by
  have h2:=h z U;simp only [List.length_cons] at h1;simp only [bV,nF];rw [IntWalk.wrap64_in _ D,zV (fun y hy=>h y ap) D D];omega
theorem eX {before:List Int}{ch:Bool}:∀ (zs:List Int)(i:Nat)(m:Int),m<=aK before ch i m zs∧(∀ k,k<zs.length->(ch=true∨0<i+k)->before.getD (zs.getD k 0).toNat 0<=aK before ch i m zs)
 | [],i,m=>⟨by simp [aK],fun k hk=>by simp at hk⟩
 | z :: zs,i,m=>by
  simp only [aK];obtain ⟨h1,h2⟩:=eX (before:=before) (ch:=ch) zs (i+1) (if ch=true∨0<i then (if m<before.getD z.toNat 0 then before.getD z.toNat 0 else m) else m);refine ⟨Int.le_trans ?_ h1,fun k hk hc=>?_⟩
  ·split
   ·split <;> omega
   ·omega
  ·cases k with
   | zero =>
    refine Int.le_trans ?_ h1;rw [if_pos (by simpa using hc)];simp only [List.getD_cons_zero]
    split <;> omega
   | succ k =>
    simp only [List.getD_cons_succ];exact h2 k (by simpa using hk) (by rcases hc with h | h;exact .inl h;exact .inr D)
theorem oY {before:List Int}{ch:Bool}{N:Int}:∀ (zs:List Int)(i:Nat)(m:Int),m<=N->(∀ z ∈ zs,before.getD z.toNat 0<=N)->aK before ch i m zs<=N
 | [],i,m,h,_=>by simpa [aK] using h
 | z :: zs,i,m,h,hz=>by
  simp only [aK];have h1:=hz z U;refine oY zs (i+1) _ ?_ (fun y hy=>hz y ap)
  split
  ·split <;> omega
  ·omega
theorem zW {t:List GN}{j:Nat}(hj:j<t.length){z:Int}(hz:0<=z∧z<(j:Int)):(aP (t.take j)).getD z.toNat 0=(aP t).getD z.toNat 0:=by
 unfold aP;rw [gO _ _ _ D];have h:z.toNat<j:=by omega
 simp [List.getD,h]
theorem tA {t:List GN}{j:Nat}(hj:j<t.length):(aP t).getD j 0=fN (aP (t.take j)) (t.getD j default):=nW fN 0 t hj
structure aXk (t:List GN)(j:Nat):Prop where
 bd:0<=(aP t).getD j 0∧(aP t).getD j 0<=256
 range:(t.getD j default).kind=1->(aP t).getD j 0=1
 leaf:(t.getD j default).kind=0->(aP t).getD j 0=0
 seq:(t.getD j default).kind=3->(aP t).getD j 0=nF (aP t) (t.getD j default).kids
 choice:(t.getD j default).kind=2->1<=(aP t).getD j 0∧∀ z ∈ (t.getD j default).kids,1+(aP t).getD z.toNat 0<=(aP t).getD j 0
 bind:(t.getD j default).kind=4->(aP t).getD ((t.getD j default).kids.getD 0 0).toNat 0<=(aP t).getD j 0∧∀ k,1<=k->k<(t.getD j default).kids.length ->
  (aP t).getD ((t.getD j default).kids.getD 0 0).toNat 0+(aP t).getD ((t.getD j default).kids.getD k 0).toNat 0<=(aP t).getD j 0
theorem rB {a b:List Int}:∀ {zs:List Int},(∀ z ∈ zs,a.getD z.toNat 0=b.getD z.toNat 0)->nF a zs=nF b zs
 | [],_=>rfl
 | z :: zs,h=>by simp only [nF];rw [h z U,rB (fun y hy=>h y ap)]
theorem jN {t:List GN}{i:Nat}(h:bD t i):∀ j,j<i->aXk t j:=by
 intro j
 induction j using Nat.strongRecOn with
 | ind j ih =>
  intro hj;have hjt:j<t.length:=by have:=h.1;omega
  have hc:=h.at_ hj;have hfew:=(eZ h hj).1;have hl:=tA hjt;have hlen:=hc.len;have hn:=hc.node;generalize hx:t.getD j default=x at *;have hk:∀ z ∈ x.kids,(aP (t.take j)).getD z.toNat 0=(aP t).getD z.toNat 0:=fun z hz=>zW hjt (hn.kids z hz)
  have hb:∀ z ∈ x.kids,0<=(aP (t.take j)).getD z.toNat 0∧(aP (t.take j)).getD z.toNat 0<=256:=fun z hz=>by
   have hz':=hn.kids z hz;rw [hk z hz];exact (ih z.toNat D D).bd
  have hkd:=hn.kind
  have h0:0<=(aP t).getD j 0∧(x.kind=1->(aP t).getD j 0=1)∧(x.kind=0->(aP t).getD j 0=0)∧(x.kind=3->(aP t).getD j 0=nF (aP t) x.kids) ∧
    (x.kind=2->1<=(aP t).getD j 0∧∀ z ∈ x.kids,1+(aP t).getD z.toNat 0<=(aP t).getD j 0) ∧
    (x.kind=4->(aP t).getD (x.kids.getD 0 0).toNat 0<=(aP t).getD j 0∧∀ k,1<=k->k<x.kids.length->(aP t).getD (x.kids.getD 0 0).toNat 0+(aP t).getD (x.kids.getD k 0).toNat 0<=(aP t).getD j 0):=by
   rw [hl];unfold fN
   by_cases k0:x.kind=0
   ·rw [if_pos k0];exact ⟨D,D,fun _=>rfl,D,D,D⟩
   rw [if_neg k0]
   by_cases k1:x.kind=1
   ·rw [if_pos k1];exact ⟨D,fun _=>rfl,D,D,D,D⟩
   rw [if_neg k1]
   by_cases k3:x.kind=3
   ·rw [if_pos k3,zV hb D D,rB hk]
    have:=yI (before:=aP t) (zs:=x.kids) (fun z hz=>by rw [<- hk z hz];exact hb z hz);exact ⟨D,D,D,fun _=>by omega,D,D⟩
   rw [if_neg k3]
   by_cases k2:x.kind=2
   ·rw [if_pos k2]
    obtain ⟨g1,g2⟩:=eX (before:=aP (t.take j)) (ch:=true) x.kids 0 0;have g3:=oY (before:=aP (t.take j)) (ch:=true) (N:=256) x.kids 0 0 D (fun z hz=>(hb z hz).2);rw [IntWalk.wrap64_in _ D];refine ⟨D,D,D,D,fun _=>⟨D,fun z hz=>?_⟩,D⟩;obtain ⟨k,hk',e⟩:=List.getElem_of_mem hz;have:=g2 k hk' (.inl rfl);have e2:x.kids.getD k 0=z:=by rw [<- e];simp [hk']
    rw [e2,hk z hz] at this;omega
   rw [if_neg k2];have k4:x.kind=4:=by omega
   have hbd:=hn.bind k4;have hz0:x.kids.getD 0 0 ∈ x.kids:=aD D;obtain ⟨g1,g2⟩:=eX (before:=aP (t.take j)) (ch:=false) x.kids 0 0;have g3:=oY (before:=aP (t.take j)) (ch:=false) (N:=256) x.kids 0 0 D (fun z hz=>(hb z hz).2);have hb0:=hb _ hz0;rw [IntWalk.wrap64_in _ D];rw [<- hk _ hz0];refine ⟨D,D,D,D,D,fun _=>⟨D,fun k hk1 hk2=>?_⟩⟩;have:=g2 k hk2 (.inr D);rw [hk _ (aD hk2)] at this;omega
  obtain ⟨a0,a1,a2,a3,a4,a5⟩:=h0;exact ⟨⟨a0,hlen⟩,by rw [hx];exact a1,by rw [hx];exact a2,by rw [hx];exact a3,by rw [hx];exact a4,by rw [hx];exact a5⟩
structure GR where
 val:GV
 used:Int
 stop:Int
def bN:GV:=.mk 0 0 ByteArray.empty []
def bP (r:Int->Int->GR)(name:ByteArray)(at_:Int):Int->List GV->List Int->GR
 | used,acc,[]=>⟨bZ name acc,used,-1⟩
 | used,acc,z :: zs=>if (r z (at_+used)).stop=-1 then bP r name at_ (used+(r z (at_+used)).used) (acc ++ [(r z (at_+used)).val]) zs
   else ⟨bN,used+(r z (at_+used)).used,(r z (at_+used)).stop⟩
def cX (r:Int->Int->GR)(path:List Int)(i:Int)(x:GN)(at_:Int):GR :=
 if x.kind=0 then ⟨x.value,0,-1⟩
 else if x.kind=3 then bP r x.name at_ 0 [] x.kids
 else if x.kind=4 then
  (if (r (x.kids.getD 0 0) at_).stop=-1 then
   ⟨(r (x.kids.getD ((cN x.values (r (x.kids.getD 0 0) at_).val).1+1) 0) (at_+(r (x.kids.getD 0 0) at_).used)).val,
    (r (x.kids.getD 0 0) at_).used+(r (x.kids.getD ((cN x.values (r (x.kids.getD 0 0) at_).val).1+1) 0) (at_+(r (x.kids.getD 0 0) at_).used)).used,
    (r (x.kids.getD ((cN x.values (r (x.kids.getD 0 0) at_).val).1+1) 0) (at_+(r (x.kids.getD 0 0) at_).used)).stop⟩
  else r (x.kids.getD 0 0) at_)
 else if (path.length:Int)<=at_ then ⟨bN,0,i⟩
 else if path.getD at_.toNat 0<0∨aR x<=path.getD at_.toNat 0 then ⟨bN,0,-2⟩
 else if x.kind=1 then ⟨.mk 0 (x.lo+path.getD at_.toNat 0) ByteArray.empty [],1,-1⟩
 else ⟨(r (x.kids.getD (path.getD at_.toNat 0).toNat 0) (at_+1)).val,(r (x.kids.getD (path.getD at_.toNat 0).toNat 0) (at_+1)).used+1,(r (x.kids.getD (path.getD at_.toNat 0).toNat 0) (at_+1)).stop⟩
def aS (t:List GN)(path:List Int):Nat->Int->Int->GR
 | 0,_,_=>⟨bN,0,-1⟩
 | f+1,i,at_=>cX (aS t path f) path i (t.getD i.toNat default) at_
theorem eM {j:Nat}{x:GN}(h:dL j x):aR x=if x.kind=1 then x.hi - x.lo+1 else (x.kids.length:Int):=by
 have:=cV h.numbers;unfold aR
 split
 ·rw [IntWalk.wrap64_in (x.hi - x.lo) D,IntWalk.wrap64_in _ D]
 ·rfl
theorem oH {before:List GL}{bind:Bool}:∀ (zs:List Int)(k:Nat)(out:List GV),(iY before bind k out true zs).many=true
 | [],_,_=>by simp [iY]
 | z :: zs,k,out=>by
  simp only [iY]
  split
  ·exact oH zs _ _
  ·simp only [Bool.true_or];exact oH zs _ _
theorem iO {before:List GL}{bind:Bool}:∀ (zs:List Int)(k:Nat)(out:List GV),(iY before bind k out false zs).many=false ->
  (∀ v ∈ out,v ∈ (iY before bind k out false zs).vals)∧∀ m,m<zs.length->¬ (bind=true∧k+m=0) ->
   (before.getD (zs.getD m 0).toNat default).many=false∧∀ v ∈ (before.getD (zs.getD m 0).toNat default).vals,v ∈ (iY before bind k out false zs).vals
 | [],k,out,_=>⟨fun v hv=>by simpa [iY] using hv,fun m hm=>by simp at hm⟩
 | z :: zs,k,out,h=>by
  simp only [iY] at h ⊢
  split
  ·next hb =>
   rw [if_pos hb] at h;obtain ⟨h1,h2⟩:=iO zs (k+1) out h;refine ⟨h1,fun m hm hc=>?_⟩
   cases m with
   | zero=>exact absurd ⟨hb.1,D⟩ hc
   | succ m=>exact h2 m (by simpa using hm) D
  ·next hb =>
   rw [if_neg hb] at h;simp only [Bool.false_or] at h ⊢
   cases e:((before.getD z.toNat default).many || decide (1024<(eO (out ++ (before.getD z.toNat default).vals)).length))
   ·rw [e] at h
    simp only [Bool.or_eq_false_iff] at e;obtain ⟨h1,h2⟩:=iO zs (k+1) _ h;refine ⟨fun v hv=>h1 v ((eR _ v).2 (by simp [hv])),fun m hm hc=>?_⟩
    cases m with
    | zero=>exact ⟨e.1,fun v hv=>h1 v ((eR _ v).2 (by simp only [List.getD_cons_zero] at hv;exact List.mem_append.2 (.inr hv)))⟩
    | succ m=>exact h2 m (by simpa using hm) D
   ·rw [e,oH] at h;cases h
def aP3 (before:List GL):List GV->List Int->Prop
 | [],[]=>True
 | v :: vs,z :: zs=>v ∈ (before.getD z.toNat default).vals∧aP3 before vs zs
 | _,_=>False
theorem jJ {before:List GL}:∀ (zs:List Int)(rows out:List (List GV)),bQ before rows zs=some out->∀ z ∈ zs,(before.getD z.toNat default).many=false
 | [],_,_,_,z,hz=>by simp at hz
 | y :: zs,rows,out,h,z,hz=>by
  simp only [bQ] at h
  split at h
  ·cases h
  ·next hm =>
   rcases List.mem_cons.1 hz with rfl | hz
   ·cases e:(before.getD z.toNat default).many
    ·rfl
    ·exact absurd (.inl e) hm
   ·exact jJ zs _ out h z hz
theorem kQ {before:List GL}:∀ (zs:List Int)(rows out:List (List GV)),bQ before rows zs=some out->∀ q ∈ rows,∀ vs,aP3 before vs zs->q ++ vs ∈ out
 | [],rows,out,h,q,hq,vs,hf=>by
  simp only [bQ,Option.some.injEq] at h;subst h
  cases vs with
  | nil=>simpa using hq
  | cons _ _=>exact hf.elim
 | z :: zs,rows,out,h,q,hq,vs,hf=>by
  simp only [bQ] at h
  split at h
  ·cases h
  ·cases vs with
   | nil=>exact hf.elim
   | cons v vs =>
    have:=kQ zs _ out h (q ++ [v]) (jK.2 ⟨q,hq,v,hf.1,rfl⟩) vs hf.2
    simpa using this
theorem aP3.cast {a b:List GL}:∀ {vs:List GV}{zs:List Int},aP3 a vs zs->(∀ z ∈ zs,a.getD z.toNat default=b.getD z.toNat default)->aP3 b vs zs
 | [],[],_,_=>trivial
 | v :: vs,z :: zs,h,e=>⟨by rw [<- e z U];exact h.1,h.2.cast (fun y hy=>e y ap)⟩
 | [],_ :: _,h,_=>h.elim
 | _ :: _,[],h,_=>h.elim
structure lY (t:List GN)(path:List Int)(i:Nat)(at_:Int)(r:GR):Prop where
 used0:0<=r.used
 usedL:r.used<=(aP t).getD i 0
 usedP:at_+r.used<=path.length
 mem:r.stop=-1->((aG t).getD i default).many=false->r.val ∈ ((aG t).getD i default).vals
 stop:r.stop=-1∨r.stop=-2∨(0<=r.stop∧r.stop<=i∧((t.getD r.stop.toNat default).kind=1∨(t.getD r.stop.toNat default).kind=2)∧(path.length:Int) - at_<(aP t).getD i 0)
structure aPz (t:List GN)(path:List Int)(i:Nat)(name:ByteArray)(at_ used:Int)(acc:List GV)(zs:List Int)(r:GR):Prop where
 used0:0<=r.used
 usedL:r.used<=used+nF (aP t) zs
 usedP:at_+r.used<=path.length
 mem:r.stop=-1->(∀ z ∈ zs,((aG t).getD z.toNat default).many=false)->∃ vs,aP3 (aG t) vs zs∧r.val=bZ name (acc ++ vs)
 stop:r.stop=-1∨r.stop=-2∨(0<=r.stop∧r.stop<i∧((t.getD r.stop.toNat default).kind=1∨(t.getD r.stop.toNat default).kind=2)∧(path.length:Int) - at_<used+nF (aP t) zs)
theorem zP {t:List GN}{path:List Int}{i:Nat}{name:ByteArray}{r:Int->Int->GR}{at_:Int}(h0:0<=at_)
  (hl:∀ z:Int,0<=z->z<i->0<=(aP t).getD z.toNat 0∧(aP t).getD z.toNat 0<=256)
  (hr:∀ (z:Int)(k:Int),0<=z->z<i->0<=k->k<=path.length->lY t path z.toNat k (r z k)) :
  ∀ (zs:List Int) (used:Int) (acc:List GV),(∀ z ∈ zs,0<=z∧z<(i:Int))->0<=used->at_+used<=path.length->aPz t path i name at_ used acc zs (bP r name at_ used acc zs)
 | [],used,acc,_,h1,h2=>by
  simp only [bP];exact ⟨h1,by simp [nF],h2,fun _ _=>⟨[],trivial,U⟩,.inl rfl⟩
 | z :: zs,used,acc,hz,h1,h2=>by
  have hz0:=hz z U;have hb:=hr z (at_+used) hz0.1 hz0.2 D h2;have hlz:=hl z hz0.1 hz0.2;have hls:=(yI (before:=aP t) (zs:=zs) (fun y hy=>hl y (hz y ap).1 (hz y ap).2)).1;have hu:=hb.used0;have huL:=hb.usedL;have huP:=hb.usedP;simp only [bP];generalize hg:r z (at_+used)=b at *
  split
  ·next hs =>
   have hp:=zP h0 hl hr (name:=name) zs (used+b.used) (acc ++ [b.val]) (fun y hy=>hz y ap) D D;generalize bP r name at_ (used+b.used) (acc ++ [b.val]) zs=R at *;have q1:=hp.used0;have q2:=hp.usedL;have q3:=hp.usedP;refine ⟨q1,by simp only [nF];omega,q3,fun e hm=>?_,?_⟩
   ·obtain ⟨vs,h3,h4⟩:=hp.mem e (fun y hy=>hm y ap)
    exact ⟨b.val :: vs,⟨hb.mem hs (hm z U),h3⟩,by rw [h4];simp⟩
   ·rcases hp.stop with h | h | ⟨a,b',c,d⟩
    ·exact .inl h
    ·exact .inr (.inl h)
    ·exact .inr (.inr ⟨a,b',c,by simp only [nF];omega⟩)
  ·next hs =>
   refine ⟨by show 0<=used+b.used;omega,by show used+b.used<=_;simp only [nF];omega,by show at_+(used+b.used)<=_;omega,fun e=>absurd e hs,?_⟩;rcases hb.stop with h | h | ⟨a,b',c,d⟩
   ·exact absurd h hs
   ·exact .inr (.inl h)
   ·exact .inr (.inr ⟨a,by show b.stop<i;omega,c,by simp only [nF];omega⟩)
theorem sY {t:List GN}{n:Nat}(h:bD t n)(path:List Int)(hpl:path.length<=1000000):∀ (f:Nat)(i:Nat)(at_:Int),i<f->i<n->0<=at_->at_<=path.length->lY t path i at_ (aS t path f i at_)
 | 0,i,at_,hf,_,_,_=>by omega
 | f+1,i,at_,hf,hi,ha0,ha1=>by
  have hit:i<t.length:=iu
  have hc:=h.at_ hi;have hL:=jN h i hi;have hfew:=eZ h hi
  have hr:∀ (z:Int) (k:Int),0<=z->z<i->0<=k->k<=path.length->lY t path z.toNat k (aS t path f z k):=fun z k h1 h2 h3 h4=>by
   have:=sY h path hpl f z.toNat k D D h3 h4;rw [Int.toNat_of_nonneg h1] at this;exact this
  have hl:∀ z:Int,0<=z->z<i->0<=(aP t).getD z.toNat 0∧(aP t).getD z.toNat 0<=256:=fun z h1 h2=>(jN h z.toNat D).bd
  have hlg:=iJ hit;simp only [aS,Int.toNat_natCast];have hn:=hc.node;have hcm:=hc.many;have hcv:=hc.vals;have L1:=hL.bd;have L2:=hL.range;have L3:=hL.leaf;have L4:=hL.seq;have L5:=hL.choice;have L6:=hL.bind;have hself:(t.getD i default).kind=1∨(t.getD i default).kind=2->((t.getD ((i:Int)).toNat default).kind=1∨(t.getD ((i:Int)).toNat default).kind=2):=fun h=>by simpa using h
  generalize hx:t.getD i default=x at *;have hkd:=hn.kind;have hkl:∀ z ∈ x.kids,(aG (t.take i)).getD z.toNat default=(aG t).getD z.toNat default:=fun z hz=>gJ hit (hn.kids z hz)
  unfold cX
  by_cases k0:x.kind=0
  ·rw [if_pos k0]
   refine ⟨Int.le_refl _,gj,by show at_+0<=_;omega,fun _ _=>?_,.inl rfl⟩;rw [hlg];unfold cH;rw [if_pos k0];simp
  rw [if_neg k0]
  by_cases k3:x.kind=3
  ·rw [if_pos k3]
   have hp:=zP (name:=x.name) ha0 hl hr x.kids 0 [] (fun z hz=>hn.kids z hz) (Int.le_refl _) D;generalize bP (aS t path f) x.name at_ 0 [] x.kids=R at *;have q1:=hp.used0;have q2:=hp.usedL;have q3:=hp.usedP;have e3:=L4 k3;refine ⟨q1,D,q3,fun e hm=>?_,?_⟩
   ·rw [hlg] at hm ⊢
    unfold cH at hm ⊢;rw [if_neg k0,if_neg D,if_pos k3] at hm ⊢;unfold uW at hm ⊢
    split at hm
    ·cases hm
    ·next rows hrows =>
     (try rw [hrows])
     have hmm:=jJ x.kids _ rows hrows;obtain ⟨vs,h3,h4⟩:=hp.mem e (fun z hz=>by rw [<- hkl z hz];exact hmm z hz)
     show R.val ∈ eO _
     rw [eR,h4];refine List.mem_map.2 ⟨vs,?_,U⟩;have:=kQ x.kids _ rows hrows [] U vs (h3.cast (fun z hz=>(hkl z hz).symm))
     simpa using this
   ·rcases hp.stop with h | h | ⟨a,b',c,d⟩
    ·exact .inl h
    ·exact .inr (.inl h)
    ·exact .inr (.inr ⟨a,D,c,D⟩)
  rw [if_neg k3]
  by_cases k4:x.kind=4
  ·rw [if_pos k4]
   have hbk:=hn.bind k4;have hz0:x.kids.getD 0 0 ∈ x.kids:=aD D;have hz0':=hn.kids _ hz0;have ha:=hr (x.kids.getD 0 0) at_ hz0'.1 hz0'.2 ha0 ha1;have e4:=L6 k4;have hm0:=hcm k4;have hv0:=hcv k4;have hinc:=hn.inc;generalize hra:aS t path f (x.kids.getD 0 0) at_=a at *;have p1:=ha.used0;have p2:=ha.usedL;have p3:=ha.usedP
   split
   ·next hs =>
    have hmem:=ha.mem hs hm0;rw [hv0] at hmem;obtain ⟨f1,f2,f3⟩:=jO hinc hmem;generalize (cN x.values a.val).1=q at *;have hq:q+1<x.kids.length:=by omega
    have hzq:=hn.kids _ (aD (d:=0) hq);have hb:=hr (x.kids.getD (q+1) 0) (at_+a.used) hzq.1 hzq.2 D p3;have e5:=e4.2 (q+1) D hq;generalize hrb:aS t path f (x.kids.getD (q+1) 0) (at_+a.used)=b at *;have b1:=hb.used0;have b2:=hb.usedL;have b3:=hb.usedP;refine ⟨by show 0<=a.used+b.used;omega,by show a.used+b.used<=_;omega,by show at_+(a.used+b.used)<=_;omega,fun e hm=>?_,?_⟩
    ·show b.val ∈ _
     rw [hlg] at hm ⊢;unfold cH at hm ⊢;rw [if_neg k0,if_neg D,if_neg k3] at hm ⊢;obtain ⟨h3,h4⟩:=(iO x.kids 0 [] hm).2 (q+1) hq D;rw [hkl _ (aD hq)] at h3 h4;exact h4 _ (hb.mem e h3)
    ·rcases hb.stop with h | h | ⟨c1,c2,c3,c4⟩
     ·exact .inl h
     ·exact .inr (.inl h)
     ·exact .inr (.inr ⟨c1,by show b.stop<=i;omega,c3,D⟩)
   ·next hs =>
    refine ⟨p1,D,p3,fun e=>absurd e hs,?_⟩;rcases ha.stop with h | h | ⟨c1,c2,c3,c4⟩
    ·exact absurd h hs
    ·exact .inr (.inl h)
    ·exact .inr (.inr ⟨c1,D,c3,D⟩)
  rw [if_neg k4];have k12:x.kind=1∨x.kind=2:=by omega
  have hlen1:1<=(aP t).getD i 0:=by
   rcases k12 with k | k
   ·rw [L2 k];omega
   ·exact (L5 k).1
  split
  ·next hat =>
   refine ⟨Int.le_refl _,gj,by show at_+0<=_;omega,fun e=>?_,.inr (.inr ⟨?_,?_,?_,D⟩)⟩
   ·have:(i:Int)=-1:=e
    omega
   ·show (0:Int)<=(i:Int);omega
   ·show (i:Int)<=(i:Int);omega
   ·exact hself k12
  ·next hat =>
   split
   ·exact ⟨Int.le_refl _,gj,by show at_+0<=_;omega,fun e=>absurd e ao,.inr (.inl rfl)⟩
   ·next hopt =>
    rw [eM hn] at hopt;generalize path.getD at_.toNat 0=c at *
    split
    ·next k1 =>
     rw [if_pos k1] at hopt;have hnum:=cV hn.numbers;refine ⟨by show (0:Int)<=1;omega,by show 1<=_;omega,by show at_+1<=_;omega,fun _ hm=>?_,.inl rfl⟩
     show GV.mk 0 (x.lo+c) ByteArray.empty [] ∈ _
     rw [hlg] at hm ⊢;unfold cH at hm ⊢;rw [if_neg k0,if_pos k1] at hm ⊢
     split at hm
     ·cases hm
     ·next hr=>rw [if_neg hr];exact iD.2 ⟨x.lo+c,D,D,rfl⟩
    ·next k1 =>
     rw [if_neg k1] at hopt;have k2:x.kind=2:=by omega
     have hq:c.toNat<x.kids.length:=D
     have hzq:=hn.kids _ (aD (d:=0) hq);have hb:=hr (x.kids.getD c.toNat 0) (at_+1) hzq.1 hzq.2 D D;have e5:=(L5 k2).2 _ (aD (d:=0) hq);generalize aS t path f (x.kids.getD c.toNat 0) (at_+1)=b at *;have b1:=hb.used0;have b2:=hb.usedL;have b3:=hb.usedP;refine ⟨by show 0<=b.used+1;omega,by show b.used+1<=_;omega,by show at_+(b.used+1)<=_;omega,fun e hm=>?_,?_⟩
     ·show b.val ∈ _
      rw [hlg] at hm ⊢;unfold cH at hm ⊢;rw [if_neg k0,if_neg k1,if_neg k3] at hm ⊢;obtain ⟨h3,h4⟩:=(iO x.kids 0 [] hm).2 c.toNat hq (by simp [k4]);rw [hkl _ (aD hq)] at h3 h4;exact h4 _ (hb.mem e h3)
     ·rcases hb.stop with h | h | ⟨c1,c2,c3,c4⟩
      ·exact .inl h
      ·exact .inr (.inl h)
      ·exact .inr (.inr ⟨c1,by show b.stop<=i;omega,c3,D⟩)
theorem oT {w:World}{base:Nat}{v:Value}{n:Nat}{l:List Int}(h:w.ownsRow base 3 1 v n (l.map (Value.int .i64))){j:Nat}(hj:j<n) :
  ∃ b c,v=.slice (some ⟨b,0,none⟩) n c∧n<=c∧c<=9223372036854775807∧w.cell? ⟨b,j,none⟩=some (.int .i64 (l.getD j 0)):=by
 have hl:=h.1;rcases h.2 with ⟨rfl,h0⟩ | ⟨g,cap,cur,rfl,hg,hh,hn,hm,hs,ht⟩
 ·omega
 ·refine ⟨g,cap,rfl,hn,by unfold maxLen at hm;omega,?_⟩
  have hb:Blk w g 3 cur:=hh;rw [hb.cell];have hjl:j<l.length:=by simp at hl;omega
  have h1:(List.take (n*1) cur.toList)[j]?=some (.int .i64 (l.getD j 0)):=by rw [ht];simp [hjl]
  rw [List.getElem?_take] at h1
  split at h1
  ·simpa using h1
  ·cases h1
theorem tY {β:Type}{f:List β->GN->β}{Q:β->Prop}(hf:∀ acc x,(∀ z ∈ acc,Q z)->Q (f acc x)):∀ (l:List GN)(acc:List β),(∀ z ∈ acc,Q z)->∀ z ∈ jA f acc l,Q z
 | [],_,h=>h
 | x :: xs,acc,h=>by
  simp only [jA];refine tY hf xs _ ?_;intro z hz;rcases List.mem_append.1 hz with hz | hz
  ·exact h z hz
  ·rw [List.mem_singleton.1 hz];exact hf acc x h
theorem oA (n:Int):I64 (wrap64 n):=by
 unfold wrap64 I64;have:=Int.emod_nonneg (n+9223372036854775808) (show (18446744073709551616:Int) ≠ 0 by decide);have:=Int.emod_lt_of_pos (n+9223372036854775808) (show (0:Int)<18446744073709551616 by decide);omega
theorem lZ:I64 0:=aj
theorem jM (before:List Int):∀ (zs:List Int)(s:Int),I64 s->I64 (bV before s zs)
 | [],_,h=>h
 | z :: zs,s,_=>by simp only [bV];exact jM before zs _ (oA _)
theorem jY (before:List Int)(hb:∀ z ∈ before,I64 z)(ch:Bool):∀ (zs:List Int)(i:Nat)(m:Int),I64 m->I64 (aK before ch i m zs)
 | [],_,_,h=>h
 | z :: zs,i,m,h=>by
  simp only [aK];refine jY before hb ch zs _ _ ?_
  split
  ·split
   ·exact aA1 hb _
   ·exact h
  ·exact h
theorem zH:∀ (l:List GV)(n:Int),I64 n->I64 (xE n l)
 | [],_,h=>by rw [fM];exact h
 | x :: xs,n,_=>by rw [gG];exact zH xs _ (oA _)
theorem sK (x:GV):I64 (rsz x):=by rw [mU];exact zH _ _ aj
theorem aIg (t:List GN):∀ z ∈ aP t,I64 z:=by
 refine tY (fun acc x h=>?_) t [] U;unfold fN
 split
 ·exact lZ
 ·split
  ·simp [I64]
  ·split
   ·exact jM _ _ _ lZ
   ·split
    ·exact oA _
    ·exact oA _
theorem aCy (t:List GN):∀ z ∈ bO t,I64 z:=by
 refine tY (fun acc x h=>?_) t [] U;unfold fE
 split
 ·exact sK _
 ·split
  ·simp [I64]
  ·split
   ·exact jM _ _ _ aj
   ·exact jY _ h _ _ _ _ lZ
theorem yL (before:List Int)(x:GN)(a:NA)(P:Nat->Prop)(base:Nat)(vb:Value)(w:World)(hx:NAt w P x a)(hown:w.ownsRow base 3 1 vb before.length (before.map (Value.int .i64)))
  (hbase:base<=w.heap.size)(hlen:before.length<=100000)(hb64:∀ z ∈ before,I64 z)(hok:dL before.length x) :
  Calls Tryz.prog 58 #[vb,fF x a] w (jB base 3 1 vb (before.length+1) ((before ++ [fN before x]).map (Value.int .i64)) w):=by
 have hk:=hok.kind
 by_cases k0:x.kind=0
 ·exact wD before x a P base vb w hx hown hbase hlen hb64 hok.kids k0
 by_cases k1:x.kind=1
 ·exact wC before x a P base vb w hx hown hbase hlen hb64 hok.kids k1
 by_cases k2:x.kind=2
 ·exact wB before x a P base vb w hx hown hbase hlen hb64 hok.kids k2
 by_cases k3:x.kind=3
 ·exact vZ before x a P base vb w hx hown hbase hlen hb64 hok.kids k3
 ·exact vY before x a P base vb w hx hown hbase hlen hb64 hok.kids D (by have:=hok.bind D;omega)
theorem aCx (before:List Int)(x:GN)(a:NA)(P:Nat->Prop)(base:Nat)(vb:Value)(w:World)(hx:NAt w P x a)(hown:w.ownsRow base 3 1 vb before.length (before.map (Value.int .i64)))
  (hbase:base<=w.heap.size)(hlen:before.length<=100000)(hb64:∀ z ∈ before,I64 z)(hok:dL before.length x) :
  Calls Tryz.prog 59 #[vb,fF x a] w (jB base 3 1 vb (before.length+1) ((before ++ [fE before x]).map (Value.int .i64)) w):=by
 have hk:=hok.kind
 by_cases k0:x.kind=0
 ·exact aBi before x a P base vb w hx hown hbase hlen hb64 hok.kids k0
 by_cases k1:x.kind=1
 ·exact aBh before x a P base vb w hx hown hbase hlen hb64 hok.kids k1
 by_cases k2:x.kind=2
 ·exact aBg before x a P base vb w hx hown hbase hlen hb64 hok.kids k2
 by_cases k3:x.kind=3
 ·exact aBf before x a P base vb w hx hown hbase hlen hb64 hok.kids k3
 ·exact aBe before x a P base vb w hx hown hbase hlen hb64 hok.kids D
theorem iF {w w':World}{M:Nat->Prop}{base:Nat}{e:TypeId}{size:Nat}{v:Value}{n:Nat}{xs:List Value}(h:w.ownsRow base e size v n xs)(hf:Fr M w w')(hm:∀ b,v.ownBlock=some b->¬ M b):w'.ownsRow base e size v n xs:=by
 refine ⟨h.1,?_⟩;rcases h.2 with h | ⟨g,cap,cur,rfl,h2,h3,h4⟩
 ·exact .inl h
 ·exact .inr ⟨g,cap,cur,rfl,h2,Blk.fr (t:=e) h3 hf (hm g rfl),h4⟩
def aT1 (t:List GN)(W:World)(v3 v4 i:Value)(wr:World):Prop :=
 ∃ k:Nat,k<=t.length∧i=↑k∧wr.ownsRow W.heap.size 3 1 v3 k ((aP (t.take k)).map (Value.int .i64))∧wr.ownsRow W.heap.size 3 1 v4 k ((bO (t.take k)).map (Value.int .i64)) ∧
  (∀ b,v3.ownBlock=some b->v4.ownBlock ≠ some b)∧Ext W wr∧bD t k∧bY t=cY t k (t.length - k)
theorem lW {β:Type}(f:List β->GN->β)(d:β)(t:List GN){k:Nat}(hk:k<t.length):(jA f [] (t.take (k+1))).getD k d=(jA f [] t).getD k d:=by
 rw [gO _ _ _ D];simp [List.getD]
theorem gS (t:List GN)(P:Nat->Prop)(vn:Value)(w:World)(ht:Nds w P vn t)(hvl:∀ x ∈ t,x.values.length<=1000000) :
  Calls Tryz.prog 22 #[.agg #[vn]] w (cT (.int .i64 (bY t)) w):=by
 have HT:=aZv ht;have HVL:=aZv hvl;obtain ⟨An,cn,en,hn1,hn2⟩:=ht.form;subst en;clear ht hvl
 by_cases hbig:4096<t.length
 ·have HV:=aZv (show bY t=4 by unfold bY;rw [if_pos hbig])
  go_enter Tryz.func22,Tryz.ntmps22;go_wp2_with fail;go_ret;exact ⟨aL HV.out.symm,(Ext.refl w).alloc' _⟩
 have HV:=aZv (show bY t=cY t 0 t.length by unfold bY;rw [if_neg hbig]);have hsm:t.length<=4096:=by omega
 go_enter Tryz.func22,Tryz.ntmps22;go_wp2_with fail;have HE:=aZv (show Ext w (w.alloc (.cells #[.slice An t.length cn] 25)) from (Ext.refl w).alloc' _);have HBX:=aZv (Blk.new w 25 #[.slice An t.length cn]);generalize hW:w.alloc (.cells #[.slice An t.length cn] 25)=W at *;clear hW;go_loopw [3,4,5] (fun v3 v4 i wr=>aT1 t W v3 v4 i wr) (fun _ _ i _=>t.length - (intOf i).toNat)
 case atStart=>exact ⟨0,Nat.zero_le _,rfl,aT _ _ _ _,aT _ _ _ _,fun b h=>by simp [Value.ownBlock] at h,Ext.refl _,⟨Nat.zero_le _,hsm,fun j hj=>by omega⟩,HV.out⟩
 case round =>
  obtain ⟨k,hk,rfl,ho3,ho4,hne,hx,hgd,hvf⟩:=hrel;have HO3:=aZv ho3;have HO4:=aZv ho4;have HNE:=aZv hne;have HX:=aZv hx;have HGD:=aZv hgd;have HVF:=aZv hvf;have b0:=(HBX.out.ext hx).cell' (u:=.slice An t.length cn) 0 rfl;have hsz:=hx.size;have hsw:=HE.out.size;clear ho3 ho4 hne hx hgd hvf
  by_cases hlt:k<t.length
  ·obtain ⟨b1,o1,a1,rfl,-,ha1,hc1⟩:=(HT.out.carry (Q:=fun b=>b<w.heap.size) (aB.of_ext (HE.out.trans' HX.out)) (fun b hb _=>hb)).get hlt
   have HVX:=aZv (HVL.out _ (aD (d:=default) hlt))
   have HCK:=aZv (show bY t=if cS t k=0 then cY t (k+1) (t.length - (k+1)) else cS t k by
    rw [HVF.out,show t.length - k=(t.length - (k+1))+1 by omega];rfl)
   have HCR:=aZv (show cS t k=_ from by rw [cS]);have HLS:=aZv (show aP (t.take (k+1))=aP (t.take k) ++ [fN (aP (t.take k)) (t.getD k default)] by unfold aP;rw [aV default hlt,iK]);have HSS:=aZv (show bO (t.take (k+1))=bO (t.take k) ++ [fE (bO (t.take k)) (t.getD k default)] by unfold bO;rw [aV default hlt,iK]);have HLG:=aZv (show (aP (t.take (k+1))).getD k 0=(aP t).getD k 0 from lW _ _ _ hlt);have HSG:=aZv (show (bO (t.take (k+1))).getD k 0=(bO t).getD k 0 from lW _ _ _ hlt);have HA1:=aZv ha1;have HC1:=aZv hc1;have c0:=hc1.c0;have c1:=hc1.c1;have c2:=hc1.c2;have c3:=hc1.c3;have c4:=hc1.c4;have c5:=hc1.c5;have c6:=hc1.c6;have c7:=hc1.c7;have c8:=hc1.c8;have c9:=hc1.c9;have c10:=hc1.c10;have c11:=hc1.c11;clear hc1 ha1;generalize hgx:t.getD k default=x at *;have HGX:=aZv hgx;clear hgx;have hll:(aP (t.take k)).length=k:=by unfold aP;rw [eG];simp;omega
   have hsl:(bO (t.take k)).length=k:=by unfold bO;rw [eG];simp;omega
   have HLL:=aZv hll;have HSL:=aZv hsl;clear hll hsl;go_wp2_with fail;refine (aIb k x a1 _ _ (HA1.out.ext ((Ext.refl wr).alloc' _)) HVX.out).mono ?_;rintro e w1 ⟨rfl,hx1⟩;have HX1:=aZv (((Ext.refl wr).alloc' (.cells (aE x a1).toArray 87)).trans' hx1);have BX:=aZv ((Blk.new wr 87 (aE x a1).toArray).ext hx1);clear hx1 c0 c1 c2 c3 c4 c5 c6 c7 c8 c9 c10 c11;have x0:=BX.out.cell' (u:=↑x.kind) 0 rfl;have x1:=BX.out.cell' (u:=.string x.name) 1 rfl;have x2:=BX.out.cell' (u:=↑x.lo) 2 rfl;have x3:=BX.out.cell' (u:=↑x.hi) 3 rfl;have x4:=BX.out.cell' (u:=.slice a1.wA x.weights.length a1.wc) 4 rfl;have x5:=BX.out.cell' (u:=.slice a1.lA x.labels.length a1.lc) 5 rfl;have x6:=BX.out.cell' (u:=.slice a1.vA x.values.length a1.vc) 6 rfl;have x7:=BX.out.cell' (u:=.slice a1.kA x.kids.length a1.kc) 7 rfl;have x8:=BX.out.cell' (u:=↑x.value.kind) 8 rfl;have x9:=BX.out.cell' (u:=↑x.value.n) 9 rfl;have x10:=BX.out.cell' (u:=.string x.value.s) 10 rfl;have x11:=BX.out.cell' (u:=.slice a1.xA x.value.kids.length a1.xc) 11 rfl;have hs1:=HX1.out.size
   by_cases hz:gY k x=0
   ·have HZ:=aZv hz
    have tz:(gY k x != 0)=false:=db
    have HOK:=aZv (jX.1 hz);clear hz;go_wp2_with fail;refine (yL (aP (t.take k)) x a1 _ W.heap.size u3 _ (HA1.out.ext HX1.out) ((HO3.out.ext_ HX1.out).len_cast HLL.out.symm rfl) D (by rw [HLL.out];omega) (aIg _) (by rw [HLL.out];exact HOK.out)).mono ?_;rintro e w2 ⟨v3,rfl,hp3,hf2,hq3⟩;have hB:∀ b,b<W.heap.size->¬ some b=u3.ownBlock:=fun b hb e=>by have:=HO3.out.block_ge e.symm;omega
    have HF2:=aZv hf2;have BX2:=aZv (BX.out.fr hf2 (fun e=>by have:=HO3.out.block_lt e.symm;omega));have HP3:=aZv hp3;have hs2:=hf2.size;have HA2:=aZv ((HA1.out.ext HX1.out).carry (Q:=fun b=>b<w.heap.size) (fun b hb h=>hf2.block b hb (hB b D)) (fun _ _ h=>h));have HO42:=aZv (iF (HO4.out.ext_ HX1.out) hf2 (fun b h e=>HNE.out b e.symm h))
    have HQ3:=aZv (show ∀ b,v3.ownBlock=some b->¬ some b=u4.ownBlock from by
     intro b hb e;rcases hq3 with h | ⟨b',h,hb'⟩
     ·rw [h] at hb;exact HNE.out b hb e.symm
     ·rw [hb] at h;injection h with h;have:=HO4.out.block_lt e.symm;omega)
    have HB2:=aZv (show Ext W w2 from Fr.new_ext ((Fr.of_ext (HX.out.trans' HX1.out)).trans hf2) (fun b hb=>HO3.out.block_ge hb.symm));clear hp3 hf2 hq3 hB x0 x1 x2 x3 x4 x5 x6 x7 x8 x9 x10 x11;have x0:=BX2.out.cell' (u:=↑x.kind) 0 rfl;have x1:=BX2.out.cell' (u:=.string x.name) 1 rfl;have x2:=BX2.out.cell' (u:=↑x.lo) 2 rfl;have x3:=BX2.out.cell' (u:=↑x.hi) 3 rfl;have x4:=BX2.out.cell' (u:=.slice a1.wA x.weights.length a1.wc) 4 rfl;have x5:=BX2.out.cell' (u:=.slice a1.lA x.labels.length a1.lc) 5 rfl;have x6:=BX2.out.cell' (u:=.slice a1.vA x.values.length a1.vc) 6 rfl;have x7:=BX2.out.cell' (u:=.slice a1.kA x.kids.length a1.kc) 7 rfl;have x8:=BX2.out.cell' (u:=↑x.value.kind) 8 rfl;have x9:=BX2.out.cell' (u:=↑x.value.n) 9 rfl;have x10:=BX2.out.cell' (u:=.string x.value.s) 10 rfl;have x11:=BX2.out.cell' (u:=.slice a1.xA x.value.kids.length a1.xc) 11 rfl;go_wp2_with fail;refine (aCx (bO (t.take k)) x a1 _ W.heap.size u4 _ HA2.out (HO42.out.len_cast HSL.out.symm rfl) D (by rw [HSL.out];omega) (aCy _) (by rw [HSL.out];exact HOK.out)).mono ?_;rintro e w3 ⟨v4,rfl,hp4,hf3,hq4⟩;have BX3:=aZv (BX2.out.fr hf3 (fun e=>by have:=HO4.out.block_lt e.symm;omega))
    have hs3:=hf3.size;have hB:∀ b,b<W.heap.size->¬ some b=u4.ownBlock:=fun b hb e=>by have:=HO4.out.block_ge e.symm;omega
    have HA3:=aZv (HA2.out.carry (Q:=fun b=>b<w.heap.size) (fun b hb h=>hf3.block b hb (hB b D)) (fun _ _ h=>h));have HB3:=aZv (show Ext W w3 from Fr.new_ext ((Fr.of_ext HB2.out).trans hf3) (fun b hb=>HO4.out.block_ge hb.symm));have hP3:=iF HP3.out hf3 HQ3.out;rw [<- HLS.out,HLL.out] at hP3;rw [<- HSS.out,HSL.out] at hp4;have HP3':=aZv hP3;have HP4:=aZv hp4
    have HNE3:=aZv (show ∀ b,v3.ownBlock=some b->v4.ownBlock ≠ some b from by
     intro b hb e;rcases hq4 with h | ⟨b',h,hb'⟩
     ·rw [h] at e;exact HQ3.out b hb e.symm
     ·rw [e] at h;injection h with h;have:=HP3.out.block_lt hb;omega)
    obtain ⟨q3,d3,e3,hd31,hd32,g3⟩:=oT hP3 (j:=k) D;obtain ⟨q4,d4,e4,hd41,hd42,g4⟩:=oT hp4 (j:=k) D;rw [HLG.out] at g3;rw [HSG.out] at g4;subst e3 e4;clear hP3 hp4 hf3 hq4 hB x0 x1 x2 x3 x4 x5 x6 x7 x8 x9 x10 x11;have hk1:(0:Int)<=(k:Int):=by omega
    generalize hL:(aP t).getD k 0=L at *;generalize hS:(bO t).getD k 0=S at *;have HCK2:=aZv (show cS t k=if 256<L∨1024<S then 4 else if x.kind=4 then gV t x else 0 by rw [HCR.out,if_pos HZ.out]);have HLQ:=aZv hL;have HSQ:=aZv hS;clear hL hS;have x0:=BX3.out.cell' (u:=↑x.kind) 0 rfl
    by_cases hL1:256<L
    ·have HV4:=aZv (show bY t=4 from HCK.out.trans (by rw [HCK2.out.trans (if_pos (Or.inl hL1))];rfl))
     go_wp2_with fail;go_ret;exact ⟨aL HV4.out.symm,HE.out.trans' HB3.out⟩
    have tL:decide (256<L)=false:=aZz hL1
    by_cases hS1:1024<S
    ·have HV4:=aZv (show bY t=4 from HCK.out.trans (by rw [HCK2.out.trans (if_pos (Or.inr hS1))];rfl))
     go_wp2_with fail;go_ret;exact ⟨aL HV4.out.symm,HE.out.trans' HB3.out⟩
    have tS:decide (1024<S)=false:=aZz hS1
    by_cases hk4:x.kind=4
    ·have t4:(x.kind == 4)=true:=aZx hk4
     have HK4:=aZv hk4;have hkp:0<x.kids.length:=by have:=HOK.out.bind hk4;omega
     have hkz:=HOK.out.kids _ (aD (d:=0) hkp);have HKZ:=aZv hkz;have HCK3:=aZv (show cS t k=gV t x by rw [HCK2.out,if_neg D,if_pos hk4]);clear hk4 hkz;have x1:=BX3.out.cell' (u:=.string x.name) 1 rfl;have x2:=BX3.out.cell' (u:=↑x.lo) 2 rfl;have x3:=BX3.out.cell' (u:=↑x.hi) 3 rfl;have x4:=BX3.out.cell' (u:=.slice a1.wA x.weights.length a1.wc) 4 rfl;have x5:=BX3.out.cell' (u:=.slice a1.lA x.labels.length a1.lc) 5 rfl;have x6:=BX3.out.cell' (u:=.slice a1.vA x.values.length a1.vc) 6 rfl;have x7:=BX3.out.cell' (u:=.slice a1.kA x.kids.length a1.kc) 7 rfl;have x8:=BX3.out.cell' (u:=↑x.value.kind) 8 rfl;have x9:=BX3.out.cell' (u:=↑x.value.n) 9 rfl;have x10:=BX3.out.cell' (u:=.string x.value.s) 10 rfl;have x11:=BX3.out.cell' (u:=.slice a1.xA x.value.kids.length a1.xc) 11 rfl;have y0:=(HBX.out.ext HB3.out).cell' (u:=.slice (some ⟨b1,o1,none⟩) t.length cn) 0 rfl;go_wp2_with fail;refine (aFs t x a1 (x.kids.getD 0 0).toNat (fun b=>b<w.heap.size) _ _ (HT.out.carry (aB.of_ext (HE.out.trans' HB3.out)) (fun b hb _=>hb)) HA3.out hkp (Int.toNat_of_nonneg HKZ.out.1).symm (HGD.out.mono (by have:=HKZ.out;omega))).mono ?_;rintro e w4 ⟨rfl,hx4⟩;have HX4:=aZv hx4
     clear hx4 x0 x1 x2 x3 x4 x5 x6 x7 x8 x9 x10 x11 y0 g3 g4
     by_cases hbz:gV t x=0
     ·have tb:(gV t x != 0)=false:=by rw [bne_eq_false_iff_eq];exact hbz
      have HCZ:=aZv (HCK3.out.trans hbz);clear hbz;go_wp2_with fail;go_roundw
      case rel =>
       refine ⟨k+1,D,by go_num,HP3'.out.ext_ HX4.out,HP4.out.ext_ HX4.out,HNE3.out,HB3.out.trans' HX4.out,⟨D,hsm,fun j hj=>?_⟩,?_⟩
       ·rcases Nat.lt_succ_iff_lt_or_eq.1 hj with h | rfl
        ·exact HGD.out.2.2 j h
        ·exact HCZ.out
       ·rw [HCK.out,if_pos HCZ.out]
      case measure=>simp [intOf];omega
     ·have tb:(gV t x != 0)=true:=bne_iff_ne.2 hbz
      have HVB:=aZv (show bY t=gV t x by rw [HCK.out,HCK3.out,if_neg hbz]);clear hbz;go_wp2_with fail;go_ret;exact ⟨aL HVB.out.symm,HE.out.trans' (HB3.out.trans' HX4.out)⟩
    ·have t4:(x.kind == 4)=false:=aZw hk4
     have HCZ:=aZv (show cS t k=0 by rw [HCK2.out,if_neg D,if_neg hk4]);clear hk4;go_wp2_with fail;go_roundw
     case rel =>
      refine ⟨k+1,D,by go_num,HP3'.out,HP4.out,HNE3.out,HB3.out,⟨D,hsm,fun j hj=>?_⟩,?_⟩
      ·rcases Nat.lt_succ_iff_lt_or_eq.1 hj with h | rfl
       ·exact HGD.out.2.2 j h
       ·exact HCZ.out
      ·rw [HCK.out,if_pos HCZ.out]
     case measure=>simp [intOf];omega
   ·have tz:(gY k x != 0)=true:=bne_iff_ne.2 hz
    have HVN:=aZv (show bY t=gY k x by rw [HCK.out,HCR.out,if_neg hz,if_neg hz]);clear hz;go_wp2_with fail;go_ret;exact ⟨aL HVN.out.symm,HE.out.trans' (HX.out.trans' HX1.out)⟩
  ·have HVZ:=aZv (show bY t=0 by rw [HVF.out,show t.length - k=0 by omega];rfl)
   go_wp2_with fail;go_ret;exact ⟨aL HVZ.out.symm,HE.out.trans' HX.out⟩
theorem Tryz.info254:(Tryz.prog.info? 254).map (fun i=>(i.zero,i.size,i.bytes))=some (some (.agg #[.int .i64 0,.int .i64 0,.int .i64 0]),3,24):=Y
abbrev cR (r:GR)(A:Option Addr)(c:Nat)(sv:Value):Array Value:=#[↑r.val.kind,↑r.val.n,.string r.val.s,.slice A r.val.kids.length c,↑r.used,↑r.stop,sv]
abbrev dP:Array Value:=#[.int .i64 0,.int .i64 0,.string ⟨#[]⟩,.slice none 0 0,.int .i64 0,.int .i64 0,.slice none 0 0]
def pZ (m N:Nat)(xs:List Value):Prop:=m+1<=N∧∀ u ∈ xs,u.oneCell'=true
theorem pZ.nil (f:Nat):pZ 0 (6 ^ (f+1)) []:=⟨Nat.pos_of_ne_zero U,U⟩
theorem pZ.succ {m f:Nat}{xs:List Value}(h:pZ m (6 ^ f) xs):pZ m (6 ^ (f+1)) xs:=⟨by have:=h.1;rw [Nat.pow_succ];omega,h.2⟩
theorem pZ.le {m f:Nat}{xs:List Value}(h:pZ m (6 ^ f) xs)(hf:f<14):m<=30517578125:=by
 have h1:6 ^ f<=6 ^ 13:=Nat.pow_le_pow_right D D;exact Nat.le_trans (Nat.le_of_succ_le h.1) (Nat.le_trans h1 ao)
theorem pZ.add {m n f:Nat}{xs ys:List Value}(h:pZ m (6 ^ f) xs)(k:pZ n (6 ^ f) ys):pZ (m+n) (6 ^ (f+1)) (xs ++ ys) :=
 ⟨by have:=h.1;have:=k.1;rw [Nat.pow_succ];omega,fun u hu=>(List.mem_append.1 hu).elim (h.2 u) (k.2 u)⟩
def aLi (P:Nat->Prop)(r:GR)(N:Nat)(w:World)(e:Ending)(w':World):Prop :=
 ∃ A c sv m xs,e=.returned (.agg (cR r A c sv))∧VAt w' (New P w.heap.size) r.val A c∧w'.ownsRow w.heap.size 254 3 sv m xs∧pZ m N xs∧Ext w w'
structure RdT (t:List GN)(path:List Int):Prop where
 good:bD t t.length
 small:t.length<=14
 few:∀ x ∈ t,x.kind=3->x.kids.length<=5
 path:path.length<=1000000
def lX (t:List GN)(path:List Int)(f:Nat):Prop:=∀ (i:Nat)(at_:Int)(P:Nat->Prop)(vn vp:Value)(w:World),i<f->i<t.length->0<=at_->at_<=path.length->(∀ b,P b->b<w.heap.size)->Nds w P vn t->bM w P vp path ->
  Calls Tryz.prog 144 #[.agg #[vn],↑i,vp,↑at_] w (aLi P (aS t path f i at_) (6 ^ f) w)
structure yV (vn:Value)(x:GN)(a:NA)(w W:World):Prop where
 ext:Ext w W
 size:W.heap.size=w.heap.size+3
 tree:Blk W w.heap.size 25 #[vn]
 res:Blk W (w.heap.size+1) 154 dP
 box:Blk W (w.heap.size+2) 87 (aE x a).toArray
theorem yV.mk' (vn:Value)(x:GN)(a:NA)(w:World):yV vn x a w (((w.alloc (.cells #[vn] 25)).alloc (.cells dP 154)).alloc (.cells (aE x a).toArray 87)) :=
 ⟨(((Ext.refl w).alloc' _).alloc' _).alloc' _,U,((Blk.new w 25 #[vn]).alloc _).alloc _,(Blk.new' _ _ _ U).alloc _,Blk.new' _ _ _ U⟩
def hU (w:World)(g:Nat)(a b c d e f h:Value):World :=
 ((((((w.setCell ⟨g,0,none⟩ a).setCell ⟨g,1,none⟩ b).setCell ⟨g,2,none⟩ c).setCell ⟨g,3,none⟩ d).setCell ⟨g,4,none⟩ e).setCell ⟨g,5,none⟩ f).setCell ⟨g,6,none⟩ h
theorem cJ {w:World}{g:Nat}{t:TypeId}{c0 c1 c2 c3 c4 c5 c6:Value}(h:Blk w g t #[c0,c1,c2,c3,c4,c5,c6])(u0 u1 u2 u3 u4 u5 u6:Value):Blk (hU w g u0 u1 u2 u3 u4 u5 u6) g t #[u0,u1,u2,u3,u4,u5,u6]:=by
 have h1:=((((((h.set_ 0 u0).set_ 1 u1).set_ 2 u2).set_ 3 u3).set_ 4 u4).set_ 5 u5).set_ 6 u6;simp only [List.setIfInBounds_toArray,List.set_cons_zero,List.set_cons_succ] at h1;exact h1
theorem cW {w0 w:World}{g:Nat}(h:Ext w0 w)(hg:w0.heap.size<=g)(u0 u1 u2 u3 u4 u5 u6:Value):Ext w0 (hU w g u0 u1 u2 u3 u4 u5 u6) :=
 ((((((h.setCell' (p:=⟨g,0,none⟩) hg _).setCell' (p:=⟨g,1,none⟩) hg _).setCell' (p:=⟨g,2,none⟩) hg _).setCell' (p:=⟨g,3,none⟩) hg _).setCell' (p:=⟨g,4,none⟩) hg _).setCell' (p:=⟨g,5,none⟩) hg _).setCell' (p:=⟨g,6,none⟩) hg _
theorem dN {w:World}{g:Nat}{Q:Nat->Prop}(hg:¬ Q g)(u0 u1 u2 u3 u4 u5 u6:Value):aB Q w (hU w g u0 u1 u2 u3 u4 u5 u6):=by
 have h0:aB Q w w:=fun _ _ _=>rfl
 exact ((((((h0.set (p:=⟨g,0,none⟩) _ hg).set (p:=⟨g,1,none⟩) _ hg).set (p:=⟨g,2,none⟩) _ hg).set (p:=⟨g,3,none⟩) _ hg).set (p:=⟨g,4,none⟩) _ hg).set (p:=⟨g,5,none⟩) _ hg).set (p:=⟨g,6,none⟩) _ hg
theorem fZ {w:World}{g:Nat}{base:Nat}{e:TypeId}{size:Nat}{v:Value}{n:Nat}{xs:List Value}(h:w.ownsRow base e size v n xs)(hg:g<base)(u0 u1 u2 u3 u4 u5 u6:Value):(hU w g u0 u1 u2 u3 u4 u5 u6).ownsRow base e size v n xs :=
 ownsRow_setCell_below (ownsRow_setCell_below (ownsRow_setCell_below (ownsRow_setCell_below (ownsRow_setCell_below (ownsRow_setCell_below (ownsRow_setCell_below h (a:=⟨g,0,none⟩) hg _) (a:=⟨g,1,none⟩) hg _) (a:=⟨g,2,none⟩) hg _) (a:=⟨g,3,none⟩) hg _) (a:=⟨g,4,none⟩) hg _) (a:=⟨g,5,none⟩) hg _) (a:=⟨g,6,none⟩) hg _
theorem bF {w:World}{b off:Nat}{u:Value}(h:w.cell? ⟨b,off,none⟩=some u)(o:Obj):(w.alloc o).cell? ⟨b,off,none⟩=some u:=iT h o (aN h)
theorem aC1 {w:World}{g b off:Nat}{u:Value}{u0 u1 u2 u3 u4 u5 u6:Value}(hne:b ≠ g)(h:w.cell? ⟨b,off,none⟩=some u):(hU w g u0 u1 u2 u3 u4 u5 u6).cell? ⟨b,off,none⟩=some u:=by
 rw [<- h];exact World.cell?_of_block (w:=w) (dN (Q:=fun k=>k=b) (fun e=>hne e.symm) _ _ _ _ _ _ _ b (aN h) rfl)
theorem bL {w:World}{g b off:Nat}{u:Value}{u0 u1 u2 u3 u4 u5 u6:Value}(hne:¬ b=g)(h:w.cell? ⟨b,off,none⟩=some u) :
  (((((((w.setCell ⟨g,0,none⟩ u0).setCell ⟨g,1,none⟩ u1).setCell ⟨g,2,none⟩ u2).setCell ⟨g,3,none⟩ u3).setCell ⟨g,4,none⟩ u4).setCell ⟨g,5,none⟩ u5).setCell ⟨g,6,none⟩ u6).cell? ⟨b,off,none⟩=some u:=aC1 hne h
theorem bR {w:World}{b off:Nat}{u:Value}{o o':Obj}(hb:b<w.heap.size)(h:(w.alloc o).cell? ⟨b,off,none⟩=some u):(w.alloc o').cell? ⟨b,off,none⟩=some u :=
 ((World.cell?_alloc_lt w o' ⟨b,off,none⟩ hb).trans (World.cell?_alloc_lt w o ⟨b,off,none⟩ hb).symm).trans h
theorem VAt.zero (w:World)(P:Nat->Prop):VAt w P bN none 0 :=
 ⟨by simp [I64,bN,GV.kind],by simp [I64,bN,GV.n],by simp [bN,GV.s],Nat.le_refl _,⟨by simp [bN,GV.kids],D⟩,
  ⟨none,0,[],rfl,Nat.le_refl _,⟨by simp [bN,GV.kids],D⟩,⟨rfl,fun h=>absurd h (by simp [bN,GV.kids])⟩,rfl⟩⟩
def kK (P:Nat->Prop)(r:GR)(N:Nat)(W:World)(s:Value)(wx:World):Prop :=
 ∃ wy g A c sv m xs,wy=wx∧s=.pointer (some ⟨g,0,none⟩)∧Blk wx g 154 (cR r A c sv)∧W.heap.size<=g∧VAt wx (fun b=>(P b∨W.heap.size<=b)∧b ≠ g) r.val A c∧wx.ownsRow W.heap.size 254 3 sv m xs∧pZ m N xs∧sv.ownBlock ≠ some g∧Ext W wx
theorem kK.late {P:Nat->Prop}{r:GR}{N:Nat}{W w2:World}{A:Option Addr}{c:Nat}{sv:Value}{m:Nat}{xs:List Value}(hP:∀ b,P b->b<W.heap.size)(hv:VAt w2 (New P W.heap.size) r.val A c)(ho:w2.ownsRow W.heap.size 254 3 sv m xs)(hm:pZ m N xs)(hx:Ext W w2) :
  kK P r N W (.pointer (some ⟨w2.heap.size,0,none⟩)) (w2.alloc (.cells (cR r A c sv) 154)):=by
 have hs:=hx.size;refine ⟨_,w2.heap.size,A,c,sv,m,xs,rfl,rfl,Blk.new _ _ _,hs,hv.carry (aB.of_ext ((Ext.refl w2).alloc' _)) (fun b hb h=>⟨h,D⟩),ho.alloc _,hm,fun e=>?_,hx.alloc' _⟩;have:=ho.block_lt e;omega
theorem kK.early {P:Nat->Prop}{r:GR}{N B:Nat}{W w2:World}{A:Option Addr}{c:Nat}{sv:Value}{m:Nat}{xs:List Value}(hP:∀ b,P b->b<W.heap.size)(hv:VAt w2 (New P B) r.val A c)(ho:w2.ownsRow B 254 3 sv m xs)(hm:pZ m N xs)(hB:B=W.heap.size+1)
  (hx:Ext (W.alloc (.cells dP 154)) w2):kK P r N W (.pointer (some ⟨W.heap.size,0,none⟩)) (hU w2 W.heap.size (↑r.val.kind) (↑r.val.n) (.string r.val.s) (.slice A r.val.kids.length c) (↑r.used) (↑r.stop) sv):=by
 subst hB;have hx':Ext W w2:=((Ext.refl W).alloc' _).trans' hx;have hs:=hx.size;simp at hs;refine ⟨_,W.heap.size,A,c,sv,m,xs,rfl,rfl,cJ ((Blk.new W 154 dP).ext hx) _ _ _ _ _ _ _,Nat.le_refl _,?_,(fZ ho D _ _ _ _ _ _ _).base_le D,hm,fun e=>?_,cW hx' (Nat.le_refl _) _ _ _ _ _ _ _⟩
 ·refine hv.carry (Q:=fun b=>(P b∨W.heap.size<=b)∧b ≠ W.heap.size) (dN ?_ _ _ _ _ _ _ _) (fun b hb h=>?_)
  ·rintro (h | h)
   ·have:=hP _ h;omega
   ·omega
  ·rcases h with h | h
   ·have:=hP b h
    exact ⟨.inl h,D⟩
   ·exact ⟨.inr D,D⟩
 ·have:=ho.block_ge e
  omega
theorem aDf (t:List GN)(path:List Int)(f i:Nat)(at_:Int)(P:Nat->Prop)(vn vp:Value)(w:World)(hi:i<t.length)(hP:∀ b,P b->b<w.heap.size)(ht:Nds w P vn t)(hk:(t.getD i default).kind=0) :
  Calls Tryz.prog 144 #[.agg #[vn],↑i,vp,↑at_] w (aLi P (aS t path (f+1) i at_) (6 ^ (f+1)) w):=by
 have HT:=aZv ht;have HPP:=aZv hP;have HQ:=aZv (show aS t path (f+1) i at_=⟨(t.getD i default).value,0,-1⟩ by simp only [aS,Int.toNat_natCast];unfold cX;rw [if_pos hk]);obtain ⟨An,cn,en,hn1,hn2⟩:=ht.form;subst en;obtain ⟨b1,o1,a1,rfl,-,ha1,hc1⟩:=ht.get hi;have HA:=aZv ha1;have lb1:=hc1.lt;have c0:=hc1.c0;have c1:=hc1.c1;have c2:=hc1.c2;have c3:=hc1.c3;have c4:=hc1.c4;have c5:=hc1.c5;have c6:=hc1.c6;have c7:=hc1.c7;have c8:=hc1.c8;have c9:=hc1.c9;have c10:=hc1.c10;have c11:=hc1.c11;have t0:((t.getD i default).kind == 0)=true:=aZx hk;clear ht hP hc1 ha1 hk;generalize t.getD i default=x at *;go_enter Tryz.func144,Tryz.ntmps144;go_upto_region 2 with fail;have HW:=aZv (yV.mk' (.slice (some ⟨b1,o1,none⟩) t.length cn) x a1 w);generalize hW:(((w.alloc (.cells #[.slice (some ⟨b1,o1,none⟩) t.length cn] 25)).alloc (.cells dP 154)).alloc (.cells (aE x a1).toArray 87))=W at *;clear hW;have x0:=HW.out.box.cell' (u:=↑x.kind) 0 rfl;have x8:=HW.out.box.cell' (u:=↑x.value.kind) 8 rfl;have x9:=HW.out.box.cell' (u:=↑x.value.n) 9 rfl;have x10:=HW.out.box.cell' (u:=.string x.value.s) 10 rfl;have x11:=HW.out.box.cell' (u:=.slice a1.xA x.value.kids.length a1.xc) 11 rfl;have r0:=HW.out.res.cell' (u:=.int .i64 0) 0 rfl
 have r1:=HW.out.res.cell' (u:=.int .i64 0) 1 rfl;have r2:=HW.out.res.cell' (u:=.string ⟨#[]⟩) 2 rfl;have r3:=HW.out.res.cell' (u:=.slice none 0 0) 3 rfl;have r4:=HW.out.res.cell' (u:=.int .i64 0) 4 rfl;have r5:=HW.out.res.cell' (u:=.int .i64 0) 5 rfl;have r6:=HW.out.res.cell' (u:=.slice none 0 0) 6 rfl;have f0:=HW.out.res.frozen 0;have f1:=HW.out.res.frozen 1;have f2:=HW.out.res.frozen 2;have f3:=HW.out.res.frozen 3;have f4:=HW.out.res.frozen 4;have f5:=HW.out.res.frozen 5;have f6:=HW.out.res.frozen 6;clear c0 c1 c2 c3 c4 c5 c6 c7 c8 c9 c10 c11;go_wp2_with fail;have q:=cJ HW.out.res (↑x.value.kind) (↑x.value.n) (.string x.value.s) (.slice a1.xA x.value.kids.length a1.xc) (.int .i64 0) (.int .i64 (-1)) (.slice none 0 0);have HX2:=aZv (cW HW.out.ext (show w.heap.size<=w.heap.size+1 by omega) (↑x.value.kind) (↑x.value.n) (.string x.value.s) (.slice a1.xA x.value.kids.length a1.xc) (.int .i64 0) (.int .i64 (-1)) (.slice none 0 0))
 change bodyPost Tryz.prog Tryz.f144 _ Exit.ret _ (hU W (w.heap.size+1) (↑x.value.kind) (↑x.value.n) (.string x.value.s) (.slice a1.xA x.value.kids.length a1.xc) (.int .i64 0) (.int .i64 (-1)) (.slice none 0 0))
 have HV:=aZv ((HA.out.value.ext HX2.out).keep (Q:=New P w.heap.size) (fun _ _ _=>rfl) (fun _ h=>.inl h));generalize hU W (w.heap.size+1) (↑x.value.kind) (↑x.value.n) (.string x.value.s) (.slice a1.xA x.value.kids.length a1.xc) (.int .i64 0) (.int .i64 (-1)) (.slice none 0 0)=W' at *;have q0:=q.cell' (u:=↑x.value.kind) 0 rfl;have q1:=q.cell' (u:=↑x.value.n) 1 rfl;have q2:=q.cell' (u:=.string x.value.s) 2 rfl;have q3:=q.cell' (u:=.slice a1.xA x.value.kids.length a1.xc) 3 rfl;have q4:=q.cell' (u:=.int .i64 0) 4 rfl;have q5:=q.cell' (u:=.int .i64 (-1)) 5 rfl;have q6:=q.cell' (u:=.slice none 0 0) 6 rfl;rw [HQ.out];refine bodyPost_ret (v:=.agg (cR ⟨x.value,0,-1⟩ a1.xA a1.xc (.slice none 0 0))) (by simp [results,Tryz.results144,go_sem,q0,q1,q2,q3,q4,q5,q6]) rfl ⟨a1.xA,a1.xc,.slice none 0 0,0,[],rfl,HV.out,aT _ _ _ _,?_,HX2.out⟩;exact pZ.nil f
end Go.Proofs.YtkoeecdjijfjnaaGreat
