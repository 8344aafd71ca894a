/- Contracts and laws. Conditions: none. -/
import Derived.Laws.IdiomCopy
import Derived.Test.YtkoeecdjijfjnaaGreatC5
set_option linter.all false
set_option maxRecDepth 100000
set_option maxHeartbeats 8000000
namespace Go.Proofs.YtkoeecdjijfjnaaGreat
open Go.RowKit
theorem rA {before bind}:∀ zs k out,(jH before bind k out true zs).many=true
 | [],_,_=>by simp [jH]
 | z :: zs,k,out=>by
  simp only [jH];split
  ·exact rA zs _ _
  ·simp only [Bool.true_or];exact rA zs _ _
theorem iV {before bind}:∀ zs k out,(jH before bind k out false zs).many=false ->
  (∀ v ∈ out,v ∈ (jH before bind k out false zs).vals)∧∀ m,m<zs.length->¬ (bind=true∧k+m=0) ->
   (before.getD (zs.getD m 0).toNat default).many=false∧∀ v ∈ (before.getD (zs.getD m 0).toNat default).vals,v ∈ (jH before bind k out false zs).vals
 | [],k,out,_=>⟨fun v hv=>by simpa [jH] using hv,fun m hm=>by simp at hm⟩
 | z :: zs,k,out,h=>by
  simp only [jH] at h ⊢;split
  ·next hb =>
   rw [if_pos hb] at h;obtain ⟨h1,h2⟩:=iV zs (k+1) out h;refine ⟨h1,fun m hm hc=>?_⟩;cases m with
   | zero=>exact absurd ⟨hb.1,I⟩ hc
   | succ m=>exact h2 m (by simpa using hm) I
  ·next hb =>
   rw [if_neg hb] at h;simp only [Bool.false_or] at h ⊢;cases e:((before.getD z.toNat default).many || decide (1024<(eM (out ++ (before.getD z.toNat default).vals)).length))
   ·rw [e] at h
    simp only [Bool.or_eq_false_iff] at e;obtain ⟨h1,h2⟩:=iV zs (k+1) _ h;refine ⟨fun v hv=>h1 v ((eR _ v).2 (by simp [hv])),fun m hm hc=>?_⟩;cases m with
    | zero=>exact ⟨e.1,fun v hv=>h1 v ((eR _ v).2 (by simp only [List.getD_cons_zero] at hv;exact ap.2 (.inr hv)))⟩
    | succ m=>exact h2 m (by simpa using hm) I
   ·rw [e,rA] at h;cases h
def aRh (before:List GL):List GV->List Int->Prop
 | [],[]=>True
 | v :: vs,z :: zs=>v ∈ (before.getD z.toNat default).vals∧aRh before vs zs
 | _,_=>False
theorem jT {before}:∀ zs rows out,bL before rows zs=some out->∀ z ∈ zs,(before.getD z.toNat default).many=false
 | [],_,_,_,z,hz=>by simp at hz
 | y :: zs,rows,out,h,z,hz=>by
  simp only [bL] at h;split at h
  ·cases h
  ·next hm =>
   rcases ao.1 hz with rfl | hz
   ·cases e:(before.getD z.toNat default).many
    ·rfl
    ·exact absurd (.inl e) hm
   ·exact jT zs _ out h z hz
theorem lM {before}:∀ zs rows out,bL before rows zs=some out->∀ q ∈ rows,∀ vs,aRh before vs zs->q ++ vs ∈ out
 | [],rows,out,h,q,hq,vs,hf=>by
  simp only [bL,Option.some.injEq] at h;subst h;cases vs with
  | nil=>simpa using hq
  | cons _ _=>exact hf.elim
 | z :: zs,rows,out,h,q,hq,vs,hf=>by
  simp only [bL] at h;split at h
  ·cases h
  ·cases vs with
   | nil=>exact hf.elim
   | cons v vs =>
    have:=lM zs _ out h (q ++ [v]) (jV.2 ⟨q,hq,v,hf.1,rfl⟩) vs hf.2
    simpa using this
theorem aRh.cast {a b}:∀ {vs zs},aRh a vs zs->(∀ z ∈ zs,a.getD z.toNat default=b.getD z.toNat default)->aRh b vs zs
 | [],[],_,_=>trivial
 | v :: vs,z :: zs,h,e=>⟨by rw [<- e z O];exact h.1,h.2.cast (fun y hy=>e y db)⟩
 | [],_ :: _,h,_=>h.elim
 | _ :: _,[],h,_=>h.elim
structure pQ (t:List GN)(path:List Int)(i:Nat)(at_:Int)(r:GR):Prop where
 used0:0<=r.used
 usedL:r.used<=(aM t).getD i 0
 usedP:at_+r.used<=path
 mem:r.stop=-1->((aF t).getD i default).many=false->r.val ∈ ((aF t).getD i default).vals
 stop:r.stop=-1∨r.stop=-2∨(0<=r.stop∧r.stop<=i∧((t.getD r.stop.toNat default).kind=1∨(t.getD r.stop.toNat default).kind=2)∧(path:Int) - at_<(aM t).getD i 0)
structure aRe (t:List GN)(path:List Int)(i:Nat)(name:ByteArray)(at_ used:Int)(acc:List GV)(zs:List Int)(r:GR):Prop where
 used0:0<=r.used
 usedL:r.used<=used+pV (aM t) zs
 usedP:at_+r.used<=path
 mem:r.stop=-1->(∀ z ∈ zs,((aF t).getD z.toNat default).many=false)->∃ vs,aRh (aF t) vs zs∧r.val=bX name (acc ++ vs)
 stop:r.stop=-1∨r.stop=-2∨(0<=r.stop∧r.stop<i∧((t.getD r.stop.toNat default).kind=1∨(t.getD r.stop.toNat default).kind=2)∧(path:Int) - at_<used+pV (aM t) zs)
theorem aDi {t}{path:List Int}{i:Nat}{name r}{at_:Int}(h0:0<=at_)
  (hl:∀ z:Int,0<=z->z<i->0<=(aM t).getD z.toNat 0∧(aM t).getD z.toNat 0<=256)
  (hr:∀ (z:Int)(k:Int),0<=z->z<i->0<=k->k<=path->pQ t path z.toNat k (r z k)) :
  ∀ zs used acc,(∀ z ∈ zs,0<=z∧z<(i:Int))->0<=used->at_+used<=path->aRe t path i name at_ used acc zs (bO r name at_ used acc zs)
 | [],used,acc,_,h1,h2=>by
  simp only [bO];exact ⟨h1,by simp [pV],h2,fun _ _=>⟨[],trivial,O⟩,.inl rfl⟩
 | z :: zs,used,acc,hz,h1,h2=>by
  have hz0:=hz z O;have hb:=hr z (at_+used) hz0.1 hz0.2 I h2;have hlz:=hl z hz0.1 hz0.2;have hls:=(aCb (before:=aM t) (zs:=zs) (fun y hy=>hl y (hz y db).1 (hz y db).2)).1;have hu:=hb.used0;have huL:=hb.usedL;have huP:=hb.usedP;simp only [bO];generalize hg:r z (at_+used)=b at *;split
  ·next hs =>
   have hp:=aDi h0 hl hr (name:=name) zs (used+b.used) (acc ++ [b.val]) (fun y hy=>hz y db) I I;generalize bO r name at_ (used+b.used) (acc ++ [b.val]) zs=R at *;have q1:=hp.used0;have q2:=hp.usedL;have q3:=hp.usedP;refine ⟨q1,by simp only [pV];omega,q3,fun e hm=>?_,?_⟩
   ·obtain ⟨vs,h3,h4⟩:=hp.mem e (fun y hy=>hm y db)
    exact ⟨b.val :: vs,⟨hb.mem hs (hm z O),h3⟩,by rw [h4];simp⟩
   ·rcases hp.stop with h | h | ⟨a,b',c,d⟩
    ·exact .inl h
    ·exact .inr (.inl h)
    ·exact .inr (.inr ⟨a,b',c,by simp only [pV];omega⟩)
  ·next hs =>
   refine ⟨by show 0<=used+b.used;omega,by show used+b.used<=_;simp only [pV];omega,by show at_+(used+b.used)<=_;omega,fun e=>absurd e hs,?_⟩;rcases hb.stop with h | h | ⟨a,b',c,d⟩
   ·exact absurd h hs
   ·exact .inr (.inl h)
   ·exact .inr (.inr ⟨a,by show b.stop<i;omega,c,by simp only [pV];omega⟩)
theorem wW {t n}(h:bD t n)(path:List Int)(hpl:path.length<=1000000000):∀ f i (at_:Int),i<f->i<n->0<=at_->at_<=path->pQ t path i at_ (bR t path f i at_)
 | 0,i,at_,hf,_,_,_=>by omega
 | f+1,i,at_,hf,hi,ha0,ha1=>by
  have hit:i<t:=ji;have hc:=h.at_ hi;have hL:=lT h i hi;have hfew:=eX h hi
  have hr:∀ (z:Int) (k:Int),0<=z->z<i->0<=k->k<=path->pQ t path z.toNat k (bR t path f z k):=fun z k h1 h2 h3 h4=>by
   have:=wW h path hpl f z.toNat k I I h3 h4;rw [Int.toNat_of_nonneg h1] at this;exact this
  have hl:∀ z:Int,0<=z->z<i->0<=(aM t).getD z.toNat 0∧(aM t).getD z.toNat 0<=256:=fun z h1 h2=>(lT h z.toNat I).bd
  have hlg:=iN hit;simp only [bR,Int.toNat_natCast];have hn:=hc.node;have hcm:=hc.many;have hcv:=hc.vals;have L1:=hL.bd;have L2:=hL.range;have L3:=hL.leaf;have L4:=hL.seq;have L5:=hL.choice;have L6:=hL.bind;have hself:(t.getD i default).kind=1∨(t.getD i default).kind=2->((t.getD ((i:Int)).toNat default).kind=1∨(t.getD ((i:Int)).toNat default).kind=2):=fun h=>by simpa using h
  generalize hx:t.getD i default=x at *;have hkd:=hn.kind;have hkl:∀ z ∈ x.kids,(aF (t.take i)).getD z.toNat default=(aF t).getD z.toNat default:=fun z hz=>gT hit (hn.kids z hz)
  unfold dW;by_cases k0:x.kind=0
  ·rw [if_pos k0]
   refine ⟨Int.le_refl _,jj,by show at_+0<=_;omega,fun _ _=>?_,.inl rfl⟩;rw [hlg];unfold cI;rw [if_pos k0];simp
  rw [if_neg k0];by_cases k3:x.kind=3
  ·rw [if_pos k3]
   have hp:=aDi (name:=x.name) ha0 hl hr x.kids 0 [] (fun z hz=>hn.kids z hz) (Int.le_refl _) I;generalize bO (bR t path f) x.name at_ 0 [] x.kids=R at *;have q1:=hp.used0;have q2:=hp.usedL;have q3:=hp.usedP;have e3:=L4 k3;refine ⟨q1,I,q3,fun e hm=>?_,?_⟩
   ·rw [hlg] at hm ⊢
    unfold cI at hm ⊢;rw [if_neg k0,if_neg I,if_pos k3] at hm ⊢;unfold zL at hm ⊢;split at hm
    ·cases hm
    ·next rows hrows =>
     (try rw [hrows])
     have hmm:=jT x.kids _ rows hrows;obtain ⟨vs,h3,h4⟩:=hp.mem e (fun z hz=>by rw [<- hkl z hz];exact hmm z hz);show R.val ∈ eM _;rw [eR,h4];refine List.mem_map.2 ⟨vs,?_,O⟩;have:=lM x.kids _ rows hrows [] O vs (h3.cast (fun z hz=>(hkl z hz).symm))
     simpa using this
   ·rcases hp.stop with h | h | ⟨a,b',c,d⟩
    ·exact .inl h
    ·exact .inr (.inl h)
    ·exact .inr (.inr ⟨a,I,c,I⟩)
  rw [if_neg k3];by_cases k4:x.kind=4
  ·rw [if_pos k4]
   have hbk:=hn.bind k4;have hz0:x.kids.getD 0 0 ∈ x.kids:=aD I;have hz0':=hn.kids _ hz0;have ha:=hr (x.kids.getD 0 0) at_ hz0'.1 hz0'.2 ha0 ha1;have e4:=L6 k4;have hm0:=hcm k4;have hv0:=hcv k4;have hinc:=hn.inc;generalize hra:bR t path f (x.kids.getD 0 0) at_=a at *;have p1:=ha.used0;have p2:=ha.usedL;have p3:=ha.usedP;split
   ·next hs =>
    have hmem:=ha.mem hs hm0;rw [hv0] at hmem;obtain ⟨f1,f2,f3⟩:=jZ hinc hmem;generalize (cU x.values a.val).1=q at *;have hq:q+1<x.kids:=by omega
    have hzq:=hn.kids _ (aD (d:=0) hq);have hb:=hr (x.kids.getD (q+1) 0) (at_+a.used) hzq.1 hzq.2 I p3;have e5:=e4.2 (q+1) I hq;generalize hrb:bR t path f (x.kids.getD (q+1) 0) (at_+a.used)=b at *;have b1:=hb.used0;have b2:=hb.usedL;have b3:=hb.usedP;refine ⟨by show 0<=a.used+b.used;omega,by show a.used+b.used<=_;omega,by show at_+(a.used+b.used)<=_;omega,fun e hm=>?_,?_⟩
    ·show b.val ∈ _
     rw [hlg] at hm ⊢;unfold cI at hm ⊢;rw [if_neg k0,if_neg I,if_neg k3] at hm ⊢;obtain ⟨h3,h4⟩:=(iV x.kids 0 [] hm).2 (q+1) hq I;rw [hkl _ (aD hq)] at h3 h4;exact h4 _ (hb.mem e h3)
    ·rcases hb.stop with h | h | ⟨c1,c2,c3,c4⟩
     ·exact .inl h
     ·exact .inr (.inl h)
     ·exact .inr (.inr ⟨c1,by show b.stop<=i;omega,c3,I⟩)
   ·next hs =>
    refine ⟨p1,I,p3,fun e=>absurd e hs,?_⟩;rcases ha.stop with h | h | ⟨c1,c2,c3,c4⟩
    ·exact absurd h hs
    ·exact .inr (.inl h)
    ·exact .inr (.inr ⟨c1,I,c3,I⟩)
  rw [if_neg k4];have k12:x.kind=1∨x.kind=2:=by omega
  have hlen1:1<=(aM t).getD i 0:=by
   rcases k12 with k | k
   ·rw [L2 k];omega
   ·exact (L5 k).1
  split
  ·next hat =>
   refine ⟨Int.le_refl _,jj,by show at_+0<=_;omega,fun e=>?_,.inr (.inr ⟨?_,?_,?_,I⟩)⟩
   ·have:(i:Int)=-1:=e
    omega
   ·show (0:Int)<=(i:Int);omega
   ·show (i:Int)<=(i:Int);omega
   ·exact hself k12
  ·next hat =>
   split
   ·exact ⟨Int.le_refl _,jj,by show at_+0<=_;omega,fun e=>absurd e cq,.inr (.inl rfl)⟩
   ·next hopt =>
    rw [iJ hn] at hopt;generalize path.getD at_.toNat 0=c at *;split
    ·next k1 =>
     rw [if_pos k1] at hopt;have hnum:=cS hn.numbers;refine ⟨by show (0:Int)<=1;omega,by show 1<=_;omega,by show at_+1<=_;omega,fun _ hm=>?_,.inl rfl⟩;show GV.mk 0 (x.lo+c) ByteArray.empty [] ∈ _;rw [hlg] at hm ⊢;unfold cI at hm ⊢;rw [if_neg k0,if_pos k1] at hm ⊢;split at hm
     ·cases hm
     ·next hr=>rw [if_neg hr];exact iI.2 ⟨x.lo+c,I,I,rfl⟩
    ·next k1 =>
     rw [if_neg k1] at hopt;have k2:x.kind=2:=by omega
     have hq:c.toNat<x.kids:=I;have hzq:=hn.kids _ (aD (d:=0) hq);have hb:=hr (x.kids.getD c.toNat 0) (at_+1) hzq.1 hzq.2 I I;have e5:=(L5 k2).2 _ (aD (d:=0) hq);generalize bR t path f (x.kids.getD c.toNat 0) (at_+1)=b at *;have b1:=hb.used0;have b2:=hb.usedL;have b3:=hb.usedP;refine ⟨by show 0<=b.used+1;omega,by show b.used+1<=_;omega,by show at_+(b.used+1)<=_;omega,fun e hm=>?_,?_⟩
     ·show b.val ∈ _
      rw [hlg] at hm ⊢;unfold cI at hm ⊢;rw [if_neg k0,if_neg k1,if_neg k3] at hm ⊢;obtain ⟨h3,h4⟩:=(iV x.kids 0 [] hm).2 c.toNat hq js;rw [hkl _ (aD hq)] at h3 h4;exact h4 _ (hb.mem e h3)
     ·rcases hb.stop with h | h | ⟨c1,c2,c3,c4⟩
      ·exact .inl h
      ·exact .inr (.inl h)
      ·exact .inr (.inr ⟨c1,by show b.stop<=i;omega,c3,I⟩)
theorem aG {g t}:∀ (us:List Value){w}{cs:List Value}(o:Nat),Blk w g t cs.toArray->o+us<=cs->Blk (w.setCells g o us) g t (cs.take o ++ us ++ cs.drop (o+us)).toArray
 | [],w,cs,o,h,_=>by simp only [World.setCells,List.append_nil,List.length_nil,Nat.add_zero,List.take_append_drop];exact h
 | u :: us,w,cs,o,h,ho=>by
  simp only [ai] at ho;have h1:=h.set_ o u;simp only [List.setIfInBounds_toArray] at h1;have h2:=aG us (o+1) h1 bh
  have e:(cs.set o u).take (o+1) ++ us ++ (cs.set o u).drop (o+1+us.length)=cs.take o ++ u :: us ++ cs.drop (o+(us.length+1)):=by
   rw [List.drop_set_of_lt I,List.take_succ_eq_append_getElem bh];simp only [List.getElem_set_self,ah,List.cons_append,List.nil_append];rw [List.take_set_of_le I];simp [Nat.add_comm,Nat.add_left_comm]
  rw [e] at h2;exact h2
theorem aB.setCells {Q g}(hg:¬ Q g):∀ us {w w'} o,aB Q w w'->aB Q w (w'.setCells g o us)
 | [],_,_,_,h=>h
 | u :: us,w,w',o,h=>aB.setCells hg us (o+1) (h.set (p:=qt g o) u hg)
theorem Fr.setCells {M g}:∀ us {w w'} o,Fr M w w'->(M g∨w<=g)->Fr M w (w'.setCells g o us)
 | [],_,_,_,h,_=>h
 | u :: us,w,w',o,h,hg=>Fr.setCells us (o+1) (h.setCell (p:=qt g o) hg u) hg
theorem Blk.farCells {g g' t cs}(hne:g ≠ g'):∀ us {w} o,Blk w g t cs->Blk (w.setCells g' o us) g t cs
 | [],_,_,h=>h
 | u :: us,w,o,h=>Blk.farCells hne us (o+1) (h.far (p:=qt g' o) hne u)
theorem Blk.some_ {w g t}{cs:List Value}(h:Blk w g t cs.toArray){i:Nat}(hi:i<cs):∃ y,qc w g i y:=⟨cs[i],h.cell' i (by simp [hi])⟩
structure aJl {α:Type}(size:Nat)(R:World->(Nat->Prop)->α->List Value->Prop):Prop where
 len:∀ w P x cs,R w P x cs->cs=size
 carry:∀ w w' P Q x cs,R w P x cs->aB P w w'->(∀ b,b<w.heap.size->P b->Q b)->R w' Q x cs
def aJo {α:Type}(size:Nat)(R:World->(Nat->Prop)->α->List Value->Prop)(l:List α)(g:Nat)(ty:TypeId)(W0:World)(i:Value)(wr:World):Prop :=
 ∃ (k:Nat) (cs:List Value),k<=l∧i=↑k∧Blk wr g ty cs.toArray∧cs.length=l*size∧RL (R wr (fun b=>W0.heap.size<=b∧b ≠ g)) (l.take k) (cs.take (k*size))∧Ext W0 wr
section
variable {α:Type}{size:Nat}{R:World->(Nat->Prop)->α->List Value->Prop}
theorem RL.move {w w' P Q}(hE:aJl size R){l cs}(h:RL (R w P) l cs)(hk:aB P w w')(hPQ:∀ b,b<w.heap.size->P b->Q b):RL (R w' Q) l cs :=
 h.mono (fun x _ cs hx=>hE.carry w w' P Q x cs hx hk hPQ)
theorem yG {l:List α}{ty}{W0:World}(cs)(hcs:cs.size=l*size):aJo size R l W0 ty W0 qz (W0.alloc (qk cs ty)) :=
 ⟨0,cs.toList,af _,rfl,by simpa using aw W0 ty cs,by simpa using hcs,fy,(aq _).alloc' _⟩
theorem aCv (hE:aJl size R){l:List α}{g:Nat}{ty}{W0 wr w1:World}{k:Nat}{cs us:List Value}(d)(hg:W0<=g)(hk:k<l)(hB:Blk wr g ty cs.toArray)(hl:cs.length=l*size)
  (hR:RL (R wr (fun b=>W0.heap.size<=b∧b ≠ g)) (l.take k) (cs.take (k*size)))(hx:Ext W0 wr)(h1:Ext wr w1)(hu:R w1 (fun b=>wr.heap.size<=b) (l.getD k d) us) :
  aJo size R l g ty W0 (.int .i64 ((k:Int)+1)) (w1.setCells g (k*size) us):=by
 have hus:=hE.len _ _ _ _ hu;have hkl:k*size+size<=l*size:=by rw [<- Nat.succ_mul];exact Nat.mul_le_mul_right _ hk
 have hB1:=aG us (k*size) (hB.ext h1) I;have hgl:=hB.lt;refine ⟨k+1,_,I,O,hB1,?_,?_,?_⟩
 ·simp only [aa,ak,am];omega
 ·have e:(cs.take (k*size) ++ us ++ cs.drop (k*size+us.length)).take ((k+1)*size)=cs.take (k*size) ++ us:=by
   rw [List.take_append_of_le_length (by simp only [aa,ak];rw [Nat.add_mul];omega),an (by simp only [aa,ak];rw [Nat.add_mul];omega)]
  rw [e,aR d hk];have hg2:¬ (fun b=>W0.heap.size<=b∧b ≠ g) g:=fun h=>h.2 rfl
  refine RL.append ?_ (RL.one ?_)
  ·refine hR.move hE (aB.setCells hg2 us (k*size) (aB.of_ext h1)) (fun _ _ h=>h)
  ·have hk0:aB (fun b=>wr.heap.size<=b) w1 w1:=fun _ _ _=>rfl
   exact hE.carry _ _ _ _ _ _ hu (aB.setCells bh us (k*size) hk0) (fun b _ h=>⟨I,I⟩)
 ·exact ((ar (M:=fun _=>False) (hx.trans' h1)).setCells us (k*size) (.inr hg)).ext
theorem aIu (hE:aJl size R){l:List α}{g:Nat}{ty}{W0 wr:World}{cs:List Value}(hg:W0<=g)(hln:l.length<=17592186044416)(hB:Blk wr g ty cs.toArray)(hl:cs.length=l*size)
  (hR:RL (R wr (fun b=>W0.heap.size<=b∧b ≠ g)) (l.take l) (cs.take (l.length*size))):Lst wr (fun b=>W0.heap.size<=b) size (R wr (fun b=>W0.heap.size<=b)) (.slice (qp g) l l) l:=by
 rw [List.take_length,an I] at hR;exact ⟨_,_,cs,rfl,ab _,⟨hln,I⟩,⟨hl,fun _=>⟨g,0,rfl,hg,fun j u hu=>by rw [Nat.zero_add];exact hB.cell' j ie⟩⟩,hR.move hE (fun _ _ _=>rfl) (fun _ _ h=>h.1)⟩
end
theorem aL2:aJl 4 RV:=⟨fun _ _ _ _ h=>h.len,fun _ _ _ _ _ _ h hk hPQ=>RV.carry hk hPQ h⟩
theorem aA0:aJl 12 RN:=⟨fun _ _ _ _ h=>RN.len _ _ h,fun _ _ _ _ _ _ h hk hPQ=>h.carry hk hPQ⟩
def aZj (x:GV)(w:World)(e:Ending)(w':World):Prop:=∃ A c,e=.returned (dA x A c)∧VAt w' (fun b=>w.heap.size<=b) x A c∧Ext w w'
def vS (x:GV):Prop:=∀ (A:Option Addr)(c:Nat)(P:Nat->Prop)(w:World),VAt w P x A c->qg 143 #[dA x A c] w (aZj x w)
def aV9 (l:List GV)(w:World)(e:Ending)(w':World):Prop:=∃ A c,e=.returned (.slice A l c)∧bT w' (fun b=>w.heap.size<=b) (.slice A l c) l∧Ext w w'
theorem nQ (l)(hF:∀ x ∈ l,vS x)(P v w)(hl:bT w P v l)(hlen:l.length<=1000000000):qg 182 #[v,.func (.func 143) #[] #[]] w (aV9 l w):=by
 have HF:=a4b hF;have HV:=a4b hl;obtain ⟨A,c,e,h1,h2⟩:=hl.form;subst e;clear hl hF;by_cases h0:l.length=0
 ·have t0:((l:Int) == 0)=true:=a4d I
  have hnil:l=[]:=List.eq_nil_of_length_eq_zero h0;subst hnil;clear h0;go_enter Tryz.func182,Tryz.ntmps182;go_wp2_with fail;go_ret;exact ⟨none,0,rfl,⟨none,0,[],rfl,ab _,O,⟨rfl,fun h=>by simp at h⟩,by simp [RVs]⟩,aq _⟩
 ·have t0:((l:Int) == 0)=false:=a4c I
  clear h0;obtain ⟨i0,hi,hz0,hz1,hz2⟩:=info_parts Tryz.info85
  have hmk:∀ W:World,(Instr.makeSlice 83 (↑(l:Int)) (↑(l:Int))).run Tryz.prog W=.ok (.slice (qp W) l l) (W.alloc (qk (madeCells #[qz,qz,.string ByteArray.empty,qn] (l*4)) 85)):=by
   intro W;have h:=run_make (P:=Tryz.prog) W 83 85 i0 _ Tryz.underlying83 hi hz0 .i64 .i64 (l:Int) (l:Int) I (Int.le_refl _) fo I;rw [hz1] at h;rw [h];rfl
  have hsz:=size_madeCells #[qz,qz,.string ByteArray.empty,qn] (l*4);generalize madeCells #[qz,qz,.string ByteArray.empty,qn] (l*4)=mc at *;have HSZ:=a4b hsz;clear hsz hi hz0 hz1 hz2 i0;go_enter Tryz.func182,Tryz.ntmps182;go_wp2_with fail;go_loopw [15] (fun i wr=>aJo 4 RV l w 85 w i wr) (fun i _=>l.length - (intOf i).toNat)
  case atStart=>exact yG mc HSZ.out
  case round =>
   obtain ⟨k,cs,hk,rfl,hB,hcl,hR,hx⟩:=hrel;have HB:=a4b hB;have HCL:=a4b hcl;have HR:=a4b hR;have HX:=a4b hx;clear hB hcl hR hx;by_cases hlt:k<l
   ·obtain ⟨b1,o1,A1,d1,rfl,-,hv1,g10,g11,g12,g13⟩:=(HV.out.ext HX.out).get hlt
    have HCX:=a4b (HF.out _ (aD (d:=default) hlt) A1 d1 P wr hv1);have HGX:=a4b (show ∃ x,x=l.getD k default from ⟨_,rfl⟩);obtain ⟨x,hgx⟩:=HGX.out;have HG:=a4b hgx;rw [<- hgx] at HCX g10 g11 g12 g13;have hkk:(k:Int)<(l:Int):=by omega
    clear hv1 HGX hgx;go_wp2_with fail;refine (HCX.out).mono ?_;rintro e w1 ⟨A2,d2,rfl,hv2,hx2⟩;have hBB:=HB.out.ext hx2;have hcl:=HCL.out;obtain ⟨y0,q0⟩:=hBB.some_ (i:=k*4) I;obtain ⟨y1,q1⟩:=hBB.some_ (i:=k*4+1) I;obtain ⟨y2,q2⟩:=hBB.some_ (i:=k*4+2) I;obtain ⟨y3,q3⟩:=hBB.some_ (i:=k*4+3) I;have f0:=hBB.frozen (k*4);have f1:=hBB.frozen (k*4+1);have f2:=hBB.frozen (k*4+2);have f3:=hBB.frozen (k*4+3);have HV2:=a4b hv2;have HX2:=a4b hx2;clear hv2 hx2 hBB hcl;go_wp2_with fail;go_roundw
    case rel =>
     have:=HG.out;subst this;exact aCv (w1:=w1) aL2 default (ab _) hlt HB.out HCL.out HR.out HX.out HX2.out (us:=cellsOf _ A2 d2) HV2.out.rv
    case measure=>simp [intOf];omega
   ·obtain rfl:k=l:=by omega
    go_wp2_with fail;go_ret;exact ⟨_,_,rfl,nV.2 (aIu aL2 (ab _) I HB.out HCL.out HR.out),HX.out⟩
section
variable {ops:Array Oper}{K:Act->World->Prop}{S:World->Prop}{bf:Nat->Bool}{n:Nat}{is is':List Nat}{a:Act}{w w1:World}{o:Oper}{v:Value}{d:Nat}
def WDi (ops:Array Oper)(K:Act->World->Prop)(S:World->Prop)(bf:Nat->Bool)(n i:Nat)(o:Oper)(is:List Nat)(a:Act)(w:World):Prop :=
 ∀ K':Act->World->Prop,(∀ a' w',(bf i=true->S w')->WD ops K S bf n (i :: is) a' w'->K' a' w')->if Region.wanted o (yielded ops a.tmps)=true then Oper.wp Tryz.prog o a w K' (NQ K) else K' (a.put o.dst undef) w
theorem a0m {i j oi oj}(hr:Region.ready .any ops (mkL ops.size is)=[i,j])(hi:ops[i]?=some oi)(hj:ops[j]?=some oj)(h1:WDi ops K S bf n i oi is a w)(h2:WDi ops K S bf n j oj is a w):WD ops K S bf (n+1) is a w:=by
 have one:∀ (k:Nat) (ok:Oper),ops[k]?=some ok->WDi ops K S bf n k ok is a w->wpOp Tryz.prog ops (NQ K) k (fun a' w'=>(bf k=true->S w')∧gI Tryz.prog .any ops (NQ K) S bf n ((mkL ops.size is).setIfInBounds k true) a' w') a w:=by
  intro k ok hk h;have h1:=h (fun a' w'=>(bf k=true->S w')∧gI Tryz.prog .any ops (NQ K) S bf n ((mkL ops.size is).setIfInBounds k true) a' w') (fun a' w' h2 h3=>⟨h2,h3.out⟩);unfold wpOp;simp only [hk];split
  ·rename_i hw
   rw [if_pos hw] at h1;exact .inl h1
  ·rename_i hw
   rw [if_neg hw] at h1;exact h1
 refine ⟨⟨fun h0=>(by rw [h0] at hr;cases hr),fun k hk=>?_⟩⟩;rw [hr] at hk;simp only [ao,List.not_mem_nil,or_false] at hk;rcases hk with rfl | rfl
 ·exact one _ oi hi h1
 ·exact one _ oj hj h2
theorem aWp {i}(hg:o.guard=none)(hd:o.dst=some d)(hrun:(execOp (Ev a) o).run Tryz.prog w=.ok (.value v) w1)(hS:bf i=true->S w1)(h:WD ops K S bf n (i :: is) (Pt a d v) w1):WDi ops K S bf n i o is a w:=fun K' hK=>by
 have hw:Region.wanted o (yielded ops a.tmps)=true:=dr;rw [if_pos hw];unfold Oper.wp;rw [show execOp a.eval o=execOp (Ev a) o from rfl,hrun];show K' (a.put o.dst v) w1;rw [hd];exact hK _ _ hS h
theorem WD.swap {i j}(hij:i ≠ j)(h:WD ops K S bf n (j :: i :: is) a w):WD ops K S bf n (i :: j :: is) a w:=⟨by
 have e:mkL ops.size (i :: j :: is)=mkL ops.size (j :: i :: is):=Array.setIfInBounds_comm _ _ (Ne.symm hij);rw [e];exact h.out⟩
theorem Ag.both {L b}(h:Ag L b a):Ag (d :: L) (Pt b d v) (Pt a d v):=⟨by rw [aI9,aI9];exact h.sz,h.df,fun t ht=>by
 rw [aBe,aBe,h.sz];rcases ao.1 ht with rfl | ht
 ·simp
 ·rw [h.ev t ht]⟩
end
section
variable {ops:Array Oper}{K:Act->World->Prop}{S:World->Prop}{bf:Nat->Bool}{j g ty B n:Nat}{z:Array Value}{L is:List Nat}{D:Option Nat->World->Prop}{b a:Act}{w w':World}{al:Option Nat}{M:Nat->Prop}{d:Nat}{v:Value}{o oj:Oper}
def AB (g ty:Nat)(z:Array Value)(B:Nat)(al:Option Nat)(a:Act)(w:World):Prop:=∀ G,al=some G->qq a g (qp G)∧Blk w G ty z∧B<=G
theorem AB.step (h:AB g ty z B al a w)(hd:d ≠ g)(hF:Fr M w w')(hM:∀ k,M k->k<B):AB g ty z B al (Pt a d v) w':=fun G e=>by
 obtain ⟨h1,h2,h3⟩:=h G e;exact ⟨by rw [aBe,if_neg hd];exact h1,h2.fr hF (fun hm=>by have:=hM _ hm;omega),h3⟩
def jl (j:Nat):Option Nat->List Nat
 | none=>[]
 | some _=>[j]
def jn:Option Nat->Nat
 | none=>1
 | some _=>0
structure WA (ops:Array Oper)(K:Act->World->Prop)(S:World->Prop)(bf:Nat->Bool)(j g ty:Nat)(z:Array Value)(B:Nat)(L:List Nat)(D:Option Nat->World->Prop)(n:Nat)(is:List Nat)(b:Act):Prop where
 out:∀ al a w,Ag L b a->AB g ty z B al a w->D al w->WD ops K S bf (n+jn al) (jl j al ++ is) a w
theorem WA.go (h:WA ops K S bf j g ty z B L D n is b)(hD:D none w):WD ops K S bf (n+1) is b w:=h.out none b w .rf (fun _ h=>by cases h) hD
structure AOp (ops:Array Oper)(S:World->Prop)(j g ty:Nat)(z:Array Value)(B:Nat)(L:List Nat)(D:Option Nat->World->Prop):Prop where
 hop:∃ oj,ops[j]?=some oj∧oj.guard=none∧oj.dst=some g∧oj.op=.alloc ty
 run:∀ a w (oj:Oper),oj.op=.alloc ty->(execOp (Ev a) oj).run Tryz.prog w=.ok (.value (qp w)) (w.alloc (qk z ty))
 nL:L.contains g=false
 new:∀ w,Ext w (w.alloc (qk z ty))->D none w->D (some w.heap.size) (w.alloc (qk z ty))
 low:∀ w,D none w->B<=w
 S:∀ al w,D al w->S w
theorem AOp.it (h:AOp ops S j g ty z B L D)(ho:oj.guard=none∧oj.dst=some g∧oj.op=.alloc ty)(hA:Ag L b a)(hD:D none w)(hk:∀ G a w,Ag L b a->AB g ty z B (some G) a w->D (some G) w->WD ops K S bf n (j :: is) a w)(hs:g<b.tmps.size):WDi ops K S bf n j oj is a w:=by
 have hx:Ext w (w.alloc (qk z ty)):=(aq w).alloc' _;have hm:=h.new w hx hD;refine aWp ho.1 ho.2.1 (h.run a w oj ho.2.2) (fun _=>h.S _ _ hm) (hk w _ _ (hA.put h.nL) (fun G e=>?_) hm);obtain rfl:=Option.some.inj e;exact ⟨by rw [aBe,if_pos rfl,if_pos (by rw [hA.sz];exact hs)],aw w ty z,h.low w hD⟩
theorem aJ0 {f:FuncId}{xs:Array Operand}{ats:Array TypeId}{fn:Func}{vs:Array Value}(i:Nat)(hO:AOp ops S j g ty z B L D)(hs:g<b.tmps.size)(hf:Tryz.prog.funcs[f]?=some fn)
  (hc:∀ al w,(∀ G,al=some G->B<=G∧G<w.heap.size)->D al w->Calls Tryz.prog f vs w fun e w'=>∃ v M D',e=.returned v∧Fr M w w'∧(∀ k,M k->k<B)∧D' al w'∧S w'∧WA ops K S bf j g ty z B (d :: L) D' n (i :: is) (Pt b d v))(hv:∀ a,Ag L b a->xs.map (Ev a)=vs)
  (hr:Region.ready .any ops (mkL ops.size is)=[i,j]∨Region.ready .any ops (mkL ops.size is)=[j,i]:=by first | exact .inl U | exact .inr U)(hrj:Region.ready .any ops (mkL ops.size (j :: is))=[i]:=by kernel_rfl)(hi:ops[i]?=some o:=by exact rfl)(hg:o.guard=none:=by exact rfl)(hd:o.dst=some d:=by exact rfl)(hop:o.op=Op.call { callee:=Callee.value (Operand.func f),args:=xs,argTypes:=ats }:=by exact rfl)(hn:(fn.name == "runtime.NumGoroutine")=false:=by rfl) (hb:fn.body.isNone=false:=by rfl) (hij:i ≠ j:=by decide) (hdg:d ≠ g:=by decide):WA ops K S bf j g ty z B L D (n+1) is b:=by
 have step:∀ al a w m is',Ag L b a->AB g ty z B al a w->D al w->(∀ a' w',WD ops K S bf (n+jn al) (jl j al ++ (i :: is)) a' w'->WD ops K S bf m (i :: is') a' w')->WDi ops K S bf m i o is' a w:=by
  intro al a w m is' hA hB hD hk K' hK;rw [if_pos dr];refine mF f xs ats hop fn hf hn hb vs (hv a hA) ((hc al w (fun G e=>⟨(hB G e).2.2,(hB G e).2.1.lt⟩) hD).mono ?_);rintro e w' ⟨v,M,D',rfl,hF,hM,hD',hS',hW⟩;exact ⟨v,rfl,by rw [hd];exact hK _ _ (fun _=>hS') (hk _ _ (hW.out al _ _ hA.both (hB.step hdg hF hM) hD'))⟩
 have some_:∀ G a w,Ag L b a->AB g ty z B (some G) a w->D (some G) w->WD ops K S bf (n+1) (j :: is) a w:=fun G a w hA hB hD=>aF0 i hrj hi (step (some G) a w n (j :: is) hA hB hD (fun a' w' h=>WD.swap hij h))
 obtain ⟨oj,hj,ho⟩:=hO.hop;refine ⟨fun al a w hA hB hD=>?_⟩;cases al with
 | some G=>exact some_ G a w hA hB hD
 | none =>
  have h1:=step none a w (n+1) is hA hB hD (fun a' w' h=>h);have h2:=hO.it ho (bf:=bf) hA hD some_ hs;rcases hr with hr | hr
  ·exact a0m hr hi hj h1 h2
  ·exact a0m hr hj hi h2 h1
theorem aRq (i:Nat)(hO:AOp ops S j g ty z B L D)(h:WA ops K S bf j g ty z B (d :: L) D n (i :: is) (Pt b d v))(hi:ops[i]?=some o:=by exact rfl)(hg:o.guard=none:=by exact rfl)(hd:o.dst=some d:=by exact rfl)(hy:∀ a,Ag L b a->∀ w,S w->(execOp (Ev a) o).run Tryz.prog w=.ok (.value v) w)(ht:tkB ops bf is i=true:=by kernel_rfl)(htj:tkB ops bf (j :: is) i=true:=by kernel_rfl)(hij:i ≠ j:=by decide)(hdg:d ≠ g:=by decide):WA ops K S bf j g ty z B L D (n+1) is b:=by
 refine ⟨fun al a w hA hB hD=>?_⟩;have h1:=h.out al _ _ hA.both (hB.step hdg (au (fun _=>False) w) (fun _ h=>h.elim)) hD;cases al with
 | some G=>exact aNc i d v hi hd htj hg (hy a hA) (hO.S _ w hD) (WD.swap hij h1)
 | none=>exact aNc i d v hi hd ht hg (hy a hA) (hO.S _ w hD) h1
theorem aWm (hO:AOp ops S j g ty z B L D)(hs:g<b.tmps.size)(h:∀ G a w,Ag L b a->qq a g (qp G)->Blk w G ty z->B<=G->D (some G) w->WD ops K S bf n (j :: is) a w)(hr:Region.ready .any ops (mkL ops.size is)=[j]:=by kernel_rfl):WA ops K S bf j g ty z B L D n is b:=by
 have some_:∀ G a w,Ag L b a->AB g ty z B (some G) a w->D (some G) w->WD ops K S bf n (j :: is) a w:=fun G a w hA hB hD=>by
  obtain ⟨h1,h2,h3⟩:=hB G rfl;exact h G a w hA h1 h2 h3 hD
 refine ⟨fun al a w hA hB hD=>?_⟩;cases al with
 | some G=>exact some_ G a w hA hB hD
 | none =>
  obtain ⟨oj,hj,ho⟩:=hO.hop;exact aF0 j hr hj (hO.it ho (bf:=bf) hA hD some_ hs)
end
section
variable {ops:Array Oper}{Q:Exit->Act->World->Prop}{a:Act}{w:World}
theorem lF (a0:Act)(L:List Nat)(d:Nat){v:Value}(h:∀ a',Ag L a0 a'->qq a' d v->Q .normal a' w)(hA:Ag L a0 a:=by (repeat refine .put ?_ rfl);exact .rf)(he:qq a d v:=by simp [*]):WL ops Q [] a w:=lE a0 L d h hA he
theorem lF2 (a0:Act)(L:List Nat)(d d':Nat){v v':Value}(h:∀ a',Ag L a0 a'->qq a' d v->Ev a' (.tmp d')=v'->Q .normal a' w)(hA:Ag L a0 a:=by (repeat refine .put ?_ rfl);exact .rf)(he:qq a d v:=by simp [*])(he':Ev a (.tmp d')=v':=by simp [*]):WL ops Q [] a w:=lE2 a0 L d d' h hA he he'
end
section
variable {ops:Array Oper}{K:Act->World->Prop}{S:World->Prop}{bf:Nat->Bool}{n:Nat}{is is' l:List Nat}{a:Act}{w w1:World}{o:Oper}{d i:Nat}
theorem aF1 (hr:Region.ready .any ops (mkL ops.size is)=l)(hl:l ≠ [])(h:∀ i ∈ l,∃ o,ops[i]?=some o∧WDi ops K S bf n i o is a w):WD ops K S bf (n+1) is a w:=by
 refine ⟨⟨fun h0=>(hl (hr.symm.trans h0)).elim,fun k hk=>?_⟩⟩;rw [hr] at hk;obtain ⟨o,ho,h⟩:=h k hk;have h1:=h (fun a' w'=>(bf k=true->S w')∧gI Tryz.prog .any ops (NQ K) S bf n ((mkL ops.size is).setIfInBounds k true) a' w') (fun a' w' h2 h3=>⟨h2,h3.out⟩);unfold wpOp;simp only [ho];split
 ·rename_i hw
  rw [if_pos hw] at h1;exact .inl h1
 ·rename_i hw
  rw [if_neg hw] at h1;exact h1
theorem WD.perm (h:WD ops K S bf n is' a w)(he:mkL ops.size is=mkL ops.size is':=by kernel_rfl):WD ops K S bf n is a w:=⟨he ▸ h.out⟩
theorem aWq {f:FuncId}{xs:Array Operand}{ats:Array TypeId}{fn:Func}{vs:Array Value}{R:Ending->World->Prop}(hf:Tryz.prog.funcs[f]?=some fn)(hc:qg f vs w R)(h:∀ e w',R e w'->∃ v,e=.returned v∧(bf i=true->S w')∧WD ops K S bf n (i :: is) (Pt a d v) w')(hv:xs.map (Ev a)=vs)
  (hg:o.guard=none:=by exact rfl)(hd:o.dst=some d:=by exact rfl)(hop:o.op=Op.call { callee:=Callee.value (Operand.func f),args:=xs,argTypes:=ats }:=by exact rfl)(hn:(fn.name == "runtime.NumGoroutine")=false:=by rfl) (hb:fn.body.isNone=false:=by rfl):WDi ops K S bf n i o is a w:=fun K' hK=>by
 rw [if_pos dr];refine mF f xs ats hop fn hf hn hb vs hv (hc.mono fun e w' hR=>?_);obtain ⟨v,rfl,h1,h2⟩:=h e w' hR;exact ⟨v,rfl,by rw [hd];exact hK _ _ h1 h2⟩
end
theorem a2f {ops:Array Oper}{K:Act->World->Prop}{S:World->Prop}{bf:Nat->Bool}{n:Nat}{is:List Nat}{a:Act}{w:World}{o:Oper}{d i:Nat}{s x:Operand}{t e:TypeId}{z:Value}{size bytes:Nat}(ht:Tryz.prog.underlying t=some (.slice e))(hI:(Tryz.prog.info? e).map (fun i=>(i.zero,i.size,i.bytes))=some (some z,size,bytes))
  {base k:Nat}{v:Value}{xs:List Value} (hown:w.ownsRow base e size v k xs) {T:Nat->Prop}{A:Option Addr}{m c:Nat}{news:List Value} (hsl:Sl w T size A m news) (h63:k+m<=1000000000000) (hbytes:(k+m)*bytes<=140737488355328) (hbase:base<=w) (h1:∀ u ∈ news,u.oneCell'=true)
  (h:∀ v' w',w'.ownsRow base e size v' (k+m) (xs ++ news)->Fr (fun k=>some k=v.ownBlock) w w'->(v'.ownBlock=v.ownBlock∨v'.ownBlock=some w.heap.size)->(bf i=true->S w')∧WD ops K S bf n (i :: is) (Pt a d v') w')(hs:Ev a s=v)(hx:Ev a x=.slice A m c)
  (hg:o.guard=none:=by exact rfl)(hd:o.dst=some d:=by exact rfl)(ho:o.op=.call { callee:=.builtin .append,args:=#[s,x],argTypes:=#[t,t] }:=by exact rfl)(hzs:z.cells.size=size:=by exact rfl)(hsz:0<size:=by omega):WDi ops K S bf n i o is a w:=fun K' hK=>by
 obtain ⟨i0,hi0,hz0,hz1,hz2⟩:=info_parts hI;refine dK w hg s x t ho base e i0 z size bytes ht hi0 hz0 hz1 hz2 hzs hsz v k xs hs hown T A m c news hx hsl h1 h63 hbytes hbase ?_;intro v' w' q1 q2 q3;rw [hd];exact hK _ _ (h v' w' q1 q2 q3).1 (h v' w' q1 q2 q3).2
theorem Blk.sl1 {w}{G t:Nat}{u}(h:Blk w G t #[u]):Sl w (fun _=>True) 1 (qp G) 1 [u]:=⟨rfl,fun _=>⟨G,0,rfl,trivial,fun j z hz=>by rw [Nat.zero_add];exact h.cell' j dw⟩⟩
theorem Tryz.info254:(Tryz.prog.info? 254).map (fun i=>(i.zero,i.size,i.bytes))=some (some (.agg #[qz,qz,qz]),3,24):=U
abbrev fN (r:GR)(A:Option Addr)(c:Nat)(sv:Value):List Value:=[r.val.kind,r.val.n,r.val.s,.slice A r.val.kids c,r.used,r.stop,sv]
abbrev bP (r:GR)(A:Option Addr)(c:Nat)(sv:Value):Array Value:=(fN r A c sv).toArray
abbrev eO:Array Value:=#[qz,qz,qe,qn,qz,qz,qn]
def vQ (m N:Nat)(xs:List Value):Prop:=m+1<=N∧∀ u ∈ xs,u.oneCell'=true
theorem vQ.nil (f):vQ 0 (6 ^ (f+1)) []:=⟨Nat.pos_of_ne_zero O,O⟩
theorem vQ.succ {m f xs}(h:vQ m (6 ^ f) xs):vQ m (6 ^ (f+1)) xs:=⟨by have:=h.1;rw [Nat.pow_succ];omega,h.2⟩
theorem aHc {f}(hf:f<14):6 ^ f<=30517578125:=ae (Nat.pow_le_pow_right I I:6 ^ f<=6 ^ 13) cq
theorem vQ.le {m f xs}(h:vQ m (6 ^ f) xs)(hf:f<14):m<=30517578125:=ae (Nat.le_of_succ_le h.1) (aHc hf)
theorem vQ.add {m n f xs ys}(h:vQ m (6 ^ f) xs)(k:vQ n (6 ^ f) ys):vQ (m+n) (6 ^ (f+1)) (xs ++ ys) :=
 ⟨by have:=h.1;have:=k.1;rw [Nat.pow_succ];omega,fun u hu=>(ap.1 hu).elim (h.2 u) (k.2 u)⟩
def aMp (P:Nat->Prop)(r:GR)(N:Nat)(w:World)(e:Ending)(w':World):Prop :=
 ∃ A c sv m xs,e=.returned (.agg (bP r A c sv))∧VAt w' (New P w) r.val A c∧w'.ownsRow w 254 3 sv m xs∧vQ m N xs∧Ext w w'
structure RdT (t:List GN)(path:List Int):Prop where
 good:bD t t
 small:t.length<=14
 few:∀ x ∈ t,x.kind=3->x.kids.length<=5
 path:path.length<=1000000000
def nX (t:List GN)(path:List Int)(f:Nat):Prop:=∀ (i:Nat)(at_:Int)(P:Nat->Prop)(vn vp:Value)(w:World),i<f->i<t->0<=at_->at_<=path->(∀ b,P b->b<w)->Nds w P vn t->Ints w P vp path ->
  qg 144 #[.agg #[vn],↑i,vp,↑at_] w (aMp P (bR t path f i at_) (6 ^ f) w)
theorem aM6 {w base e size A n c xs}(h:w.ownsRow base e size (.slice A n c) n xs):Sl w (fun _=>True) size A n xs:=by
 obtain ⟨A',c',e,h1,h2,h3⟩:=Sl.of_own h;injection e with e1 _ e3;subst e1 e3;exact h3 _ (fun _ _=>trivial)
theorem pB {w w' M b off u}(hf:Fr M w w')(hb:¬ M b)(h:qc w b off u):qc w' b off u:=by
 rw [<- h];exact World.cell?_of_block (w:=w) (hf.block b (aX h) hb)
theorem aI6 {n}(h:I64 n)(w P):VAt w P (.mk 0 n ByteArray.empty []) none 0 :=
 ⟨by simp [I64,GV.kind],h,by simp [GV.s],ab _,⟨dl,I⟩,⟨none,0,[],rfl,ab _,⟨dl,I⟩,⟨rfl,fun h=>absurd h dl⟩,rfl⟩⟩
theorem VAt.zero (w P):VAt w P cO none 0:=aI6 cm w P
def RB (P:Nat->Prop)(B:Nat)(r:GR)(N g:Nat)(w:World):Prop :=
 ∃ A c As m cs xs,Blk w g 154 (bP r A c (.slice As m cs))∧VAt w (fun b=>(P b∨B<=b)∧b ≠ g) r.val A c∧w.ownsRow B 254 3 (.slice As m cs) m xs∧vQ m N xs∧some g ≠ (Value.slice As m cs).ownBlock∧B<=g
section
variable {ops:Array Oper}{K:Act->World->Prop}{b:Act}{W V0:World}{P:Nat->Prop}{r:GR}{N:Nat}{vs:Array Value}{L is:List Nat}{d dc:Nat}{oi:Oper}{xs:Array Operand}{ats:Array TypeId}
theorem wY (i j s:Nat)(hW:Ext W V0)(hs:d<b.tmps.size)(hsc:dc<b.tmps.size)(hP:∀ k,P k->k<W)(hcall:∀ V,Ext W V->qg 144 vs V (aMp P r N V))(hv:∀ a,Ag L b a->xs.map (Ev a)=vs)
  (hK:∀ a' w' G,Ag L b a'->qq a' d (qp G)->RB P W r N G w'->Ext W w'->K a' w')
  (hj:∃ oj,ops[j]?=some oj∧oj.guard=none∧oj.dst=some d∧oj.op=.alloc 154:=by exact ⟨_,rfl,rfl,rfl,rfl⟩)(hi:ops[i]?=some oi:=by exact rfl)(hgi:oi.guard=none:=by exact rfl)(hdi:oi.dst=some dc:=by exact rfl)(hop:oi.op=Op.call { callee:=Callee.value (Operand.func 144),args:=xs,argTypes:=ats }:=by exact rfl)(hst:∃ os,ops[s]?=some os∧os.guard=none∧os.dst=none∧os.op=.store 154 (.tmp d) (.tmp dc):=by exact ⟨_,rfl,rfl,rfl,rfl⟩)
  (hr:Region.ready .any ops (mkL ops.size is)=[i,j]:=by kernel_rfl)(hrj:Region.ready .any ops (mkL ops.size (j :: is))=[i]:=by kernel_rfl)(hri:Region.ready .any ops (mkL ops.size (i :: is))=[j]:=by kernel_rfl)(hrs:Region.ready .any ops (mkL ops.size (j :: i :: is))=[s]:=by kernel_rfl)(hrn:Region.ready .any ops (mkL ops.size (s :: j :: i :: is))=[]:=by kernel_rfl)
  (hL:L.contains d=false:=by rfl)(hLc:L.contains dc=false:=by rfl)(hij:i ≠ j:=by decide)(hdd:dc ≠ d:=by decide):WD ops K (fun V=>Ext W V) (fun _=>true) 3 is b V0:=by
 have run:∀ a w (oj:Oper),oj.op=.alloc 154->(execOp (Ev a) oj).run Tryz.prog w=.ok (.value (qp w)) (w.alloc (qk eO 154)):=fun a w oj h=>by simp [execOp,go_sem,h];try rfl
 refine WA.go (j:=j) (g:=d) (ty:=154) (z:=eO) (B:=W.heap.size) (D:=fun _ V=>Ext W V) (L:=L) ?_ hW;refine aJ0 (xs:=xs) i ⟨hj,run,hL,fun w hx q=>q.trans' hx,fun w q=>q.size,fun _ w q=>q⟩ hs Tryz.func144 (fun al V hG q=>(hcall V q).mono ?_) hv (.inl hr) hrj hi hgi hdi hop ba ba hij hdd;rintro e V1 ⟨A,c,sv,m,ys,rfl,hval,hrow,hsp,hx⟩;obtain ⟨As,cs,rfl,-,-,-⟩:=Sl.of_own hrow;have hq:=q.size;refine ⟨_,fun _=>False,fun al V=>Ext W V∧VAt V (fun b=>(P b∨W<=b)∧al ≠ some b) r.val A c∧V.ownsRow W 254 3 (.slice As m cs) m ys∧∀ b,(Value.slice As m cs).ownBlock=some b->al ≠ some b,rfl,ar hx,fun _ h=>h.elim,⟨q.trans' hx,?_,hrow.base_le hq,?_⟩,q.trans' hx,?_⟩
 ·refine hval.carry (fun _ _ _=>rfl) (fun b hb h=>?_)
  rcases h with h | h
  ·exact ⟨.inl h,fun e=>by have:=hP b h;have:=(hG b e).1;omega⟩
  ·exact ⟨.inr I,fun e=>by have:=(hG b e).2;omega⟩
 ·intro b hb e
  have:=hrow.block_ge hb;have:=(hG b e).2;omega
 refine aWm ⟨hj,run,by rw [List.contains_cons,hL,Bool.or_false];exact a4c (fun e=>hdd e.symm),fun w hx q=>⟨q.1.trans' hx,q.2.1.carry (aB.of_ext hx) (fun b hb h=>⟨h.1,fun e=>by injection e with e;omega⟩),q.2.2.1.ext_ hx,fun b hb e=>by have:=q.2.2.1.block_lt hb;injection e with e;omega⟩,fun w q=>q.1.size,fun _ w q=>q.1⟩ (by simpa using hs) ?_ hri;intro G a' V hA e hB hG ⟨q1,q2,q3,q4⟩;obtain ⟨os,ho1,ho2,ho3,ho4⟩:=hst;have ec:=hA.get dc (v:=.agg (bP r A c (.slice As m cs))) (by simp [hsc]) O;have hf:Fr (fun k=>k=G) V (V.setCells G 0 (fN r A c (.slice As m cs))):=(au _ V).setCells _ 0 (.inl rfl);have hb:=aG (fN r A c (.slice As m cs)) (cs:=[qz,qz,qe,qn,qz,qz,qn]) 0 hB O;have hE:Ext W (V.setCells G 0 (fN r A c (.slice As m cs))):=((ar q1).trans hf).new_ext (fun b h=>by subst h;exact hG);refine d_s s hrs ho1 ho2 ho3 (w1:=V.setCells G 0 (fN r A c (.slice As m cs))) (by simp [execOp,go_sem,ho4,e,ec,hB.cell,hB.frozen];try rfl) (fun _=>hE) ?_;refine jN hrn (hK a' _ G ?_ e ⟨A,c,As,m,cs,ys,hb,q2.carry (aB.of_fr hf (fun k hk h=>hk.2 jq)) (fun k _ h=>⟨h.1,fun e=>h.2 (by rw [e])⟩),gS q3 hf (fun k hk h=>q4 k hk jq),hsp,fun e=>q4 G e.symm rfl,hG⟩ hE);have h1:Ag L b (Pt b dc (.agg (bP r A c (.slice As m cs)))):=Ag.rf.put hLc;exact h1.trans ⟨hA.sz,hA.df,fun t ht=>hA.ev t (List.mem_cons_of_mem _ ht)⟩
end
abbrev aHg (used stop:Int)(sv:Value):Array Value:=#[qz,qz,qe,qn,↑used,↑stop,sv]
def aWe (P:Nat->Prop)(B:Nat)(w:World)(sv vv:Value):Nat->Prop:=fun b=>(P b∨B<=b)∧b<w∧some b ≠ sv.ownBlock∧some b ≠ vv.ownBlock
structure PSt (P:Nat->Prop)(W:World)(g:Nat)(used:Int)(sv:Value)(m:Nat)(xs:List Value)(vv:Value)(acc:List GV)(ys:List Value)(w:World):Prop where
 gW:g<W
 notP:¬ P g
 out:Blk w g 154 (aHg used (-1) sv)
 sp:w.ownsRow W 254 3 sv m xs
 one:∀ u ∈ xs,u.oneCell'=true
 vs:w.ownsRow W 85 4 vv acc ys
 acc:RVs w (aWe P W w sv vv) acc ys
 ne:∀ b,sv.ownBlock=some b->vv.ownBlock ≠ some b
 fr:Fr (fun b=>b=g) W w
section
variable {P:Nat->Prop}{W:World}{g:Nat}{used:Int}{sv:Value}{m:Nat}{xs:List Value}{vv:Value}{acc:List GV}{ys:List Value}{w w':World}
theorem PSt.ext (h:PSt P W g used sv m xs vv acc ys w)(hx:Ext w w'):PSt P W g used sv m xs vv acc ys w' :=
 ⟨h.gW,h.notP,h.out.ext hx,h.sp.ext_ hx,h.one,h.vs.ext_ hx,RVs.carry (aB.of_ext hx) (fun b hb h=>⟨h.1,gv,h.2.2⟩) h.acc,h.ne,h.fr.trans (ar hx)⟩
theorem PSt.size (h:PSt P W g used sv m xs vv acc ys w):W.heap.size<=w:=h.fr.size
theorem PSt.set_used (h:PSt P W g used sv m xs vv acc ys w)(u):PSt P W g u sv m xs vv acc ys (w.setCell (qt g 4) (↑u)):=by
 have hb:=h.out.set_ 4 (↑u);simp only [List.setIfInBounds_toArray,List.set_cons_zero,List.set_cons_succ] at hb;refine ⟨h.gW,h.notP,hb,ownsRow_setCell_below h.sp (a:=qt g 4) h.gW _,h.one,ownsRow_setCell_below h.vs (a:=qt g 4) h.gW _,?_,h.ne,h.fr.setCell (p:=qt g 4) (.inl rfl) _⟩;refine RVs.carry (aB.set (fun _ _ _=>rfl) (p:=qt g 4) _ ?_) (fun b hb h=>⟨h.1,by simp [World.setCell];exact h.2.1,h.2.2⟩) h.acc;rintro ⟨h1 | h1,_⟩
 ·exact h.notP h1
 ·have:=h.gW;change W.heap.size<=g at h1;omega
theorem PSt.spans (h:PSt P W g used sv m xs vv acc ys w){w2 sv2 n news}(ho:w2.ownsRow W 254 3 sv2 (m+n) (xs ++ news))(hnew:∀ u ∈ news,u.oneCell'=true)
  (hf:Fr (fun k=>some k=sv.ownBlock) w w2)(hb:sv2.ownBlock=sv.ownBlock∨sv2.ownBlock=some w.heap.size) :
  PSt P W g used sv2 (m+n) (xs ++ news) vv acc ys (w2.setCell (qt g 6) sv2):=by
 have hg:=h.gW;have hsp:∀ b,sv.ownBlock=some b->W<=b∧b<w:=fun b hb=>⟨h.sp.block_ge hb,h.sp.block_lt hb⟩
 have hb0:=(h.out.fr hf (fun e=>by have:=(hsp g e.symm).1;omega)).set_ 6 sv2;simp only [List.setIfInBounds_toArray,List.set_cons_zero,List.set_cons_succ] at hb0;have hvv:∀ b,vv.ownBlock=some b->¬ some b=sv.ownBlock:=fun b hb e=>h.ne b e.symm hb
 refine ⟨h.gW,h.notP,hb0,ownsRow_setCell_below ho (a:=qt g 6) h.gW _,fun u hu=>(ap.1 hu).elim (h.one u) (hnew u),ownsRow_setCell_below (gS h.vs hf hvv) (a:=qt g 6) h.gW _,?_,?_,?_⟩
 ·refine RVs.carry (aB.set (fun b hb' hq=>hf.block b hb' (fun e=>hq.2.2.1 e)) (p:=qt g 6) _ ?_) (fun b hb' hq=>⟨hq.1,?_,?_,hq.2.2.2⟩) h.acc
  ·rintro ⟨h1 | h1,_⟩
   ·exact h.notP h1
   ·change W.heap.size<=g at h1;omega
  ·have:=hf.size;simp [World.setCell];omega
  ·rcases hb with e | e
   ·rw [e];exact hq.2.2.1
   ·rw [e];intro e';injection e' with e';omega
 ·intro b hb1 hb2
  rcases hb with e | e
  ·rw [e] at hb1;exact h.ne b hb1 hb2
  ·rw [e] at hb1;injection hb1 with hb1;have:=h.vs.block_lt hb2;omega
 ·refine (h.fr.trans_new (hf.mono (fun b hb=>.inr ?_))).setCell (p:=qt g 6) (.inl rfl) _
  exact (hsp b hb.symm).1
theorem PSt.kid (h:PSt P W g used sv m xs vv acc ys w){w2 vv2 y A c}(ho:w2.ownsRow W 85 4 vv2 (acc+1) (ys ++ cellsOf y A c))
  (hv:VAt w (aWe P W w sv vv) y A c)(hf:Fr (fun k=>some k=vv.ownBlock) w w2)(hb:vv2.ownBlock=vv.ownBlock∨vv2.ownBlock=some w.heap.size) :
  PSt P W g used sv m xs vv2 (acc ++ [y]) (ys ++ cellsOf y A c) w2:=by
 have hg:=h.gW;have hvs:∀ b,vv.ownBlock=some b->W<=b∧b<w:=fun b hb=>⟨h.vs.block_ge hb,h.vs.block_lt hb⟩
 have hsv:∀ b,sv.ownBlock=some b->¬ some b=vv.ownBlock:=fun b hb e=>h.ne b hb e.symm
 have hk:aB (aWe P W w sv vv) w w2:=fun b hb' hq=>hf.block b hb' (fun e=>hq.2.2.2 e)
 have hQ:∀ b,b<w.heap.size->aWe P W w sv vv b->aWe P W w2 sv vv2 b:=by
  intro b hb' hq;refine ⟨hq.1,by have:=hf.size;omega,hq.2.2.1,?_⟩;rcases hb with e | e
  ·rw [e];exact hq.2.2.2
  ·rw [e];intro e';injection e' with e';omega
 refine ⟨h.gW,h.notP,h.out.fr hf (fun e=>by have:=(hvs g e.symm).1;omega),gS h.sp hf hsv,h.one,ho.len_cast O rfl,RVs.append (RVs.carry hk hQ h.acc) (RVs.one (hv.carry hk hQ).rv),?_,?_⟩
 ·intro b hb1 hb2
  rcases hb with e | e
  ·rw [e] at hb2;exact h.ne b hb1 hb2
  ·rw [e] at hb2;injection hb2 with hb2;have:=h.sp.block_lt hb1;omega
 ·exact h.fr.trans_new (hf.mono (fun b hb=>.inr (hvs b hb.symm).1))
end
theorem aJ5 {m k n N}(h1:m<=k*N)(h2:n+1<=N):m+1+n<=(k+1)*N:=by rw [Nat.add_mul];omega
theorem aRv {m k N}(h1:m<=k*N)(hk:k<=5)(hN:N<=30517578125):m<=152587890625:=by
 have h2:k*N<=5*30517578125:=Nat.mul_le_mul hk hN;omega
theorem aGu {m k f}(h1:m<=k*6 ^ f)(hk:k<=5):m+1<=6 ^ (f+1):=by
 have h2:k*6 ^ f<=5*6 ^ f:=Nat.mul_le_mul_right _ hk;have h3:0<6 ^ f:=Nat.pos_of_ne_zero O;rw [Nat.pow_succ];omega
theorem nw (w:World)(ty cs):Blk (w.alloc (qk cs ty)) w ty cs∧Ext w (w.alloc (qk cs ty))∧w.heap.size<(w.alloc (qk cs ty)):=⟨aw w ty cs,(aq w).alloc' _,O⟩
noncomputable def qA:=RG Tryz.f183
noncomputable abbrev a2k:Code:=.seq (qA 0) (.seq (qA 1) (.seq (qA 2) (.seq (.seq (qA 3) (.block 0 (.loop (.seq (.seq (qA 4) (.cond (.tmp 18) .skip (.exit 0))) (.seq (.block 1 (.seq (qA 6) (.seq (qA 7) (.seq (qA 8) (.seq (qA 9) (.seq (qA 10) (.seq (qA 11) (.cond (.tmp 70) (.seq (qA 12) (.seq (qA 13) .ret)) .skip)))))))) (qA 5)))))) (.seq (qA 14) (.seq (qA 15) .ret)))))
theorem a29:Tryz.f183.body=some a2k:=U
def aZq (t:List GN)(path:List Int)(f:Nat)(x:GN)(at_:Int)(P:Nat->Prop)(W:World)(g:Nat)(a0:Act)(k:Nat)(a:Act)(w:World):Prop :=
 ∃ (used:Int) (acc:List GV) (sv vv:Value) (m:Nat) (xs ys:List Value),Ag [2,3,4,5,8,9] a0 a∧qq a 10 vv∧qq a 11 (k:Int)∧k<=x.kids∧PSt P W g used sv m xs vv acc ys w∧m<=k*6 ^ f∧acc=k∧0<=used∧at_+used<=path ∧
  bO (bR t path f) x.name at_ 0 [] x.kids=bO (bR t path f) x.name at_ used acc (x.kids.drop k)
section
variable {t:List GN}{path:List Int}{f i:Nat}{at_:Int}{P:Nat->Prop}{vn vp:Value}{w W:World}{x:GN}{na:NA}{a0:Act}{g4 g5 g8 g:Nat}{Q:Exit->Act->World->Prop}
structure aZr (vn vp:Value)(x:GN)(na:NA)(at_:Int)(w W:World)(g4 g5 g8 g:Nat)(a0:Act):Prop where
 sz:a0.tmps.size=80
 df:a0.defers=[]
 e2:qq a0 2 vp
 e3:qq a0 3 at_
 e4:qq a0 4 (qp g4)
 e5:qq a0 5 (qp g5)
 e8:qq a0 8 (qp g8)
 e9:qq a0 9 (qp g)
 tree:Blk W g4 25 #[vn]
 box:Blk W g5 87 (aK x na).toArray
 res:Blk W g8 154 eO
 ext:Ext w W
 lo:w<=g4∧g4<g∧w<=g5∧g5<g∧w<=g8∧g8<g∧g<W
theorem aAb (hE:aZr vn vp x na at_ w W g4 g5 g8 g a0){a wr r A c m N sv xs}(hu:Ag [8] a0 a)(hF:Fr (fun b=>b=g) W wr)(hv:VAt wr (fun b=>(P b∨W<=b)∧b ≠ g8) r.val A c)(hrow:wr.ownsRow W 254 3 sv m xs)(hsp:vQ m N xs)
  (hQ:∀ (a':Act)(w':World)(v:Value),a'.defers=[]->(results Tryz.f183 a'.tmps).run Tryz.prog w'=.ok v w'->aMp P r N w (.returned v) w'->Q .ret a' w'):Q .ret a (wr.setCells g8 0 (fN r A c sv)):=by
 have hl:=hE.lo;have hf:Fr (fun k=>k=g8) wr (wr.setCells g8 0 (fN r A c sv)):=(au _ wr).setCells _ 0 (.inl rfl);have hb:=aG (fN r A c sv) (cs:=[qz,qz,qe,qn,qz,qz,qn]) 0 (hE.res.fr hF I) O;have hX:Ext w (wr.setCells g8 0 (fN r A c sv)):=(((ar hE.ext).trans (hF.mono (N:=fun k=>w.heap.size<=k) (fun k hk=>by omega))).trans (hf.mono (fun k hk=>by omega))).new_ext (fun _ h=>h);have e8:=hu.get 8 hE.e8;have q0:=hb.cell' (u:=↑r.val.kind) 0 rfl;have q1:=hb.cell' (u:=↑r.val.n) 1 rfl;have q2:=hb.cell' (u:=r.val.s) 2 rfl;have q3:=hb.cell' (u:=.slice A r.val.kids c) 3 rfl;have q4:=hb.cell' (u:=↑r.used) 4 rfl;have q5:=hb.cell' (u:=↑r.stop) 5 rfl;have q6:=hb.cell' (u:=sv) 6 rfl;have hs:=hE.ext.size;exact hQ a _ (.agg (bP r A c sv)) (hu.df.trans hE.df) (by simp [results,Tryz.results183,go_sem,evT e8,q0,q1,q2,q3,q4,q5,q6]) ⟨A,c,sv,m,xs,rfl,hv.carry (aB.of_fr hf (fun k hk h=>hk.2 h)) (fun k _ h=>h.1.imp id (fun h=>by omega)),(gS hrow hf (fun k hk h=>by have:=hrow.block_ge hk;omega)).base_le hs,hsp,hX⟩
theorem aB6 {k a wr}(hS:nX t path f)(hR:∀ (z:Nat)(k:Int),z<f->z<t->0<=k->k<=path->pQ t path z k (bR t path f z k))(hkids:∀ z ∈ x.kids,0<=z∧z<(i:Int))(hif:i<f+1)(hi:i<t)(hfew:x.kids.length<=5)(hf14:f<14)(h0:0<=at_)(h1:at_<=path)(hpl:path.length<=1000000000)(hP:∀ b,P b->b<w)(ht:Nds w P vn t)(hx:NAt w P x na)(hvp:Ints w P vp path)
  (hE:aZr vn vp x na at_ w W g4 g5 g8 g a0)(hI:aZq t path f x at_ P W g a0 k a wr)(hk:k<x.kids)(hnext:∀ a' w',aZq t path f x at_ P W g a0 (k+1) a' w'->Q .normal a' w')
  (hQ:∀ (a':Act)(w':World)(v:Value),a'.defers=[]->(results Tryz.f183 a'.tmps).run Tryz.prog w'=.ok v w'->aMp P (bO (bR t path f) x.name at_ 0 [] x.kids) (6 ^ (f+1)) w (.returned v) w'->Q .ret a' w') :
  qw (.seq (.block 1 (.seq (qA 6) (.seq (qA 7) (.seq (qA 8) (.seq (qA 9) (.seq (qA 10) (.seq (qA 11) (.cond (.tmp 70) (.seq (qA 12) (.seq (qA 13) .ret)) .skip)))))))) (qA 5)) Q a wr:=by
 obtain ⟨used,acc,sv,vv,m,xs,ys,u,e10,e11,hkl,hps,hm,hacc,hu0,hu1,hrp⟩:=hI;have sz:=u.sz.trans hE.sz;have e2:=u.get 2 hE.e2;have e3:=u.get 3 hE.e3;have e4:=u.get 4 hE.e4;have e5:=u.get 5 hE.e5;have e9:=u.get 9 hE.e9;have hl:=hE.lo;have hWr:=hps.size;have hws:=hE.ext.size;have hmb:=aRv hm I (aHc hf14);obtain ⟨As,cs,rfl,-,-,-⟩:=Sl.of_own hps.sp;obtain ⟨Av,cv,rfl,-,-,-⟩:=Sl.of_own hps.vs;have hX:Ext w wr:=((ar hE.ext).trans (hps.fr.mono (N:=fun k=>w.heap.size<=k) (fun k hk=>by omega))).new_ext (fun _ h=>h);have hsX:=hX.size;obtain ⟨bk,ok,ek,-,-,gk⟩:=(hx.kids.ext hX).get hk;have hz:=hkids _ (aD (d:=0) hk);have hD:=hrp.trans (by rw [aH 0 hk,bO]);obtain ⟨zn,hzn⟩:∃ zn:Nat,x.kids.getD k 0=(zn:Int):=⟨(x.kids.getD k 0).toNat,I⟩;rw [hzn] at gk hz hD;have r0:∀ V,Ext wr V->qc V g4 0 vn∧qc V g5 7 (.slice (qt bk ok) x.kids na.kc)∧qc V bk (ok+k) zn∧qc V g 4 used:=fun V h=>⟨aA h ((hE.tree.fr hps.fr I).cell' 0 rfl),aA h ((hE.box.fr hps.fr I).cell' 7 (by rw [<- ek];rfl)),aA h gk,aA h (hps.out.cell' 4 rfl)⟩
 have hro:=hR zn (at_+used) I I I I;have hcall:∀ V,Ext wr V->qg 144 #[.agg #[vn],↑zn,vp,.int .i64 (at_+used)] V (aMp P (bR t path f zn (at_+used)) (6 ^ f) V):=fun V h=>hS zn (at_+used) P vn vp V I I I I (fun b hb=>by have:=hP b hb;have:=h.size;omega) (ht.ext (hX.trans' h)) (hvp.ext (hX.trans' h))
 have hwrp:-9223372036854775808<=at_+used∧at_+used<=9223372036854775807:=I;have hkn:(k:Int)<(x.kids:Int):=I;refine wp_seq (wp_block (wp_seq ?_));have hx0:Ext wr wr.drew:=(aq wr).drew';refine rD (fun V=>Ext wr V) (fun _=>true) 14 ?_;generalize wr.drew=V0 at *;refine dt 3 [0,1,2,3,4,5,6,7,8,9,10] (hS:=hx0) ?_;clear ek;iterate 4 refine tv ?_ (hy:=by (intro w hw;obtain ⟨q0,q1,q2,q3⟩:=r0 w hw;simp [execOp,go_sem, *];try rfl))
 refine tv ?_ (v:=qt bk (ok+k)) (hy:=by (intro w hw;simp [execOp,go_sem, *];try rfl));iterate 5 refine tv ?_ (hy:=by (intro w hw;obtain ⟨q0,q1,q2,q3⟩:=r0 w hw;simp [execOp,go_sem, *];try rfl))
 refine tv ?_ (v:=.int .i64 (at_+used)) (hy:=by (intro w hw;simp [execOp,go_sem, *];exact wrI hwrp.1 hwrp.2));refine t_e (wY (d:=12) (dc:=32) (xs:=#[.tmp 21,.tmp 26,.tmp 27,.tmp 31]) (L:=[2,3,4,5,8,9,10,11,21,26,27,31]) 11 12 13 hx0 ci ci (fun q hq=>by have:=hP q hq;omega) hcall (fun b h=>by simp [h.get 21 (v:=.agg #[vn]) ci,h.get 26 (v:=↑zn) ci,h.get 27 (v:=vp) (by simp [sz,e2]),h.get 31 (v:=.int .i64 (at_+used)) ci]) ?_);intro a6 w6 gb u6' e12 hRB hx6;have u6:Ag [2,3,4,5,8,9,10,11] a a6:=(by (repeat refine .put ?_ rfl);exact .rf:Ag [2,3,4,5,8,9,10,11] a _).trans (u6'.mono rfl);clear u6' hcall;refine u6.b4 sz e3 e9 e10 e11 fun sz e3 e9 e10 e11=>?_
 generalize bR t path f zn (at_+used)=rb at *;obtain ⟨A,c,Ab,mb,cb,xb,hB,hv,hrow,hsp,hng,hgb⟩:=hRB;have hb0:=hro.used0;have hbP:=hro.usedP;have hgl:=hB.lt;have hmr:=hsp.le hf14;have hso:∀ q,some q=(Value.slice As m cs).ownBlock->W<=q∧q<wr:=fun q h=>⟨hps.sp.block_ge h.symm,hps.sp.block_lt h.symm⟩
 have hvo:∀ q,some q=(Value.slice Av acc cv).ownBlock->W<=q∧q<wr:=fun q h=>⟨hps.vs.block_ge h.symm,hps.vs.block_lt h.symm⟩
 have hP6:=hps.ext hx6;have hvU:VAt w6 (fun b=>(P b∨wr<=b)∧b ≠ gb∧b<w6) rb.val A c:=hv.carry (fun _ _ _=>rfl) (fun b hb h=>⟨h.1,h.2,hb⟩);have hrl:∀ q,(Value.slice Ab mb cb).ownBlock=some q->wr<=q∧q<w6∧q ≠ gb:=fun q h=>⟨hrow.block_ge h,hrow.block_lt h,fun e=>hng (by rw [h,e])⟩
 have keepU:∀ {V V':World}{M:Nat->Prop},Fr M V V'->(∀ q,M q->q=g∨(W<=q∧q<wr)∨w6<=q)->w6.heap.size<=V->(VAt V (fun b=>(P b∨wr<=b)∧b ≠ gb∧b<w6) rb.val A c->VAt V' (fun b=>(P b∨wr<=b)∧b ≠ gb∧b<w6) rb.val A c)∧(Blk V gb 154 (bP rb A c (.slice Ab mb cb))->Blk V' gb 154 (bP rb A c (.slice Ab mb cb)))∧(V.ownsRow wr 254 3 (.slice Ab mb cb) mb xb->V'.ownsRow wr 254 3 (.slice Ab mb cb) mb xb):=fun hF hM hV=>⟨fun h=>h.carry (aB.of_fr hF (fun q hq hm=>by
   have:=hM q hm;rcases hq.1 with h | h
   ·have:=hP q h;omega
   ·omega)) (fun _ _ h=>h),fun h=>h.fr hF (fun hm=>by have:=hM _ hm;omega),fun h=>gS h hF (fun q hq hm=>by have:=hM q hm;have:=hrl q hq;omega)⟩
 refine rS ?_;have o4:=hP6.out.cell' (u:=↑used) 4 rfl;have o6:=hP6.out.cell' (u:=.slice As m cs) 6 rfl;have k4:=hB.cell' (u:=↑rb.used) 4 rfl;iterate 14 refine lv ?_
 refine lv (w1:=w6) (v:=.agg #[↑at_,.int .i64 (at_+used),.int .i64 (at_+used+rb.used)]) ?_ (hrun:=by simp [execOp,go_sem, *];try simp (disch:=omega) only [wrI]);have xA:Ext w6 (w6.alloc (qk #[↑at_,.int .i64 (at_+used),.int .i64 (at_+used+rb.used)] 254)):=(aq w6).alloc' _;refine lv (w1:=w6.alloc (qk #[↑at_,.int .i64 (at_+used),.int .i64 (at_+used+rb.used)] 254)) (v:=.slice (qp w6) 1 1) ?_ (hrun:=by simp [execOp,go_sem, *];try rfl);have hPA:=hP6.ext xA;have sA:=xA.size;refine la Tryz.underlying152 Tryz.info254 hPA.sp (T:=fun _=>True) (Sl.new w6 _ _ 1 3 rfl) I I I cd ?_;intro v7 w7 ho7 hf7 hb7;obtain ⟨A7,c7,rfl,-,-,-⟩:=Sl.of_own ho7;have hg7:=(hPA.out.fr hf7 (fun e=>by have:=hso _ e;omega));have p6:=hg7.cell' (u:=.slice As m cs) 6 rfl;have fp6:=hg7.frozen 6;have hP7:=hPA.spans ho7 cd hf7 hb7;have hF7:=((ar (M:=fun k=>some k=(Value.slice As m cs).ownBlock∨k=g) xA).trans (hf7.mono fun _ h=>.inl h)).setCell (p:=qt g 6) (.inl (.inr rfl)) (.slice A7 (m+1) c7);obtain ⟨y1,y2,y3⟩:=keepU hF7 (fun q h=>h.elim (fun h=>.inr (.inl (hso q h))) .inl) (ab _);have hv7:=y1 hvU;have hB7:=y2 hB;have hrow7:=y3 hrow;have hs7:=hF7.size
 have ho7':∀ q,some q=(Value.slice A7 (m+1) c7).ownBlock->(W<=q∧q<wr)∨w6<=q:=fun q h=>by
  rcases hb7 with e | e
  ·rw [e] at h;exact .inl (hso q h)
  ·rw [e] at h;injection h with h;omega
 refine lv ?_;refine ls (w1:=w7.setCell (qt g 6) (.slice A7 (m+1) c7)) ?_ (hrun:=by simp [execOp,go_sem, *];try rfl);clear y1 y2 y3 hF7 hf7 ho7 hb7 hg7 p6 fp6 o4 o6 k4 hPA hP6 hB hv hvU hrow;generalize w7.setCell (qt g 6) (.slice A7 (m+1) c7)=w8 at *;refine lN a6 [2,3,4,5,8,9,10,11,12] ?_;intro a8 u8;refine u8.b5 sz e3 e9 e10 e11 e12 fun sz e3 e9 e10 e11 e12=>?_
 refine rS ?_;have o6:=hP7.out.cell' (u:=.slice A7 (m+1) c7) 6 rfl;have k6:=hB7.cell' (u:=.slice Ab mb cb) 6 rfl;iterate 4 refine lv ?_
 refine la Tryz.underlying152 Tryz.info254 hP7.sp (T:=fun _=>True) (aM6 hrow7) I I I hsp.2 ?_;intro v9 w9 ho9 hf9 hb9;obtain ⟨A9,c9,rfl,-,-,-⟩:=Sl.of_own ho9;have hg9:=(hP7.out.fr hf9 (fun e=>by have:=hP7.sp.block_ge e.symm;omega));have p6:=hg9.cell' (u:=.slice A7 (m+1) c7) 6 rfl;have fp6:=hg9.frozen 6;have hP9:=hP7.spans ho9 hsp.2 hf9 hb9;have hF9:=(hf9.mono (N:=fun k=>some k=(Value.slice A7 (m+1) c7).ownBlock∨k=g) fun _ h=>.inl h).setCell (p:=qt g 6) (.inl (.inr rfl)) (.slice A9 (m+1+mb) c9);obtain ⟨y1,y2,y3⟩:=keepU hF9 (fun q h=>h.elim (fun h=>.inr (ho7' q h)) .inl) hs7;have hv9:=y1 hv7;have hB9:=y2 hB7;have hs9:=hF9.size
 have ho9':∀ q,some q=(Value.slice A9 (m+1+mb) c9).ownBlock->(W<=q∧q<wr)∨w6<=q:=fun q h=>by
  rcases hb9 with e | e
  ·rw [e] at h;exact ho7' q h
  ·rw [e] at h;injection h with h;omega
 refine lv ?_;refine ls (w1:=w9.setCell (qt g 6) (.slice A9 (m+1+mb) c9)) ?_ (hrun:=by simp [execOp,go_sem, *];try rfl);clear y1 y2 y3 hF9 hf9 ho9 hb9 hg9 p6 fp6 o6 k6 hB7 hv7 hrow7;generalize w9.setCell (qt g 6) (.slice A9 (m+1+mb) c9)=w10 at *;refine lN a8 [2,3,4,5,8,9,10,11,12] ?_;intro a10 u10;refine u10.b5 sz e3 e9 e10 e11 e12 fun sz e3 e9 e10 e11 e12=>?_
 refine rS ?_;have o4:=hP9.out.cell' (u:=↑used) 4 rfl;have fo4:=hP9.out.frozen 4;have k4:=hB9.cell' (u:=↑rb.used) 4 rfl;iterate 4 refine lv ?_
 refine lv (w1:=w10) (v:=.int .i64 (used+rb.used)) ?_ (hrun:=by simp [execOp,go_sem, *];try simp (disch:=omega) only [wrI]);refine lv ?_;refine ls (w1:=w10.setCell (qt g 4) (.int .i64 (used+rb.used))) ?_ (hrun:=by simp [execOp,go_sem, *];try rfl);have hP11:=hP9.set_used (used+rb.used);have hF11:Fr (fun k=>k=g) w10 (w10.setCell (qt g 4) (.int .i64 (used+rb.used))):=(au (fun k=>k=g) w10).setCell (p:=qt g 4) (.inl rfl) _;obtain ⟨y1,y2,-⟩:=keepU hF11 (fun q h=>.inl h) (ae hs7 hs9);have hv11:=y1 hv9;have hB11:=y2 hB9;have hs11:=hF11.size;clear y1 y2 hF11 o4 fo4 k4 hP9 hB9 hv9;generalize w10.setCell (qt g 4) (.int .i64 (used+rb.used))=w11 at *;refine lN a10 [2,3,4,5,8,9,10,11,12] ?_;intro a11 u11;refine u11.b5 sz e3 e9 e10 e11 e12 fun sz e3 e9 e10 e11 e12=>?_
 refine rS ?_;have k0:=hB11.cell' (u:=↑rb.val.kind) 0 rfl;have k1:=hB11.cell' (u:=↑rb.val.n) 1 rfl;have k2:=hB11.cell' (u:=rb.val.s) 2 rfl;have k3:=hB11.cell' (u:=.slice A rb.val.kids c) 3 rfl;iterate 2 refine lv ?_
 refine lv (v:=dA rb.val A c) ?_ (hrun:=by simp [execOp,go_sem, *];try rfl);have xC:Ext w11 (w11.alloc (qk (cellsOf rb.val A c).toArray 85)):=(aq w11).alloc' _;have sC:=xC.size;refine lv (w1:=w11.alloc (qk (cellsOf rb.val A c).toArray 85)) (v:=.slice (qp w11) 1 1) ?_ (hrun:=by simp [execOp,go_sem,cellsOf, *];try rfl);have hPC:=hP11.ext xC;refine la Tryz.underlying83 Tryz.info85 hPC.vs (T:=fun _=>True) (Sl.new w11 _ _ 1 4 rfl) I I I (by simp [cellsOf,Value.oneCell']) ?_;intro v12 w12 ho12 hf12 hb12
 have hP12:=hPC.kid (y:=rb.val) (A:=A) (c:=c) ho12 ((hv11.carry (aB.of_ext xC) (fun _ _ h=>h)).carry (fun _ _ _=>rfl) (fun b hb h=>⟨h.1.imp id (fun h=>by omega),hb,fun e=>by
  have:=ho9' b e;rcases h.1 with h' | h'
  ·have:=hP b h';omega
  ·omega,fun e=>by
  have:=hvo b e;rcases h.1 with h' | h'
  ·have:=hP b h';omega
  ·omega⟩)) hf12 hb12
 have hB12:=(hB11.ext xC).fr hf12 (fun e=>by have:=hvo _ e;omega);obtain ⟨A12,c12,rfl,-,-,-⟩:=Sl.of_own ho12;refine lv ?_;refine lE a11 [2,3,4,5,8,9,11,12] 10 ?_;clear e10;intro a12 u12 e10;refine u12.b4 sz e3 e9 e11 e12 fun sz e3 e9 e11 e12=>?_
 have k5:=hB12.cell' (u:=↑rb.stop) 5 rfl;clear k0 k1 k2 k3;refine rS ?_;iterate 2 refine lv ?_
 refine lv ?_;refine lF a12 [2,3,4,5,8,9,10,11,12] 70 (v:=(decide (rb.stop ≠ -1))) ?_ (he:=by simp [*];try rfl);intro a13 u13 e70;refine u13.b5 sz e3 e9 e10 e11 e12 fun sz e3 e9 e10 e11 e12=>?_
 have uF:Ag [2,3,4,5,8,9] a0 a13:=(((u.trans (u6.mono rfl)).trans (u8.mono rfl)).trans (u10.mono rfl)).trans (((u11.mono rfl).trans (u12.mono rfl)).trans (u13.mono rfl));have hmN:m+1+mb<=(k+1)*6 ^ f:=aJ5 hm hsp.1;by_cases hst:rb.stop=-1
 ·refine wp_cond_false (e70.trans (by simp [hst])) (wp_skip (rW ?_))
  iterate 2 refine lv ?_
  refine lv (w1:=w12) (v:=.int .i64 ((k+1:Nat):Int)) ?_ (hrun:=by simp [execOp,go_sem, *];try simp (disch:=omega) only [wrI];try rfl);refine lF a13 [2,3,4,5,8,9,10] 11 (v:=.int .i64 ((k+1:Nat):Int)) ?_;intro a14 u14 e11';rw [if_pos hst] at hD;exact hnext a14 w12 ⟨used+rb.used,acc ++ [rb.val],_,_,_,_,_,uF.trans (u14.mono rfl),(u14.get 10 e10).trans (by rw [hacc]),e11',hk,hP12,hmN,by simp [hacc],I,I,hD⟩
 ·refine wp_cond_true (e70.trans (by simp [hst])) (rS ?_)
  rw [if_neg hst] at hD;have g5':=hP12.out.frozen 5;have c5:=hP12.out.cell' (u:=.int .i64 (-1)) 5 rfl;iterate 3 refine lv ?_
  refine ls (w1:=w12.setCell (qt g 5) (↑rb.stop)) ?_ (hrun:=by simp [execOp,go_sem, *];try rfl);have hO13:Blk (w12.setCell (qt g 5) (↑rb.stop)) g 154 (aHg (used+rb.used) rb.stop (.slice A9 (m+1+mb) c9)):=by simpa using hP12.out.set_ 5 (↑rb.stop)
  have hF13:=hP12.fr.setCell (p:=qt g 5) (.inl rfl) (↑rb.stop);have hr13:=ownsRow_setCell_below hP12.sp (a:=qt g 5) hP12.gW (↑rb.stop);have hone:=hP12.one;generalize w12.setCell (qt g 5) (↑rb.stop)=w13 at *;refine lN a13 [8,9] ?_;intro a14 u14;refine u14.b1 sz e9 fun sz e9=>?_
  have uG:=uF.mono (l':=[8]) rfl |>.trans (u14.mono rfl);have e8:=uG.get 8 hE.e8;have q0:=hO13.cell' (u:=qz) 0 rfl;have q1:=hO13.cell' (u:=qz) 1 rfl;have q2:=hO13.cell' (u:=qe) 2 rfl;have q3:=hO13.cell' (u:=qn) 3 rfl;have q4:=hO13.cell' (u:=.int .i64 (used+rb.used)) 4 rfl;have q5:=hO13.cell' (u:=↑rb.stop) 5 rfl;have q6:=hO13.cell' (u:=.slice A9 (m+1+mb) c9) 6 rfl;have hres:=hE.res.fr hF13 I;refine rS ?_;refine lv (w1:=w13) (v:=.agg (bP ⟨cO,used+rb.used,rb.stop⟩ none 0 (.slice A9 (m+1+mb) c9))) ?_ (hrun:=by simp [execOp,go_sem,cO,GV.kind,GV.n,GV.s,GV.kids, *];try rfl);refine ls (w1:=w13.setCells g8 0 (fN ⟨cO,used+rb.used,rb.stop⟩ none 0 (.slice A9 (m+1+mb) c9))) ?_ (hrun:=by simp [execOp,go_sem,hres.cell,hres.frozen, *];try rfl);refine lN a14 [8] ?_;intro a15 u15;refine wp_ret (aAb hE (uG.trans u15) hF13 (VAt.zero _ _) hr13 ⟨?_,hone⟩ (fun a' w' v q1 q2 q3=>hQ a' w' v q1 q2 (by rw [hD];exact q3)));have hk5:k+1<=5:=by omega
  exact aGu (k:=k+1) hmN hk5
theorem aHe (hS:nX t path f)(hR:∀ (z:Nat)(k:Int),z<f->z<t->0<=k->k<=path->pQ t path z k (bR t path f z k))(hkids:∀ z ∈ x.kids,0<=z∧z<(i:Int))(hif:i<f+1)(hi:i<t)(hfew:x.kids.length<=5)(hf14:f<14)(h0:0<=at_)(h1:at_<=path)(hpl:path.length<=1000000000)(hP:∀ b,P b->b<w)(ht:Nds w P vn t)(hx:NAt w P x na)(hvp:Ints w P vp path) :
  qg 183 #[.agg #[vn],fU x na,vp,↑at_] w (aMp P (bO (bR t path f) x.name at_ 0 [] x.kids) (6 ^ (f+1)) w):=by
 refine bW Tryz.func183 a29 rfl O (fun a Q sz df ea hQ=>?_);have e2:=ea 2 vp rfl;have e3:=ea 3 (↑at_) rfl;refine rS ?_;refine lv (w1:=w.alloc (qk #[vn] 25)) (v:=qp w) ?_ (hrun:=by simp [execOp,go_sem, *];try rfl);obtain ⟨b1,x1,n1⟩:=nw w 25 #[vn];generalize w.alloc (qk #[vn] 25)=w1 at *;refine lv (w1:=w1.alloc (qk (aK x na).toArray 87)) (v:=qp w1) ?_ (hrun:=by simp [execOp,go_sem,fU,aK, *];try rfl);obtain ⟨b2,x2,n2⟩:=nw w1 87 (aK x na).toArray;generalize w1.alloc (qk (aK x na).toArray 87)=w2 at *;refine lv (w1:=w2.alloc (qk eO 154)) (v:=qp w2) ?_ (hrun:=by simp [execOp,go_sem, *];try rfl);obtain ⟨b3,x3,n3⟩:=nw w2 154 eO;generalize w2.alloc (qk eO 154)=w3 at *;refine lE3 a [2,3] 4 5 8 ?_;intro a1 u1 e4 e5 e8;refine u1.c2 sz df e2 e3 fun sz df e2 e3=>?_
 refine rS ?_;refine lv (w1:=w3) (v:=.agg (aHg 0 (-1) qn)) ?_ (hrun:=by simp [execOp,go_sem, *];try rfl);refine lv (w1:=w3.alloc (qk eO 154)) (v:=qp w3) ?_ (hrun:=by simp [execOp,go_sem, *];try rfl);obtain ⟨b4,x4,n4⟩:=nw w3 154 eO;generalize w3.alloc (qk eO 154)=w4 at *;refine ls (w1:=w4.setCells w3 0 [qz,qz,qe,qn,qz,.int .i64 (-1),qn]) ?_ (hrun:=by simp [execOp,go_sem,b4.cell,b4.frozen, *];try rfl);have b5:=aG [qz,qz,qe,qn,qz,.int .i64 (-1),qn] (cs:=[qz,qz,qe,qn,qz,qz,qn]) 0 b4 O;have f5:Fr (fun k=>k=w3.heap.size) w4 (w4.setCells w3 0 [qz,qz,qe,qn,qz,.int .i64 (-1),qn]):=(au _ w4).setCells _ 0 (.inl rfl);generalize w4.setCells w3 0 [qz,qz,qe,qn,qz,.int .i64 (-1),qn]=W at *;refine lE a1 [2,3,4,5,8] 9 ?_;intro a0 u0 e9;refine u0.c5 sz df e2 e3 e4 e5 e8 fun sz df e2 e3 e4 e5 e8=>?_
 have hn5:=f5.size;have hE:aZr vn vp x na at_ w W w w1 w2 w3 a0:=⟨sz,df,e2,e3,e4,e5,e8,e9,(((b1.ext x2).ext x3).ext x4).fr f5 I,((b2.ext x3).ext x4).fr f5 I,(b3.ext x4).fr f5 I,((ar ((x1.trans' x2).trans' (x3.trans' x4))).trans f5).new_ext (fun k hk=>by omega),I⟩;refine rS ?_;refine lv ?_;refine lE a0 [2,3,4,5,8,9] 10 ?_;intro a2 u2 e10;refine u2.c0 sz df fun sz df=>?_
 refine wp_seq (rS ?_);refine lv ?_;refine lE a2 [2,3,4,5,8,9,10] 11 ?_;intro a3 u3 e11;refine wp_block (wp_loop (fun a' V=>∃ k,aZq t path f x at_ P W w3 a0 k a' V) (fun a' _=>(x.kids.length - (intOf (Ev a' (.tmp 11))).toNat)) ⟨0,0,[],↑qn,↑qn,0,[],[],u2.trans (u3.mono rfl),u3.get 10 e10,e11,af _,⟨I,fun h=>by have:=hP _ h;omega,b5,aP _ _ _ _,O,aP _ _ _ _,rfl,fun b h=>by simp [Value.ownBlock] at h,au _ _⟩,O,rfl,Int.le_refl _,I,rfl⟩ ?_);clear u2 u3 e10 e11 b1 b2 b3 b4 b5 x1 x2 x3 x4 f5 u0 u1 ea sz df e2 e3 e4 e5 e8 e9;rintro a4 V ⟨k,hI⟩;obtain ⟨used,acc,sv,vv,m,xs,ys,u,e10,e11,hkl,hps,hm,hacc,hu0,hu1,hrp⟩:=hI;have sz:=u.sz.trans hE.sz;have e5:=u.get 5 hE.e5;have e9:=u.get 9 hE.e9;have m11:=e11;have c7:=(hE.box.fr hps.fr I).cell' (u:=.slice na.kA x.kids na.kc) 7 rfl;refine wp_seq (rS ?_);iterate 5 refine lv ?_
 refine lE a4 [2,3,4,5,8,9,10,11] 18 ?_;intro a6 u6 e18;have uu:=u.trans (u6.mono (l':=[2,3,4,5,8,9]) rfl);by_cases hlt:k<x.kids
 ·refine wp_cond_true (e18.trans dm) (wp_skip (aB6 hS hR hkids hif hi hfew hf14 h0 h1 hpl hP ht hx hvp hE ⟨used,acc,sv,vv,m,xs,ys,uu,u6.get 10 e10,u6.get 11 e11,hkl,hps,hm,hacc,hu0,hu1,hrp⟩ hlt (fun a' w' h=>⟨⟨k+1,h⟩,?_⟩) hQ))
  obtain ⟨-,-,-,-,-,-,-,-,-,e,-⟩:=h;rw [e,m11];simp only [intOf];omega
 ·refine wp_cond_false (e18.trans dm) (wp_exit (rS ?_))
  have hend:bO (bR t path f) x.name at_ 0 [] x.kids=⟨bX x.name acc,used,-1⟩:=by rw [hrp,drop_nil I,bO]
  have uG:=uu.mono (l':=[8]) rfl;refine u6.b3 sz e5 e9 e10 fun sz e5 e9 e10=>?_
  obtain ⟨As,cs,rfl,-,-,-⟩:=Sl.of_own hps.sp;obtain ⟨Av,cv,rfl,-,-,-⟩:=Sl.of_own hps.vs;have hvl:bT V (fun b=>P b∨W<=b) (.slice Av acc cv) acc:=bT.of_own hps.vs (RVs.carry (fun _ _ _=>rfl) (fun b _ h=>h.1) hps.acc) I (fun b hb=>.inr (hps.vs.block_ge hb));have hva:=VAt.made hx.name hvl;have hbx:=hE.box.fr hps.fr I;refine lv (v:=fU x na) (w1:=V) ?_ (hrun:=by simp [execOp,go_sem,hbx.cell,aK,fU, *];try rfl);refine lv ?_;refine lc Tryz.func204 (rL x na acc Av cv V) ?_;rintro e w5 ⟨rfl,hx5⟩;refine ⟨_,rfl,?_⟩;have hP5:=hps.ext hx5;have hb5:=hP5.out;have hv5:=hva.carry (Q:=fun b=>P b∨W<=b) (aB.of_ext hx5) (fun _ _ h=>h);generalize bX x.name acc=mv at *;refine lv ?_;refine ls (w1:=w5.setCells w3 0 (cellsOf mv Av cv)) ?_ (hrun:=by simp [execOp,go_sem,hb5.cell,hb5.frozen,cellsOf, *];try rfl);have hf6:Fr (fun k=>k=w3.heap.size) w5 (w5.setCells w3 0 (cellsOf mv Av cv)):=(au _ w5).setCells _ 0 (.inl rfl);have hb6:=aG (cellsOf mv Av cv) (cs:=[qz,qz,qe,qn,.int .i64 used,.int .i64 (-1),.slice As m cs]) 0 hb5 gi;have hb6':Blk (w5.setCells w3 0 (cellsOf mv Av cv)) w3 154 (bP ⟨mv,used,-1⟩ Av cv (.slice As m cs)):=hb6;have hF6:=hP5.fr.trans hf6;have hr6:=gS hP5.sp hf6 (fun q hq e=>by have:=hP5.sp.block_ge hq;have:=hP5.gW;omega);have hv6:=hv5.carry (Q:=fun b=>(P b∨W<=b)∧b ≠ w2) (aB.of_fr hf6 (fun q hq e=>by subst e;rcases hq with h | h;exact hP5.notP h;(have:=hP5.gW;omega))) (fun b hb h=>⟨h,fun e=>by rcases h with h | h;(have:=hP b h;omega);(have:=hP5.gW;omega)⟩);clear hb6 hb5 hf6;generalize w5.setCells w3 0 (cellsOf mv Av cv)=w6 at *;refine lN a6 [8,9] ?_;intro a7 u7;refine u7.b1 sz e9 fun sz e9=>?_
  have e8:=(uG.trans (u7.mono rfl)).get 8 hE.e8;have hres:=hE.res.fr hF6 I;refine rS ?_;refine lv (w1:=w6) (v:=.agg (bP ⟨mv,used,-1⟩ Av cv (.slice As m cs))) ?_ (hrun:=by simp [execOp,go_sem,hb6'.cell, *];try rfl);refine ls (w1:=w6.setCells w2 0 (fN ⟨mv,used,-1⟩ Av cv (.slice As m cs))) ?_ (hrun:=by simp [execOp,go_sem,hres.cell,hres.frozen, *];try rfl);refine lN a7 [8] ?_;intro a8 u8;refine wp_ret (aAb hE ((uG.trans (u7.mono rfl)).trans u8) hF6 hv6 hr6 ⟨?_,hP5.one⟩ (fun a' w' v q1 q2 q3=>hQ a' w' v q1 q2 (by rw [hend];exact q3)));exact aGu hm I
end
