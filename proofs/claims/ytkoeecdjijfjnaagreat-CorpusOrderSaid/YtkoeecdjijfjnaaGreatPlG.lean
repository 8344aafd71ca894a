/- Plain laws: reading a path of a valid tree. Conditions: none. Before it: Plain laws: lengths of the nodes of valid trees, and reading paths. Conditions: none. -/
import Derived.Test.YtkoeecdjijfjnaaGreatPlE
namespace Go.Proofs.YtkoeecdjijfjnaaGreat
open Go.RowKit
def lsum (before:List Int):List Int→Int
 | []=>0
 | z :: zs=>before.getD z.toNat 0+lsum before zs
theorem lsum_bd {before:List Int}:∀ {zs:List Int},(∀ z ∈ zs,0≤before.getD z.toNat 0∧before.getD z.toNat 0≤256)→0≤lsum before zs∧lsum before zs≤256*zs.length
 | [],_=>by simp [lsum]
 | z :: zs,h=>by
  have h1:=h z (by simp)
  have h2:=lsum_bd (zs:=zs) (fun y hy=>h y (by simp [hy]))
  simp only [lsum,List.length_cons]
  omega
theorem lsumW_eq {before:List Int}:∀ {zs:List Int}{s:Int},(∀ z ∈ zs,0≤before.getD z.toNat 0∧before.getD z.toNat 0≤256)→0≤s→s+256*zs.length≤1000000000→lsumW before s zs=s+lsum before zs
 | [],s,_,_,_=>by simp [lsumW,lsum]
 | z :: zs,s,h,h0,h1=>by
  have h2:=h z (by simp)
  simp only [List.length_cons] at h1
  simp only [lsumW,lsum]
  rw [IntWalk.wrap64_in _ (by omega),lsumW_eq (fun y hy=>h y (by simp [hy])) (by omega) (by omega)]
  omega
theorem lmostW_ge {before:List Int}{ch:Bool}:∀ (zs:List Int)(i:Nat)(m:Int),m≤lmostW before ch i m zs∧(∀ k,k<zs.length→(ch=true∨0<i+k)→before.getD (zs.getD k 0).toNat 0≤lmostW before ch i m zs)
 | [],i,m=>⟨by simp [lmostW],fun k hk=>by simp at hk⟩
 | z :: zs,i,m=>by
  simp only [lmostW]
  obtain ⟨h1,h2⟩:=lmostW_ge (before:=before) (ch:=ch) zs (i+1) (if ch=true∨0<i then (if m<before.getD z.toNat 0 then before.getD z.toNat 0 else m) else m)
  refine ⟨Int.le_trans ?_ h1,fun k hk hc=>?_⟩
  ·split
   ·split <;> omega
   ·omega
  ·cases k with
   | zero =>
    refine Int.le_trans ?_ h1
    rw [if_pos (by simpa using hc)]
    simp only [List.getD_cons_zero]
    split <;> omega
   | succ k =>
    simp only [List.getD_cons_succ]
    exact h2 k (by simpa using hk) (by rcases hc with h | h;exact .inl h;exact .inr (by omega))
theorem lmostW_le {before:List Int}{ch:Bool}{N:Int}:∀ (zs:List Int)(i:Nat)(m:Int),m≤N→(∀ z ∈ zs,before.getD z.toNat 0≤N)→lmostW before ch i m zs≤N
 | [],i,m,h,_=>by simpa [lmostW] using h
 | z :: zs,i,m,h,hz=>by
  simp only [lmostW]
  have h1:=hz z (by simp)
  refine lmostW_le zs (i+1) _ ?_ (fun y hy=>hz y (by simp [hy]))
  split
  ·split <;> omega
  ·omega
theorem lens_kid {t:List GN}{j:Nat}(hj:j<t.length){z:Int}(hz:0≤z∧z<(j:Int)):(lensR (t.take j)).getD z.toNat 0=(lensR t).getD z.toNat 0:=by
 unfold lensR
 rw [accL_take _ _ _ (by omega)]
 have h:z.toNat<j:=by omega
 simp [List.getD,h]
theorem lens_get {t:List GN}{j:Nat}(hj:j<t.length):(lensR t).getD j 0=lenR (lensR (t.take j)) (t.getD j default):=accL_get lenR 0 t hj
structure LenOK (t:List GN)(j:Nat):Prop where
 bd:0≤(lensR t).getD j 0∧(lensR t).getD j 0≤256
 range:(t.getD j default).kind=1→(lensR t).getD j 0=1
 leaf:(t.getD j default).kind=0→(lensR t).getD j 0=0
 seq:(t.getD j default).kind=3→(lensR t).getD j 0=lsum (lensR t) (t.getD j default).kids
 choice:(t.getD j default).kind=2→1≤(lensR t).getD j 0∧∀ z ∈ (t.getD j default).kids,1+(lensR t).getD z.toNat 0≤(lensR t).getD j 0
 bind:(t.getD j default).kind=4→(lensR t).getD ((t.getD j default).kids.getD 0 0).toNat 0≤(lensR t).getD j 0∧∀ k,1≤k→k<(t.getD j default).kids.length →
  (lensR t).getD ((t.getD j default).kids.getD 0 0).toNat 0+(lensR t).getD ((t.getD j default).kids.getD k 0).toNat 0≤(lensR t).getD j 0
theorem lsum_congr {a b:List Int}:∀ {zs:List Int},(∀ z ∈ zs,a.getD z.toNat 0=b.getD z.toNat 0)→lsum a zs=lsum b zs
 | [],_=>rfl
 | z :: zs,h=>by simp only [lsum];rw [h z (by simp),lsum_congr (fun y hy=>h y (by simp [hy]))]
theorem lens_ok {t:List GN}{i:Nat}(h:GoodTo t i):∀ j,j<i→LenOK t j:=by
 intro j
 induction j using Nat.strongRecOn with
 | ind j ih =>
  intro hj
  have hjt:j<t.length:=by have:=h.1;omega
  have hc:=h.at_ hj
  have hfew:=(kids_few h hj).1
  have hl:=lens_get hjt
  have hlen:=hc.len
  have hn:=hc.node
  generalize hx:t.getD j default=x at *
  have hk:∀ z ∈ x.kids,(lensR (t.take j)).getD z.toNat 0=(lensR t).getD z.toNat 0:=fun z hz=>lens_kid hjt (hn.kids z hz)
  have hb:∀ z ∈ x.kids,0≤(lensR (t.take j)).getD z.toNat 0∧(lensR (t.take j)).getD z.toNat 0≤256:=fun z hz=>by
   have hz':=hn.kids z hz
   rw [hk z hz];exact (ih z.toNat (by omega) (by omega)).bd
  have hkd:=hn.kind
  have h0:0≤(lensR t).getD j 0∧(x.kind=1→(lensR t).getD j 0=1)∧(x.kind=0→(lensR t).getD j 0=0)∧(x.kind=3→(lensR t).getD j 0=lsum (lensR t) x.kids) ∧
    (x.kind=2→1≤(lensR t).getD j 0∧∀ z ∈ x.kids,1+(lensR t).getD z.toNat 0≤(lensR t).getD j 0) ∧
    (x.kind=4→(lensR t).getD (x.kids.getD 0 0).toNat 0≤(lensR t).getD j 0∧∀ k,1≤k→k<x.kids.length→(lensR t).getD (x.kids.getD 0 0).toNat 0+(lensR t).getD (x.kids.getD k 0).toNat 0≤(lensR t).getD j 0):=by
   rw [hl]
   unfold lenR
   by_cases k0:x.kind=0
   ·rw [if_pos k0];exact ⟨by omega,by omega,fun _=>rfl,by omega,by omega,by omega⟩
   rw [if_neg k0]
   by_cases k1:x.kind=1
   ·rw [if_pos k1];exact ⟨by omega,fun _=>rfl,by omega,by omega,by omega,by omega⟩
   rw [if_neg k1]
   by_cases k3:x.kind=3
   ·rw [if_pos k3,lsumW_eq hb (by omega) (by omega),lsum_congr hk]
    have:=lsum_bd (before:=lensR t) (zs:=x.kids) (fun z hz=>by rw [← hk z hz];exact hb z hz)
    exact ⟨by omega,by omega,by omega,fun _=>by omega,by omega,by omega⟩
   rw [if_neg k3]
   by_cases k2:x.kind=2
   ·rw [if_pos k2]
    obtain ⟨g1,g2⟩:=lmostW_ge (before:=lensR (t.take j)) (ch:=true) x.kids 0 0
    have g3:=lmostW_le (before:=lensR (t.take j)) (ch:=true) (N:=256) x.kids 0 0 (by omega) (fun z hz=>(hb z hz).2)
    rw [IntWalk.wrap64_in _ (by omega)]
    refine ⟨by omega,by omega,by omega,by omega,fun _=>⟨by omega,fun z hz=>?_⟩,by omega⟩
    obtain ⟨k,hk',e⟩:=List.getElem_of_mem hz
    have:=g2 k hk' (.inl rfl)
    have e2:x.kids.getD k 0=z:=by rw [← e];simp [hk']
    rw [e2,hk z hz] at this
    omega
   rw [if_neg k2]
   have k4:x.kind=4:=by omega
   have hbd:=hn.bind k4
   have hz0:x.kids.getD 0 0 ∈ x.kids:=getD_mem (by omega)
   obtain ⟨g1,g2⟩:=lmostW_ge (before:=lensR (t.take j)) (ch:=false) x.kids 0 0
   have g3:=lmostW_le (before:=lensR (t.take j)) (ch:=false) (N:=256) x.kids 0 0 (by omega) (fun z hz=>(hb z hz).2)
   have hb0:=hb _ hz0
   rw [IntWalk.wrap64_in _ (by omega)]
   rw [← hk _ hz0]
   refine ⟨by omega,by omega,by omega,by omega,by omega,fun _=>⟨by omega,fun k hk1 hk2=>?_⟩⟩
   have:=g2 k hk2 (.inr (by omega))
   rw [hk _ (getD_mem hk2)] at this
   omega
  obtain ⟨a0,a1,a2,a3,a4,a5⟩:=h0
  exact ⟨⟨a0,hlen⟩,by rw [hx];exact a1,by rw [hx];exact a2,by rw [hx];exact a3,by rw [hx];exact a4,by rw [hx];exact a5⟩
structure GR where
 val:GV
 used:Int
 stop:Int
def zeroGV:GV:=.mk 0 0 ByteArray.empty []
def readParts (r:Int→Int→GR)(name:ByteArray)(at_:Int):Int→List GV→List Int→GR
 | used,acc,[]=>⟨madeV name acc,used,-1⟩
 | used,acc,z :: zs=>if (r z (at_+used)).stop=-1 then readParts r name at_ (used+(r z (at_+used)).used) (acc ++ [(r z (at_+used)).val]) zs
   else ⟨zeroGV,used+(r z (at_+used)).used,(r z (at_+used)).stop⟩
def readStep (r:Int→Int→GR)(path:List Int)(i:Int)(x:GN)(at_:Int):GR :=
 if x.kind=0 then ⟨x.value,0,-1⟩
 else if x.kind=3 then readParts r x.name at_ 0 [] x.kids
 else if x.kind=4 then
  (if (r (x.kids.getD 0 0) at_).stop=-1 then
   ⟨(r (x.kids.getD ((findR x.values (r (x.kids.getD 0 0) at_).val).1+1) 0) (at_+(r (x.kids.getD 0 0) at_).used)).val,
    (r (x.kids.getD 0 0) at_).used+(r (x.kids.getD ((findR x.values (r (x.kids.getD 0 0) at_).val).1+1) 0) (at_+(r (x.kids.getD 0 0) at_).used)).used,
    (r (x.kids.getD ((findR x.values (r (x.kids.getD 0 0) at_).val).1+1) 0) (at_+(r (x.kids.getD 0 0) at_).used)).stop⟩
  else r (x.kids.getD 0 0) at_)
 else if (path.length:Int)≤at_ then ⟨zeroGV,0,i⟩
 else if path.getD at_.toNat 0<0∨optionsI x≤path.getD at_.toNat 0 then ⟨zeroGV,0,-2⟩
 else if x.kind=1 then ⟨.mk 0 (x.lo+path.getD at_.toNat 0) ByteArray.empty [],1,-1⟩
 else ⟨(r (x.kids.getD (path.getD at_.toNat 0).toNat 0) (at_+1)).val,(r (x.kids.getD (path.getD at_.toNat 0).toNat 0) (at_+1)).used+1,(r (x.kids.getD (path.getD at_.toNat 0).toNat 0) (at_+1)).stop⟩
def readR (t:List GN)(path:List Int):Nat→Int→Int→GR
 | 0,_,_=>⟨zeroGV,0,-1⟩
 | f+1,i,at_=>readStep (readR t path f) path i (t.getD i.toNat default) at_
theorem options_ok {j:Nat}{x:GN}(h:NodeOK j x):optionsI x=if x.kind=1 then x.hi - x.lo+1 else (x.kids.length:Int):=by
 have:=numbersB_ok h.numbers
 unfold optionsI
 split
 ·rw [IntWalk.wrap64_in (x.hi - x.lo) (by omega),IntWalk.wrap64_in _ (by omega)]
 ·rfl
theorem uniR_many {before:List GL}{bind:Bool}:∀ (zs:List Int)(k:Nat)(out:List GV),(uniR before bind k out true zs).many=true
 | [],_,_=>by simp [uniR]
 | z :: zs,k,out=>by
  simp only [uniR]
  split
  ·exact uniR_many zs _ _
  ·simp only [Bool.true_or];exact uniR_many zs _ _
theorem uniR_mem {before:List GL}{bind:Bool}:∀ (zs:List Int)(k:Nat)(out:List GV),(uniR before bind k out false zs).many=false →
  (∀ v ∈ out,v ∈ (uniR before bind k out false zs).vals)∧∀ m,m<zs.length→¬ (bind=true∧k+m=0) →
   (before.getD (zs.getD m 0).toNat default).many=false∧∀ v ∈ (before.getD (zs.getD m 0).toNat default).vals,v ∈ (uniR before bind k out false zs).vals
 | [],k,out,_=>⟨fun v hv=>by simpa [uniR] using hv,fun m hm=>by simp at hm⟩
 | z :: zs,k,out,h=>by
  simp only [uniR] at h ⊢
  split
  ·next hb =>
   rw [if_pos hb] at h
   obtain ⟨h1,h2⟩:=uniR_mem zs (k+1) out h
   refine ⟨h1,fun m hm hc=>?_⟩
   cases m with
   | zero=>exact absurd ⟨hb.1,by omega⟩ hc
   | succ m=>exact h2 m (by simpa using hm) (by omega)
  ·next hb =>
   rw [if_neg hb] at h
   simp only [Bool.false_or] at h ⊢
   cases e:((before.getD z.toNat default).many || decide (1024<(sortR (out ++ (before.getD z.toNat default).vals)).length))
   ·rw [e] at h
    simp only [Bool.or_eq_false_iff] at e
    obtain ⟨h1,h2⟩:=uniR_mem zs (k+1) _ h
    refine ⟨fun v hv=>h1 v ((sortR_mem _ v).2 (by simp [hv])),fun m hm hc=>?_⟩
    cases m with
    | zero=>exact ⟨e.1,fun v hv=>h1 v ((sortR_mem _ v).2 (by simp only [List.getD_cons_zero] at hv;exact List.mem_append.2 (.inr hv)))⟩
    | succ m=>exact h2 m (by simpa using hm) (by omega)
   ·rw [e,uniR_many] at h;cases h
def Fits (before:List GL):List GV→List Int→Prop
 | [],[]=>True
 | v :: vs,z :: zs=>v ∈ (before.getD z.toNat default).vals∧Fits before vs zs
 | _,_=>False
theorem seqRows_many {before:List GL}:∀ (zs:List Int)(rows out:List (List GV)),seqRows before rows zs=some out→∀ z ∈ zs,(before.getD z.toNat default).many=false
 | [],_,_,_,z,hz=>by simp at hz
 | y :: zs,rows,out,h,z,hz=>by
  simp only [seqRows] at h
  split at h
  ·cases h
  ·next hm =>
   rcases List.mem_cons.1 hz with rfl | hz
   ·cases e:(before.getD z.toNat default).many
    ·rfl
    ·exact absurd (.inl e) hm
   ·exact seqRows_many zs _ out h z hz
theorem seqRows_mem {before:List GL}:∀ (zs:List Int)(rows out:List (List GV)),seqRows before rows zs=some out→∀ q ∈ rows,∀ vs,Fits before vs zs→q ++ vs ∈ out
 | [],rows,out,h,q,hq,vs,hf=>by
  simp only [seqRows,Option.some.injEq] at h
  subst h
  cases vs with
  | nil=>simpa using hq
  | cons _ _=>exact hf.elim
 | z :: zs,rows,out,h,q,hq,vs,hf=>by
  simp only [seqRows] at h
  split at h
  ·cases h
  ·cases vs with
   | nil=>exact hf.elim
   | cons v vs =>
    have:=seqRows_mem zs _ out h (q ++ [v]) (rowsR_mem.2 ⟨q,hq,v,hf.1,rfl⟩) vs hf.2
    simpa using this
theorem Fits.cast {a b:List GL}:∀ {vs:List GV}{zs:List Int},Fits a vs zs→(∀ z ∈ zs,a.getD z.toNat default=b.getD z.toNat default)→Fits b vs zs
 | [],[],_,_=>trivial
 | v :: vs,z :: zs,h,e=>⟨by rw [← e z (by simp)];exact h.1,h.2.cast (fun y hy=>e y (by simp [hy]))⟩
 | [],_ :: _,h,_=>h.elim
 | _ :: _,[],h,_=>h.elim
structure ReadOK (t:List GN)(path:List Int)(i:Nat)(at_:Int)(r:GR):Prop where
 used0:0≤r.used
 usedL:r.used≤(lensR t).getD i 0
 usedP:at_+r.used≤path.length
 mem:r.stop=-1→((listsR t).getD i default).many=false→r.val ∈ ((listsR t).getD i default).vals
 stop:r.stop=-1∨r.stop=-2∨(0≤r.stop∧r.stop≤i∧((t.getD r.stop.toNat default).kind=1∨(t.getD r.stop.toNat default).kind=2)∧(path.length:Int) - at_<(lensR t).getD i 0)
structure PartsOK (t:List GN)(path:List Int)(i:Nat)(name:ByteArray)(at_ used:Int)(acc:List GV)(zs:List Int)(r:GR):Prop where
 used0:0≤r.used
 usedL:r.used≤used+lsum (lensR t) zs
 usedP:at_+r.used≤path.length
 mem:r.stop=-1→(∀ z ∈ zs,((listsR t).getD z.toNat default).many=false)→∃ vs,Fits (listsR t) vs zs∧r.val=madeV name (acc ++ vs)
 stop:r.stop=-1∨r.stop=-2∨(0≤r.stop∧r.stop<i∧((t.getD r.stop.toNat default).kind=1∨(t.getD r.stop.toNat default).kind=2)∧(path.length:Int) - at_<used+lsum (lensR t) zs)
theorem parts_ok {t:List GN}{path:List Int}{i:Nat}{name:ByteArray}{r:Int→Int→GR}{at_:Int}(h0:0≤at_)
  (hl:∀ z:Int,0≤z→z<i→0≤(lensR t).getD z.toNat 0∧(lensR t).getD z.toNat 0≤256)
  (hr:∀ (z:Int)(k:Int),0≤z→z<i→0≤k→k≤path.length→ReadOK t path z.toNat k (r z k)) :
  ∀ (zs:List Int) (used:Int) (acc:List GV),(∀ z ∈ zs,0≤z∧z<(i:Int))→0≤used→at_+used≤path.length→PartsOK t path i name at_ used acc zs (readParts r name at_ used acc zs)
 | [],used,acc,_,h1,h2=>by
  simp only [readParts]
  exact ⟨h1,by simp [lsum],h2,fun _ _=>⟨[],trivial,by simp⟩,.inl rfl⟩
 | z :: zs,used,acc,hz,h1,h2=>by
  have hz0:=hz z (by simp)
  have hb:=hr z (at_+used) hz0.1 hz0.2 (by omega) h2
  have hlz:=hl z hz0.1 hz0.2
  have hls:=(lsum_bd (before:=lensR t) (zs:=zs) (fun y hy=>hl y (hz y (by simp [hy])).1 (hz y (by simp [hy])).2)).1
  have hu:=hb.used0
  have huL:=hb.usedL
  have huP:=hb.usedP
  simp only [readParts]
  generalize hg:r z (at_+used)=b at *
  split
  ·next hs =>
   have hp:=parts_ok h0 hl hr (name:=name) zs (used+b.used) (acc ++ [b.val]) (fun y hy=>hz y (by simp [hy])) (by omega) (by omega)
   generalize readParts r name at_ (used+b.used) (acc ++ [b.val]) zs=R at *
   have q1:=hp.used0
   have q2:=hp.usedL
   have q3:=hp.usedP
   refine ⟨q1,by simp only [lsum];omega,q3,fun e hm=>?_,?_⟩
   ·obtain ⟨vs,h3,h4⟩:=hp.mem e (fun y hy=>hm y (by simp [hy]))
    exact ⟨b.val :: vs,⟨hb.mem hs (hm z (by simp)),h3⟩,by rw [h4];simp⟩
   ·rcases hp.stop with h | h | ⟨a,b',c,d⟩
    ·exact .inl h
    ·exact .inr (.inl h)
    ·exact .inr (.inr ⟨a,b',c,by simp only [lsum];omega⟩)
  ·next hs =>
   refine ⟨by show 0≤used+b.used;omega,by show used+b.used≤_;simp only [lsum];omega,by show at_+(used+b.used)≤_;omega,fun e=>absurd e hs,?_⟩
   rcases hb.stop with h | h | ⟨a,b',c,d⟩
   ·exact absurd h hs
   ·exact .inr (.inl h)
   ·exact .inr (.inr ⟨a,by show b.stop<i;omega,c,by simp only [lsum];omega⟩)
theorem read_ok {t:List GN}{n:Nat}(h:GoodTo t n)(path:List Int)(hpl:path.length≤1000000):∀ (f:Nat)(i:Nat)(at_:Int),i<f→i<n→0≤at_→at_≤path.length→ReadOK t path i at_ (readR t path f i at_)
 | 0,i,at_,hf,_,_,_=>by omega
 | f+1,i,at_,hf,hi,ha0,ha1=>by
  have hit:i<t.length:=by have:=h.1;omega
  have hc:=h.at_ hi
  have hL:=lens_ok h i hi
  have hfew:=kids_few h hi
  have hr:∀ (z:Int) (k:Int),0≤z→z<i→0≤k→k≤path.length→ReadOK t path z.toNat k (readR t path f z k):=fun z k h1 h2 h3 h4=>by
   have:=read_ok h path hpl f z.toNat k (by omega) (by omega) h3 h4
   rw [Int.toNat_of_nonneg h1] at this
   exact this
  have hl:∀ z:Int,0≤z→z<i→0≤(lensR t).getD z.toNat 0∧(lensR t).getD z.toNat 0≤256:=fun z h1 h2=>(lens_ok h z.toNat (by omega)).bd
  have hlg:=lists_get hit
  simp only [readR,Int.toNat_natCast]
  have hn:=hc.node
  have hcm:=hc.many
  have hcv:=hc.vals
  have L1:=hL.bd
  have L2:=hL.range
  have L3:=hL.leaf
  have L4:=hL.seq
  have L5:=hL.choice
  have L6:=hL.bind
  have hself:(t.getD i default).kind=1∨(t.getD i default).kind=2→((t.getD ((i:Int)).toNat default).kind=1∨(t.getD ((i:Int)).toNat default).kind=2):=fun h=>by simpa using h
  generalize hx:t.getD i default=x at *
  have hkd:=hn.kind
  have hkl:∀ z ∈ x.kids,(listsR (t.take i)).getD z.toNat default=(listsR t).getD z.toNat default:=fun z hz=>lists_kid hit (hn.kids z hz)
  unfold readStep
  by_cases k0:x.kind=0
  ·rw [if_pos k0]
   refine ⟨Int.le_refl _,by show 0≤_;omega,by show at_+0≤_;omega,fun _ _=>?_,.inl rfl⟩
   rw [hlg]
   unfold listR
   rw [if_pos k0]
   simp
  rw [if_neg k0]
  by_cases k3:x.kind=3
  ·rw [if_pos k3]
   have hp:=parts_ok (name:=x.name) ha0 hl hr x.kids 0 [] (fun z hz=>hn.kids z hz) (Int.le_refl _) (by omega)
   generalize readParts (readR t path f) x.name at_ 0 [] x.kids=R at *
   have q1:=hp.used0
   have q2:=hp.usedL
   have q3:=hp.usedP
   have e3:=L4 k3
   refine ⟨q1,by omega,q3,fun e hm=>?_,?_⟩
   ·rw [hlg] at hm ⊢
    unfold listR at hm ⊢
    rw [if_neg k0,if_neg (by omega),if_pos k3] at hm ⊢
    unfold seqR at hm ⊢
    split at hm
    ·cases hm
    ·next rows hrows =>
     (try rw [hrows])
     have hmm:=seqRows_many x.kids _ rows hrows
     obtain ⟨vs,h3,h4⟩:=hp.mem e (fun z hz=>by rw [← hkl z hz];exact hmm z hz)
     show R.val ∈ sortR _
     rw [sortR_mem,h4]
     refine List.mem_map.2 ⟨vs,?_,by simp⟩
     have:=seqRows_mem x.kids _ rows hrows [] (by simp) vs (h3.cast (fun z hz=>(hkl z hz).symm))
     simpa using this
   ·rcases hp.stop with h | h | ⟨a,b',c,d⟩
    ·exact .inl h
    ·exact .inr (.inl h)
    ·exact .inr (.inr ⟨a,by omega,c,by omega⟩)
  rw [if_neg k3]
  by_cases k4:x.kind=4
  ·rw [if_pos k4]
   have hbk:=hn.bind k4
   have hz0:x.kids.getD 0 0 ∈ x.kids:=getD_mem (by omega)
   have hz0':=hn.kids _ hz0
   have ha:=hr (x.kids.getD 0 0) at_ hz0'.1 hz0'.2 ha0 ha1
   have e4:=L6 k4
   have hm0:=hcm k4
   have hv0:=hcv k4
   have hinc:=hn.inc
   generalize hra:readR t path f (x.kids.getD 0 0) at_=a at *
   have p1:=ha.used0
   have p2:=ha.usedL
   have p3:=ha.usedP
   split
   ·next hs =>
    have hmem:=ha.mem hs hm0
    rw [hv0] at hmem
    obtain ⟨f1,f2,f3⟩:=findR_mem hinc hmem
    generalize (findR x.values a.val).1=q at *
    have hq:q+1<x.kids.length:=by omega
    have hzq:=hn.kids _ (getD_mem (d:=0) hq)
    have hb:=hr (x.kids.getD (q+1) 0) (at_+a.used) hzq.1 hzq.2 (by omega) p3
    have e5:=e4.2 (q+1) (by omega) hq
    generalize hrb:readR t path f (x.kids.getD (q+1) 0) (at_+a.used)=b at *
    have b1:=hb.used0
    have b2:=hb.usedL
    have b3:=hb.usedP
    refine ⟨by show 0≤a.used+b.used;omega,by show a.used+b.used≤_;omega,by show at_+(a.used+b.used)≤_;omega,fun e hm=>?_,?_⟩
    ·show b.val ∈ _
     rw [hlg] at hm ⊢
     unfold listR at hm ⊢
     rw [if_neg k0,if_neg (by omega),if_neg k3] at hm ⊢
     obtain ⟨h3,h4⟩:=(uniR_mem x.kids 0 [] hm).2 (q+1) hq (by omega)
     rw [hkl _ (getD_mem hq)] at h3 h4
     exact h4 _ (hb.mem e h3)
    ·rcases hb.stop with h | h | ⟨c1,c2,c3,c4⟩
     ·exact .inl h
     ·exact .inr (.inl h)
     ·exact .inr (.inr ⟨c1,by show b.stop≤i;omega,c3,by omega⟩)
   ·next hs =>
    refine ⟨p1,by omega,p3,fun e=>absurd e hs,?_⟩
    rcases ha.stop with h | h | ⟨c1,c2,c3,c4⟩
    ·exact absurd h hs
    ·exact .inr (.inl h)
    ·exact .inr (.inr ⟨c1,by omega,c3,by omega⟩)
  rw [if_neg k4]
  have k12:x.kind=1∨x.kind=2:=by omega
  have hlen1:1≤(lensR t).getD i 0:=by
   rcases k12 with k | k
   ·rw [L2 k];omega
   ·exact (L5 k).1
  split
  ·next hat =>
   refine ⟨Int.le_refl _,by show 0≤_;omega,by show at_+0≤_;omega,fun e=>?_,.inr (.inr ⟨?_,?_,?_,by omega⟩)⟩
   ·have:(i:Int)=-1:=e
    omega
   ·show (0:Int)≤(i:Int);omega
   ·show (i:Int)≤(i:Int);omega
   ·exact hself k12
  ·next hat =>
   split
   ·exact ⟨Int.le_refl _,by show 0≤_;omega,by show at_+0≤_;omega,fun e=>absurd e (by decide),.inr (.inl rfl)⟩
   ·next hopt =>
    rw [options_ok hn] at hopt
    generalize path.getD at_.toNat 0=c at *
    split
    ·next k1 =>
     rw [if_pos k1] at hopt
     have hnum:=numbersB_ok hn.numbers
     refine ⟨by show (0:Int)≤1;omega,by show 1≤_;omega,by show at_+1≤_;omega,fun _ hm=>?_,.inl rfl⟩
     show GV.mk 0 (x.lo+c) ByteArray.empty [] ∈ _
     rw [hlg] at hm ⊢
     unfold listR at hm ⊢
     rw [if_neg k0,if_pos k1] at hm ⊢
     split at hm
     ·cases hm
     ·next hr=>rw [if_neg hr];exact rangeV_mem.2 ⟨x.lo+c,by omega,by omega,rfl⟩
    ·next k1 =>
     rw [if_neg k1] at hopt
     have k2:x.kind=2:=by omega
     have hq:c.toNat<x.kids.length:=by omega
     have hzq:=hn.kids _ (getD_mem (d:=0) hq)
     have hb:=hr (x.kids.getD c.toNat 0) (at_+1) hzq.1 hzq.2 (by omega) (by omega)
     have e5:=(L5 k2).2 _ (getD_mem (d:=0) hq)
     generalize readR t path f (x.kids.getD c.toNat 0) (at_+1)=b at *
     have b1:=hb.used0
     have b2:=hb.usedL
     have b3:=hb.usedP
     refine ⟨by show 0≤b.used+1;omega,by show b.used+1≤_;omega,by show at_+(b.used+1)≤_;omega,fun e hm=>?_,?_⟩
     ·show b.val ∈ _
      rw [hlg] at hm ⊢
      unfold listR at hm ⊢
      rw [if_neg k0,if_neg k1,if_neg k3] at hm ⊢
      obtain ⟨h3,h4⟩:=(uniR_mem x.kids 0 [] hm).2 c.toNat hq (by simp [k4])
      rw [hkl _ (getD_mem hq)] at h3 h4
      exact h4 _ (hb.mem e h3)
     ·rcases hb.stop with h | h | ⟨c1,c2,c3,c4⟩
      ·exact .inl h
      ·exact .inr (.inl h)
      ·exact .inr (.inr ⟨c1,by show b.stop≤i;omega,c3,by omega⟩)
end Go.Proofs.YtkoeecdjijfjnaaGreat
