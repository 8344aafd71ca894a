/- Contracts of functions, plain laws. Conditions: none. -/
import Derived.Test.YtkoeecdjijfjnaaGreatC4
set_option maxRecDepth 100000
set_option maxHeartbeats 8000000
namespace Go.Proofs.YtkoeecdjijfjnaaGreat
open Go.RowKit
def nU (before:List Int):List Int->Int
 | []=>0
 | z :: zs=>before.getD z.toNat 0+nU before zs
theorem yB {before:List Int}:∀ {zs:List Int},(∀ z ∈ zs,0<=before.getD z.toNat 0∧before.getD z.toNat 0<=256)->0<=nU before zs∧nU before zs<=256*zs.length
 | [],_=>by simp [nU]
 | z :: zs,h=>by
  have h1:=h z (by simp);have h2:=yB (zs:=zs) (fun y hy=>h y (by simp [hy]));simp only [nU,List.length_cons];omega
theorem zN {before:List Int}:∀ {zs:List Int}{s:Int},(∀ z ∈ zs,0<=before.getD z.toNat 0∧before.getD z.toNat 0<=256)->0<=s->s+256*zs.length<=1000000000->bZ before s zs=s+nU before zs
 | [],s,_,_,_=>by simp [bZ,nU]
 | z :: zs,s,h,h0,h1=>by
  have h2:=h z (by simp);simp only [List.length_cons] at h1;simp only [bZ,nU];rw [IntWalk.wrap64_in _ (by omega),zN (fun y hy=>h y (by simp [hy])) (by omega) (by omega)];omega
theorem fD {before:List Int}{ch:Bool}:∀ (zs:List Int)(i:Nat)(m:Int),m<=aL before ch i m zs∧(∀ k,k<zs.length->(ch=true∨0<i+k)->before.getD (zs.getD k 0).toNat 0<=aL before ch i m zs)
 | [],i,m=>⟨by simp [aL],fun k hk=>by simp at hk⟩
 | z :: zs,i,m=>by
  simp only [aL];obtain ⟨h1,h2⟩:=fD (before:=before) (ch:=ch) zs (i+1) (if ch=true∨0<i then (if m<before.getD z.toNat 0 then before.getD z.toNat 0 else m) else m);refine ⟨Int.le_trans ?_ h1,fun k hk hc=>?_⟩
  ·split
   ·split <;> omega
   ·omega
  ·cases k with
   | zero =>
    refine Int.le_trans ?_ h1;rw [if_pos (by simpa using hc)];simp only [List.getD_cons_zero]
    split <;> omega
   | succ k =>
    simp only [List.getD_cons_succ];exact h2 k (by simpa using hk) (by rcases hc with h | h;exact .inl h;exact .inr (by omega))
theorem pQ {before:List Int}{ch:Bool}{N:Int}:∀ (zs:List Int)(i:Nat)(m:Int),m<=N->(∀ z ∈ zs,before.getD z.toNat 0<=N)->aL before ch i m zs<=N
 | [],i,m,h,_=>by simpa [aL] using h
 | z :: zs,i,m,h,hz=>by
  simp only [aL];have h1:=hz z (by simp);refine pQ zs (i+1) _ ?_ (fun y hy=>hz y (by simp [hy]))
  split
  ·split <;> omega
  ·omega
theorem zO {t:List GN}{j:Nat}(hj:j<t.length){z:Int}(hz:0<=z∧z<(j:Int)):(aT (t.take j)).getD z.toNat 0=(aT t).getD z.toNat 0:=by
 unfold aT;rw [gZ _ _ _ (by omega)];have h:z.toNat<j:=by omega
 simp [List.getD,h]
theorem tW {t:List GN}{j:Nat}(hj:j<t.length):(aT t).getD j 0=fQ (aT (t.take j)) (t.getD j default):=oL fQ 0 t hj
structure aUm (t:List GN)(j:Nat):Prop where
 bd:0<=(aT t).getD j 0∧(aT t).getD j 0<=256
 range:(t.getD j default).kind=1->(aT t).getD j 0=1
 leaf:(t.getD j default).kind=0->(aT t).getD j 0=0
 seq:(t.getD j default).kind=3->(aT t).getD j 0=nU (aT t) (t.getD j default).kids
 choice:(t.getD j default).kind=2->1<=(aT t).getD j 0∧∀ z ∈ (t.getD j default).kids,1+(aT t).getD z.toNat 0<=(aT t).getD j 0
 bind:(t.getD j default).kind=4->(aT t).getD ((t.getD j default).kids.getD 0 0).toNat 0<=(aT t).getD j 0∧∀ k,1<=k->k<(t.getD j default).kids.length ->
  (aT t).getD ((t.getD j default).kids.getD 0 0).toNat 0+(aT t).getD ((t.getD j default).kids.getD k 0).toNat 0<=(aT t).getD j 0
theorem rX {a b:List Int}:∀ {zs:List Int},(∀ z ∈ zs,a.getD z.toNat 0=b.getD z.toNat 0)->nU a zs=nU b zs
 | [],_=>rfl
 | z :: zs,h=>by simp only [nU];rw [h z (by simp),rX (fun y hy=>h y (by simp [hy]))]
theorem kC {t:List GN}{i:Nat}(h:bJ t i):∀ j,j<i->aUm t j:=by
 intro j
 induction j using Nat.strongRecOn with
 | ind j ih =>
  intro hj;have hjt:j<t.length:=by have:=h.1;omega
  have hc:=h.at_ hj;have hfew:=(fE h hj).1;have hl:=tW hjt;have hlen:=hc.len;have hn:=hc.node;generalize hx:t.getD j default=x at *;have hk:∀ z ∈ x.kids,(aT (t.take j)).getD z.toNat 0=(aT t).getD z.toNat 0:=fun z hz=>zO hjt (hn.kids z hz)
  have hb:∀ z ∈ x.kids,0<=(aT (t.take j)).getD z.toNat 0∧(aT (t.take j)).getD z.toNat 0<=256:=fun z hz=>by
   have hz':=hn.kids z hz;rw [hk z hz];exact (ih z.toNat (by omega) (by omega)).bd
  have hkd:=hn.kind
  have h0:0<=(aT t).getD j 0∧(x.kind=1->(aT t).getD j 0=1)∧(x.kind=0->(aT t).getD j 0=0)∧(x.kind=3->(aT t).getD j 0=nU (aT t) x.kids) ∧
    (x.kind=2->1<=(aT t).getD j 0∧∀ z ∈ x.kids,1+(aT t).getD z.toNat 0<=(aT t).getD j 0) ∧
    (x.kind=4->(aT t).getD (x.kids.getD 0 0).toNat 0<=(aT t).getD j 0∧∀ k,1<=k->k<x.kids.length->(aT t).getD (x.kids.getD 0 0).toNat 0+(aT t).getD (x.kids.getD k 0).toNat 0<=(aT t).getD j 0):=by
   rw [hl];unfold fQ
   by_cases k0:x.kind=0
   ·rw [if_pos k0];exact ⟨by omega,by omega,fun _=>rfl,by omega,by omega,by omega⟩
   rw [if_neg k0]
   by_cases k1:x.kind=1
   ·rw [if_pos k1];exact ⟨by omega,fun _=>rfl,by omega,by omega,by omega,by omega⟩
   rw [if_neg k1]
   by_cases k3:x.kind=3
   ·rw [if_pos k3,zN hb (by omega) (by omega),rX hk]
    have:=yB (before:=aT t) (zs:=x.kids) (fun z hz=>by rw [<- hk z hz];exact hb z hz);exact ⟨by omega,by omega,by omega,fun _=>by omega,by omega,by omega⟩
   rw [if_neg k3]
   by_cases k2:x.kind=2
   ·rw [if_pos k2]
    obtain ⟨g1,g2⟩:=fD (before:=aT (t.take j)) (ch:=true) x.kids 0 0;have g3:=pQ (before:=aT (t.take j)) (ch:=true) (N:=256) x.kids 0 0 (by omega) (fun z hz=>(hb z hz).2);rw [IntWalk.wrap64_in _ (by omega)];refine ⟨by omega,by omega,by omega,by omega,fun _=>⟨by omega,fun z hz=>?_⟩,by omega⟩;obtain ⟨k,hk',e⟩:=List.getElem_of_mem hz;have:=g2 k hk' (.inl rfl);have e2:x.kids.getD k 0=z:=by rw [<- e];simp [hk']
    rw [e2,hk z hz] at this;omega
   rw [if_neg k2];have k4:x.kind=4:=by omega
   have hbd:=hn.bind k4;have hz0:x.kids.getD 0 0 ∈ x.kids:=aG (by omega);obtain ⟨g1,g2⟩:=fD (before:=aT (t.take j)) (ch:=false) x.kids 0 0;have g3:=pQ (before:=aT (t.take j)) (ch:=false) (N:=256) x.kids 0 0 (by omega) (fun z hz=>(hb z hz).2);have hb0:=hb _ hz0;rw [IntWalk.wrap64_in _ (by omega)];rw [<- hk _ hz0];refine ⟨by omega,by omega,by omega,by omega,by omega,fun _=>⟨by omega,fun k hk1 hk2=>?_⟩⟩;have:=g2 k hk2 (.inr (by omega));rw [hk _ (aG hk2)] at this;omega
  obtain ⟨a0,a1,a2,a3,a4,a5⟩:=h0;exact ⟨⟨a0,hlen⟩,by rw [hx];exact a1,by rw [hx];exact a2,by rw [hx];exact a3,by rw [hx];exact a4,by rw [hx];exact a5⟩
structure GR where
 val:GV
 used:Int
 stop:Int
def bO:GV:=.mk 0 0 ByteArray.empty []
def bR (r:Int->Int->GR)(name:ByteArray)(at_:Int):Int->List GV->List Int->GR
 | used,acc,[]=>⟨cE name acc,used,-1⟩
 | used,acc,z :: zs=>if (r z (at_+used)).stop=-1 then bR r name at_ (used+(r z (at_+used)).used) (acc ++ [(r z (at_+used)).val]) zs
   else ⟨bO,used+(r z (at_+used)).used,(r z (at_+used)).stop⟩
def dA (r:Int->Int->GR)(path:List Int)(i:Int)(x:GN)(at_:Int):GR :=
 if x.kind=0 then ⟨x.value,0,-1⟩
 else if x.kind=3 then bR r x.name at_ 0 [] x.kids
 else if x.kind=4 then
  (if (r (x.kids.getD 0 0) at_).stop=-1 then
   ⟨(r (x.kids.getD ((cR x.values (r (x.kids.getD 0 0) at_).val).1+1) 0) (at_+(r (x.kids.getD 0 0) at_).used)).val,
    (r (x.kids.getD 0 0) at_).used+(r (x.kids.getD ((cR x.values (r (x.kids.getD 0 0) at_).val).1+1) 0) (at_+(r (x.kids.getD 0 0) at_).used)).used,
    (r (x.kids.getD ((cR x.values (r (x.kids.getD 0 0) at_).val).1+1) 0) (at_+(r (x.kids.getD 0 0) at_).used)).stop⟩
  else r (x.kids.getD 0 0) at_)
 else if (path.length:Int)<=at_ then ⟨bO,0,i⟩
 else if path.getD at_.toNat 0<0∨bE x<=path.getD at_.toNat 0 then ⟨bO,0,-2⟩
 else if x.kind=1 then ⟨.mk 0 (x.lo+path.getD at_.toNat 0) ByteArray.empty [],1,-1⟩
 else ⟨(r (x.kids.getD (path.getD at_.toNat 0).toNat 0) (at_+1)).val,(r (x.kids.getD (path.getD at_.toNat 0).toNat 0) (at_+1)).used+1,(r (x.kids.getD (path.getD at_.toNat 0).toNat 0) (at_+1)).stop⟩
def aW (t:List GN)(path:List Int):Nat->Int->Int->GR
 | 0,_,_=>⟨bO,0,-1⟩
 | f+1,i,at_=>dA (aW t path f) path i (t.getD i.toNat default) at_
theorem eR {j:Nat}{x:GN}(h:dP j x):bE x=if x.kind=1 then x.hi - x.lo+1 else (x.kids.length:Int):=by
 have:=cY h.numbers;unfold bE
 split
 ·rw [IntWalk.wrap64_in (x.hi - x.lo) (by omega),IntWalk.wrap64_in _ (by omega)]
 ·rfl
theorem pM {w:World}{base:Nat}{v:Value}{n:Nat}{l:List Int}(h:w.ownsRow base 3 1 v n (l.map (Value.int .i64))){j:Nat}(hj:j<n) :
  ∃ b c,v=.slice (some ⟨b,0,none⟩) n c∧n<=c∧c<=9223372036854775807∧w.cell? ⟨b,j,none⟩=some (.int .i64 (l.getD j 0)):=by
 have hl:=h.1;rcases h.2 with ⟨rfl,h0⟩ | ⟨g,cap,cur,rfl,hg,hh,hn,hm,hs,ht⟩
 ·omega
 ·refine ⟨g,cap,rfl,hn,by unfold maxLen at hm;omega,?_⟩
  have hb:Blk w g 3 cur:=hh;rw [hb.cell];have hjl:j<l.length:=by simp at hl;omega
  have h1:(List.take (n*1) cur.toList)[j]?=some (.int .i64 (l.getD j 0)):=by rw [ht];simp [hjl]
  rw [List.getElem?_take] at h1
  split at h1
  ·simpa using h1
  ·cases h1
theorem uR {β:Type}{f:List β->GN->β}{Q:β->Prop}(hf:∀ acc x,(∀ z ∈ acc,Q z)->Q (f acc x)):∀ (l:List GN)(acc:List β),(∀ z ∈ acc,Q z)->∀ z ∈ jJ f acc l,Q z
 | [],_,h=>h
 | x :: xs,acc,h=>by
  simp only [jJ];refine uR hf xs _ ?_;intro z hz;rcases List.mem_append.1 hz with hz | hz
  ·exact h z hz
  ·rw [List.mem_singleton.1 hz];exact hf acc x h
theorem oN (n:Int):I64 (wrap64 n):=by
 unfold wrap64 I64;have:=Int.emod_nonneg (n+9223372036854775808) (show (18446744073709551616:Int) ≠ 0 by decide);have:=Int.emod_lt_of_pos (n+9223372036854775808) (show (0:Int)<18446744073709551616 by decide);omega
theorem mO:I64 0:=by simp [I64]
theorem kB (before:List Int):∀ (zs:List Int)(s:Int),I64 s->I64 (bZ before s zs)
 | [],_,h=>h
 | z :: zs,s,_=>by simp only [bZ];exact kB before zs _ (oN _)
theorem kN (before:List Int)(hb:∀ z ∈ before,I64 z)(ch:Bool):∀ (zs:List Int)(i:Nat)(m:Int),I64 m->I64 (aL before ch i m zs)
 | [],_,_,h=>h
 | z :: zs,i,m,h=>by
  simp only [aL];refine kN before hb ch zs _ _ ?_
  split
  ·split
   ·exact aAp hb _
   ·exact h
  ·exact h
theorem zF:∀ (l:List GV)(n:Int),I64 n->I64 (xF n l)
 | [],_,h=>by rw [fP];exact h
 | x :: xs,n,_=>by rw [gR];exact zF xs _ (oN _)
theorem tG (x:GV):I64 (rsz x):=by rw [nI];exact zF _ _ (by simp [I64])
theorem aHp (t:List GN):∀ z ∈ aT t,I64 z:=by
 refine uR (fun acc x h=>?_) t [] (by simp);unfold fQ
 split
 ·exact mO
 ·split
  ·simp [I64]
  ·split
   ·exact kB _ _ _ mO
   ·split
    ·exact oN _
    ·exact oN _
theorem aCw (t:List GN):∀ z ∈ bP t,I64 z:=by
 refine uR (fun acc x h=>?_) t [] (by simp);unfold fI
 split
 ·exact tG _
 ·split
  ·simp [I64]
  ·split
   ·exact kB _ _ _ (by simp [I64])
   ·exact kN _ h _ _ _ _ mO
theorem yE (before:List Int)(x:GN)(a:NA)(P:Nat->Prop)(base:Nat)(vb:Value)(w:World)(hx:NAt w P x a)(hown:w.ownsRow base 3 1 vb before.length (before.map (Value.int .i64)))
  (hbase:base<=w.heap.size)(hlen:before.length<=100000)(hb64:∀ z ∈ before,I64 z)(hok:dP before.length x) :
  Calls Tryz.prog 58 #[vb,hH x a] w (jK base 3 1 vb (before.length+1) ((before ++ [fQ before x]).map (Value.int .i64)) w):=by
 have hk:=hok.kind
 by_cases k0:x.kind=0
 ·exact wM before x a P base vb w hx hown hbase hlen hb64 hok.kids k0
 by_cases k1:x.kind=1
 ·exact wL before x a P base vb w hx hown hbase hlen hb64 hok.kids k1
 by_cases k2:x.kind=2
 ·exact wK before x a P base vb w hx hown hbase hlen hb64 hok.kids k2
 by_cases k3:x.kind=3
 ·exact wJ before x a P base vb w hx hown hbase hlen hb64 hok.kids k3
 ·exact wI before x a P base vb w hx hown hbase hlen hb64 hok.kids (by omega) (by have:=hok.bind (by omega);omega)
theorem aCv (before:List Int)(x:GN)(a:NA)(P:Nat->Prop)(base:Nat)(vb:Value)(w:World)(hx:NAt w P x a)(hown:w.ownsRow base 3 1 vb before.length (before.map (Value.int .i64)))
  (hbase:base<=w.heap.size)(hlen:before.length<=100000)(hb64:∀ z ∈ before,I64 z)(hok:dP before.length x) :
  Calls Tryz.prog 59 #[vb,hH x a] w (jK base 3 1 vb (before.length+1) ((before ++ [fI before x]).map (Value.int .i64)) w):=by
 have hk:=hok.kind
 by_cases k0:x.kind=0
 ·exact aA7 before x a P base vb w hx hown hbase hlen hb64 hok.kids k0
 by_cases k1:x.kind=1
 ·exact aA6 before x a P base vb w hx hown hbase hlen hb64 hok.kids k1
 by_cases k2:x.kind=2
 ·exact aA5 before x a P base vb w hx hown hbase hlen hb64 hok.kids k2
 by_cases k3:x.kind=3
 ·exact aA4 before x a P base vb w hx hown hbase hlen hb64 hok.kids k3
 ·exact aA3 before x a P base vb w hx hown hbase hlen hb64 hok.kids (by omega)
theorem iM {w w':World}{M:Nat->Prop}{base:Nat}{e:TypeId}{size:Nat}{v:Value}{n:Nat}{xs:List Value}(h:w.ownsRow base e size v n xs)(hf:Fr M w w')(hm:∀ b,v.ownBlock=some b->¬ M b):w'.ownsRow base e size v n xs:=by
 refine ⟨h.1,?_⟩;rcases h.2 with h | ⟨g,cap,cur,rfl,h2,h3,h4⟩
 ·exact .inl h
 ·exact .inr ⟨g,cap,cur,rfl,h2,Blk.fr (t:=e) h3 hf (hm g rfl),h4⟩
def aR4 (t:List GN)(W:World)(v3 v4 i:Value)(wr:World):Prop :=
 ∃ k:Nat,k<=t.length∧i=.int .i64 k∧wr.ownsRow W.heap.size 3 1 v3 k ((aT (t.take k)).map (Value.int .i64))∧wr.ownsRow W.heap.size 3 1 v4 k ((bP (t.take k)).map (Value.int .i64)) ∧
  (∀ b,v3.ownBlock=some b->v4.ownBlock ≠ some b)∧Ext W wr∧bJ t k∧bW t=dB t k (t.length - k)
theorem mK {β:Type}(f:List β->GN->β)(d:β)(t:List GN){k:Nat}(hk:k<t.length):(jJ f [] (t.take (k+1))).getD k d=(jJ f [] t).getD k d:=by
 rw [gZ _ _ _ (by omega)];simp [List.getD]
theorem iA (t:List GN)(P:Nat->Prop)(vn:Value)(w:World)(ht:Nds w P vn t)(hvl:∀ x ∈ t,x.values.length<=1000000) :
  Calls Tryz.prog 22 #[.agg #[vn]] w (dC (.int .i64 (bW t)) w):=by
 have HT:=aV4 ht;have HVL:=aV4 hvl;obtain ⟨An,cn,en,hn1,hn2⟩:=ht.form;subst en;clear ht hvl
 by_cases hbig:4096<t.length
 ·have HV:=aV4 (show bW t=4 by unfold bW;rw [if_pos hbig])
  go_enter Tryz.func22,Tryz.ntmps22;go_wp2_with fail;go_ret;exact ⟨aM HV.out.symm,(Ext.refl w).alloc' _⟩
 have HV:=aV4 (show bW t=dB t 0 t.length by unfold bW;rw [if_neg hbig]);have hsm:t.length<=4096:=by omega
 go_enter Tryz.func22,Tryz.ntmps22;go_wp2_with fail;have HE:=aV4 (show Ext w (w.alloc (.cells #[.slice An t.length cn] 25)) from (Ext.refl w).alloc' _);have HBX:=aV4 (Blk.new w 25 #[.slice An t.length cn]);generalize hW:w.alloc (.cells #[.slice An t.length cn] 25)=W at *;clear hW;go_loopw [3,4,5] (fun v3 v4 i wr=>aR4 t W v3 v4 i wr) (fun _ _ i _=>t.length - (intOf i).toNat)
 case atStart=>exact ⟨0,Nat.zero_le _,rfl,aX _ _ _ _,aX _ _ _ _,fun b h=>by simp [Value.ownBlock] at h,Ext.refl _,⟨Nat.zero_le _,hsm,fun j hj=>by omega⟩,HV.out⟩
 case round =>
  obtain ⟨k,hk,rfl,ho3,ho4,hne,hx,hgd,hvf⟩:=hrel;have HO3:=aV4 ho3;have HO4:=aV4 ho4;have HNE:=aV4 hne;have HX:=aV4 hx;have HGD:=aV4 hgd;have HVF:=aV4 hvf;have b0:=(HBX.out.ext hx).cell' (u:=.slice An t.length cn) 0 rfl;have hsz:=hx.size;have hsw:=HE.out.size;clear ho3 ho4 hne hx hgd hvf
  by_cases hlt:k<t.length
  ·obtain ⟨b1,o1,a1,rfl,-,ha1,hc1⟩:=(HT.out.carry (Q:=fun b=>b<w.heap.size) (aD.of_ext (HE.out.trans' HX.out)) (fun b hb _=>hb)).get hlt
   have HVX:=aV4 (HVL.out _ (aG (d:=default) hlt))
   have HCK:=aV4 (show bW t=if cV t k=0 then dB t (k+1) (t.length - (k+1)) else cV t k by
    rw [HVF.out,show t.length - k=(t.length - (k+1))+1 by omega];rfl)
   have HCR:=aV4 (show cV t k=_ from by rw [cV]);have HLS:=aV4 (show aT (t.take (k+1))=aT (t.take k) ++ [fQ (aT (t.take k)) (t.getD k default)] by unfold aT;rw [aZ default hlt,iR]);have HSS:=aV4 (show bP (t.take (k+1))=bP (t.take k) ++ [fI (bP (t.take k)) (t.getD k default)] by unfold bP;rw [aZ default hlt,iR]);have HLG:=aV4 (show (aT (t.take (k+1))).getD k 0=(aT t).getD k 0 from mK _ _ _ hlt);have HSG:=aV4 (show (bP (t.take (k+1))).getD k 0=(bP t).getD k 0 from mK _ _ _ hlt);have HA1:=aV4 ha1;have HC1:=aV4 hc1;have c0:=hc1.c0;have c1:=hc1.c1;have c2:=hc1.c2;have c3:=hc1.c3;have c4:=hc1.c4;have c5:=hc1.c5;have c6:=hc1.c6;have c7:=hc1.c7;have c8:=hc1.c8;have c9:=hc1.c9;have c10:=hc1.c10;have c11:=hc1.c11;clear hc1 ha1;generalize hgx:t.getD k default=x at *;have HGX:=aV4 hgx;clear hgx;have hll:(aT (t.take k)).length=k:=by unfold aT;rw [eM];simp;omega
   have hsl:(bP (t.take k)).length=k:=by unfold bP;rw [eM];simp;omega
   have HLL:=aV4 hll;have HSL:=aV4 hsl;clear hll hsl;go_wp2_with fail;refine (aHj k x a1 _ _ (HA1.out.ext ((Ext.refl wr).alloc' _)) HVX.out).mono ?_;rintro e w1 ⟨rfl,hx1⟩;have HX1:=aV4 (((Ext.refl wr).alloc' (.cells (aE x a1).toArray 87)).trans' hx1);have BX:=aV4 ((Blk.new wr 87 (aE x a1).toArray).ext hx1);clear hx1 c0 c1 c2 c3 c4 c5 c6 c7 c8 c9 c10 c11;have x0:=BX.out.cell' (u:=.int .i64 x.kind) 0 rfl;have x1:=BX.out.cell' (u:=.string x.name) 1 rfl;have x2:=BX.out.cell' (u:=.int .i64 x.lo) 2 rfl;have x3:=BX.out.cell' (u:=.int .i64 x.hi) 3 rfl;have x4:=BX.out.cell' (u:=.slice a1.wA x.weights.length a1.wc) 4 rfl;have x5:=BX.out.cell' (u:=.slice a1.lA x.labels.length a1.lc) 5 rfl;have x6:=BX.out.cell' (u:=.slice a1.vA x.values.length a1.vc) 6 rfl;have x7:=BX.out.cell' (u:=.slice a1.kA x.kids.length a1.kc) 7 rfl;have x8:=BX.out.cell' (u:=.int .i64 x.value.kind) 8 rfl;have x9:=BX.out.cell' (u:=.int .i64 x.value.n) 9 rfl;have x10:=BX.out.cell' (u:=.string x.value.s) 10 rfl;have x11:=BX.out.cell' (u:=.slice a1.xA x.value.kids.length a1.xc) 11 rfl;have hs1:=HX1.out.size
   by_cases hz:iF k x=0
   ·have HZ:=aV4 hz
    have tz:(iF k x != 0)=false:=by rw [bne_eq_false_iff_eq];exact hz
    have HOK:=aV4 (kM.1 hz);clear hz;go_wp2_with fail;refine (yE (aT (t.take k)) x a1 _ W.heap.size u3 _ (HA1.out.ext HX1.out) ((HO3.out.ext_ HX1.out).len_cast HLL.out.symm rfl) (by omega) (by rw [HLL.out];omega) (aHp _) (by rw [HLL.out];exact HOK.out)).mono ?_;rintro e w2 ⟨v3,rfl,hp3,hf2,hq3⟩;have hB:∀ b,b<W.heap.size->¬ some b=u3.ownBlock:=fun b hb e=>by have:=HO3.out.block_ge e.symm;omega
    have HF2:=aV4 hf2;have BX2:=aV4 (BX.out.fr hf2 (fun e=>by have:=HO3.out.block_lt e.symm;omega));have HP3:=aV4 hp3;have hs2:=hf2.size;have HA2:=aV4 ((HA1.out.ext HX1.out).carry (Q:=fun b=>b<w.heap.size) (fun b hb h=>hf2.block b hb (hB b (by omega))) (fun _ _ h=>h));have HO42:=aV4 (iM (HO4.out.ext_ HX1.out) hf2 (fun b h e=>HNE.out b e.symm h))
    have HQ3:=aV4 (show ∀ b,v3.ownBlock=some b->¬ some b=u4.ownBlock from by
     intro b hb e;rcases hq3 with h | ⟨b',h,hb'⟩
     ·rw [h] at hb;exact HNE.out b hb e.symm
     ·rw [hb] at h;injection h with h;have:=HO4.out.block_lt e.symm;omega)
    have HB2:=aV4 (show Ext W w2 from Fr.new_ext ((Fr.of_ext (HX.out.trans' HX1.out)).trans hf2) (fun b hb=>HO3.out.block_ge hb.symm));clear hp3 hf2 hq3 hB x0 x1 x2 x3 x4 x5 x6 x7 x8 x9 x10 x11;have x0:=BX2.out.cell' (u:=.int .i64 x.kind) 0 rfl;have x1:=BX2.out.cell' (u:=.string x.name) 1 rfl;have x2:=BX2.out.cell' (u:=.int .i64 x.lo) 2 rfl;have x3:=BX2.out.cell' (u:=.int .i64 x.hi) 3 rfl;have x4:=BX2.out.cell' (u:=.slice a1.wA x.weights.length a1.wc) 4 rfl;have x5:=BX2.out.cell' (u:=.slice a1.lA x.labels.length a1.lc) 5 rfl;have x6:=BX2.out.cell' (u:=.slice a1.vA x.values.length a1.vc) 6 rfl;have x7:=BX2.out.cell' (u:=.slice a1.kA x.kids.length a1.kc) 7 rfl;have x8:=BX2.out.cell' (u:=.int .i64 x.value.kind) 8 rfl;have x9:=BX2.out.cell' (u:=.int .i64 x.value.n) 9 rfl;have x10:=BX2.out.cell' (u:=.string x.value.s) 10 rfl;have x11:=BX2.out.cell' (u:=.slice a1.xA x.value.kids.length a1.xc) 11 rfl;go_wp2_with fail;refine (aCv (bP (t.take k)) x a1 _ W.heap.size u4 _ HA2.out (HO42.out.len_cast HSL.out.symm rfl) (by omega) (by rw [HSL.out];omega) (aCw _) (by rw [HSL.out];exact HOK.out)).mono ?_;rintro e w3 ⟨v4,rfl,hp4,hf3,hq4⟩;have BX3:=aV4 (BX2.out.fr hf3 (fun e=>by have:=HO4.out.block_lt e.symm;omega))
    have hs3:=hf3.size;have hB:∀ b,b<W.heap.size->¬ some b=u4.ownBlock:=fun b hb e=>by have:=HO4.out.block_ge e.symm;omega
    have HA3:=aV4 (HA2.out.carry (Q:=fun b=>b<w.heap.size) (fun b hb h=>hf3.block b hb (hB b (by omega))) (fun _ _ h=>h));have HB3:=aV4 (show Ext W w3 from Fr.new_ext ((Fr.of_ext HB2.out).trans hf3) (fun b hb=>HO4.out.block_ge hb.symm));have hP3:=iM HP3.out hf3 HQ3.out;rw [<- HLS.out,HLL.out] at hP3;rw [<- HSS.out,HSL.out] at hp4;have HP3':=aV4 hP3;have HP4:=aV4 hp4
    have HNE3:=aV4 (show ∀ b,v3.ownBlock=some b->v4.ownBlock ≠ some b from by
     intro b hb e;rcases hq4 with h | ⟨b',h,hb'⟩
     ·rw [h] at e;exact HQ3.out b hb e.symm
     ·rw [e] at h;injection h with h;have:=HP3.out.block_lt hb;omega)
    obtain ⟨q3,d3,e3,hd31,hd32,g3⟩:=pM hP3 (j:=k) (by omega);obtain ⟨q4,d4,e4,hd41,hd42,g4⟩:=pM hp4 (j:=k) (by omega);rw [HLG.out] at g3;rw [HSG.out] at g4;subst e3 e4;clear hP3 hp4 hf3 hq4 hB x0 x1 x2 x3 x4 x5 x6 x7 x8 x9 x10 x11;have hk1:(0:Int)<=(k:Int):=by omega
    generalize hL:(aT t).getD k 0=L at *;generalize hS:(bP t).getD k 0=S at *;have HCK2:=aV4 (show cV t k=if 256<L∨1024<S then 4 else if x.kind=4 then iD t x else 0 by rw [HCR.out,if_pos HZ.out]);have HLQ:=aV4 hL;have HSQ:=aV4 hS;clear hL hS;have x0:=BX3.out.cell' (u:=.int .i64 x.kind) 0 rfl
    by_cases hL1:256<L
    ·have HV4:=aV4 (show bW t=4 from HCK.out.trans (by rw [HCK2.out.trans (if_pos (Or.inl hL1))];rfl))
     go_wp2_with fail;go_ret;exact ⟨aM HV4.out.symm,HE.out.trans' HB3.out⟩
    have tL:decide (256<L)=false:=aV8 hL1
    by_cases hS1:1024<S
    ·have HV4:=aV4 (show bW t=4 from HCK.out.trans (by rw [HCK2.out.trans (if_pos (Or.inr hS1))];rfl))
     go_wp2_with fail;go_ret;exact ⟨aM HV4.out.symm,HE.out.trans' HB3.out⟩
    have tS:decide (1024<S)=false:=aV8 hS1
    by_cases hk4:x.kind=4
    ·have t4:(x.kind == 4)=true:=aV6 hk4
     have HK4:=aV4 hk4;have hkp:0<x.kids.length:=by have:=HOK.out.bind hk4;omega
     have hkz:=HOK.out.kids _ (aG (d:=0) hkp);have HKZ:=aV4 hkz;have HCK3:=aV4 (show cV t k=iD t x by rw [HCK2.out,if_neg (by omega),if_pos hk4]);clear hk4 hkz;have x1:=BX3.out.cell' (u:=.string x.name) 1 rfl;have x2:=BX3.out.cell' (u:=.int .i64 x.lo) 2 rfl;have x3:=BX3.out.cell' (u:=.int .i64 x.hi) 3 rfl;have x4:=BX3.out.cell' (u:=.slice a1.wA x.weights.length a1.wc) 4 rfl;have x5:=BX3.out.cell' (u:=.slice a1.lA x.labels.length a1.lc) 5 rfl;have x6:=BX3.out.cell' (u:=.slice a1.vA x.values.length a1.vc) 6 rfl;have x7:=BX3.out.cell' (u:=.slice a1.kA x.kids.length a1.kc) 7 rfl;have x8:=BX3.out.cell' (u:=.int .i64 x.value.kind) 8 rfl;have x9:=BX3.out.cell' (u:=.int .i64 x.value.n) 9 rfl;have x10:=BX3.out.cell' (u:=.string x.value.s) 10 rfl;have x11:=BX3.out.cell' (u:=.slice a1.xA x.value.kids.length a1.xc) 11 rfl;have y0:=(HBX.out.ext HB3.out).cell' (u:=.slice (some ⟨b1,o1,none⟩) t.length cn) 0 rfl;go_wp2_with fail;refine (aFa t x a1 (x.kids.getD 0 0).toNat (fun b=>b<w.heap.size) _ _ (HT.out.carry (aD.of_ext (HE.out.trans' HB3.out)) (fun b hb _=>hb)) HA3.out hkp (Int.toNat_of_nonneg HKZ.out.1).symm (HGD.out.mono (by have:=HKZ.out;omega))).mono ?_;rintro e w4 ⟨rfl,hx4⟩;have HX4:=aV4 hx4
     clear hx4 x0 x1 x2 x3 x4 x5 x6 x7 x8 x9 x10 x11 y0 g3 g4
     by_cases hbz:iD t x=0
     ·have tb:(iD t x != 0)=false:=by rw [bne_eq_false_iff_eq];exact hbz
      have HCZ:=aV4 (HCK3.out.trans hbz);clear hbz;go_wp2_with fail;go_roundw
      case rel =>
       refine ⟨k+1,by omega,by go_num,HP3'.out.ext_ HX4.out,HP4.out.ext_ HX4.out,HNE3.out,HB3.out.trans' HX4.out,⟨by omega,hsm,fun j hj=>?_⟩,?_⟩
       ·rcases Nat.lt_succ_iff_lt_or_eq.1 hj with h | rfl
        ·exact HGD.out.2.2 j h
        ·exact HCZ.out
       ·rw [HCK.out,if_pos HCZ.out]
      case measure=>simp [intOf];omega
     ·have tb:(iD t x != 0)=true:=bne_iff_ne.2 hbz
      have HVB:=aV4 (show bW t=iD t x by rw [HCK.out,HCK3.out,if_neg hbz]);clear hbz;go_wp2_with fail;go_ret;exact ⟨aM HVB.out.symm,HE.out.trans' (HB3.out.trans' HX4.out)⟩
    ·have t4:(x.kind == 4)=false:=aV5 hk4
     have HCZ:=aV4 (show cV t k=0 by rw [HCK2.out,if_neg (by omega),if_neg hk4]);clear hk4;go_wp2_with fail;go_roundw
     case rel =>
      refine ⟨k+1,by omega,by go_num,HP3'.out,HP4.out,HNE3.out,HB3.out,⟨by omega,hsm,fun j hj=>?_⟩,?_⟩
      ·rcases Nat.lt_succ_iff_lt_or_eq.1 hj with h | rfl
       ·exact HGD.out.2.2 j h
       ·exact HCZ.out
      ·rw [HCK.out,if_pos HCZ.out]
     case measure=>simp [intOf];omega
   ·have tz:(iF k x != 0)=true:=bne_iff_ne.2 hz
    have HVN:=aV4 (show bW t=iF k x by rw [HCK.out,HCR.out,if_neg hz,if_neg hz]);clear hz;go_wp2_with fail;go_ret;exact ⟨aM HVN.out.symm,HE.out.trans' (HX.out.trans' HX1.out)⟩
  ·have HVZ:=aV4 (show bW t=0 by rw [HVF.out,show t.length - k=0 by omega];rfl)
   go_wp2_with fail;go_ret;exact ⟨aM HVZ.out.symm,HE.out.trans' HX.out⟩
theorem oW {before:List GL}{bind:Bool}:∀ (zs:List Int)(k:Nat)(out:List GV),(jH before bind k out true zs).many=true
 | [],_,_=>by simp [jH]
 | z :: zs,k,out=>by
  simp only [jH]
  split
  ·exact oW zs _ _
  ·simp only [Bool.true_or];exact oW zs _ _
theorem iX {before:List GL}{bind:Bool}:∀ (zs:List Int)(k:Nat)(out:List GV),(jH before bind k out false zs).many=false ->
  (∀ v ∈ out,v ∈ (jH before bind k out false zs).vals)∧∀ m,m<zs.length->¬ (bind=true∧k+m=0) ->
   (before.getD (zs.getD m 0).toNat default).many=false∧∀ v ∈ (before.getD (zs.getD m 0).toNat default).vals,v ∈ (jH before bind k out false zs).vals
 | [],k,out,_=>⟨fun v hv=>by simpa [jH] using hv,fun m hm=>by simp at hm⟩
 | z :: zs,k,out,h=>by
  simp only [jH] at h ⊢
  split
  ·next hb =>
   rw [if_pos hb] at h;obtain ⟨h1,h2⟩:=iX zs (k+1) out h;refine ⟨h1,fun m hm hc=>?_⟩
   cases m with
   | zero=>exact absurd ⟨hb.1,by omega⟩ hc
   | succ m=>exact h2 m (by simpa using hm) (by omega)
  ·next hb =>
   rw [if_neg hb] at h;simp only [Bool.false_or] at h ⊢
   cases e:((before.getD z.toNat default).many || decide (1024<(eS (out ++ (before.getD z.toNat default).vals)).length))
   ·rw [e] at h
    simp only [Bool.or_eq_false_iff] at e;obtain ⟨h1,h2⟩:=iX zs (k+1) _ h;refine ⟨fun v hv=>h1 v ((eY _ v).2 (by simp [hv])),fun m hm hc=>?_⟩
    cases m with
    | zero=>exact ⟨e.1,fun v hv=>h1 v ((eY _ v).2 (by simp only [List.getD_cons_zero] at hv;exact List.mem_append.2 (.inr hv)))⟩
    | succ m=>exact h2 m (by simpa using hm) (by omega)
   ·rw [e,oW] at h;cases h
def aOg (before:List GL):List GV->List Int->Prop
 | [],[]=>True
 | v :: vs,z :: zs=>v ∈ (before.getD z.toNat default).vals∧aOg before vs zs
 | _,_=>False
theorem jV {before:List GL}:∀ (zs:List Int)(rows out:List (List GV)),bS before rows zs=some out->∀ z ∈ zs,(before.getD z.toNat default).many=false
 | [],_,_,_,z,hz=>by simp at hz
 | y :: zs,rows,out,h,z,hz=>by
  simp only [bS] at h
  split at h
  ·cases h
  ·next hm =>
   rcases List.mem_cons.1 hz with rfl | hz
   ·cases e:(before.getD z.toNat default).many
    ·rfl
    ·exact absurd (.inl e) hm
   ·exact jV zs _ out h z hz
theorem lF {before:List GL}:∀ (zs:List Int)(rows out:List (List GV)),bS before rows zs=some out->∀ q ∈ rows,∀ vs,aOg before vs zs->q ++ vs ∈ out
 | [],rows,out,h,q,hq,vs,hf=>by
  simp only [bS,Option.some.injEq] at h;subst h
  cases vs with
  | nil=>simpa using hq
  | cons _ _=>exact hf.elim
 | z :: zs,rows,out,h,q,hq,vs,hf=>by
  simp only [bS] at h
  split at h
  ·cases h
  ·cases vs with
   | nil=>exact hf.elim
   | cons v vs =>
    have:=lF zs _ out h (q ++ [v]) (jX.2 ⟨q,hq,v,hf.1,rfl⟩) vs hf.2
    simpa using this
theorem aOg.cast {a b:List GL}:∀ {vs:List GV}{zs:List Int},aOg a vs zs->(∀ z ∈ zs,a.getD z.toNat default=b.getD z.toNat default)->aOg b vs zs
 | [],[],_,_=>trivial
 | v :: vs,z :: zs,h,e=>⟨by rw [<- e z (by simp)];exact h.1,h.2.cast (fun y hy=>e y (by simp [hy]))⟩
 | [],_ :: _,h,_=>h.elim
 | _ :: _,[],h,_=>h.elim
structure mN (t:List GN)(path:List Int)(i:Nat)(at_:Int)(r:GR):Prop where
 used0:0<=r.used
 usedL:r.used<=(aT t).getD i 0
 usedP:at_+r.used<=path.length
 mem:r.stop=-1->((aI t).getD i default).many=false->r.val ∈ ((aI t).getD i default).vals
 stop:r.stop=-1∨r.stop=-2∨(0<=r.stop∧r.stop<=i∧((t.getD r.stop.toNat default).kind=1∨(t.getD r.stop.toNat default).kind=2)∧(path.length:Int) - at_<(aT t).getD i 0)
structure aOc (t:List GN)(path:List Int)(i:Nat)(name:ByteArray)(at_ used:Int)(acc:List GV)(zs:List Int)(r:GR):Prop where
 used0:0<=r.used
 usedL:r.used<=used+nU (aT t) zs
 usedP:at_+r.used<=path.length
 mem:r.stop=-1->(∀ z ∈ zs,((aI t).getD z.toNat default).many=false)->∃ vs,aOg (aI t) vs zs∧r.val=cE name (acc ++ vs)
 stop:r.stop=-1∨r.stop=-2∨(0<=r.stop∧r.stop<i∧((t.getD r.stop.toNat default).kind=1∨(t.getD r.stop.toNat default).kind=2)∧(path.length:Int) - at_<used+nU (aT t) zs)
theorem zI {t:List GN}{path:List Int}{i:Nat}{name:ByteArray}{r:Int->Int->GR}{at_:Int}(h0:0<=at_)
  (hl:∀ z:Int,0<=z->z<i->0<=(aT t).getD z.toNat 0∧(aT t).getD z.toNat 0<=256)
  (hr:∀ (z:Int)(k:Int),0<=z->z<i->0<=k->k<=path.length->mN t path z.toNat k (r z k)) :
  ∀ (zs:List Int) (used:Int) (acc:List GV),(∀ z ∈ zs,0<=z∧z<(i:Int))->0<=used->at_+used<=path.length->aOc t path i name at_ used acc zs (bR r name at_ used acc zs)
 | [],used,acc,_,h1,h2=>by
  simp only [bR];exact ⟨h1,by simp [nU],h2,fun _ _=>⟨[],trivial,by simp⟩,.inl rfl⟩
 | z :: zs,used,acc,hz,h1,h2=>by
  have hz0:=hz z (by simp);have hb:=hr z (at_+used) hz0.1 hz0.2 (by omega) h2;have hlz:=hl z hz0.1 hz0.2;have hls:=(yB (before:=aT t) (zs:=zs) (fun y hy=>hl y (hz y (by simp [hy])).1 (hz y (by simp [hy])).2)).1;have hu:=hb.used0;have huL:=hb.usedL;have huP:=hb.usedP;simp only [bR];generalize hg:r z (at_+used)=b at *
  split
  ·next hs =>
   have hp:=zI h0 hl hr (name:=name) zs (used+b.used) (acc ++ [b.val]) (fun y hy=>hz y (by simp [hy])) (by omega) (by omega);generalize bR r name at_ (used+b.used) (acc ++ [b.val]) zs=R at *;have q1:=hp.used0;have q2:=hp.usedL;have q3:=hp.usedP;refine ⟨q1,by simp only [nU];omega,q3,fun e hm=>?_,?_⟩
   ·obtain ⟨vs,h3,h4⟩:=hp.mem e (fun y hy=>hm y (by simp [hy]))
    exact ⟨b.val :: vs,⟨hb.mem hs (hm z (by simp)),h3⟩,by rw [h4];simp⟩
   ·rcases hp.stop with h | h | ⟨a,b',c,d⟩
    ·exact .inl h
    ·exact .inr (.inl h)
    ·exact .inr (.inr ⟨a,b',c,by simp only [nU];omega⟩)
  ·next hs =>
   refine ⟨by show 0<=used+b.used;omega,by show used+b.used<=_;simp only [nU];omega,by show at_+(used+b.used)<=_;omega,fun e=>absurd e hs,?_⟩;rcases hb.stop with h | h | ⟨a,b',c,d⟩
   ·exact absurd h hs
   ·exact .inr (.inl h)
   ·exact .inr (.inr ⟨a,by show b.stop<i;omega,c,by simp only [nU];omega⟩)
theorem tU {t:List GN}{n:Nat}(h:bJ t n)(path:List Int)(hpl:path.length<=1000000):∀ (f:Nat)(i:Nat)(at_:Int),i<f->i<n->0<=at_->at_<=path.length->mN t path i at_ (aW t path f i at_)
 | 0,i,at_,hf,_,_,_=>by omega
 | f+1,i,at_,hf,hi,ha0,ha1=>by
  have hit:i<t.length:=by have:=h.1;omega
  have hc:=h.at_ hi;have hL:=kC h i hi;have hfew:=fE h hi
  have hr:∀ (z:Int) (k:Int),0<=z->z<i->0<=k->k<=path.length->mN t path z.toNat k (aW t path f z k):=fun z k h1 h2 h3 h4=>by
   have:=tU h path hpl f z.toNat k (by omega) (by omega) h3 h4;rw [Int.toNat_of_nonneg h1] at this;exact this
  have hl:∀ z:Int,0<=z->z<i->0<=(aT t).getD z.toNat 0∧(aT t).getD z.toNat 0<=256:=fun z h1 h2=>(kC h z.toNat (by omega)).bd
  have hlg:=iQ hit;simp only [aW,Int.toNat_natCast];have hn:=hc.node;have hcm:=hc.many;have hcv:=hc.vals;have L1:=hL.bd;have L2:=hL.range;have L3:=hL.leaf;have L4:=hL.seq;have L5:=hL.choice;have L6:=hL.bind;have hself:(t.getD i default).kind=1∨(t.getD i default).kind=2->((t.getD ((i:Int)).toNat default).kind=1∨(t.getD ((i:Int)).toNat default).kind=2):=fun h=>by simpa using h
  generalize hx:t.getD i default=x at *;have hkd:=hn.kind;have hkl:∀ z ∈ x.kids,(aI (t.take i)).getD z.toNat default=(aI t).getD z.toNat default:=fun z hz=>gV hit (hn.kids z hz)
  unfold dA
  by_cases k0:x.kind=0
  ·rw [if_pos k0]
   refine ⟨Int.le_refl _,by show 0<=_;omega,by show at_+0<=_;omega,fun _ _=>?_,.inl rfl⟩;rw [hlg];unfold cN;rw [if_pos k0];simp
  rw [if_neg k0]
  by_cases k3:x.kind=3
  ·rw [if_pos k3]
   have hp:=zI (name:=x.name) ha0 hl hr x.kids 0 [] (fun z hz=>hn.kids z hz) (Int.le_refl _) (by omega);generalize bR (aW t path f) x.name at_ 0 [] x.kids=R at *;have q1:=hp.used0;have q2:=hp.usedL;have q3:=hp.usedP;have e3:=L4 k3;refine ⟨q1,by omega,q3,fun e hm=>?_,?_⟩
   ·rw [hlg] at hm ⊢
    unfold cN at hm ⊢;rw [if_neg k0,if_neg (by omega),if_pos k3] at hm ⊢;unfold vO at hm ⊢
    split at hm
    ·cases hm
    ·next rows hrows =>
     (try rw [hrows])
     have hmm:=jV x.kids _ rows hrows;obtain ⟨vs,h3,h4⟩:=hp.mem e (fun z hz=>by rw [<- hkl z hz];exact hmm z hz)
     show R.val ∈ eS _
     rw [eY,h4];refine List.mem_map.2 ⟨vs,?_,by simp⟩;have:=lF x.kids _ rows hrows [] (by simp) vs (h3.cast (fun z hz=>(hkl z hz).symm))
     simpa using this
   ·rcases hp.stop with h | h | ⟨a,b',c,d⟩
    ·exact .inl h
    ·exact .inr (.inl h)
    ·exact .inr (.inr ⟨a,by omega,c,by omega⟩)
  rw [if_neg k3]
  by_cases k4:x.kind=4
  ·rw [if_pos k4]
   have hbk:=hn.bind k4;have hz0:x.kids.getD 0 0 ∈ x.kids:=aG (by omega);have hz0':=hn.kids _ hz0;have ha:=hr (x.kids.getD 0 0) at_ hz0'.1 hz0'.2 ha0 ha1;have e4:=L6 k4;have hm0:=hcm k4;have hv0:=hcv k4;have hinc:=hn.inc;generalize hra:aW t path f (x.kids.getD 0 0) at_=a at *;have p1:=ha.used0;have p2:=ha.usedL;have p3:=ha.usedP
   split
   ·next hs =>
    have hmem:=ha.mem hs hm0;rw [hv0] at hmem;obtain ⟨f1,f2,f3⟩:=kD hinc hmem;generalize (cR x.values a.val).1=q at *;have hq:q+1<x.kids.length:=by omega
    have hzq:=hn.kids _ (aG (d:=0) hq);have hb:=hr (x.kids.getD (q+1) 0) (at_+a.used) hzq.1 hzq.2 (by omega) p3;have e5:=e4.2 (q+1) (by omega) hq;generalize hrb:aW t path f (x.kids.getD (q+1) 0) (at_+a.used)=b at *;have b1:=hb.used0;have b2:=hb.usedL;have b3:=hb.usedP;refine ⟨by show 0<=a.used+b.used;omega,by show a.used+b.used<=_;omega,by show at_+(a.used+b.used)<=_;omega,fun e hm=>?_,?_⟩
    ·show b.val ∈ _
     rw [hlg] at hm ⊢;unfold cN at hm ⊢;rw [if_neg k0,if_neg (by omega),if_neg k3] at hm ⊢;obtain ⟨h3,h4⟩:=(iX x.kids 0 [] hm).2 (q+1) hq (by omega);rw [hkl _ (aG hq)] at h3 h4;exact h4 _ (hb.mem e h3)
    ·rcases hb.stop with h | h | ⟨c1,c2,c3,c4⟩
     ·exact .inl h
     ·exact .inr (.inl h)
     ·exact .inr (.inr ⟨c1,by show b.stop<=i;omega,c3,by omega⟩)
   ·next hs =>
    refine ⟨p1,by omega,p3,fun e=>absurd e hs,?_⟩;rcases ha.stop with h | h | ⟨c1,c2,c3,c4⟩
    ·exact absurd h hs
    ·exact .inr (.inl h)
    ·exact .inr (.inr ⟨c1,by omega,c3,by omega⟩)
  rw [if_neg k4];have k12:x.kind=1∨x.kind=2:=by omega
  have hlen1:1<=(aT t).getD i 0:=by
   rcases k12 with k | k
   ·rw [L2 k];omega
   ·exact (L5 k).1
  split
  ·next hat =>
   refine ⟨Int.le_refl _,by show 0<=_;omega,by show at_+0<=_;omega,fun e=>?_,.inr (.inr ⟨?_,?_,?_,by omega⟩)⟩
   ·have:(i:Int)=-1:=e
    omega
   ·show (0:Int)<=(i:Int);omega
   ·show (i:Int)<=(i:Int);omega
   ·exact hself k12
  ·next hat =>
   split
   ·exact ⟨Int.le_refl _,by show 0<=_;omega,by show at_+0<=_;omega,fun e=>absurd e (by decide),.inr (.inl rfl)⟩
   ·next hopt =>
    rw [eR hn] at hopt;generalize path.getD at_.toNat 0=c at *
    split
    ·next k1 =>
     rw [if_pos k1] at hopt;have hnum:=cY hn.numbers;refine ⟨by show (0:Int)<=1;omega,by show 1<=_;omega,by show at_+1<=_;omega,fun _ hm=>?_,.inl rfl⟩
     show GV.mk 0 (x.lo+c) ByteArray.empty [] ∈ _
     rw [hlg] at hm ⊢;unfold cN at hm ⊢;rw [if_neg k0,if_pos k1] at hm ⊢
     split at hm
     ·cases hm
     ·next hr=>rw [if_neg hr];exact iK.2 ⟨x.lo+c,by omega,by omega,rfl⟩
    ·next k1 =>
     rw [if_neg k1] at hopt;have k2:x.kind=2:=by omega
     have hq:c.toNat<x.kids.length:=by omega
     have hzq:=hn.kids _ (aG (d:=0) hq);have hb:=hr (x.kids.getD c.toNat 0) (at_+1) hzq.1 hzq.2 (by omega) (by omega);have e5:=(L5 k2).2 _ (aG (d:=0) hq);generalize aW t path f (x.kids.getD c.toNat 0) (at_+1)=b at *;have b1:=hb.used0;have b2:=hb.usedL;have b3:=hb.usedP;refine ⟨by show 0<=b.used+1;omega,by show b.used+1<=_;omega,by show at_+(b.used+1)<=_;omega,fun e hm=>?_,?_⟩
     ·show b.val ∈ _
      rw [hlg] at hm ⊢;unfold cN at hm ⊢;rw [if_neg k0,if_neg k1,if_neg k3] at hm ⊢;obtain ⟨h3,h4⟩:=(iX x.kids 0 [] hm).2 c.toNat hq (by simp [k4]);rw [hkl _ (aG hq)] at h3 h4;exact h4 _ (hb.mem e h3)
     ·rcases hb.stop with h | h | ⟨c1,c2,c3,c4⟩
      ·exact .inl h
      ·exact .inr (.inl h)
      ·exact .inr (.inr ⟨c1,by show b.stop<=i;omega,c3,by omega⟩)
theorem Tryz.info254:(Tryz.prog.info? 254).map (fun i=>(i.zero,i.size,i.bytes))=some (some (.agg #[.int .i64 0,.int .i64 0,.int .i64 0]),3,24):=by kernel_rfl
abbrev cX (r:GR)(A:Option Addr)(c:Nat)(sv:Value):Array Value:=#[.int .i64 r.val.kind,.int .i64 r.val.n,.string r.val.s,.slice A r.val.kids.length c,.int .i64 r.used,.int .i64 r.stop,sv]
abbrev dV:Array Value:=#[.int .i64 0,.int .i64 0,.string ⟨#[]⟩,.slice none 0 0,.int .i64 0,.int .i64 0,.slice none 0 0]
def qN (m N:Nat)(xs:List Value):Prop:=m+1<=N∧∀ u ∈ xs,u.oneCell'=true
theorem qN.nil (f:Nat):qN 0 (5 ^ (f+1)) []:=⟨Nat.pos_of_ne_zero (by simp),by simp⟩
theorem qN.succ {m f:Nat}{xs:List Value}(h:qN m (5 ^ f) xs):qN m (5 ^ (f+1)) xs:=⟨by have:=h.1;rw [Nat.pow_succ];omega,h.2⟩
theorem qN.le {m f:Nat}{xs:List Value}(h:qN m (5 ^ f) xs)(hf:f<16):m<=30517578125:=by
 have h1:5 ^ f<=5 ^ 15:=Nat.pow_le_pow_right (by omega) (by omega);exact Nat.le_trans (Nat.le_of_succ_le h.1) h1
theorem qN.add {m n f:Nat}{xs ys:List Value}(h:qN m (5 ^ f) xs)(k:qN n (5 ^ f) ys):qN (m+n) (5 ^ (f+1)) (xs ++ ys) :=
 ⟨by have:=h.1;have:=k.1;rw [Nat.pow_succ];omega,fun u hu=>(List.mem_append.1 hu).elim (h.2 u) (k.2 u)⟩
def aJw (P:Nat->Prop)(r:GR)(N:Nat)(w:World)(e:Ending)(w':World):Prop :=
 ∃ A c sv m xs,e=.returned (.agg (cX r A c sv))∧VAt w' (New P w.heap.size) r.val A c∧w'.ownsRow w.heap.size 254 3 sv m xs∧qN m N xs∧Ext w w'
structure RdT (t:List GN)(path:List Int):Prop where
 good:bJ t t.length
 small:t.length<=16
 few:∀ x ∈ t,x.kind=3->x.kids.length<=4
 path:path.length<=1000000
def mL (t:List GN)(path:List Int)(f:Nat):Prop:=∀ (i:Nat)(at_:Int)(P:Nat->Prop)(vn vp:Value)(w:World),i<f->i<t.length->0<=at_->at_<=path.length->(∀ b,P b->b<w.heap.size)->Nds w P vn t->bT w P vp path ->
  Calls Tryz.prog 144 #[.agg #[vn],.int .i64 i,vp,.int .i64 at_] w (aJw P (aW t path f i at_) (5 ^ f) w)
structure yR (vn:Value)(x:GN)(a:NA)(w W:World):Prop where
 ext:Ext w W
 size:W.heap.size=w.heap.size+3
 tree:Blk W w.heap.size 25 #[vn]
 res:Blk W (w.heap.size+1) 154 dV
 box:Blk W (w.heap.size+2) 87 (aE x a).toArray
theorem yR.mk' (vn:Value)(x:GN)(a:NA)(w:World):yR vn x a w (((w.alloc (.cells #[vn] 25)).alloc (.cells dV 154)).alloc (.cells (aE x a).toArray 87)) :=
 ⟨(((Ext.refl w).alloc' _).alloc' _).alloc' _,by simp,((Blk.new w 25 #[vn]).alloc _).alloc _,(Blk.new' _ _ _ (by simp)).alloc _,Blk.new' _ _ _ (by simp)⟩
def iH (w:World)(g:Nat)(a b c d e f h:Value):World :=
 ((((((w.setCell ⟨g,0,none⟩ a).setCell ⟨g,1,none⟩ b).setCell ⟨g,2,none⟩ c).setCell ⟨g,3,none⟩ d).setCell ⟨g,4,none⟩ e).setCell ⟨g,5,none⟩ f).setCell ⟨g,6,none⟩ h
theorem cP {w:World}{g:Nat}{t:TypeId}{c0 c1 c2 c3 c4 c5 c6:Value}(h:Blk w g t #[c0,c1,c2,c3,c4,c5,c6])(u0 u1 u2 u3 u4 u5 u6:Value):Blk (iH w g u0 u1 u2 u3 u4 u5 u6) g t #[u0,u1,u2,u3,u4,u5,u6]:=by
 have h1:=((((((h.set_ 0 u0).set_ 1 u1).set_ 2 u2).set_ 3 u3).set_ 4 u4).set_ 5 u5).set_ 6 u6;simp only [List.setIfInBounds_toArray,List.set_cons_zero,List.set_cons_succ] at h1;exact h1
theorem cZ {w0 w:World}{g:Nat}(h:Ext w0 w)(hg:w0.heap.size<=g)(u0 u1 u2 u3 u4 u5 u6:Value):Ext w0 (iH w g u0 u1 u2 u3 u4 u5 u6) :=
 ((((((h.setCell' (p:=⟨g,0,none⟩) hg _).setCell' (p:=⟨g,1,none⟩) hg _).setCell' (p:=⟨g,2,none⟩) hg _).setCell' (p:=⟨g,3,none⟩) hg _).setCell' (p:=⟨g,4,none⟩) hg _).setCell' (p:=⟨g,5,none⟩) hg _).setCell' (p:=⟨g,6,none⟩) hg _
theorem dR {w:World}{g:Nat}{Q:Nat->Prop}(hg:¬ Q g)(u0 u1 u2 u3 u4 u5 u6:Value):aD Q w (iH w g u0 u1 u2 u3 u4 u5 u6):=by
 have h0:aD Q w w:=fun _ _ _=>rfl
 exact ((((((h0.set (p:=⟨g,0,none⟩) _ hg).set (p:=⟨g,1,none⟩) _ hg).set (p:=⟨g,2,none⟩) _ hg).set (p:=⟨g,3,none⟩) _ hg).set (p:=⟨g,4,none⟩) _ hg).set (p:=⟨g,5,none⟩) _ hg).set (p:=⟨g,6,none⟩) _ hg
theorem gE {w:World}{g:Nat}{base:Nat}{e:TypeId}{size:Nat}{v:Value}{n:Nat}{xs:List Value}(h:w.ownsRow base e size v n xs)(hg:g<base)(u0 u1 u2 u3 u4 u5 u6:Value):(iH w g u0 u1 u2 u3 u4 u5 u6).ownsRow base e size v n xs :=
 ownsRow_setCell_below (ownsRow_setCell_below (ownsRow_setCell_below (ownsRow_setCell_below (ownsRow_setCell_below (ownsRow_setCell_below (ownsRow_setCell_below h (a:=⟨g,0,none⟩) hg _) (a:=⟨g,1,none⟩) hg _) (a:=⟨g,2,none⟩) hg _) (a:=⟨g,3,none⟩) hg _) (a:=⟨g,4,none⟩) hg _) (a:=⟨g,5,none⟩) hg _) (a:=⟨g,6,none⟩) hg _
theorem bL {w:World}{b off:Nat}{u:Value}(h:w.cell? ⟨b,off,none⟩=some u)(o:Obj):(w.alloc o).cell? ⟨b,off,none⟩=some u:=jC h o (aP h)
theorem aCz {w:World}{g b off:Nat}{u:Value}{u0 u1 u2 u3 u4 u5 u6:Value}(hne:b ≠ g)(h:w.cell? ⟨b,off,none⟩=some u):(iH w g u0 u1 u2 u3 u4 u5 u6).cell? ⟨b,off,none⟩=some u:=by
 rw [<- h];exact World.cell?_of_block (w:=w) (dR (Q:=fun k=>k=b) (fun e=>hne e.symm) _ _ _ _ _ _ _ b (aP h) rfl)
theorem bN {w:World}{g b off:Nat}{u:Value}{u0 u1 u2 u3 u4 u5 u6:Value}(hne:¬ b=g)(h:w.cell? ⟨b,off,none⟩=some u) :
  (((((((w.setCell ⟨g,0,none⟩ u0).setCell ⟨g,1,none⟩ u1).setCell ⟨g,2,none⟩ u2).setCell ⟨g,3,none⟩ u3).setCell ⟨g,4,none⟩ u4).setCell ⟨g,5,none⟩ u5).setCell ⟨g,6,none⟩ u6).cell? ⟨b,off,none⟩=some u:=aCz hne h
theorem bU {w:World}{b off:Nat}{u:Value}{o o':Obj}(hb:b<w.heap.size)(h:(w.alloc o).cell? ⟨b,off,none⟩=some u):(w.alloc o').cell? ⟨b,off,none⟩=some u :=
 ((World.cell?_alloc_lt w o' ⟨b,off,none⟩ hb).trans (World.cell?_alloc_lt w o ⟨b,off,none⟩ hb).symm).trans h
theorem VAt.zero (w:World)(P:Nat->Prop):VAt w P bO none 0 :=
 ⟨by simp [I64,bO,GV.kind],by simp [I64,bO,GV.n],by simp [bO,GV.s],Nat.le_refl _,⟨by simp [bO,GV.kids],by omega⟩,
  ⟨none,0,[],rfl,Nat.le_refl _,⟨by simp [bO,GV.kids],by omega⟩,⟨rfl,fun h=>absurd h (by simp [bO,GV.kids])⟩,rfl⟩⟩
def kY (P:Nat->Prop)(r:GR)(N:Nat)(W:World)(s:Value)(wx:World):Prop :=
 ∃ wy g A c sv m xs,wy=wx∧s=.pointer (some ⟨g,0,none⟩)∧Blk wx g 154 (cX r A c sv)∧W.heap.size<=g∧VAt wx (fun b=>(P b∨W.heap.size<=b)∧b ≠ g) r.val A c∧wx.ownsRow W.heap.size 254 3 sv m xs∧qN m N xs∧sv.ownBlock ≠ some g∧Ext W wx
theorem kY.late {P:Nat->Prop}{r:GR}{N:Nat}{W w2:World}{A:Option Addr}{c:Nat}{sv:Value}{m:Nat}{xs:List Value}(_:∀ b,P b->b<W.heap.size)(hv:VAt w2 (New P W.heap.size) r.val A c)(ho:w2.ownsRow W.heap.size 254 3 sv m xs)(hm:qN m N xs)(hx:Ext W w2) :
  kY P r N W (.pointer (some ⟨w2.heap.size,0,none⟩)) (w2.alloc (.cells (cX r A c sv) 154)):=by
 have hs:=hx.size;refine ⟨_,w2.heap.size,A,c,sv,m,xs,rfl,rfl,Blk.new _ _ _,hs,hv.carry (aD.of_ext ((Ext.refl w2).alloc' _)) (fun b hb h=>⟨h,by omega⟩),ho.alloc _,hm,fun e=>?_,hx.alloc' _⟩;have:=ho.block_lt e;omega
theorem kY.early {P:Nat->Prop}{r:GR}{N B:Nat}{W w2:World}{A:Option Addr}{c:Nat}{sv:Value}{m:Nat}{xs:List Value}(hP:∀ b,P b->b<W.heap.size)(hv:VAt w2 (New P B) r.val A c)(ho:w2.ownsRow B 254 3 sv m xs)(hm:qN m N xs)(hB:B=W.heap.size+1)
  (hx:Ext (W.alloc (.cells dV 154)) w2):kY P r N W (.pointer (some ⟨W.heap.size,0,none⟩)) (iH w2 W.heap.size (.int .i64 r.val.kind) (.int .i64 r.val.n) (.string r.val.s) (.slice A r.val.kids.length c) (.int .i64 r.used) (.int .i64 r.stop) sv):=by
 subst hB;have hx':Ext W w2:=((Ext.refl W).alloc' _).trans' hx;have hs:=hx.size;simp at hs;refine ⟨_,W.heap.size,A,c,sv,m,xs,rfl,rfl,cP ((Blk.new W 154 dV).ext hx) _ _ _ _ _ _ _,Nat.le_refl _,?_,(gE ho (by omega) _ _ _ _ _ _ _).base_le (by omega),hm,fun e=>?_,cZ hx' (Nat.le_refl _) _ _ _ _ _ _ _⟩
 ·refine hv.carry (Q:=fun b=>(P b∨W.heap.size<=b)∧b ≠ W.heap.size) (dR ?_ _ _ _ _ _ _ _) (fun b hb h=>?_)
  ·rintro (h | h)
   ·have:=hP _ h;omega
   ·omega
  ·rcases h with h | h
   ·have:=hP b h
    exact ⟨.inl h,by omega⟩
   ·exact ⟨.inr (by omega),by omega⟩
 ·have:=ho.block_ge e
  omega
theorem aDa (t:List GN)(path:List Int)(f i:Nat)(at_:Int)(P:Nat->Prop)(vn vp:Value)(w:World)(hi:i<t.length)(hP:∀ b,P b->b<w.heap.size)(ht:Nds w P vn t)(hk:(t.getD i default).kind=0) :
  Calls Tryz.prog 144 #[.agg #[vn],.int .i64 i,vp,.int .i64 at_] w (aJw P (aW t path (f+1) i at_) (5 ^ (f+1)) w):=by
 have HT:=aV4 ht;have HPP:=aV4 hP;have HQ:=aV4 (show aW t path (f+1) i at_=⟨(t.getD i default).value,0,-1⟩ by simp only [aW,Int.toNat_natCast];unfold dA;rw [if_pos hk]);obtain ⟨An,cn,en,hn1,hn2⟩:=ht.form;subst en;obtain ⟨b1,o1,a1,rfl,-,ha1,hc1⟩:=ht.get hi;have HA:=aV4 ha1;have lb1:=hc1.lt;have c0:=hc1.c0;have c1:=hc1.c1;have c2:=hc1.c2;have c3:=hc1.c3;have c4:=hc1.c4;have c5:=hc1.c5;have c6:=hc1.c6;have c7:=hc1.c7;have c8:=hc1.c8;have c9:=hc1.c9;have c10:=hc1.c10;have c11:=hc1.c11;have t0:((t.getD i default).kind == 0)=true:=aV6 hk;clear ht hP hc1 ha1 hk;generalize t.getD i default=x at *;go_enter Tryz.func144,Tryz.ntmps144;go_upto_region 2 with fail;have HW:=aV4 (yR.mk' (.slice (some ⟨b1,o1,none⟩) t.length cn) x a1 w);generalize hW:(((w.alloc (.cells #[.slice (some ⟨b1,o1,none⟩) t.length cn] 25)).alloc (.cells dV 154)).alloc (.cells (aE x a1).toArray 87))=W at *;clear hW;have x0:=HW.out.box.cell' (u:=.int .i64 x.kind) 0 rfl;have x8:=HW.out.box.cell' (u:=.int .i64 x.value.kind) 8 rfl;have x9:=HW.out.box.cell' (u:=.int .i64 x.value.n) 9 rfl;have x10:=HW.out.box.cell' (u:=.string x.value.s) 10 rfl;have x11:=HW.out.box.cell' (u:=.slice a1.xA x.value.kids.length a1.xc) 11 rfl;have r0:=HW.out.res.cell' (u:=.int .i64 0) 0 rfl
 have r1:=HW.out.res.cell' (u:=.int .i64 0) 1 rfl;have r2:=HW.out.res.cell' (u:=.string ⟨#[]⟩) 2 rfl;have r3:=HW.out.res.cell' (u:=.slice none 0 0) 3 rfl;have r4:=HW.out.res.cell' (u:=.int .i64 0) 4 rfl;have r5:=HW.out.res.cell' (u:=.int .i64 0) 5 rfl;have r6:=HW.out.res.cell' (u:=.slice none 0 0) 6 rfl;have f0:=HW.out.res.frozen 0;have f1:=HW.out.res.frozen 1;have f2:=HW.out.res.frozen 2;have f3:=HW.out.res.frozen 3;have f4:=HW.out.res.frozen 4;have f5:=HW.out.res.frozen 5;have f6:=HW.out.res.frozen 6;clear c0 c1 c2 c3 c4 c5 c6 c7 c8 c9 c10 c11;go_wp2_with fail;have q:=cP HW.out.res (.int .i64 x.value.kind) (.int .i64 x.value.n) (.string x.value.s) (.slice a1.xA x.value.kids.length a1.xc) (.int .i64 0) (.int .i64 (-1)) (.slice none 0 0);have HX2:=aV4 (cZ HW.out.ext (show w.heap.size<=w.heap.size+1 by omega) (.int .i64 x.value.kind) (.int .i64 x.value.n) (.string x.value.s) (.slice a1.xA x.value.kids.length a1.xc) (.int .i64 0) (.int .i64 (-1)) (.slice none 0 0))
 change bodyPost Tryz.prog Tryz.f144 _ Exit.ret _ (iH W (w.heap.size+1) (.int .i64 x.value.kind) (.int .i64 x.value.n) (.string x.value.s) (.slice a1.xA x.value.kids.length a1.xc) (.int .i64 0) (.int .i64 (-1)) (.slice none 0 0))
 have HV:=aV4 ((HA.out.value.ext HX2.out).keep (Q:=New P w.heap.size) (fun _ _ _=>rfl) (fun _ h=>.inl h));generalize iH W (w.heap.size+1) (.int .i64 x.value.kind) (.int .i64 x.value.n) (.string x.value.s) (.slice a1.xA x.value.kids.length a1.xc) (.int .i64 0) (.int .i64 (-1)) (.slice none 0 0)=W' at *;have q0:=q.cell' (u:=.int .i64 x.value.kind) 0 rfl;have q1:=q.cell' (u:=.int .i64 x.value.n) 1 rfl;have q2:=q.cell' (u:=.string x.value.s) 2 rfl;have q3:=q.cell' (u:=.slice a1.xA x.value.kids.length a1.xc) 3 rfl;have q4:=q.cell' (u:=.int .i64 0) 4 rfl;have q5:=q.cell' (u:=.int .i64 (-1)) 5 rfl;have q6:=q.cell' (u:=.slice none 0 0) 6 rfl;rw [HQ.out];refine bodyPost_ret (v:=.agg (cX ⟨x.value,0,-1⟩ a1.xA a1.xc (.slice none 0 0))) (by simp [results,Tryz.results144,go_sem,q0,q1,q2,q3,q4,q5,q6]) rfl ⟨a1.xA,a1.xc,.slice none 0 0,0,[],rfl,HV.out,aX _ _ _ _,?_,HX2.out⟩;exact qN.nil f
end Go.Proofs.YtkoeecdjijfjnaaGreat
