/- Contracts and laws. Conditions: none. -/
import Derived.Test.YtkoeecdjijfjnaaGreatPlE
set_option linter.all false
set_option maxRecDepth 100000
set_option maxHeartbeats 8000000
namespace Go.Proofs.YtkoeecdjijfjnaaGreat
open Go.RowKit
def New (P:Nat->Prop)(B:Nat):Nat->Prop:=fun b=>P b∨B<=b
section
variable {w w':World}{P Q:Nat->Prop}
theorem Sl.carry {size A n cs}(h:Sl w P size A n cs)(hs:0<size)(hk:aB P w w')(hPQ:∀ b,b<w.heap.size->P b->Q b):Sl w' Q size A n cs :=
 ⟨h.1,fun hn=>by
  obtain ⟨b,off,e,hb,hc⟩:=h.2 hn;have hl:0<cs.length:=by rw [h.1];exact Nat.mul_pos hn hs
  have hlt:b<w:=aX (hc 0 cs[0] iy);exact ⟨b,off,e,hPQ b hlt hb,fun j u hu=>(World.cell?_of_block (w:=w) (w':=w') (hk b hlt hb)).trans (hc j u hu)⟩⟩
mutual
theorem RV.carry (hk:aB P w w')(hPQ:∀ b,b<w.heap.size->P b->Q b):∀ {x cs},RV w P x cs->RV w' Q x cs
 | .mk k n s kids,cs,h=>by
  simp only [RV] at h ⊢;obtain ⟨h1,h2,h3,A,c,css,h4,h5,h6,h7,h8⟩:=h;exact ⟨h1,h2,h3,A,c,css,h4,h5,h6,h7.carry I hk hPQ,RVs.carry hk hPQ h8⟩
theorem RVs.carry (hk:aB P w w')(hPQ:∀ b,b<w.heap.size->P b->Q b):∀ {l cs},RVs w P l cs->RVs w' Q l cs
 | [],cs,h=>by simp only [RVs] at h ⊢;exact h
 | x :: xs,cs,h=>by
  simp only [RVs] at h ⊢;obtain ⟨c1,c2,h1,h2,h3⟩:=h;exact ⟨c1,c2,h1,RV.carry hk hPQ h2,RVs.carry hk hPQ h3⟩
end
theorem bT.carry {v l}(h:bT w P v l)(hk:aB P w w')(hPQ:∀ b,b<w.heap.size->P b->Q b):bT w' Q v l:=by
 obtain ⟨A,c,css,h1,h2,h3,h4,h5⟩:=h;exact ⟨A,c,css,h1,h2,h3,h4.carry I hk hPQ,RVs.carry hk hPQ h5⟩
theorem VAt.carry {x A c}(h:VAt w P x A c)(hk:aB P w w')(hPQ:∀ b,b<w.heap.size->P b->Q b):VAt w' Q x A c :=
 ⟨h.kind,h.n,h.s,h.len,h.cap,h.kids.carry hk hPQ⟩
theorem Ints.carry {v l}(h:Ints w P v l)(hk:aB P w w')(hPQ:∀ b,b<w.heap.size->P b->Q b):Ints w' Q v l:=by
 obtain ⟨A,c,hv,h1,h2,h3,h4⟩:=h;exact ⟨A,c,hv,h1,h2,h3,h4.carry I hk hPQ⟩
theorem Lst.carry {α size}{R R':α->List Value->Prop}{v l}(h:Lst w P size R v l)(hs:0<size)(hk:aB P w w')(hPQ:∀ b,b<w.heap.size->P b->Q b)(hR:∀ x ∈ l,∀ cs,R x cs->R' x cs):Lst w' Q size R' v l:=by
 obtain ⟨A,c,css,h1,h2,h3,h4,h5⟩:=h;exact ⟨A,c,css,h1,h2,h3,h4.carry hs hk hPQ,h5.mono hR⟩
theorem nW.carry {v l}(h:nW w P v l)(hk:aB P w w')(hPQ:∀ b,b<w.heap.size->P b->Q b):nW w' Q v l:=Lst.carry h I hk hPQ (fun _ _ _ h=>h)
theorem NAt.carry {x a}(h:NAt w P x a)(hk:aB P w w')(hPQ:∀ b,b<w.heap.size->P b->Q b):NAt w' Q x a :=
 ⟨h.kind,h.name,h.lo,h.hi,h.weights.carry hk hPQ,h.labels.carry hk hPQ,h.values.carry hk hPQ,h.kids.carry hk hPQ,h.value.carry hk hPQ⟩
theorem RN.carry {x cs}(h:RN w P x cs)(hk:aB P w w')(hPQ:∀ b,b<w.heap.size->P b->Q b):RN w' Q x cs:=by
 obtain ⟨a,e,h⟩:=h;exact ⟨a,e,h.carry hk hPQ⟩
theorem Nds.carry {v l}(h:Nds w P v l)(hk:aB P w w')(hPQ:∀ b,b<w.heap.size->P b->Q b):Nds w' Q v l:=Lst.carry h I hk hPQ (fun _ _ _ h=>RN.carry h hk hPQ)
theorem bT.imp {v l}(h:bT w P v l)(hPQ:∀ b,b<w.heap.size->P b->Q b):bT w Q v l:=h.carry (fun _ _ _=>rfl) hPQ
theorem bT.grow {v l}(h:bT w P v l)(hx:Ext w w')(hPQ:∀ b,b<w.heap.size->P b->Q b):bT w' Q v l:=h.carry (aB.of_ext hx) hPQ
end
def aJg (w:World)(P:Nat->Prop)(l:List GV)(cs:List Value):Prop:=∃ v,cs=[v]∧bT w P v l
def Rws (w:World)(P:Nat->Prop)(v:Value)(rows:List (List GV)):Prop:=Lst w P 1 (aJg w P) v rows
def RGL (w:World)(P:Nat->Prop)(g:GL)(cs:List Value):Prop:=∃ v,cs=[v,.bool g.many]∧bT w P v g.vals
def GLs (w:World)(P:Nat->Prop)(v:Value)(l:List GL):Prop:=Lst w (fun b=>b<w.heap.size) 2 (RGL w P) v l
section
variable {w w':World}{P Q:Nat->Prop}
theorem aJg.len (l cs)(h:aJg w P l cs):cs.length=1:=by obtain ⟨v,rfl,_⟩:=h;rfl
theorem RGL.len (g cs)(h:RGL w P g cs):cs.length=2:=by obtain ⟨v,rfl,_⟩:=h;rfl
theorem aJg.carry {l cs}(h:aJg w P l cs)(hk:aB P w w')(hPQ:∀ b,b<w.heap.size->P b->Q b):aJg w' Q l cs:=by
 obtain ⟨v,e,h⟩:=h;exact ⟨v,e,h.carry hk hPQ⟩
theorem RGL.carry {g cs}(h:RGL w P g cs)(hk:aB P w w')(hPQ:∀ b,b<w.heap.size->P b->Q b):RGL w' Q g cs:=by
 obtain ⟨v,e,h⟩:=h;exact ⟨v,e,h.carry hk hPQ⟩
theorem Rws.carry {v l}(h:Rws w P v l)(hk:aB P w w')(hPQ:∀ b,b<w.heap.size->P b->Q b):Rws w' Q v l:=Lst.carry h I hk hPQ (fun _ _ _ h=>h.carry hk hPQ)
theorem GLs.grow {v l}(h:GLs w P v l)(hx:Ext w w')(hPQ:∀ b,b<w.heap.size->P b->Q b):GLs w' Q v l:=Lst.carry h I (aB.of_ext hx) (fun b hb _=>ac hb hx.size) (fun _ _ _ h=>h.carry (aB.of_ext hx) hPQ)
theorem Rws.ext {v l}(h:Rws w P v l)(hx:Ext w w'):Rws w' P v l:=h.carry (aB.of_ext hx) (fun _ _ h=>h)
theorem GLs.ext {v l}(h:GLs w P v l)(hx:Ext w w'):GLs w' P v l:=h.grow hx (fun _ _ h=>h)
theorem Lst.form {α size}{R:α->List Value->Prop}{v l}(h:Lst w P size R v l):∃ A c,v=.slice A l c∧l<=c∧(l.length<=17592186044416∧c<=9223372036854775807):=by
 obtain ⟨A,c,_,h1,h2,h3,_⟩:=h;exact ⟨A,c,h1,h2,h3⟩
theorem Rws.get {A n c l}(h:Rws w P (.slice A n c) l){i:Nat}(hi:i<l) :
  ∃ b off A' d,A=some ↑(qt b off)∧P b∧bT w P (.slice A' (l.getD i []) d) (l.getD i [])∧qc w b (off+i) (.slice A' (l.getD i []) d):=by
 obtain ⟨b,off,c',cs,e,hb,_,_,⟨v,rfl,hv⟩,hc⟩:=Lst.at_ aJg.len h [] hi;injection e with e _ _;obtain ⟨A',d,ev,_⟩:=hv.form;subst ev;refine ⟨b,off,A',d,e,hb,hv,?_⟩;have:=hc 0 _ rfl
 simpa using this
theorem GLs.get {A n c l}(h:GLs w P (.slice A n c) l){i:Nat}(hi:i<l) :
  ∃ b off A' d,A=some ↑(qt b off)∧b<w∧bT w P (.slice A' (l.getD i default).vals.length d) (l.getD i default).vals∧qc w b (off+i*2) (.slice A' (l.getD i default).vals.length d) ∧
   qc w b (off+i*2+1) (.bool (l.getD i default).many):=by
 obtain ⟨b,off,c',cs,e,hb,_,_,⟨v,rfl,hv⟩,hc⟩:=Lst.at_ RGL.len h default hi;injection e with e _ _;obtain ⟨A',d,ev,_⟩:=hv.form;subst ev;exact ⟨b,off,A',d,e,hb,hv,hc 0 _ rfl,hc 1 _ rfl⟩
theorem Lst.of_own {α size base e R v}{l:List α}{xs}(ho:w.ownsRow base e size v l xs)(hR:RL R l xs)(hl:l.length<=17592186044416)
  (hQ:∀ b,v.ownBlock=some b->Q b):Lst w Q size R v l:=by
 obtain ⟨A,c,e,h1,h2,h3⟩:=Sl.of_own ho;unfold maxLen at h2;exact ⟨A,c,xs,e,h1,⟨hl,h2⟩,h3 Q hQ,hR⟩
theorem bT.of_own {base e v}{l:List GV}{xs}(ho:w.ownsRow base e 4 v l xs)(hR:RVs w Q l xs)(hl:l.length<=17592186044416)
  (hQ:∀ b,v.ownBlock=some b->Q b):bT w Q v l:=nV.2 (Lst.of_own ho (aNw.1 hR) hl hQ)
theorem _root_.Go.World.ownsRow.block_lt {base:Nat}{e:TypeId}{size:Nat}{v:Value}{n:Nat}{xs:List Value}(h:w.ownsRow base e size v n xs){b:Nat}(hb:v.ownBlock=some b):b<w:=by
 rcases h.2 with ⟨rfl,_⟩ | ⟨g,cap,cur,rfl,h1,h2,_⟩
 ·simp [Value.ownBlock] at hb
 ·simp [Value.ownBlock] at hb;subst hb;exact Blk.lt (t:=e) h2
theorem _root_.Go.World.ownsRow.len_cast {base:Nat}{e:TypeId}{size:Nat}{v:Value}{n m:Nat}{xs ys:List Value}(h:w.ownsRow base e size v n xs)(e1:n=m)(e2:xs=ys):w.ownsRow base e size v m ys:=e1 ▸ e2 ▸ h
end
def Off (P:Nat->Prop)(B:Nat)(w:World)(v:Value):Nat->Prop:=fun b=>(P b∨B<=b)∧b<w∧some b ≠ v.ownBlock
theorem aB.off {P B w w' v}(hf:Fr (fun k=>some k=v.ownBlock) w w'):aB (Off P B w v) w w':=fun b hb h=>hf.block b hb h.2.2
def aBa (P:Nat->Prop)(g:GL)(w:World)(e:Ending)(w':World):Prop :=
 ∃ A c,e=.returned (.agg #[.slice A g.vals c,g.many])∧bT w' (New P w) (.slice A g.vals c) g.vals∧Ext w w'
theorem Tryz.info83:(Tryz.prog.info? 83).map (fun i=>(i.zero,i.size,i.bytes))=some (some ↑qn,1,24):=U
def Bd (P:Nat->Prop)(B N:Nat):Nat->Prop:=fun b=>(P b∨B<=b)∧b<N
def aVw (x:GN)(before:List GL)(P:Nat->Prop)(B:Nat)(W:World)(v k:Value)(wr:World):Prop :=
 ∃ (j:Nat) (rows:List (List GV)),j<=x.kids∧k=↑j∧Rws wr (New P B) v rows∧Ext W wr∧rows.length<=1024∧(∀ r ∈ rows,r.length=j)∧bL before [[]] x.kids=bL before rows (x.kids.drop j)
def aVx (P:Nat->Prop)(B:Nat)(W:World)(rows:List (List GV))(vals:List GV)(v i:Value)(wr:World):Prop :=
 ∃ (k:Nat) (xs:List Value),k<=rows∧i=↑k∧wr.ownsRow W 83 1 v (eT (rows.take k) vals) xs∧RL (aJg wr (Off P B wr v)) (eT (rows.take k) vals) xs∧Ext W wr
def aWj (P:Nat->Prop)(B:Nat)(W:World)(done:List (List GV))(r:List GV)(vals:List GV)(v i:Value)(wr:World):Prop :=
 ∃ (k:Nat) (xs:List Value),k<=vals∧i=↑k∧wr.ownsRow W 83 1 v (done ++ (vals.take k).map (fun u=>r ++ [u])) xs∧RL (aJg wr (Off P B wr v)) (done ++ (vals.take k).map (fun u=>r ++ [u])) xs∧Ext W wr
def aWd (P:Nat->Prop)(B:Nat)(W:World)(name:ByteArray)(rows:List (List GV))(v i:Value)(wr:World):Prop :=
 ∃ (k:Nat) (xs:List Value),k<=rows∧i=↑k∧wr.ownsRow W 85 4 v k xs∧RVs wr (Bd P B W) ((rows.take k).map (bX name)) xs∧Ext W wr
theorem aE4 (rows r vals):eT (rows ++ [r]) vals=eT rows vals ++ vals.map (fun u=>r ++ [u]):=by
 unfold eT;rw [List.flatMap_append];simp
theorem aJ9 {P B N}{wr w2 w4:World}{v v' vr}{next:List (List GV)}{row:List GV}{xs cr}
  (hB:B<=N)(ho:wr.ownsRow N 83 1 v next xs)(hN:N<=wr)(hr:RL (aJg wr (Off P B wr v)) next xs)(h2:Ext wr w2)(hrow:w2.ownsRow wr 85 4 vr row cr)
  (hcr:RVs w2 (Bd P B N) row cr)(hl:row.length<=100000)(hf:Fr (fun k=>some k=v.ownBlock) (w2.alloc (qk #[vr] 83)) w4)
  (hown:v'.ownBlock=v.ownBlock∨v'.ownBlock=some (w2.alloc (qk #[vr] 83)).heap.size):RL (aJg w4 (Off P B w4 v')) (next ++ [row]) (xs ++ [vr]):=by
 have hs2:=h2.size;have hs4:=hf.size;simp at hs4;have h24:Fr (fun k=>some k=v.ownBlock) w2 w4:=(ar ((aq w2).alloc' _)).trans hf;have h04:Fr (fun k=>some k=v.ownBlock) wr w4:=(ar h2).trans h24;have hv:∀ b,v.ownBlock=some b->N<=b∧b<wr:=fun b hb=>⟨ho.block_ge hb,ho.block_lt hb⟩
 have hne:∀ b,b<w2.heap.size->some b ≠ v.ownBlock->some b ≠ v'.ownBlock:=by
  intro b hb h;rcases hown with e | e
  ·rw [e];exact h
  ·rw [e];intro e';injection e' with e';simp at e';omega
 refine RL.append (hr.mono (fun l _ cs h=>h.carry (aB.off h04) (fun b hb h=>⟨h.1,I,hne b I h.2.2⟩))) (RL.one ⟨vr,rfl,?_⟩);refine (bT.of_own (Q:=fun b=>(P b∨B<=b)∧some b ≠ v.ownBlock) hrow (RVs.carry (fun _ _ _=>rfl) ?_ hcr) I ?_).carry (fun b hb h=>h24.block b hb h.2) (fun b hb h=>⟨h.1,I,hne b hb h.2⟩)
 ·rintro b hb ⟨h1,h3⟩
  exact ⟨h1,fun e=>by have:=(hv b e.symm).1;omega⟩
 ·intro b hb
  have hge:=hrow.block_ge hb;exact ⟨.inr I,fun e=>by have:=(hv b e.symm).2;omega⟩
theorem VAt.made {w P name}{kids:List GV}{A c}(hn:name.size<=17592186044416)(h:bT w P (.slice A kids c) kids):VAt w P (bX name kids) A c:=by
 obtain ⟨h1,h2⟩:=h.le;unfold bX;split
 ·exact ⟨by simp [I64,GV.kind],by simp [I64,GV.n],by simp [GV.s],h1,h2,h⟩
 ·exact ⟨by simp [I64,GV.kind],by simp [I64,GV.n],hn,h1,h2,h⟩
theorem bT.slice_parts {w P A n c l}(h:bT w P (.slice A n c) l):∃ css,Sl w P 4 A l css∧RVs w P l css:=by
 obtain ⟨A',c',css,e,_,_,h1,h2⟩:=h;injection e with e _ _;subst e;exact ⟨css,h1,h2⟩
theorem mR {a b:Nat}(ha:a<=1024)(hb:b<=1024):wrap64 ((a:Int)*(b:Int))=((a*b:Nat):Int):=by
 have h:a*b<=1024*1024:=Nat.mul_le_mul ha hb;have e:(a:Int)*(b:Int)=((a*b:Nat):Int):=by simp
 rw [e];exact IntWalk.wrap64_in _ I
theorem wG (x a P before vb w)(hx:NAt w P x a)(hb:GLs w P vb before)
  (hkids:∀ z ∈ x.kids,0<=z∧z<(before:Int))(hlok:∀ z ∈ x.kids,LOK (before.getD z.toNat default))(hkl:x.kids.length<=2000)(hP:∀ b,P b->b<w) :
  qg 197 #[fU x a,vb] w (aBa P (zL x before) w):=by
 have HX:=a4b hx;have HPP:=a4b hP;have HB:=a4b hb;have HK:=a4b hkids;have HLOK:=a4b hlok;obtain ⟨Ab,cb,eb,hb1,hb2⟩:=Lst.form hb;subst eb;obtain ⟨hkl1,hkl2⟩:=hx.kids.le;clear hx hb hkids hlok hP;obtain ⟨i0,hi,hz0,hz1,hz2⟩:=info_parts Tryz.info85;have HI:=a4b hi;obtain ⟨i1,hi',hz0',hz1',hz2'⟩:=info_parts Tryz.info83;have HI':=a4b hi';clear hi hi';have HSEQ:=a4b (show zL x before=match bL before [[]] x.kids with | none=>⟨[],true⟩ | some rows=>⟨eM (rows.map (bX x.name)),false⟩ from rfl);go_enter Tryz.func197,Tryz.ntmps197;go_wp2_with fail;have HE:=a4b (show Ext w (((w.alloc (qk (aK x a).toArray 87)).alloc (qk #[qn,false] 194)).alloc (qk #[qn] 83)) from (((aq w).alloc' _).alloc' _).alloc' _);have HBX:=a4b (((aw w 87 (aK x a).toArray).alloc (qk #[qn,false] 194)).alloc (qk #[qn] 83));have HBR:=a4b ((az (w.alloc (qk (aK x a).toArray 87)) 194 #[qn,false] (g:=w.heap.size+1) O).alloc (qk #[qn] 83))
 have HR0:=a4b (show Rws (((w.alloc (qk (aK x a).toArray 87)).alloc (qk #[qn,false] 194)).alloc (qk #[qn] 83)) (New P (w+2)) (.slice (qp (w.heap.size+1+1)) 1 1) [[]] from
  ⟨some ↑(qp (w.heap.size+1+1)),1,[↑qn],rfl,O,O,⟨rfl,fun _=>⟨w.heap.size+1+1,0,rfl,.inr I,fun j u hu=>tF _ _ _ _ _ _ O ie⟩⟩,
   RL.one ⟨_,rfl,none,0,[],rfl,O,O,⟨rfl,fun h=>absurd h O⟩,rfl⟩⟩)
 generalize hW:((w.alloc (qk (aK x a).toArray 87)).alloc (qk #[qn,false] 194)).alloc (qk #[qn] 83)=W at *;clear hW;go_loopw [5,6] (fun v k wr=>aVw x before P (w+2) W v k wr) (fun _ k _=>x.kids.length - (intOf k).toNat)
 case atStart=>exact ⟨0,[[]],af _,rfl,HR0.out,aq _,O,O,rfl⟩
 case round =>
  obtain ⟨j,rows,hj,rfl,hrows,hxr,hrl,hrr,ht⟩:=hrel;have HT:=a4b ht;have HXR:=a4b hxr;have HRR:=a4b hrr;have HROWS:=a4b hrows;obtain ⟨A5,c5,e5,h51,h52⟩:=Lst.form hrows;subst e5;have hbx7:=(HBX.out.ext hxr).cell' (u:=.slice a.kA x.kids a.kc) 7 rfl;have BR:=a4b (HBR.out.ext hxr);have r0:=BR.out.cell' (u:=qn) 0 rfl;have r1:=BR.out.cell' (u:=false) 1 rfl;have f0:=BR.out.frozen 0;have f1:=BR.out.frozen 1;have hlr:=BR.out.lt;have hbx:=(HBX.out.ext hxr).lt;clear ht hxr hrr hrows;by_cases hlt:j<x.kids
  ·obtain ⟨b1,o1,e1,-,-,g1⟩:=(HX.out.kids.ext (HE.out.trans' HXR.out)).get hlt
   rw [e1] at hbx7;clear e1;have hz:=HK.out _ (aD (d:=0) hlt);have HLZ:=a4b (HLOK.out _ (aD (d:=0) hlt));have HD:=a4b (show bL before [[]] x.kids=_ from by rw [HT.out,aH 0 hlt,bL]);generalize x.kids.getD j 0=z at *;obtain ⟨b2,o2,A2,d2,rfl,-,hv2,g2,g3⟩:=(HB.out.ext (HE.out.trans' HXR.out)).get (i:=z.toNat) I;have HV2:=a4b hv2;have hfew:=HLZ.out.few;have hvle:=hv2.le;clear hv2;generalize before.getD z.toNat default=l at *;obtain ⟨vals,many⟩:=l;simp only at HD g2 g3 hfew HV2 hvle;cases many
   ·by_cases hp:1024<rows.length*vals
    ·have tp:decide (1024<wrap64 ((rows:Int)*(vals:Int)))=true:=by rw [mR hrl hfew];exact a4e I
     have HQ:=a4b (show zL x before=⟨[],true⟩ by rw [HSEQ.out,HD.out,if_pos (.inr hp)]);clear hp;go_wp2_with fail;have q:=((BR.out.set_ 0 qn).set_ 1 true).alloc (qk #[.slice A2 vals d2,false] 194);have q0:=q.cell' (u:=qn) 0 rfl;have q1:=q.cell' (u:=true) 1 rfl;clear q;rw [HQ.out];refine bodyPost_ret (v:=.agg #[qn,true]) (by simp [results,Tryz.results197,go_sem,q0,q1]) rfl ⟨none,0,rfl,⟨none,0,[],rfl,O,O,⟨rfl,fun h=>absurd h O⟩,rfl⟩,?_⟩;exact ((((HE.out.trans' HXR.out).setCell' (p:=qp (w+1)) cj _).setCell' (p:=qt (w+1) 1) cj _).alloc' _)
    ·have tp:decide (1024<wrap64 ((rows:Int)*(vals:Int)))=false:=by rw [mR hrl hfew];exact a4f I
     have HQ:=a4b (show bL before [[]] x.kids=bL before (eT rows vals) (x.kids.drop (j+1)) by rw [HD.out,if_neg bh]);have hp':rows.length*vals<=1024:=by omega
     have HP:=a4b hp';clear hp hp';go_wp2_with fail;have HX1:=a4b (HXR.out.alloc' (qk #[.slice A2 vals d2,false] 194));have HBL:=a4b (aw wr 194 #[.slice A2 vals d2,false]);have HRW:=a4b (HROWS.out.carry (Q:=Bd P (w+2) (wr.alloc (qk #[.slice A2 vals d2,false] 194))) (aB.of_ext ((aq wr).alloc' (qk #[.slice A2 vals d2,false] 194))) (fun b hb h=>⟨h,bh⟩));have HVW:=a4b (HV2.out.grow (Q:=Bd P (w+2) (wr.alloc (qk #[.slice A2 vals d2,false] 194))) ((aq wr).alloc' (qk #[.slice A2 vals d2,false] 194)) (fun b hb h=>⟨.inl h,bh⟩));have hwr:w.heap.size+2<=(wr.alloc (qk #[.slice A2 vals d2,false] 194)):=by simp;omega
     have hgl:wr.heap.size<(wr.alloc (qk #[.slice A2 vals d2,false] 194)):=O;generalize hW1:wr.alloc (qk #[.slice A2 vals d2,false] 194)=W1 at *;clear hW1;obtain ⟨wo,rfl⟩:∃ wo:World,wo=wr:=⟨_,rfl⟩;clear hbx7 g1 g2 g3 r0 r1 f0 f1 tp;go_loopw [8,9] (fun v k wq=>aVx P (w+2) W1 rows vals v k wq) (fun _ k _=>rows.length - (intOf k).toNat)
     case atStart=>exact ⟨0,[],af _,rfl,aP _ _ _ _,rfl,aq _⟩
     case round =>
      obtain ⟨k,xs,hk,rfl,hown8,hrl8,hxq⟩:=hrel;have HOWN8:=a4b hown8;have HRL8:=a4b hrl8;have HXQ:=a4b hxq;clear hown8 hrl8 hxq;by_cases hlt2:k<rows
      ·go_wp2_with fail
       obtain ⟨b5,o5,A6,d6,rfl,-,hv6,g6⟩:=HRW.out.get hlt2;have HV6:=a4b hv6;have HG6:=a4b g6;have h6l:=HRR.out _ (aD (d:=[]) hlt2);have HRS:=a4b (show eT (rows.take (k+1)) vals=eT (rows.take k) vals ++ vals.map (fun u=>rows.getD k [] ++ [u]) by rw [aR [] hlt2,aE4])
       have hdl:(eT (rows.take k) vals).length+vals.length<=1024:=by
        rw [gO,ak];have:=HP.out;have h3:(min k rows.length+1)*vals.length<=rows*vals:=Nat.mul_le_mul_right _ I;rw [Nat.add_mul] at h3;omega
       clear hv6 g6;have h6l':(rows.getD k []).length<=2000:=by omega
       clear h6l;generalize rows.getD k []=r at *;generalize eT (rows.take k) vals=done at *;go_loopw [8,10] (fun v i wz=>aWj P (w+2) W1 done r vals v i wz) (fun _ i _=>vals.length - (intOf i).toNat)
       case atStart=>exact ⟨0,xs,af _,rfl,by simpa using HOWN8.out,by simpa using HRL8.out,HXQ.out⟩
       case round =>
        obtain ⟨m,ys,hm,rfl,hownz,hrlz,hxz⟩:=hrel;have HOWNZ:=a4b hownz;have HRLZ:=a4b hrlz;have HXZ:=a4b hxz;have hgl0:=(HBL.out.ext hxz).cell' (u:=.slice A2 vals d2) 0 rfl;have hszz:=hxz.size;clear hownz hrlz hxz;by_cases hlt3:m<vals
        ·obtain ⟨bv,ov,Av,dv,rfl,-,hvv,gv0,gv1,gv2,gv3⟩:=(HVW.out.ext HXZ.out).get hlt3
         have g6:=aA HXZ.out HG6.out;have HVV:=a4b hvv
         have HTM:=a4b (show done ++ (vals.take (m+1)).map (fun u=>r ++ [u])=(done ++ (vals.take m).map (fun u=>r ++ [u])) ++ [r ++ [vals.getD m default]] by
          rw [aR default hlt3,List.map_append,ah];rfl)
         have hnl:(done ++ (vals.take m).map (fun u=>r ++ [u])).length<=1024:=bh;clear hvv;obtain ⟨c6,hs6,hr6⟩:=(HV6.out.ext HXZ.out).slice_parts;have HS6:=a4b hs6;have HR6:=a4b hr6;clear hs6 hr6;generalize vals.getD m default=u at *
         go_wp2_with (first
          | (at_builtin;refine aJ _ rfl (.tmp 55) (.tmp 59) 83 ba wr 85 i0 _ 4 56 Tryz.underlying83 HI.out hz0 hz1 hz2 rfl I qn 0 [] rfl (aP _ _ _ _) _ A6 r d6 c6 rfl HS6.out HR6.out.oneCell I I (ab _) ?_;intro v11 w1 ho1 hbl1;have k0:=aA hbl1 hgl0;have k1:=aA hbl1 gv0;have k2:=aA hbl1 gv1;have k3:=aA hbl1 gv2;have k4:=aA hbl1 gv3)
          | (at_builtin;refine aJ _ rfl (.tmp 62) (.tmp 68) 83 ba wr 85 i0 _ 4 56 Tryz.underlying83 HI.out hz0 hz1 hz2 rfl I v11 _ _ rfl (ho1.alloc _) (fun _=>True) (qp w1) 1 1 (qh u Av dv) rfl (Sl.new w1 _ _ _ _ rfl) cd I I (by have:=hbl1.size;simp;omega) ?_;intro v12 w2 ho2 hbl2;simp only [Nat.zero_add,List.nil_append] at ho2;obtain ⟨A12,c12,e12,-,-,-⟩:=Sl.of_own ho2;subst e12;have hx2:Ext wr w2:=(hbl1.alloc hbl1.size _).trans hbl2)
          | (at_builtin;refine aN _ rfl (.tmp 61) (.tmp 70) 196 ba W1 83 i1 _ 1 24 Tryz.underlying196 HI'.out hz0' hz1' hz2' rfl I u8 _ _ rfl ((HOWNZ.out.ext_ hx2).alloc _) (fun _=>True) (qp w2) 1 1 [.slice A12 _ c12] rfl (Sl.new w2 _ _ _ _ rfl) cd I I (by have:=hx2.size;simp;omega) ?_;intro v14 w4 ho4 hf4 hb4))
         go_roundw
         case rel =>
          refine ⟨m+1,ys ++ [.slice A12 (r+1) c12],I,by go_num,?_,?_,?_⟩
          ·rw [HTM.out]
           exact ho4.len_cast bh rfl
          ·rw [HTM.out]
           refine aJ9 (N:=W1.heap.size) hwr HOWNZ.out hszz HRLZ.out hx2 (ho2.len_cast O rfl) ?_ bh hf4 hb4;refine RVs.append ?_ (RVs.one ((HVV.out.ext hx2).rv));exact RVs.carry (aB.of_ext hx2) (fun _ _ h=>h) HR6.out
          ·exact Fr.new_ext (((ar (HXZ.out.trans' hx2)).alloc _).trans hf4) (fun b hb=>HOWNZ.out.block_ge hb.symm)
         case measure=>simp [intOf];omega
        ·have HTV:=a4b (show vals.take m=vals from an I)
         go_wp2_with fail;go_roundw
         case rel =>
          refine ⟨k+1,ys,I,by go_num,?_,?_,HXZ.out⟩
          ·rw [HRS.out]
           have:=HOWNZ.out;rw [HTV.out] at this;exact this
          ·rw [HRS.out]
           have:=HRLZ.out;rw [HTV.out] at this;exact this
         case measure=>simp [intOf];omega
      ·have HTR:=a4b (show rows.take k=rows from an I)
       go_wp2_with fail;go_roundw
       case rel =>
        have ho:=HOWN8.out;have hr:=HRL8.out;rw [HTR.out] at ho hr;have hlen:=gO rows vals;have hp:=HP.out;refine ⟨j+1,eT rows vals,I,by go_num,?_,HX1.out.trans' HXQ.out,I,?_,HQ.out⟩
        ·refine Lst.of_own ho (hr.mono (fun l _ cs h=>h.carry (fun _ _ _=>rfl) (fun b _ h=>h.1))) I (fun b hb=>.inr ?_)
         have:=ho.block_ge hb;omega
        ·intro q hq
         obtain ⟨q',hq',u,_,rfl⟩:=jV.1 hq;simp [HRR.out q' hq']
       case measure=>simp [intOf];omega
   ·have HQ:=a4b (show zL x before=⟨[],true⟩ by rw [HSEQ.out,HD.out,if_pos (.inl rfl)])
    go_wp2_with fail;have q:=((BR.out.set_ 0 qn).set_ 1 true).alloc (qk #[.slice A2 vals d2,true] 194);have q0:=q.cell' (u:=qn) 0 rfl;have q1:=q.cell' (u:=true) 1 rfl;clear q;rw [HQ.out];refine bodyPost_ret (v:=.agg #[qn,true]) (by simp [results,Tryz.results197,go_sem,q0,q1]) rfl ⟨none,0,rfl,⟨none,0,[],rfl,O,O,⟨rfl,fun h=>absurd h O⟩,rfl⟩,?_⟩;exact ((((HE.out.trans' HXR.out).setCell' (p:=qp (w+1)) cj _).setCell' (p:=qt (w+1) 1) cj _).alloc' _)
  ·have HQ:=a4b (show zL x before=⟨eM (rows.map (bX x.name)),false⟩ by rw [HSEQ.out,HT.out,drop_nil I];rfl)
   have HRW:=a4b (HROWS.out.carry (Q:=Bd P (w+2) wr) (fun _ _ _=>rfl) (fun b hb h=>⟨h,hb⟩));have HNM:=a4b HX.out.name;have hwr:w.heap.size+2<=wr:=by omega
   have HBXR:=a4b (HBX.out.ext HXR.out);go_wp2_with fail;clear hbx7 r0 r1 f0 f1;obtain ⟨wo,rfl⟩:∃ wo:World,wo=wr:=⟨_,rfl⟩;go_loopw [12,13] (fun v i wz=>aWd P (w+2) wo x.name rows v i wz) (fun _ i _=>rows.length - (intOf i).toNat)
   case atStart=>exact ⟨0,[],af _,rfl,aP _ _ _ _,rfl,aq _⟩
   case round =>
    obtain ⟨k,xs,hk,rfl,hown,hrv,hxz⟩:=hrel;have HOWN:=a4b hown;have HRV:=a4b hrv;have HXZ:=a4b hxz;have hszz:=hxz.size;clear hown hrv hxz;by_cases hlt4:k<rows
    ·obtain ⟨b5,o5,A6,d6,rfl,hb5,hv6,g6⟩:=(HRW.out.ext HXZ.out).get hlt4
     replace hb5:=hb5.2
     have HTM:=a4b (show (rows.take (k+1)).map (bX x.name)=(rows.take k).map (bX x.name) ++ [bX x.name (rows.getD k [])] by
      rw [aR [] hlt4,List.map_append];rfl)
     have HVM:=a4b (VAt.made HNM.out hv6);clear hv6;generalize rows.getD k []=r at *;have BX:=a4b (HBXR.out.ext HXZ.out);have x0:=BX.out.cell' (u:=↑x.kind) 0 rfl;have x1:=BX.out.cell' (u:=x.name) 1 rfl;have x2:=BX.out.cell' (u:=↑x.lo) 2 rfl;have x3:=BX.out.cell' (u:=↑x.hi) 3 rfl;have x4:=BX.out.cell' (u:=.slice a.wA x.weights a.wc) 4 rfl;have x5:=BX.out.cell' (u:=.slice a.lA x.labels a.lc) 5 rfl;have x6:=BX.out.cell' (u:=.slice a.vA x.values a.vc) 6 rfl;have x7:=BX.out.cell' (u:=.slice a.kA x.kids a.kc) 7 rfl;have x8:=BX.out.cell' (u:=↑x.value.kind) 8 rfl;have x9:=BX.out.cell' (u:=↑x.value.n) 9 rfl;have x10:=BX.out.cell' (u:=x.value.s) 10 rfl;have x11:=BX.out.cell' (u:=.slice a.xA x.value.kids a.xc) 11 rfl;have hk1:(k:Int)<(rows:Int):=by omega
     have hk0:(0:Int)<=(k:Int):=I;go_wp2_with fail
     go_region_held3 (fun w'=>qc w' w 0 x.kind∧qc w' w 1 x.name∧qc w' w 2 x.lo∧qc w' w 3 x.hi∧qc w' w 4 (.slice a.wA x.weights a.wc)∧qc w' w 5 (.slice a.lA x.labels a.lc)∧qc w' w 6 (.slice a.vA x.values a.vc)∧qc w' w 7 (.slice a.kA x.kids a.kc)∧qc w' w 8 x.value.kind∧qc w' w 9 x.value.n∧qc w' w 10 x.value.s∧qc w' w 11 (.slice a.xA x.value.kids a.xc)∧qc w' b5 (o5+k) (.slice A6 r d6))
      (first
       | go_keep
       | (go_split_ands
          exact ⟨aA hxa ‹_›,aA hxa ‹_›,aA hxa ‹_›,aA hxa ‹_›,aA hxa ‹_›,aA hxa ‹_›,aA hxa ‹_›,aA hxa ‹_›,aA hxa ‹_›,aA hxa ‹_›,aA hxa ‹_›,aA hxa ‹_›,aA hxa ‹_›⟩)
       | (go_split_ands
          exact ⟨(hbl2.cell (p:=qt w _) hbx).trans ‹_›,(hbl2.cell (p:=qt w _) hbx).trans ‹_›,(hbl2.cell (p:=qt w _) hbx).trans ‹_›,(hbl2.cell (p:=qt w _) hbx).trans ‹_›,(hbl2.cell (p:=qt w _) hbx).trans ‹_›,(hbl2.cell (p:=qt w _) hbx).trans ‹_›,(hbl2.cell (p:=qt w _) hbx).trans ‹_›,(hbl2.cell (p:=qt w _) hbx).trans ‹_›,(hbl2.cell (p:=qt w _) hbx).trans ‹_›,(hbl2.cell (p:=qt w _) hbx).trans ‹_›,(hbl2.cell (p:=qt w _) hbx).trans ‹_›,(hbl2.cell (p:=qt w _) hbx).trans ‹_›,(hbl2.cell (p:=qt b5 _) hb5).trans ‹_›⟩))
      (first
       | (go_at_call 204;refine (rL x a r A6 d6 _).mono ?_;rintro e w1 ⟨rfl,hxa⟩;have hszw:=hxa.size)
       | (refine bN _ (by rfl) (.tmp 79) (.tmp 86) 83 (by rfl) wo 85 i0 _ 4 56 Tryz.underlying83 HI.out hz0 hz1 hz2 rfl (by omega) u12 _ _ (by rfl) ((HOWN.out.ext_ ((aq wr).drew'.trans' hxa)).alloc _) (fun _=>True) (qp w1) 1 1 [.int .i64 (bX x.name r).kind,.int .i64 (bX x.name r).n,.string (bX x.name r).s,.slice A6 (bX x.name r).kids.length d6] (by rfl) (Sl.new w1 _ _ _ _ rfl) (by simp [Value.oneCell']) (by omega) (by omega) (by have:=hxa.size;simp at this ⊢;omega) ?_;intro v2 w2 ho2 hbl2))
     have HX1:=a4b ((aq wr).drew'.trans' hxa);have HX2:=a4b (show Ext wo w2 from ((HXZ.out.trans' HX1.out).alloc' _).trans hbl2);have HO2:=a4b ho2;have hbl3:Below wo wr w2:=((HX1.out.mono hszz).alloc (by have:=HX1.out.size;omega) _).trans hbl2;have HBL3:=a4b hbl3;clear ho2 hbl2 hbl3 hxa hszw;go_wp2_with fail;go_roundw
     case rel =>
      refine ⟨k+1,_,I,by go_num,HO2.out,?_,HX2.out⟩;rw [HTM.out];have hk:aB (Bd P (w+2) wo) wr w2:=fun b _ h=>HBL3.out.block b h.2
      exact RVs.append (RVs.carry hk (fun _ _ h=>h) HRV.out) (RVs.one ((HVM.out.carry hk (fun _ _ h=>h)).rv))
     case measure=>simp [intOf];omega
    ·have HTR:=a4b (show rows.take k=rows from an I)
     have hkr:k=rows:=I
     have HVL:=a4b (show bT wr (New P (w+2)) u12 (rows.map (bX x.name)) from by
      have ho:=HOWN.out;have hr:=HRV.out;rw [HTR.out] at hr;refine bT.of_own (ho.len_cast (by simp [hkr]) rfl) (RVs.carry (fun _ _ _=>rfl) (fun b _ h=>h.1) hr) bh (fun b hb=>.inr ?_);have:=ho.block_ge hb;omega)
     clear hkr;have BR:=a4b (HBR.out.ext (HXR.out.trans' HXZ.out));go_wp2_with fail;refine (aB3 (rows.map (bX x.name)) (New P (w+2)) _ _ HVL.out bh).mono ?_;rintro e w1 ⟨v2,ys,rfl,ho,hr,hx1⟩;have BR1:=a4b (BR.out.ext hx1)
     have HRES:=a4b (show bT w1 (New P (w+2)) v2 (eM (rows.map (bX x.name))) from
      bT.of_own ho hr (by have:=zJ (rows.map (bX x.name));simp at this;omega) (fun b hb=>.inr (by have:=ho.block_ge hb;omega)))
     obtain ⟨A7,c7,e7,-,-⟩:=HRES.out.form;subst e7;have HX1:=a4b (HXR.out.trans' (HXZ.out.trans' hx1));have r0:=BR1.out.cell' (u:=qn) 0 rfl;have r1:=BR1.out.cell' (u:=false) 1 rfl;have f0:=BR1.out.frozen 0;have f1:=BR1.out.frozen 1;clear hx1 ho hr;go_wp2_with fail;have q:=((BR1.out.set_ 0 (.slice A7 (eM (rows.map (bX x.name))) c7)).set_ 1 false);have q0:=q.cell' (u:=.slice A7 (eM (rows.map (bX x.name))) c7) 0 rfl;have q1:=q.cell' (u:=false) 1 rfl;clear q;rw [HQ.out];refine bodyPost_ret (v:=.agg #[.slice A7 (eM (rows.map (bX x.name))) c7,false]) (by simp [results,Tryz.results197,go_sem,q0,q1]) rfl ⟨A7,c7,rfl,?_,?_⟩
     ·refine HRES.out.carry (fun b hb h=>?_) (fun b hb h=>h.elim .inl (fun h=>.inr I))
      have hne:b ≠ w.heap.size+1:=by
       rcases h with h | h
       ·have:=HPP.out b h;omega
       ·omega
      rw [Below.heap_setCell _ _ _ _ hne,Below.heap_setCell _ _ _ _ hne]
     ·exact (((HE.out.trans' HX1.out).setCell' (p:=qp (w+1)) cj _).setCell' (p:=qt (w+1) 1) cj _)
theorem wH (x a P before vb w)(hx:NAt w P x a)(hb:GLs w P vb before)
  (hkids:∀ z ∈ x.kids,0<=z∧z<(before:Int))(hlok:∀ z ∈ x.kids,LOK (before.getD z.toNat default))(hkl:x.kids.length<=2000) :
  qg 197 #[fU x a,vb] w (aBa P (zL x before) w):=by
 refine (wG x a (fun b=>P b∧b<w) before vb w (hx.carry (fun _ _ _=>rfl) (fun b h1 h2=>⟨h2,h1⟩)) (hb.grow (aq _) (fun b h1 h2=>⟨h2,h1⟩)) hkids hlok hkl (fun b h=>h.2)).mono ?_;rintro e w' ⟨A,c,h1,h2,h3⟩;exact ⟨A,c,h1,h2.imp (fun b _ h=>h.elim (fun h=>.inl h.1) .inr),h3⟩
theorem aB.set {w w' Q}(h:aB Q w w'){p}(u)(hp:¬ Q p.block):aB Q w (w'.setCell p u) :=
 fun b hb hq=>(Below.heap_setCell _ _ _ _ (fun e=>hp (e ▸ hq))).trans (h b hb hq)
theorem aB.of_below {w w' Q N}(h:Below N w w')(hQ:∀ b,Q b->b<N):aB Q w w':=fun b _ hq=>h.block b (hQ b hq)
theorem bT.set {w Q v l}(h:bT w Q v l){p}(u)(hp:¬ Q p.block):bT (w.setCell p u) Q v l :=
 h.carry (fun _ _ hq=>Below.heap_setCell _ _ _ _ (fun e=>hp (e ▸ hq))) (fun _ _ h=>h)
structure aGb (x:GN)(a:NA)(w W:World):Prop where
 ext:Ext w W
 size:W.heap.size=w+3
 box:Blk W w 87 (aK x a).toArray
 res:Blk W (w+1) 194 #[qn,false]
 out:Blk W (w+2) 194 #[qn,false]
theorem aGb.mk' (x a w):aGb x a w (((w.alloc (qk (aK x a).toArray 87)).alloc (qk #[qn,false] 194)).alloc (qk #[qn,false] 194)) :=
 ⟨(((aq w).alloc' _).alloc' _).alloc' _,O,((aw w 87 (aK x a).toArray).alloc _).alloc _,(az _ _ _ O).alloc _,az _ _ _ O⟩
theorem aHr (x a P before vb w)(hx:NAt w P x a)(hk:x.kind=0)(hP:∀ b,P b->b<w) :
  qg 173 #[fU x a,vb] w (aBa P (cI before x) w):=by
 have HX:=a4b hx;have HPP:=a4b hP;have HQ:=a4b (show cI before x=⟨[x.value],false⟩ by unfold cI;rw [if_pos hk]);have t0:(x.kind == 0)=true:=a4d hk;obtain ⟨i0,hi,hz0,hz1,hz2⟩:=info_parts Tryz.info85;have HI:=a4b hi;clear hx hP hk hi;go_enter Tryz.func173,Tryz.ntmps173;go_upto_region 2 with fail;have HW:=a4b (aGb.mk' x a w);generalize hW:(((w.alloc (qk (aK x a).toArray 87)).alloc (qk #[qn,false] 194)).alloc (qk #[qn,false] 194))=W at *;clear hW;have b0:=HW.out.box.cell' (u:=↑x.kind) 0 rfl;have b8:=HW.out.box.cell' (u:=↑x.value.kind) 8 rfl;have b9:=HW.out.box.cell' (u:=↑x.value.n) 9 rfl;have b10:=HW.out.box.cell' (u:=x.value.s) 10 rfl;have b11:=HW.out.box.cell' (u:=.slice a.xA x.value.kids a.xc) 11 rfl;have o0:=HW.out.out.cell' (u:=qn) 0 rfl;go_wp2_with (at_builtin;go_must (refine aJ _ rfl (.tmp 60) (.tmp 63) 83 ba W 85 i0 _ 4 56 Tryz.underlying83 HI.out hz0 hz1 hz2 rfl I qn 0 [] rfl (aP _ _ _ _) (fun _=>True) (qp W) 1 1 [x.value.kind,x.value.n,x.value.s,.slice a.xA x.value.kids a.xc] rfl (Sl.new _ _ _ _ _ rfl) cd I I O ?_);intro v2 w2 ho2 hbl2;have hx2:Ext W w2:=((aq W).alloc' _).trans hbl2;have q0:=(HW.out.out.ext hx2).cell' (u:=qn) 0 rfl;have q1:=(HW.out.out.ext hx2).cell' (u:=false) 1 rfl;have p0:=(HW.out.out.ext hx2).frozen 0;have r0:=(HW.out.res.ext hx2).cell' (u:=qn) 0 rfl;have r1:=(HW.out.res.ext hx2).cell' (u:=false) 1 rfl;have s0:=(HW.out.res.ext hx2).frozen 0;have s1:=(HW.out.res.ext hx2).frozen 1;obtain ⟨A2,c2,e2,-,-,-⟩:=Sl.of_own ho2;subst e2)
 have hsz:=HW.out.size;have q:=(((HW.out.res.ext hx2).far (p:=qp (w.heap.size+1+1)) (by show w.heap.size+1 ≠ w+1+1;omega) (.slice A2 (0+1) c2)).set_ 0 (.slice A2 (0+1) c2)).set_ 1 false;have z0:=q.cell' (u:=.slice A2 1 c2) 0 rfl;have z1:=q.cell' (u:=false) 1 rfl;clear q;have HRES:=a4b (show bT w2 (New P W) (.slice A2 1 c2) [x.value] from bT.of_own ho2 (RVs.one (RV.carry (aB.of_ext hx2) (fun _ _ h=>.inl h) (HX.out.value.ext HW.out.ext).rv)) O (fun b hb=>.inr (ho2.block_ge hb)))
 have hn1:∀ b,b=w.heap.size+1∨b=w.heap.size+1+1->¬ New P W b:=by
  rintro b hb (h | h)
  ·have:=HPP.out b h;omega
  ·omega
 rw [HQ.out];refine bodyPost_ret (v:=.agg #[.slice A2 1 c2,false]) (by simp [results,Tryz.results173,go_sem,z0,z1]) rfl ⟨A2,c2,rfl,?_,?_⟩
 ·exact (((HRES.out.set (p:=qp (w.heap.size+1+1)) _ (hn1 _ (.inr rfl))).set (p:=qp (w+1)) _ (hn1 _ (.inl rfl))).set (p:=qt (w+1) 1) _ (hn1 _ (.inl rfl))).imp (fun b _ h=>h.elim .inl (fun h=>.inr I))
 ·exact (((HW.out.ext.trans' hx2).setCell' (p:=qp (w.heap.size+1+1)) (by show w.heap.size<=w+1+1;omega) _).setCell' (p:=qp (w+1)) cj _).setCell' (p:=qt (w+1) 1) cj _
theorem rO (lo k):dZ lo (k+1)=dZ lo k ++ [.mk 0 (lo+k) ByteArray.empty []]:=by
 induction k generalizing lo with
 | zero=>simp [dZ]
 | succ k ih =>
  rw [dZ,ih (lo+1),dZ];simp only [List.cons_append]
  congr 4
  simp;omega
theorem aNx (w P){n}(h:I64 n):RV w P (.mk 0 n ByteArray.empty []) [qz,.int .i64 n,.string ByteArray.empty,qn] :=
 RV.mk_iff.2 ⟨cm,h,O,_,rfl,none,0,[],rfl,O,O,⟨rfl,fun h=>absurd h O⟩,rfl⟩
def aMu (lo:Int)(N g:Nat)(P:Nat->Prop)(W:World)(n:Value)(wr:World):Prop :=
 ∃ (k:Nat) (v:Value) (xs:List Value),k<=N∧n=.int .i64 (lo+k)∧Blk wr g 194 #[v,false]∧wr.ownsRow W 85 4 v k xs∧RVs wr P (dZ lo k) xs∧Fr (fun b=>b=g) W wr
theorem aHq (x a P before vb w)(hx:NAt w P x a)(hk:x.kind=1)(hP:∀ b,P b->b<w)(hnum:bG x=true) :
  qg 173 #[fU x a,vb] w (aBa P (cI before x) w):=by
 have HPP:=a4b hP;have HQ:=a4b (show cI before x=if 1024<=x.hi - x.lo then ⟨[],true⟩ else ⟨dZ x.lo (x.hi - x.lo+1).toNat,false⟩ by unfold cI;rw [if_neg I,if_pos hk]);have t0:(x.kind == 0)=false:=a4c I;have t1:(x.kind == 1)=true:=a4d hk;obtain ⟨hn1,hn2,hn3,hn4⟩:=cS hnum;obtain ⟨i0,hi,hz0,hz1,hz2⟩:=info_parts Tryz.info85;have HI:=a4b hi;clear hx hP hk hi hnum;go_enter Tryz.func173,Tryz.ntmps173;go_upto_region 2 with fail;have HW:=a4b (aGb.mk' x a w);generalize hW:(((w.alloc (qk (aK x a).toArray 87)).alloc (qk #[qn,false] 194)).alloc (qk #[qn,false] 194))=W at *;clear hW;have b0:=HW.out.box.cell' (u:=↑x.kind) 0 rfl;have b2:=HW.out.box.cell' (u:=↑x.lo) 2 rfl;have b3:=HW.out.box.cell' (u:=↑x.hi) 3 rfl
 by_cases hbig:1024<=x.hi - x.lo
 ·have td:decide (1024<=x.hi - x.lo)=true:=a4e hbig
  have HQ2:=a4b (HQ.out.trans (if_pos hbig));have r0:=HW.out.res.cell' (u:=qn) 0 rfl;have r1:=HW.out.res.cell' (u:=false) 1 rfl;have s0:=HW.out.res.frozen 0;have s1:=HW.out.res.frozen 1;go_wp2_with fail;have q:=(HW.out.res.set_ 0 qn).set_ 1 true;have z0:=q.cell' (u:=qn) 0 rfl;have z1:=q.cell' (u:=true) 1 rfl;clear q;rw [HQ2.out];refine bodyPost_ret (v:=.agg #[qn,true]) (by simp [results,Tryz.results173,go_sem,z0,z1]) rfl ⟨none,0,rfl,⟨none,0,[],rfl,O,O,⟨rfl,fun h=>absurd h O⟩,rfl⟩,?_⟩;exact (HW.out.ext.setCell' (p:=qp (w+1)) cj _).setCell' (p:=qt (w+1) 1) cj _
 ·have td:decide (1024<=x.hi - x.lo)=false:=a4f hbig
  have HQ2:=a4b (HQ.out.trans (if_neg hbig));obtain ⟨N,hN⟩:∃ N:Nat,x.hi - x.lo+1=N:=⟨(x.hi - x.lo+1).toNat,I⟩;have HN:=a4b hN;have hN2:N<=1024:=by omega
  have hN3:1<=N:=I;have hhi1:x.lo+N<=x.hi+1:=I;have hhi2:x.hi+1<=x.lo+N:=I;clear hN;go_wp2_with fail;go_loopw [6] (fun n wr=>aMu x.lo N (w+2) P W n wr) (fun n _=>(x.hi+1 - intOf n).toNat)
  case atStart=>exact ⟨0,↑qn,[],af _,O,HW.out.out,aP _ _ _ _,rfl,au _ _⟩
  case round =>
   obtain ⟨k,v,xs,hk,rfl,hout,hown,hrv,hfr⟩:=hrel;have HOUT:=a4b hout;have HOWN:=a4b hown;have HRV:=a4b hrv;have HFR:=a4b hfr;have o0:=hout.cell' (u:=v) 0 rfl;have o1:=hout.cell' (u:=false) 1 rfl;have p0:=hout.frozen 0;have BX:=a4b (HW.out.box.fr hfr I);have c3:=BX.out.cell' (u:=↑x.hi) 3 rfl;have hsz:=hfr.size;have hsw:=HW.out.size;clear hout hown hrv hfr b0 b2 b3;by_cases hlt:k<N
   ·have tl:decide (x.lo+(k:Int)<=x.hi)=true:=a4e I
    go_wp2_with (at_builtin;go_must (refine aJ _ rfl (.tmp 84) (.tmp 87) 83 ba W 85 i0 _ 4 56 Tryz.underlying83 HI.out hz0 hz1 hz2 rfl I v _ _ rfl (HOWN.out.alloc _) (fun _=>True) (qp wr) 1 1 [qz,.int .i64 (x.lo+k),.string ByteArray.empty,qn] rfl (Sl.new _ _ _ _ _ rfl) cd I I bh ?_);intro v2 w2 ho2 hbl2;have hx2:Below W wr w2:=((Below.refl _ wr).alloc hsz _).trans hbl2;have q0:=(hx2.cell (p:=qp (w+2)) (by show w.heap.size+2<W;omega)).trans o0;have q2:=(hx2.frozen (p:=qp (w+2)) (by show w.heap.size+2<W;omega)).trans p0;obtain ⟨A2,c2,e2,-,-,-⟩:=Sl.of_own ho2;subst e2);go_roundw
    case rel =>
     have hb2:Blk w2 (w+2) 194 #[v,false]:=(hx2.block _ I).trans HOUT.out;have hP2:∀ b,P b->b<W:=fun b hb=>by have:=HPP.out b hb;omega
     have hP3:¬ P (w.heap.size+1+1):=fun h=>by have:=HPP.out _ h;omega
     refine ⟨k+1,.slice A2 (k+1) c2,_,I,bh,hb2.set_ 0 _,ownsRow_setCell_below ho2 (a:=qp (w.heap.size+1+1)) im _,?_,?_⟩
     ·rw [rO]
      exact RVs.append (RVs.carry ((aB.of_below hx2 hP2).set (p:=qp (w.heap.size+1+1)) _ hP3) (fun _ _ h=>h) HRV.out) (RVs.one (aNx _ _ br))
     ·exact (HFR.out.trans_new ⟨hx2.os,hx2.tape,hx2.output,hx2.size,fun i hi hm=>hx2.block i I⟩).setCell (p:=qp (w.heap.size+1+1)) (.inl rfl) _
    case measure=>simp [intOf];omega
   ·have tl:decide (x.lo+(k:Int)<=x.hi)=false:=a4f I
    have r0:=(HW.out.res.fr HFR.out I).cell' (u:=qn) 0 rfl;have r1:=(HW.out.res.fr HFR.out I).cell' (u:=false) 1 rfl;have s0:=(HW.out.res.fr HFR.out I).frozen 0;have s1:=(HW.out.res.fr HFR.out I).frozen 1;obtain ⟨A2,c2,e2,-,-,-⟩:=Sl.of_own HOWN.out;subst e2;go_wp2_with fail;have hkN:k=N:=by omega
    have HKN:=a4b hkN;clear hkN;have q:=((HW.out.res.fr HFR.out I).set_ 0 (.slice A2 k c2)).set_ 1 false;have z0:=q.cell' (u:=.slice A2 k c2) 0 rfl;have z1:=q.cell' (u:=false) 1 rfl;clear q;have HRES:=a4b (show bT wr (New P W) (.slice A2 k c2) (dZ x.lo k) from bT.of_own (HOWN.out.len_cast (dL _ _).symm rfl) (RVs.carry (fun _ _ _=>rfl) (fun _ _ h=>.inl h) HRV.out) (by rw [dL];omega) (fun b hb=>.inr (HOWN.out.block_ge hb)))
    have hn1:¬ New P W (w+1):=by
     rintro (h | h)
     ·have:=HPP.out _ h;omega
     ·omega
    have HEQ:=a4b (show cI before x=⟨dZ x.lo k,false⟩ by rw [HQ2.out,HKN.out,HN.out];simp);rw [HEQ.out];refine bodyPost_ret (v:=.agg #[.slice A2 k c2,false]) (by simp [results,Tryz.results173,go_sem,z0,z1]) rfl ⟨A2,c2,by rw [dL],?_,?_⟩
    ·rw [dL]
     exact ((HRES.out.set (p:=qp (w+1)) _ hn1).set (p:=qt (w+1) 1) _ hn1).imp (fun b _ h=>h.elim .inl (fun h=>.inr I))
    ·refine Fr.new_ext (M:=fun b=>b=w.heap.size+1∨b=w.heap.size+2) ?_ (fun b hb=>by omega)
     exact ((((ar HW.out.ext).trans (HFR.out.mono (fun b hb=>.inr hb))).setCell (p:=qp (w+1)) (.inl (.inl rfl)) _).setCell (p:=qt (w+1) 1) (.inl (.inl rfl)) _)
theorem aHp (x a P before vb w)(hx:NAt w P x a)(hk:x.kind=3)(hP:∀ b,P b->b<w)(hb:GLs w P vb before)
  (hkids:∀ z ∈ x.kids,0<=z∧z<(before:Int))(hlok:∀ z ∈ x.kids,LOK (before.getD z.toNat default))(hkl:x.kids.length<=2000) :
  qg 173 #[fU x a,vb] w (aBa P (cI before x) w):=by
 have HX:=a4b hx;have HPP:=a4b hP;have HB:=a4b hb;have HK:=a4b hkids;have HL:=a4b hlok;have HQ:=a4b (show cI before x=zL x before by unfold cI;rw [if_neg I,if_neg I,if_pos hk]);have t0:(x.kind == 0)=false:=a4c I;have t1:(x.kind == 1)=false:=a4c I;have t3:(x.kind == 3)=true:=a4d hk;clear hx hP hk hb hkids hlok;go_enter Tryz.func173,Tryz.ntmps173;go_upto_region 2 with fail;have HW:=a4b (aGb.mk' x a w);generalize hW:(((w.alloc (qk (aK x a).toArray 87)).alloc (qk #[qn,false] 194)).alloc (qk #[qn,false] 194))=W at *;clear hW;have BX:=a4b HW.out.box;have x0:=BX.out.cell' (u:=↑x.kind) 0 rfl;have x1:=BX.out.cell' (u:=x.name) 1 rfl;have x2:=BX.out.cell' (u:=↑x.lo) 2 rfl;have x3:=BX.out.cell' (u:=↑x.hi) 3 rfl;have x4:=BX.out.cell' (u:=.slice a.wA x.weights a.wc) 4 rfl;have x5:=BX.out.cell' (u:=.slice a.lA x.labels a.lc) 5 rfl;have x6:=BX.out.cell' (u:=.slice a.vA x.values a.vc) 6 rfl;have x7:=BX.out.cell' (u:=.slice a.kA x.kids a.kc) 7 rfl;have x8:=BX.out.cell' (u:=↑x.value.kind) 8 rfl;have x9:=BX.out.cell' (u:=↑x.value.n) 9 rfl
 have x10:=BX.out.cell' (u:=x.value.s) 10 rfl;have x11:=BX.out.cell' (u:=.slice a.xA x.value.kids a.xc) 11 rfl;go_wp2_with fail;refine (wH x a P before vb _ (HX.out.ext HW.out.ext) (HB.out.ext HW.out.ext) HK.out HL.out hkl).mono ?_;rintro e w1 ⟨A,c,rfl,hv,hx1⟩;have HX1:=a4b hx1;have HV:=a4b hv;have r0:=(HW.out.res.ext hx1).cell' (u:=qn) 0 rfl;have r1:=(HW.out.res.ext hx1).cell' (u:=false) 1 rfl;have s0:=(HW.out.res.ext hx1).frozen 0;have s1:=(HW.out.res.ext hx1).frozen 1;have hsz:=HW.out.size;clear hx1 hv x0 x1 x2 x3 x4 x5 x6 x7 x8 x9 x10 x11;generalize zL x before=g at *;obtain ⟨vals,many⟩:=g;go_wp2_with fail;have q:=((HW.out.res.ext HX1.out).set_ 0 (.slice A vals c)).set_ 1 many;have z0:=q.cell' (u:=.slice A vals c) 0 rfl;have z1:=q.cell' (u:=many) 1 rfl;clear q;rw [HQ.out]
 have hn1:¬ New P W (w+1):=by
  rintro (h | h)
  ·have:=HPP.out _ h;omega
  ·omega
 refine bodyPost_ret (v:=.agg #[.slice A vals c,many]) (by simp [results,Tryz.results173,go_sem,z0,z1]) rfl ⟨A,c,rfl,?_,?_⟩
 ·exact ((HV.out.set (p:=qp (w+1)) _ hn1).set (p:=qt (w+1) 1) _ hn1).imp (fun b _ h=>h.elim .inl (fun h=>.inr I))
 ·exact ((HW.out.ext.trans' HX1.out).setCell' (p:=qp (w+1)) cj _).setCell' (p:=qt (w+1) 1) cj _
def aNo (x:GN)(before:List GL)(bind:Bool)(g:Nat)(P:Nat->Prop)(W:World)(i:Value)(wr:World):Prop :=
 ∃ (k:Nat) (out:List GV) (m:Bool) (v:Value) (xs:List Value),k<=x.kids∧i=↑k∧Blk wr g 194 #[v,m]∧wr.ownsRow W 85 4 v out xs∧RVs wr P out xs∧Fr (fun b=>b=g) W wr ∧
  out.length<=1024*k∧jH before bind 0 [] false x.kids=jH before bind k out m (x.kids.drop k)
theorem aAk (x a P before vb w)(hx:NAt w P x a)(bind:Bool)(hk:x.kind=if bind then 4 else 2)(hP:∀ b,P b->b<w)(hb:GLs w P vb before)
  (hkids:∀ z ∈ x.kids,0<=z∧z<(before:Int))(hlok:∀ z ∈ x.kids,LOK (before.getD z.toNat default))(hkl:x.kids.length<=2000) :
  qg 173 #[fU x a,vb] w (aBa P (cI before x) w):=by
 have HX:=a4b hx;have HPP:=a4b hP;have HB:=a4b hb;have HK:=a4b hkids;have HL:=a4b hlok
 have HQ:=a4b (show cI before x=jH before bind 0 [] false x.kids by
  unfold cI;cases bind
  ·simp only [Bool.false_eq_true,if_false] at hk
   rw [if_neg I,if_neg I,if_neg I,a4f I]
  ·simp only [if_true] at hk
   rw [if_neg I,if_neg I,if_neg I,a4e I])
 have t0:(x.kind == 0)=false:=a4c gn;have t1:(x.kind == 1)=false:=a4c gn;have t3:(x.kind == 3)=false:=a4c gn;have t4:(x.kind == 4)=bind:=by cases bind <;> simp at hk <;> simp [hk]
 have T4:=a4b t4;obtain ⟨Ab,cb,eb,hb1,hb2⟩:=Lst.form hb;subst eb;obtain ⟨hkl1,hkl2⟩:=hx.kids.le;obtain ⟨i0,hi,hz0,hz1,hz2⟩:=info_parts Tryz.info85;have HI:=a4b hi;clear hx hP hk hb hkids hlok hi t4;go_enter Tryz.func173,Tryz.ntmps173;go_upto_region 2 with fail;have HW:=a4b (aGb.mk' x a w);generalize hW:(((w.alloc (qk (aK x a).toArray 87)).alloc (qk #[qn,false] 194)).alloc (qk #[qn,false] 194))=W at *;clear hW;have b0:=HW.out.box.cell' (u:=↑x.kind) 0 rfl;go_wp2_with fail;go_loopw [7] (fun n wr=>aNo x before bind (w+2) P W n wr) (fun n _=>x.kids.length - (intOf n).toNat)
 case atStart=>exact ⟨0,[],false,↑qn,[],af _,rfl,HW.out.out,aP _ _ _ _,rfl,au _ _,O,rfl⟩
 case round =>
  obtain ⟨k,out,m,v,xs,hk,rfl,hout,hown,hrv,hfr,hol,ht⟩:=hrel;have HT:=a4b ht;have HOUT:=a4b hout;have HOWN:=a4b hown;have HRV:=a4b hrv;have HFR:=a4b hfr;have o0:=hout.cell' (u:=v) 0 rfl;have o1:=hout.cell' (u:=m) 1 rfl;have p0:=hout.frozen 0;have p1:=hout.frozen 1;have lo2:=hout.lt;have hsw:=HW.out.size;have BX:=a4b (HW.out.box.fr hfr I);have c0:=BX.out.cell' (u:=↑x.kind) 0 rfl;have c7:=BX.out.cell' (u:=.slice a.kA x.kids a.kc) 7 rfl;have HEW:=a4b (show Ext w wr from Fr.new_ext ((ar HW.out.ext).trans hfr) (fun b hb=>by omega));have HEX:=a4b (show aB P w wr from fun b hb hp=>(hfr.block b I (by have:=HPP.out b hp;omega)).trans (HW.out.ext.block b hb));clear hout hown hrv hfr b0 ht;by_cases hlt:k<x.kids
  ·by_cases hbk:bind=true∧k=0
   ·obtain ⟨hb1,rfl⟩:=hbk
    subst hb1;have t4:(x.kind == 4)=true:=T4.out;have HU:=a4b (show jH before true 0 [] false x.kids=jH before true (0+1) out m (x.kids.drop 1) by rw [HT.out,aH 0 hlt,jH,if_pos ⟨rfl,rfl⟩]);go_wp2_with fail;go_roundw
    case rel=>exact ⟨1,out,m,v,xs,I,rfl,HOUT.out,HOWN.out,HRV.out,HFR.out,I,HU.out⟩
    case measure=>simp [intOf];omega
   ·obtain ⟨b1,o1',e1,-,-,g1⟩:=(HX.out.kids.carry (Q:=P) HEX.out (fun _ _ h=>h)).get hlt
    rw [e1] at c7;clear e1;have hz:=HK.out _ (aD (d:=0) hlt);have HLZ:=a4b (HL.out _ (aD (d:=0) hlt));have HD:=a4b (show jH before bind 0 [] false x.kids=_ from by rw [HT.out,aH 0 hlt,jH,if_neg hbk]);generalize x.kids.getD k 0=z at *;obtain ⟨b2,o2,A2,d2,rfl,-,hv2,g2,g3⟩:=(HB.out.ext HEW.out).get (i:=z.toNat) I;have hfew:=HLZ.out.few;have hvle:=hv2.le;obtain ⟨c2,hs2,hr2⟩:=hv2.slice_parts;have HS2:=a4b hs2;have HR2:=a4b hr2;clear hv2 hs2 hr2;generalize before.getD z.toNat default=l at *;obtain ⟨vals,many⟩:=l;simp only at HD g2 g3 hfew HS2 HR2 hvle;obtain ⟨Av,cv,ev,-,-,-⟩:=Sl.of_own HOWN.out;subst ev;cases bind
    all_goals
     have t4:=T4.out
     first
      | (have tk:((k:Int) == 0)=false:=a4c (by simp at hbk;omega))
      | skip
     go_wp2_with (at_builtin;go_must (refine aN _ rfl (.tmp 35) (.tmp 37) 83 ba W 85 i0 _ 4 56 Tryz.underlying83 HI.out hz0 hz1 hz2 rfl I (.slice Av out cv) _ _ rfl (HOWN.out.alloc _) P A2 vals d2 c2 rfl (HS2.out.ext ((aq wr).alloc' _)) HR2.out.oneCell I I bh ?_);intro v3 w3 ho3 hf3 hb3);have hBL:=(aw wr 194 #[.slice A2 vals d2,many]).fr hf3 (fun e=>by have:=HOWN.out.block_lt e.symm;omega);have hG2:=(HOUT.out.alloc (qk #[.slice A2 vals d2,many] 194)).fr hf3 (fun e=>by have:=HOWN.out.block_ge e.symm;omega);have hsz3:=hf3.size;simp at hsz3;have hKP:aB P wr w3:=fun b hb hp=>(hf3.block b bh (fun e=>by have:=HOWN.out.block_ge e.symm;have:=HPP.out b hp;omega)).trans (Below.heap_alloc wr _ b hb)
     have HF3:=a4b (show Fr (fun b=>b=w.heap.size+2) W w3 from HFR.out.trans_new ⟨hf3.os,hf3.tape,hf3.output,I,fun i hi hm=>(hf3.block i bh (fun e=>hm (.inr (HOWN.out.block_ge e.symm)))).trans (Below.heap_alloc wr _ i hi)⟩);have HBL:=a4b hBL;have HG2:=a4b hG2;have HKP:=a4b hKP;have HO3:=a4b (ho3.len_cast (show out.length+vals=(out ++ vals).length by simp) rfl)
     have HV3:=a4b (show uC w3 (fun _=>True) P v3 (out ++ vals) from by
      obtain ⟨A,c,e,h1,h2,h3⟩:=Sl.of_own HO3.out;unfold maxLen at h2;refine ⟨A,c,_,e,h1,⟨bh,h2⟩,h3 _ (fun _ _=>trivial),?_⟩;exact RVs.append (RVs.carry HKP.out (fun _ _ h=>h) HRV.out) (RVs.carry HKP.out (fun _ _ h=>h) HR2.out))
     clear hBL hG2 hKP hf3 hb3 ho3 o0 o1 p0 p1 c0 c7 g1 g2 g3;refine (pJ (out ++ vals) (fun _=>True) P _ _ HV3.out bh).mono ?_;rintro e w4 ⟨v4,ys,rfl,ho4,hr4,hx4⟩;have HX4:=a4b hx4;have HO4:=a4b ho4;have HR4:=a4b hr4;have BL:=HBL.out.ext hx4;have G2:=HG2.out.ext hx4;have l1:=BL.cell' (u:=many) 1 rfl;have o0:=G2.cell' (u:=.slice Av out cv) 0 rfl;have o1:=G2.cell' (u:=m) 1 rfl;have p0:=G2.frozen 0;have p1:=G2.frozen 1;have HSL:=a4b (zJ (out ++ vals));obtain ⟨A4,c4,e4,-,-,-⟩:=Sl.of_own ho4;subst e4;clear hx4 ho4 hr4 BL G2;generalize eM (out ++ vals)=so at *;have hsl:so.length<=out+vals:=by have:=HSL.out;simpa using this
     have HM:=a4b (show ∀ mm,mm=(m || many || decide (1024<so.length))->aNo x before _ (w+2) P W (.int .i64 ((k+1:Nat):Int)) ((w4.setCell (qp (w.heap.size+1+1)) (.slice A4 so c4)).setCell (qt (w.heap.size+1+1) 1) (.bool mm)) from by
      intro mm hmm;have hsw3:W.heap.size<=w3:=HF3.out.size;have hP3:¬ P (w.heap.size+1+1):=fun h=>by have:=HPP.out _ h;omega
      refine ⟨k+1,so,mm,.slice A4 so c4,ys,I,rfl,((HG2.out.ext HX4.out).set_ 0 _).set_ 1 _,?_,?_,?_,I,?_⟩
      ·exact ownsRow_setCell_below (ownsRow_setCell_below (HO4.out.base_le hsw3) (a:=qp (w.heap.size+1+1)) im _) (a:=qt (w.heap.size+1+1) 1) im _
      ·have hk0:aB P w4 w4:=fun _ _ _=>rfl
       exact RVs.carry ((hk0.set (p:=qp (w.heap.size+1+1)) _ hP3).set (p:=qt (w.heap.size+1+1) 1) _ hP3) (fun _ _ h=>h) HR4.out
      ·exact ((HF3.out.trans (ar HX4.out)).setCell (p:=qp (w.heap.size+1+1)) (.inl rfl) _).setCell (p:=qt (w.heap.size+1+1) 1) (.inl rfl) _
      ·rw [HD.out,hmm])
     cases m
     ·cases many
      ·by_cases hl:1024<so.length
       ·have tl:decide (1024<(so:Int))=true:=a4e I
        have HL1:=a4b hl;clear hl;go_wp2_with fail;go_roundw
        case rel=>exact HM.out true (by have:=HL1.out;simp [this])
        case measure=>simp [intOf];omega
       ·have tl:decide (1024<(so:Int))=false:=a4f I
        have HL1:=a4b hl;clear hl;go_wp2_with fail;go_roundw
        case rel=>exact HM.out false (by have:=HL1.out;simp;omega)
        case measure=>simp [intOf];omega
      ·go_wp2_with fail
       go_roundw
       case rel=>exact HM.out true O
       case measure=>simp [intOf];omega
     ·go_wp2_with fail
      go_roundw
      case rel=>exact HM.out true O
      case measure=>simp [intOf];omega
  ·have HR:=a4b (HW.out.res.fr HFR.out I)
   have r0:=HR.out.cell' (u:=qn) 0 rfl;have r1:=HR.out.cell' (u:=false) 1 rfl;have s0:=HR.out.frozen 0;have s1:=HR.out.frozen 1;obtain ⟨Av,cv,ev,-,-,-⟩:=Sl.of_own HOWN.out;subst ev;have HU:=a4b (show cI before x=if m then ⟨[],true⟩ else ⟨out,false⟩ by rw [HQ.out,HT.out,drop_nil I,jH])
   have hn1:¬ New P W (w+1):=by
    rintro (h | h)
    ·have:=HPP.out _ h;omega
    ·omega
   have HN1:=a4b hn1;clear hn1;cases m
   ·go_wp2_with fail
    have q:=(HR.out.set_ 0 (.slice Av out cv)).set_ 1 false;have z0:=q.cell' (u:=.slice Av out cv) 0 rfl;have z1:=q.cell' (u:=false) 1 rfl;clear q;rw [HU.out];refine bodyPost_ret (v:=.agg #[.slice Av out cv,false]) (by simp [results,Tryz.results173,go_sem,z0,z1]) rfl ⟨Av,cv,rfl,?_,?_⟩
    ·have hv:bT wr (New P W) (.slice Av out cv) out:=bT.of_own HOWN.out (RVs.carry (fun _ _ _=>rfl) (fun _ _ h=>.inl h) HRV.out) I (fun b hb=>.inr (HOWN.out.block_ge hb))
     exact ((hv.set (p:=qp (w+1)) _ HN1.out).set (p:=qt (w+1) 1) _ HN1.out).imp (fun b _ h=>h.elim .inl (fun h=>.inr I))
    ·refine Fr.new_ext (M:=fun b=>b=w.heap.size+1∨b=w.heap.size+2) ?_ (fun b hb=>by omega)
     exact ((((ar HW.out.ext).trans (HFR.out.mono (fun b hb=>.inr hb))).setCell (p:=qp (w+1)) (.inl (.inl rfl)) _).setCell (p:=qt (w+1) 1) (.inl (.inl rfl)) _)
   ·go_wp2_with fail
    have q:=(HR.out.set_ 0 qn).set_ 1 true;have z0:=q.cell' (u:=qn) 0 rfl;have z1:=q.cell' (u:=true) 1 rfl;clear q;rw [HU.out];refine bodyPost_ret (v:=.agg #[qn,true]) (by simp [results,Tryz.results173,go_sem,z0,z1]) rfl ⟨none,0,rfl,⟨none,0,[],rfl,O,O,⟨rfl,fun h=>absurd h O⟩,rfl⟩,?_⟩;refine Fr.new_ext (M:=fun b=>b=w.heap.size+1∨b=w.heap.size+2) ?_ (fun b hb=>by omega);exact ((((ar HW.out.ext).trans (HFR.out.mono (fun b hb=>.inr hb))).setCell (p:=qp (w+1)) (.inl (.inl rfl)) _).setCell (p:=qt (w+1) 1) (.inl (.inl rfl)) _)
structure aN1 (before:List GL)(x:GN):Prop where
 kind:0<=x.kind∧x.kind<=4
 kids:∀ z ∈ x.kids,0<=z∧z<(before:Int)
 lok:∀ z ∈ x.kids,LOK (before.getD z.toNat default)
 few:x.kids.length<=2000
 num:bG x=true
theorem aLd (x a P before vb w)(hx:NAt w P x a)(hb:GLs w P vb before)(hok:aN1 before x) :
  qg 173 #[fU x a,vb] w (aBa P (cI before x) w):=by
 have h0:qg 173 #[fU x a,vb] w (aBa (fun b=>P b∧b<w) (cI before x) w):=by
  have hx':NAt w (fun b=>P b∧b<w) x a:=hx.carry (fun _ _ _=>rfl) (fun b h1 h2=>⟨h2,h1⟩);have hb':GLs w (fun b=>P b∧b<w) vb before:=hb.grow (aq _) (fun b h1 h2=>⟨h2,h1⟩);have hk:=hok.kind;by_cases k0:x.kind=0
  ·exact aHr x a _ before vb w hx' k0 (fun b h=>h.2)
  by_cases k1:x.kind=1
  ·exact aHq x a _ before vb w hx' k1 (fun b h=>h.2) hok.num
  by_cases k3:x.kind=3
  ·exact aHp x a _ before vb w hx' k3 (fun b h=>h.2) hb' hok.kids hok.lok hok.few
  by_cases k2:x.kind=2
  ·exact aAk x a _ before vb w hx' false (by simpa using k2) (fun b h=>h.2) hb' hok.kids hok.lok hok.few
  ·exact aAk x a _ before vb w hx' true bh (fun b h=>h.2) hb' hok.kids hok.lok hok.few
 refine h0.mono ?_;rintro e w' ⟨A,c,h1,h2,h3⟩;exact ⟨A,c,h1,h2.imp (fun b _ h=>h.elim (fun h=>.inl h.1) .inr),h3⟩
theorem Tryz.info194:(Tryz.prog.info? 194).map (fun i=>(i.zero,i.size,i.bytes))=some (some (.agg #[qn,false]),2,32):=U
def aMq (P:Nat->Prop)(l:List GL)(w:World)(e:Ending)(w':World):Prop:=∃ v,e=.returned v∧GLs w' (New P w) v l∧Ext w w'
def aMw (t:List GN)(n:Nat)(P:Nat->Prop)(B:Nat)(W:World)(v i:Value)(wr:World):Prop :=
 ∃ (k:Nat) (xs:List Value),k<=n∧i=↑k∧wr.ownsRow W 194 2 v k xs∧RL (RGL wr (Off P B wr v)) (aF (t.take k)) xs∧Ext W wr
theorem oN (t):(aF t).length=t:=by unfold aF;rw [eF];simp
theorem aHo {t n}(hg:bD t n){k}(hk:k<n):aN1 (aF (t.take k)) (t.getD k default):=by
 have hc:=hg.at_ hk;have hkt:k<t:=by have:=hg.1;omega
 refine ⟨hc.node.kind,fun z hz=>?_,fun z hz=>?_,by have:=(eX hg hk).1;omega,hc.node.numbers⟩
 ·rw [oN,ak]
  have:=hc.node.kids z hz;omega
 ·have hz':=hc.node.kids z hz
  rw [gT hkt hz'];exact mT hg z.toNat I
theorem aQd {P B N wr w1 w4 v v' ls g xs A c}
  (hB:B<=N)(ho:wr.ownsRow N 194 2 v ls xs)(hr:RL (RGL wr (Off P B wr v)) ls xs)(h1:Ext wr w1)
  (hg:bT w1 (New (Off P B wr v) wr) (.slice A g.vals c) g.vals)(hN:N<=wr)
  (hf:Fr (fun k=>some k=v.ownBlock) (w1.alloc (qk #[.slice A g.vals c,g.many] 194)) w4)
  (hown:v'.ownBlock=v.ownBlock∨v'.ownBlock=some (w1.alloc (qk #[.slice A g.vals c,g.many] 194)).heap.size) :
  RL (RGL w4 (Off P B w4 v')) (ls ++ [g]) (xs ++ [.slice A g.vals c,.bool g.many]):=by
 have hs1:=h1.size;have hs4:=hf.size;simp at hs4;have h14:Fr (fun k=>some k=v.ownBlock) w1 w4:=(ar ((aq w1).alloc' _)).trans hf;have h04:Fr (fun k=>some k=v.ownBlock) wr w4:=(ar h1).trans h14;have hv:∀ b,v.ownBlock=some b->N<=b∧b<wr:=fun b hb=>⟨ho.block_ge hb,ho.block_lt hb⟩
 have hne:∀ b,b<w1.heap.size->some b ≠ v.ownBlock->some b ≠ v'.ownBlock:=by
  intro b hb h;rcases hown with e | e
  ·rw [e];exact h
  ·rw [e];intro e';injection e' with e';simp at e';omega
 refine RL.append (hr.mono (fun l _ cs h=>h.carry (aB.off h04) (fun b hb h=>⟨h.1,I,hne b I h.2.2⟩))) (RL.one ⟨_,rfl,?_⟩)
 have hq:∀ b,New (Off P B wr v) wr b->(P b∨B<=b)∧some b ≠ v.ownBlock:=by
  rintro b (h | h)
  ·exact ⟨h.1,h.2.2⟩
  ·exact ⟨.inr I,fun e=>by have:=(hv b e.symm).2;omega⟩
 exact hg.carry (fun b hb h=>h14.block b hb (hq b h).2.symm.symm) (fun b hb h=>⟨(hq b h).1,I,hne b hb (hq b h).2⟩)
theorem aHm (t n P vn w)(ht:Nds w P vn t)(hg:bD t n) :
  qg 133 #[.agg #[vn],↑n] w (aMq P (aF (t.take n)) w):=by
 have HT:=a4b ht;have HG:=a4b hg;obtain ⟨An,cn,en,hn1,hn2⟩:=ht.form;subst en;have hnt:=hg.1;have hn4:=hg.2.1;clear ht hg;obtain ⟨i0,hi,hz0,hz1,hz2⟩:=info_parts Tryz.info194;have HI:=a4b hi;clear hi;go_enter Tryz.func133,Tryz.ntmps133;go_wp2_with fail;have HE:=a4b (show Ext w (w.alloc (qk #[.slice An t cn] 25)) from (aq w).alloc' _);have HBX:=a4b (aw w 25 #[.slice An t cn]);generalize hW:w.alloc (qk #[.slice An t cn] 25)=W at *;clear hW;go_loopw [5,6] (fun v i wr=>aMw t n P w W v i wr) (fun _ i _=>n - (intOf i).toNat)
 case atStart=>exact ⟨0,[],af _,rfl,aP _ _ _ _,rfl,aq _⟩
 case round =>
  obtain ⟨k,xs,hk,rfl,hown,hrl,hx⟩:=hrel;have HOWN:=a4b hown;have HRL:=a4b hrl;have HX:=a4b hx;have hsz:=hx.size;have hsw:=HE.out.size;have b0:=(HBX.out.ext hx).cell' (u:=.slice An t cn) 0 rfl;clear hown hrl hx;have hll:(aF (t.take k))=k:=by rw [oN,ak];omega
  have HLL:=a4b hll;clear hll;by_cases hlt:k<n
  ·have hkt:k<t:=by omega
   obtain ⟨b1,o1,a1,rfl,-,ha1,hc1⟩:=(HT.out.carry (Q:=Off P w wr u5) (aB.of_ext (HE.out.trans' HX.out)) (fun b hb h=>⟨.inl h,I,fun e=>by have:=HOWN.out.block_ge e.symm;omega⟩)).get hkt;have HOK:=a4b (aHo HG.out hlt)
   have HSN:=a4b (show aF (t.take (k+1))=aF (t.take k) ++ [cI (aF (t.take k)) (t.getD k default)] by
    unfold aF;rw [aR default hkt,iS])
   have HA1:=a4b ha1
   have HGL:=a4b (show GLs wr (Off P w wr u5) u5 (aF (t.take k)) from
    Lst.of_own (HOWN.out.len_cast HLL.out.symm rfl) HRL.out (by rw [HLL.out];omega) (fun b hb=>HOWN.out.block_lt hb))
   have c0:=hc1.c0;have c1:=hc1.c1;have c2:=hc1.c2;have c3:=hc1.c3;have c4:=hc1.c4;have c5:=hc1.c5;have c6:=hc1.c6;have c7:=hc1.c7;have c8:=hc1.c8;have c9:=hc1.c9;have c10:=hc1.c10;have c11:=hc1.c11;clear hc1 ha1;generalize t.getD k default=x at *;go_wp2_with fail;refine (aLd x a1 _ (aF (t.take k)) u5 _ HA1.out HGL.out HOK.out).mono ?_;rintro e w1 ⟨A2,d2,rfl,hv2,hx2⟩;have HV2:=a4b hv2;have HX2:=a4b hx2;clear hv2 hx2 c0 c1 c2 c3 c4 c5 c6 c7 c8 c9 c10 c11 b0;generalize hgg:cI (aF (t.take k)) x=g at *;clear hgg;go_wp2_with (at_builtin;go_must (refine aN _ rfl (.tmp 12) (.tmp 20) 191 ba W 194 i0 _ 2 32 Tryz.underlying191 HI.out hz0 hz1 hz2 rfl I u5 _ _ rfl ((HOWN.out.ext_ HX2.out).alloc _) (fun _=>True) (qp w1) 1 1 [.slice A2 g.vals d2,g.many] rfl (Sl.new w1 _ _ _ _ rfl) cd I I (by have:=HX2.out.size;simp;omega) ?_);intro v4 w4 ho4 hf4 hb4);go_roundw
   case rel =>
    refine ⟨k+1,_,I,by go_num,ho4,?_,?_⟩
    ·rw [HSN.out]
     exact aQd hsw (HOWN.out.len_cast HLL.out.symm rfl) HRL.out HX2.out HV2.out hsz hf4 hb4
    ·exact Fr.new_ext (((ar (HX.out.trans' HX2.out)).alloc _).trans hf4) (fun b hb=>HOWN.out.block_ge hb.symm)
   case measure=>simp [intOf];omega
  ·have hkn:k=n:=by omega
   have HKN:=a4b hkn;clear hkn;go_wp2_with fail;go_ret;refine ⟨_,rfl,?_,HE.out.trans' HX.out⟩;rw [<- HKN.out];have h:GLs wr (New P w) u5 (aF (t.take k)):=Lst.of_own (HOWN.out.len_cast HLL.out.symm rfl) (HRL.out.mono (fun l _ cs h=>h.carry (fun _ _ _=>rfl) (fun b _ h=>h.1))) (by rw [HLL.out];omega) (fun b hb=>HOWN.out.block_lt hb);exact h
def aV0 (P:Nat->Prop)(g:GL)(w:World)(e:Ending)(w':World):Prop :=
 ∃ A c,e=.returned (.tuple #[.slice A g.vals c,(!g.many)])∧bT w' (New P w) (.slice A g.vals c) g.vals∧Ext w w'
theorem uH (t n P vn w)(ht:Nds w P vn t)(hg:bD t (n+1)) :
  qg 86 #[.agg #[vn],↑n] w (aV0 P ((aF t).getD n default) w):=by
 have HT:=a4b ht;have HG:=a4b hg;obtain ⟨An,cn,en,hn1,hn2⟩:=ht.form;subst en;have hnt:=hg.1;have hn4:=hg.2.1
 have HTK:=a4b (show (aF (t.take (n+1))).getD n default=(aF t).getD n default by
  unfold aF;rw [gX _ _ _ hnt];simp [List.getD])
 have HLN:=a4b (show (aF (t.take (n+1)))=n+1 by rw [oN,ak];omega);clear ht hg;go_enter Tryz.func86,Tryz.ntmps86;go_wp2_with fail;refine (aHm t (n+1) P _ _ (HT.out.ext ((aq w).alloc' _)) HG.out).mono ?_;rintro e w1 ⟨v,rfl,hv,hx1⟩;have HX1:=a4b (((aq w).alloc' _).trans' hx1);obtain ⟨A,c,ev,h1,h2⟩:=Lst.form hv;subst ev;have hln:n<(aF (t.take (n+1))):=by rw [HLN.out];omega
 obtain ⟨b,o,A2,d2,rfl,-,hv2,g2,g3⟩:=hv.get hln;rw [HTK.out] at hv2 g2 g3;have HV2:=a4b hv2;have hn0:(0:Int)<=(n:Int):=by omega
 have hn9:(n:Int)<((aF (t.take (n+1))):Int):=I;clear hv hx1 hv2;generalize (aF (t.take (n+1))).length=L at *;generalize (aF t).getD n default=g at *;obtain ⟨vals,many⟩:=g;simp only at g2 g3;go_wp2_with fail;go_quiet (fail);go_wp2_with fail;go_ret2;refine ⟨A2,d2,rfl,?_,HX1.out.drewN' _⟩;exact (HV2.out.ext ((aq w1).drewN' _)).imp (fun b _ h=>h.elim .inl (fun h=>.inr (by simp at h;omega)))
theorem aI2 (t x a)(n:Nat)(P vn w)(ht:Nds w P vn t)(hx:NAt w P x a)(hk:0<x.kids.length)(hz:x.kids.getD 0 0=n)(hg:bD t (n+1)) :
  qg 60 #[.agg #[vn],fU x a] w (dI (.int .i64 (iB t x)) w):=by
 have HT:=a4b ht;have HG:=a4b hg;have HX:=a4b hx;have HZ:=a4b hz
 have HQ:=a4b (show iB t x=if ((aF t).getD n default).many then 4 else if eB ((aF t).getD n default).vals x.values then 0 else 1 by
  unfold iB;rw [hz];simp)
 obtain ⟨An,cn,en,hn1,hn2⟩:=ht.form;subst en;obtain ⟨hkl1,hkl2⟩:=hx.kids.le;clear ht hg hx hz;go_enter Tryz.func60,Tryz.ntmps60;go_wp2_with fail;have HE:=a4b (show Ext w ((w.alloc (qk #[.slice An t cn] 25)).alloc (qk (aK x a).toArray 87)) from ((aq w).alloc' _).alloc' _);have HBT:=a4b ((aw w 25 #[.slice An t cn]).alloc (qk (aK x a).toArray 87));have HBX:=a4b (az (w.alloc (qk #[.slice An t cn] 25)) 87 (aK x a).toArray (g:=w.heap.size+1) O);generalize hW:(w.alloc (qk #[.slice An t cn] 25)).alloc (qk (aK x a).toArray 87)=W at *;clear hW;have b0:=HBT.out.cell' (u:=.slice An t cn) 0 rfl;have b7:=HBX.out.cell' (u:=.slice a.kA x.kids a.kc) 7 rfl;obtain ⟨b1,o1,e1,-,-,g1⟩:=(HX.out.kids.ext HE.out).get hk;rw [HZ.out,Nat.add_zero] at g1;rw [e1] at b7;clear e1;have HVA:=a4b (show ∀ W',Nds W' P (.slice An t cn) t->qg 86 #[.agg #[.slice An t cn],↑n] W' (aV0 P ((aF t).getD n default) W') from fun W' h=>uH t n P _ W' h HG.out);generalize (aF t).getD n default=g at *;obtain ⟨vals,many⟩:=g
 go_region_held3 (fun w'=>qc w' w 0 (.slice An t cn)∧qc w' (w+1) 7 (.slice (qt b1 o1) x.kids a.kc)∧qc w' b1 o1 n)
  (first
   | go_keep
   | (go_split_ands
      exact ⟨aA hx1 ‹_›,aA hx1 ‹_›,aA hx1 ‹_›⟩))
  (first
   | (go_at_call 86;refine (HVA.out _ (HT.out.ext HE.out.drew')).mono ?_;rintro e w1 ⟨A,c,rfl,hv,hx1⟩))
 have HX1:=a4b (((aq W).drew').trans' hx1);have b6:=(HBX.out.ext HX1.out).cell' (u:=.slice a.vA x.values a.vc) 6 rfl;have HV:=a4b hv;clear hv hx1;cases many
 ·go_wp2_with fail
  refine (tT vals x.values (New P (W.drew)) P _ _ _ HV.out (HX.out.values.ext (HE.out.trans' HX1.out))).mono ?_;rintro e w2 ⟨rfl,hx2⟩;have HX2:=a4b hx2;clear hx2;generalize eB vals x.values=bb at *;cases bb
  ·go_wp2_with fail
   go_ret;exact ⟨aI gy,HE.out.trans' (HX1.out.trans' HX2.out)⟩
  ·go_wp2_with fail
   go_ret;exact ⟨aI gy,HE.out.trans' (HX1.out.trans' HX2.out)⟩
 ·go_wp2_with fail
  go_ret;exact ⟨aI gy,HE.out.trans' HX1.out⟩
