/- Contracts of functions. Conditions: none. -/
import Derived.Test.YtkoeecdjijfjnaaGreatPlE
set_option maxRecDepth 100000
set_option maxHeartbeats 8000000
namespace Go.Proofs.YtkoeecdjijfjnaaGreat
open Go.RowKit
def New (P:Nat->Prop)(B:Nat):Nat->Prop:=fun b=>P b∨B<=b
section
variable {w w':World}{P Q:Nat->Prop}
theorem Sl.carry {size:Nat}{A:Option Addr}{n:Nat}{cs:List Value}(h:Sl w P size A n cs)(hs:0<size)(hk:aB P w w')(hPQ:∀ b,b<w.heap.size->P b->Q b):Sl w' Q size A n cs :=
 ⟨h.1,fun hn=>by
  obtain ⟨b,off,e,hb,hc⟩:=h.2 hn;have hl:0<cs.length:=by rw [h.1];exact Nat.mul_pos hn hs
  have hlt:b<w.heap.size:=aQ (hc 0 cs[0] im);exact ⟨b,off,e,hPQ b hlt hb,fun j u hu=>(World.cell?_of_block (w:=w) (w':=w') (hk b hlt hb)).trans (hc j u hu)⟩⟩
mutual
theorem RV.carry (hk:aB P w w')(hPQ:∀ b,b<w.heap.size->P b->Q b):∀ {x:GV}{cs:List Value},RV w P x cs->RV w' Q x cs
 | .mk k n s kids,cs,h=>by
  simp only [RV] at h ⊢;obtain ⟨h1,h2,h3,A,c,css,h4,h5,h6,h7,h8⟩:=h;exact ⟨h1,h2,h3,A,c,css,h4,h5,h6,h7.carry U hk hPQ,RVs.carry hk hPQ h8⟩
theorem RVs.carry (hk:aB P w w')(hPQ:∀ b,b<w.heap.size->P b->Q b):∀ {l:List GV}{cs:List Value},RVs w P l cs->RVs w' Q l cs
 | [],cs,h=>by simp only [RVs] at h ⊢;exact h
 | x :: xs,cs,h=>by
  simp only [RVs] at h ⊢;obtain ⟨c1,c2,h1,h2,h3⟩:=h;exact ⟨c1,c2,h1,RV.carry hk hPQ h2,RVs.carry hk hPQ h3⟩
end
theorem bV.carry {v:Value}{l:List GV}(h:bV w P v l)(hk:aB P w w')(hPQ:∀ b,b<w.heap.size->P b->Q b):bV w' Q v l:=by
 obtain ⟨A,c,css,h1,h2,h3,h4,h5⟩:=h;exact ⟨A,c,css,h1,h2,h3,h4.carry U hk hPQ,RVs.carry hk hPQ h5⟩
theorem VAt.carry {x:GV}{A:Option Addr}{c:Nat}(h:VAt w P x A c)(hk:aB P w w')(hPQ:∀ b,b<w.heap.size->P b->Q b):VAt w' Q x A c :=
 ⟨h.kind,h.n,h.s,h.len,h.cap,h.kids.carry hk hPQ⟩
theorem aU.carry {v:Value}{l:List Int}(h:aU w P v l)(hk:aB P w w')(hPQ:∀ b,b<w.heap.size->P b->Q b):aU w' Q v l:=by
 obtain ⟨A,c,hv,h1,h2,h3,h4⟩:=h;exact ⟨A,c,hv,h1,h2,h3,h4.carry U hk hPQ⟩
theorem Lst.carry {α:Type}{size:Nat}{R R':α->List Value->Prop}{v:Value}{l:List α}(h:Lst w P size R v l)(hs:0<size)(hk:aB P w w')(hPQ:∀ b,b<w.heap.size->P b->Q b)(hR:∀ x ∈ l,∀ cs,R x cs->R' x cs):Lst w' Q size R' v l:=by
 obtain ⟨A,c,css,h1,h2,h3,h4,h5⟩:=h;exact ⟨A,c,css,h1,h2,h3,h4.carry hs hk hPQ,h5.mono hR⟩
theorem uP.carry {v:Value}{l:List ByteArray}(h:uP w P v l)(hk:aB P w w')(hPQ:∀ b,b<w.heap.size->P b->Q b):uP w' Q v l:=Lst.carry h U hk hPQ (fun _ _ _ h=>h)
theorem NAt.carry {x:GN}{a:NA}(h:NAt w P x a)(hk:aB P w w')(hPQ:∀ b,b<w.heap.size->P b->Q b):NAt w' Q x a :=
 ⟨h.kind,h.name,h.lo,h.hi,h.weights.carry hk hPQ,h.labels.carry hk hPQ,h.values.carry hk hPQ,h.kids.carry hk hPQ,h.value.carry hk hPQ⟩
theorem RN.carry {x:GN}{cs:List Value}(h:RN w P x cs)(hk:aB P w w')(hPQ:∀ b,b<w.heap.size->P b->Q b):RN w' Q x cs:=by
 obtain ⟨a,e,h⟩:=h;exact ⟨a,e,h.carry hk hPQ⟩
theorem Nds.carry {v:Value}{l:List GN}(h:Nds w P v l)(hk:aB P w w')(hPQ:∀ b,b<w.heap.size->P b->Q b):Nds w' Q v l:=Lst.carry h U hk hPQ (fun _ _ _ h=>RN.carry h hk hPQ)
theorem bV.imp {v:Value}{l:List GV}(h:bV w P v l)(hPQ:∀ b,b<w.heap.size->P b->Q b):bV w Q v l:=h.carry (fun _ _ _=>rfl) hPQ
theorem bV.grow {v:Value}{l:List GV}(h:bV w P v l)(hx:Ext w w')(hPQ:∀ b,b<w.heap.size->P b->Q b):bV w' Q v l:=h.carry (aB.of_ext hx) hPQ
end
def aFt (w:World)(P:Nat->Prop)(l:List GV)(cs:List Value):Prop:=∃ v,cs=[v]∧bV w P v l
def Rws (w:World)(P:Nat->Prop)(v:Value)(rows:List (List GV)):Prop:=Lst w P 1 (aFt w P) v rows
def RGL (w:World)(P:Nat->Prop)(g:GL)(cs:List Value):Prop:=∃ v,cs=[v,.bool g.many]∧bV w P v g.vals
def GLs (w:World)(P:Nat->Prop)(v:Value)(l:List GL):Prop:=Lst w (fun b=>b<w.heap.size) 2 (RGL w P) v l
section
variable {w w':World}{P Q:Nat->Prop}
theorem aFt.len (l:List GV)(cs:List Value)(h:aFt w P l cs):cs.length=1:=by obtain ⟨v,rfl,_⟩:=h;rfl
theorem RGL.len (g:GL)(cs:List Value)(h:RGL w P g cs):cs.length=2:=by obtain ⟨v,rfl,_⟩:=h;rfl
theorem aFt.carry {l:List GV}{cs:List Value}(h:aFt w P l cs)(hk:aB P w w')(hPQ:∀ b,b<w.heap.size->P b->Q b):aFt w' Q l cs:=by
 obtain ⟨v,e,h⟩:=h;exact ⟨v,e,h.carry hk hPQ⟩
theorem RGL.carry {g:GL}{cs:List Value}(h:RGL w P g cs)(hk:aB P w w')(hPQ:∀ b,b<w.heap.size->P b->Q b):RGL w' Q g cs:=by
 obtain ⟨v,e,h⟩:=h;exact ⟨v,e,h.carry hk hPQ⟩
theorem Rws.carry {v:Value}{l:List (List GV)}(h:Rws w P v l)(hk:aB P w w')(hPQ:∀ b,b<w.heap.size->P b->Q b):Rws w' Q v l:=Lst.carry h U hk hPQ (fun _ _ _ h=>h.carry hk hPQ)
theorem GLs.grow {v:Value}{l:List GL}(h:GLs w P v l)(hx:Ext w w')(hPQ:∀ b,b<w.heap.size->P b->Q b):GLs w' Q v l:=Lst.carry h U (aB.of_ext hx) (fun b hb _=>Nat.lt_of_lt_of_le hb hx.size) (fun _ _ _ h=>h.carry (aB.of_ext hx) hPQ)
theorem Rws.ext {v:Value}{l:List (List GV)}(h:Rws w P v l)(hx:Ext w w'):Rws w' P v l:=h.carry (aB.of_ext hx) (fun _ _ h=>h)
theorem GLs.ext {v:Value}{l:List GL}(h:GLs w P v l)(hx:Ext w w'):GLs w' P v l:=h.grow hx (fun _ _ h=>h)
theorem Lst.form {α:Type}{size:Nat}{R:α->List Value->Prop}{v:Value}{l:List α}(h:Lst w P size R v l):∃ A c,v=.slice A l.length c∧l.length<=c∧(l.length<=17592186044416∧c<=9223372036854775807):=by
 obtain ⟨A,c,_,h1,h2,h3,_⟩:=h;exact ⟨A,c,h1,h2,h3⟩
theorem Rws.get {A:Option Addr}{n c:Nat}{l:List (List GV)}(h:Rws w P (.slice A n c) l){i:Nat}(hi:i<l.length) :
  ∃ b off A' d,A=some ⟨b,off,none⟩∧P b∧bV w P (.slice A' (l.getD i []).length d) (l.getD i [])∧w.cell? ⟨b,off+i,none⟩=some (.slice A' (l.getD i []).length d):=by
 obtain ⟨b,off,c',cs,e,hb,_,_,⟨v,rfl,hv⟩,hc⟩:=Lst.at_ aFt.len h [] hi;injection e with e _ _;obtain ⟨A',d,ev,_⟩:=hv.form;subst ev;refine ⟨b,off,A',d,e,hb,hv,?_⟩;have:=hc 0 _ rfl
 simpa using this
theorem GLs.get {A:Option Addr}{n c:Nat}{l:List GL}(h:GLs w P (.slice A n c) l){i:Nat}(hi:i<l.length) :
  ∃ b off A' d,A=some ⟨b,off,none⟩∧b<w.heap.size∧bV w P (.slice A' (l.getD i default).vals.length d) (l.getD i default).vals∧w.cell? ⟨b,off+i*2,none⟩=some (.slice A' (l.getD i default).vals.length d) ∧
   w.cell? ⟨b,off+i*2+1,none⟩=some (.bool (l.getD i default).many):=by
 obtain ⟨b,off,c',cs,e,hb,_,_,⟨v,rfl,hv⟩,hc⟩:=Lst.at_ RGL.len h default hi;injection e with e _ _;obtain ⟨A',d,ev,_⟩:=hv.form;subst ev;exact ⟨b,off,A',d,e,hb,hv,hc 0 _ rfl,hc 1 _ rfl⟩
theorem Lst.of_own {α:Type}{size base:Nat}{e:TypeId}{R:α->List Value->Prop}{v:Value}{l:List α}{xs:List Value}(ho:w.ownsRow base e size v l.length xs)(hR:RL R l xs)(hl:l.length<=17592186044416)
  (hQ:∀ b,v.ownBlock=some b->Q b):Lst w Q size R v l:=by
 obtain ⟨A,c,e,h1,h2,h3⟩:=Sl.of_own ho;unfold maxLen at h2;exact ⟨A,c,xs,e,h1,⟨hl,h2⟩,h3 Q hQ,hR⟩
theorem bV.of_own {base:Nat}{e:TypeId}{v:Value}{l:List GV}{xs:List Value}(ho:w.ownsRow base e 4 v l.length xs)(hR:RVs w Q l xs)(hl:l.length<=17592186044416)
  (hQ:∀ b,v.ownBlock=some b->Q b):bV w Q v l:=aBg.2 (Lst.of_own ho (aJe.1 hR) hl hQ)
theorem _root_.Go.World.ownsRow.block_lt {base:Nat}{e:TypeId}{size:Nat}{v:Value}{n:Nat}{xs:List Value}(h:w.ownsRow base e size v n xs){b:Nat}(hb:v.ownBlock=some b):b<w.heap.size:=by
 rcases h.2 with ⟨rfl,_⟩ | ⟨g,cap,cur,rfl,h1,h2,_⟩
 ·simp [Value.ownBlock] at hb
 ·simp [Value.ownBlock] at hb;subst hb;exact Blk.lt (t:=e) h2
theorem _root_.Go.World.ownsRow.len_cast {base:Nat}{e:TypeId}{size:Nat}{v:Value}{n m:Nat}{xs ys:List Value}(h:w.ownsRow base e size v n xs)(e1:n=m)(e2:xs=ys):w.ownsRow base e size v m ys:=e1 ▸ e2 ▸ h
end
def Off (P:Nat->Prop)(B:Nat)(w:World)(v:Value):Nat->Prop:=fun b=>(P b∨B<=b)∧b<w.heap.size∧some b ≠ v.ownBlock
theorem aB.off {P:Nat->Prop}{B:Nat}{w w':World}{v:Value}(hf:Fr (fun k=>some k=v.ownBlock) w w'):aB (Off P B w v) w w':=fun b hb h=>hf.block b hb h.2.2
def xK (P:Nat->Prop)(g:GL)(w:World)(e:Ending)(w':World):Prop :=
 ∃ A c,e=.returned (.agg #[.slice A g.vals.length c,.bool g.many])∧bV w' (New P w.heap.size) (.slice A g.vals.length c) g.vals∧Ext w w'
theorem Tryz.info83:(Tryz.prog.info? 83).map (fun i=>(i.zero,i.size,i.bytes))=some (some (.slice none 0 0),1,24):=aa
def Bd (P:Nat->Prop)(B N:Nat):Nat->Prop:=fun b=>(P b∨B<=b)∧b<N
def aQj (x:GN)(before:List GL)(P:Nat->Prop)(B:Nat)(W:World)(v k:Value)(wr:World):Prop :=
 ∃ (j:Nat) (rows:List (List GV)),j<=x.kids.length∧k=↑j∧Rws wr (New P B) v rows∧Ext W wr∧rows.length<=1024∧(∀ r ∈ rows,r.length=j)∧bO before [[]] x.kids=bO before rows (x.kids.drop j)
def aQk (P:Nat->Prop)(B:Nat)(W:World)(rows:List (List GV))(vals:List GV)(v i:Value)(wr:World):Prop :=
 ∃ (k:Nat) (xs:List Value),k<=rows.length∧i=↑k∧wr.ownsRow W.heap.size 83 1 v (eS (rows.take k) vals).length xs∧RL (aFt wr (Off P B wr v)) (eS (rows.take k) vals) xs∧Ext W wr
def aQ5 (P:Nat->Prop)(B:Nat)(W:World)(done:List (List GV))(r:List GV)(vals:List GV)(v i:Value)(wr:World):Prop :=
 ∃ (k:Nat) (xs:List Value),k<=vals.length∧i=↑k∧wr.ownsRow W.heap.size 83 1 v (done ++ (vals.take k).map (fun u=>r ++ [u])).length xs∧RL (aFt wr (Off P B wr v)) (done ++ (vals.take k).map (fun u=>r ++ [u])) xs∧Ext W wr
def aQ1 (P:Nat->Prop)(B:Nat)(W:World)(name:ByteArray)(rows:List (List GV))(v i:Value)(wr:World):Prop :=
 ∃ (k:Nat) (xs:List Value),k<=rows.length∧i=↑k∧wr.ownsRow W.heap.size 85 4 v k xs∧RVs wr (Bd P B W.heap.size) ((rows.take k).map (bW name)) xs∧Ext W wr
theorem aBz (rows:List (List GV))(r:List GV)(vals:List GV):eS (rows ++ [r]) vals=eS rows vals ++ vals.map (fun u=>r ++ [u]):=by
 unfold eS;rw [List.flatMap_append];simp
theorem aGi {P:Nat->Prop}{B N:Nat}{wr w2 w4:World}{v v' vr:Value}{next:List (List GV)}{row:List GV}{xs cr:List Value}
  (hB:B<=N)(ho:wr.ownsRow N 83 1 v next.length xs)(hN:N<=wr.heap.size)(hr:RL (aFt wr (Off P B wr v)) next xs)(h2:Ext wr w2)(hrow:w2.ownsRow wr.heap.size 85 4 vr row.length cr)
  (hcr:RVs w2 (Bd P B N) row cr)(hl:row.length<=100000)(hf:Fr (fun k=>some k=v.ownBlock) (w2.alloc (.cells #[vr] 83)) w4)
  (hown:v'.ownBlock=v.ownBlock∨v'.ownBlock=some (w2.alloc (.cells #[vr] 83)).heap.size):RL (aFt w4 (Off P B w4 v')) (next ++ [row]) (xs ++ [vr]):=by
 have hs2:=h2.size;have hs4:=hf.size;simp at hs4;have h24:Fr (fun k=>some k=v.ownBlock) w2 w4:=(Fr.of_ext ((Ext.refl w2).alloc' _)).trans hf;have h04:Fr (fun k=>some k=v.ownBlock) wr w4:=(Fr.of_ext h2).trans h24;have hv:∀ b,v.ownBlock=some b->N<=b∧b<wr.heap.size:=fun b hb=>⟨ho.block_ge hb,ho.block_lt hb⟩
 have hne:∀ b,b<w2.heap.size->some b ≠ v.ownBlock->some b ≠ v'.ownBlock:=by
  intro b hb h;rcases hown with e | e
  ·rw [e];exact h
  ·rw [e];intro e';injection e' with e';simp at e';omega
 refine RL.append (hr.mono (fun l _ cs h=>h.carry (aB.off h04) (fun b hb h=>⟨h.1,U,hne b U h.2.2⟩))) (RL.one ⟨vr,rfl,?_⟩);refine (bV.of_own (Q:=fun b=>(P b∨B<=b)∧some b ≠ v.ownBlock) hrow (RVs.carry (fun _ _ _=>rfl) ?_ hcr) U ?_).carry (fun b hb h=>h24.block b hb h.2) (fun b hb h=>⟨h.1,U,hne b hb h.2⟩)
 ·rintro b hb ⟨h1,h3⟩
  exact ⟨h1,fun e=>by have:=(hv b e.symm).1;omega⟩
 ·intro b hb
  have hge:=hrow.block_ge hb;exact ⟨.inr U,fun e=>by have:=(hv b e.symm).2;omega⟩
theorem VAt.made {w:World}{P:Nat->Prop}{name:ByteArray}{kids:List GV}{A:Option Addr}{c:Nat}(hn:name.size<=17592186044416)(h:bV w P (.slice A kids.length c) kids):VAt w P (bW name kids) A c:=by
 obtain ⟨h1,h2⟩:=h.le;unfold bW
 split
 ·exact ⟨by simp [I64,GV.kind],by simp [I64,GV.n],by simp [GV.s],h1,h2,h⟩
 ·exact ⟨by simp [I64,GV.kind],by simp [I64,GV.n],hn,h1,h2,h⟩
theorem bV.slice_parts {w:World}{P:Nat->Prop}{A:Option Addr}{n c:Nat}{l:List GV}(h:bV w P (.slice A n c) l):∃ css,Sl w P 4 A l.length css∧RVs w P l css:=by
 obtain ⟨A',c',css,e,_,_,h1,h2⟩:=h;injection e with e _ _;subst e;exact ⟨css,h1,h2⟩
theorem lT {a b:Nat}(ha:a<=1024)(hb:b<=1024):wrap64 ((a:Int)*(b:Int))=((a*b:Nat):Int):=by
 have h:a*b<=1024*1024:=Nat.mul_le_mul ha hb;have e:(a:Int)*(b:Int)=((a*b:Nat):Int):=by simp
 rw [e];exact IntWalk.wrap64_in _ U
theorem sW (x:GN)(a:NA)(P:Nat->Prop)(before:List GL)(vb:Value)(w:World)(hx:NAt w P x a)(hb:GLs w P vb before)
  (hkids:∀ z ∈ x.kids,0<=z∧z<(before.length:Int))(hlok:∀ z ∈ x.kids,LOK (before.getD z.toNat default))(hkl:x.kids.length<=2000)(hP:∀ b,P b->b<w.heap.size) :
  Calls Tryz.prog 197 #[jJ x a,vb] w (xK P (vN x before) w):=by
 have HX:=aYl hx;have HPP:=aYl hP;have HB:=aYl hb;have HK:=aYl hkids;have HLOK:=aYl hlok;obtain ⟨Ab,cb,eb,hb1,hb2⟩:=Lst.form hb;subst eb;obtain ⟨hkl1,hkl2⟩:=hx.kids.le;clear hx hb hkids hlok hP;obtain ⟨i0,hi,hz0,hz1,hz2⟩:=info_parts Tryz.info85;have HI:=aYl hi;obtain ⟨i1,hi',hz0',hz1',hz2'⟩:=info_parts Tryz.info83;have HI':=aYl hi';clear hi hi';have HSEQ:=aYl (show vN x before=match bO before [[]] x.kids with | none=>⟨[],true⟩ | some rows=>⟨eN (rows.map (bW x.name)),false⟩ from rfl);go_enter Tryz.func197,Tryz.ntmps197;go_wp2_with fail;have HE:=aYl (show Ext w (((w.alloc (.cells (aL x a).toArray 87)).alloc (.cells #[.slice none 0 0,.bool false] 194)).alloc (.cells #[.slice none 0 0] 83)) from (((Ext.refl w).alloc' _).alloc' _).alloc' _);have HBX:=aYl (((Blk.new w 87 (aL x a).toArray).alloc (.cells #[.slice none 0 0,.bool false] 194)).alloc (.cells #[.slice none 0 0] 83));have HBR:=aYl ((Blk.new' (w.alloc (.cells (aL x a).toArray 87)) 194 #[.slice none 0 0,.bool false] (g:=w.heap.size+1) Y).alloc (.cells #[.slice none 0 0] 83))
 have HR0:=aYl (show Rws (((w.alloc (.cells (aL x a).toArray 87)).alloc (.cells #[.slice none 0 0,.bool false] 194)).alloc (.cells #[.slice none 0 0] 83)) (New P (w.heap.size+2)) (.slice (some ⟨w.heap.size+1+1,0,none⟩) 1 1) [[]] from
  ⟨some ⟨w.heap.size+1+1,0,none⟩,1,[.slice none 0 0],rfl,Y,Y,⟨rfl,fun _=>⟨w.heap.size+1+1,0,rfl,.inr U,fun j u hu=>mG _ _ _ _ _ _ Y fq⟩⟩,
   RL.one ⟨_,rfl,none,0,[],rfl,Y,Y,⟨rfl,fun h=>absurd h Y⟩,rfl⟩⟩)
 generalize hW:((w.alloc (.cells (aL x a).toArray 87)).alloc (.cells #[.slice none 0 0,.bool false] 194)).alloc (.cells #[.slice none 0 0] 83)=W at *;clear hW;go_loopw [5,6] (fun v k wr=>aQj x before P (w.heap.size+2) W v k wr) (fun _ k _=>x.kids.length - (intOf k).toNat)
 case atStart=>exact ⟨0,[[]],Nat.zero_le _,rfl,HR0.out,Ext.refl _,Y,Y,rfl⟩
 case round =>
  obtain ⟨j,rows,hj,rfl,hrows,hxr,hrl,hrr,ht⟩:=hrel;have HT:=aYl ht;have HXR:=aYl hxr;have HRR:=aYl hrr;have HROWS:=aYl hrows;obtain ⟨A5,c5,e5,h51,h52⟩:=Lst.form hrows;subst e5;have hbx7:=(HBX.out.ext hxr).cell' (u:=.slice a.kA x.kids.length a.kc) 7 rfl;have BR:=aYl (HBR.out.ext hxr);have r0:=BR.out.cell' (u:=.slice none 0 0) 0 rfl;have r1:=BR.out.cell' (u:=.bool false) 1 rfl;have f0:=BR.out.frozen 0;have f1:=BR.out.frozen 1;have hlr:=BR.out.lt;have hbx:=(HBX.out.ext hxr).lt;clear ht hxr hrr hrows
  by_cases hlt:j<x.kids.length
  ·obtain ⟨b1,o1,e1,-,-,g1⟩:=(HX.out.kids.ext (HE.out.trans' HXR.out)).get hlt
   rw [e1] at hbx7;clear e1;have hz:=HK.out _ (aF (d:=0) hlt);have HLZ:=aYl (HLOK.out _ (aF (d:=0) hlt));have HD:=aYl (show bO before [[]] x.kids=_ from by rw [HT.out,aG 0 hlt,bO]);generalize x.kids.getD j 0=z at *;obtain ⟨b2,o2,A2,d2,rfl,-,hv2,g2,g3⟩:=(HB.out.ext (HE.out.trans' HXR.out)).get (i:=z.toNat) U;have HV2:=aYl hv2;have hfew:=HLZ.out.few;have hvle:=hv2.le;clear hv2;generalize before.getD z.toNat default=l at *;obtain ⟨vals,many⟩:=l;simp only at HD g2 g3 hfew HV2 hvle
   cases many
   ·by_cases hp:1024<rows.length*vals.length
    ·have tp:decide (1024<wrap64 ((rows.length:Int)*(vals.length:Int)))=true:=by rw [lT hrl hfew];exact aYo U
     have HQ:=aYl (show vN x before=⟨[],true⟩ by rw [HSEQ.out,HD.out,if_pos (.inr hp)]);clear hp;go_wp2_with fail;have q:=((BR.out.set_ 0 (.slice none 0 0)).set_ 1 (.bool true)).alloc (.cells #[.slice A2 vals.length d2,.bool false] 194);have q0:=q.cell' (u:=.slice none 0 0) 0 rfl;have q1:=q.cell' (u:=.bool true) 1 rfl;clear q;rw [HQ.out];refine bodyPost_ret (v:=.agg #[.slice none 0 0,.bool true]) (by simp [results,Tryz.results197,go_sem,q0,q1]) rfl ⟨none,0,rfl,⟨none,0,[],rfl,Y,Y,⟨rfl,fun h=>absurd h Y⟩,rfl⟩,?_⟩;exact ((((HE.out.trans' HXR.out).setCell' (p:=⟨w.heap.size+1,0,none⟩) ae _).setCell' (p:=⟨w.heap.size+1,1,none⟩) ae _).alloc' _)
    ·have tp:decide (1024<wrap64 ((rows.length:Int)*(vals.length:Int)))=false:=by rw [lT hrl hfew];exact aYp U
     have HQ:=aYl (show bO before [[]] x.kids=bO before (eS rows vals) (x.kids.drop (j+1)) by rw [HD.out,if_neg ab]);have hp':rows.length*vals.length<=1024:=by omega
     have HP:=aYl hp';clear hp hp';go_wp2_with fail;have HX1:=aYl (HXR.out.alloc' (.cells #[.slice A2 vals.length d2,.bool false] 194));have HBL:=aYl (Blk.new wr 194 #[.slice A2 vals.length d2,.bool false]);have HRW:=aYl (HROWS.out.carry (Q:=Bd P (w.heap.size+2) (wr.alloc (.cells #[.slice A2 vals.length d2,.bool false] 194)).heap.size) (aB.of_ext ((Ext.refl wr).alloc' (.cells #[.slice A2 vals.length d2,.bool false] 194))) (fun b hb h=>⟨h,ab⟩));have HVW:=aYl (HV2.out.grow (Q:=Bd P (w.heap.size+2) (wr.alloc (.cells #[.slice A2 vals.length d2,.bool false] 194)).heap.size) ((Ext.refl wr).alloc' (.cells #[.slice A2 vals.length d2,.bool false] 194)) (fun b hb h=>⟨.inl h,ab⟩));have hwr:w.heap.size+2<=(wr.alloc (.cells #[.slice A2 vals.length d2,.bool false] 194)).heap.size:=by simp;omega
     have hgl:wr.heap.size<(wr.alloc (.cells #[.slice A2 vals.length d2,.bool false] 194)).heap.size:=Y
     generalize hW1:wr.alloc (.cells #[.slice A2 vals.length d2,.bool false] 194)=W1 at *;clear hW1;obtain ⟨wo,rfl⟩:∃ wo:World,wo=wr:=⟨_,rfl⟩;clear hbx7 g1 g2 g3 r0 r1 f0 f1 tp;go_loopw [8,9] (fun v k wq=>aQk P (w.heap.size+2) W1 rows vals v k wq) (fun _ k _=>rows.length - (intOf k).toNat)
     case atStart=>exact ⟨0,[],Nat.zero_le _,rfl,aN _ _ _ _,rfl,Ext.refl _⟩
     case round =>
      obtain ⟨k,xs,hk,rfl,hown8,hrl8,hxq⟩:=hrel;have HOWN8:=aYl hown8;have HRL8:=aYl hrl8;have HXQ:=aYl hxq;clear hown8 hrl8 hxq
      by_cases hlt2:k<rows.length
      ·go_wp2_with fail
       obtain ⟨b5,o5,A6,d6,rfl,-,hv6,g6⟩:=HRW.out.get hlt2;have HV6:=aYl hv6;have HG6:=aYl g6;have h6l:=HRR.out _ (aF (d:=[]) hlt2);have HRS:=aYl (show eS (rows.take (k+1)) vals=eS (rows.take k) vals ++ vals.map (fun u=>rows.getD k [] ++ [u]) by rw [aX [] hlt2,aBz])
       have hdl:(eS (rows.take k) vals).length+vals.length<=1024:=by
        rw [gE,List.length_take];have:=HP.out;have h3:(min k rows.length+1)*vals.length<=rows.length*vals.length:=Nat.mul_le_mul_right _ U;rw [Nat.add_mul] at h3;omega
       clear hv6 g6;have h6l':(rows.getD k []).length<=2000:=by omega
       clear h6l;generalize rows.getD k []=r at *;generalize eS (rows.take k) vals=done at *;go_loopw [8,10] (fun v i wz=>aQ5 P (w.heap.size+2) W1 done r vals v i wz) (fun _ i _=>vals.length - (intOf i).toNat)
       case atStart=>exact ⟨0,xs,Nat.zero_le _,rfl,by simpa using HOWN8.out,by simpa using HRL8.out,HXQ.out⟩
       case round =>
        obtain ⟨m,ys,hm,rfl,hownz,hrlz,hxz⟩:=hrel;have HOWNZ:=aYl hownz;have HRLZ:=aYl hrlz;have HXZ:=aYl hxz;have hgl0:=(HBL.out.ext hxz).cell' (u:=.slice A2 vals.length d2) 0 rfl;have hszz:=hxz.size;clear hownz hrlz hxz
        by_cases hlt3:m<vals.length
        ·obtain ⟨bv,ov,Av,dv,rfl,-,hvv,gv0,gv1,gv2,gv3⟩:=(HVW.out.ext HXZ.out).get hlt3
         have g6:=aA HXZ.out HG6.out;have HVV:=aYl hvv
         have HTM:=aYl (show done ++ (vals.take (m+1)).map (fun u=>r ++ [u])=(done ++ (vals.take m).map (fun u=>r ++ [u])) ++ [r ++ [vals.getD m default]] by
          rw [aX default hlt3,List.map_append,List.append_assoc];rfl)
         have hnl:(done ++ (vals.take m).map (fun u=>r ++ [u])).length<=1024:=ab
         clear hvv;obtain ⟨c6,hs6,hr6⟩:=(HV6.out.ext HXZ.out).slice_parts;have HS6:=aYl hs6;have HR6:=aYl hr6;clear hs6 hr6;generalize vals.getD m default=u at *
         go_wp2_with (first
          | (at_builtin;refine aI _ rfl (.tmp 55) (.tmp 59) 83 al wr.heap.size 85 i0 _ 4 56 Tryz.underlying83 HI.out hz0 hz1 hz2 rfl U (.slice none 0 0) 0 [] rfl (aN _ _ _ _) _ A6 r.length d6 c6 rfl HS6.out HR6.out.oneCell U U (Nat.le_refl _) ?_;intro v11 w1 ho1 hbl1;have k0:=aA hbl1 hgl0;have k1:=aA hbl1 gv0;have k2:=aA hbl1 gv1;have k3:=aA hbl1 gv2;have k4:=aA hbl1 gv3)
          | (at_builtin;refine aI _ rfl (.tmp 62) (.tmp 68) 83 al wr.heap.size 85 i0 _ 4 56 Tryz.underlying83 HI.out hz0 hz1 hz2 rfl U v11 _ _ rfl (ho1.alloc _) (fun _=>True) (some ⟨w1.heap.size,0,none⟩) 1 1 [.int .i64 u.kind,.int .i64 u.n,.string u.s,.slice Av u.kids.length dv] rfl (Sl.new w1 _ _ _ _ rfl) af U U (by have:=hbl1.size;simp;omega) ?_;intro v12 w2 ho2 hbl2;simp only [Nat.zero_add,List.nil_append] at ho2;obtain ⟨A12,c12,e12,-,-,-⟩:=Sl.of_own ho2;subst e12;have hx2:Ext wr w2:=(hbl1.alloc hbl1.size _).trans hbl2)
          | (at_builtin;refine aK _ rfl (.tmp 61) (.tmp 70) 196 al W1.heap.size 83 i1 _ 1 24 Tryz.underlying196 HI'.out hz0' hz1' hz2' rfl U u8 _ _ rfl ((HOWNZ.out.ext_ hx2).alloc _) (fun _=>True) (some ⟨w2.heap.size,0,none⟩) 1 1 [.slice A12 _ c12] rfl (Sl.new w2 _ _ _ _ rfl) af U U (by have:=hx2.size;simp;omega) ?_;intro v14 w4 ho4 hf4 hb4))
         go_roundw
         case rel =>
          refine ⟨m+1,ys ++ [.slice A12 (r.length+1) c12],U,by go_num,?_,?_,?_⟩
          ·rw [HTM.out]
           exact ho4.len_cast ab rfl
          ·rw [HTM.out]
           refine aGi (N:=W1.heap.size) hwr HOWNZ.out hszz HRLZ.out hx2 (ho2.len_cast Y rfl) ?_ ab hf4 hb4;refine RVs.append ?_ (RVs.one ((HVV.out.ext hx2).rv));exact RVs.carry (aB.of_ext hx2) (fun _ _ h=>h) HR6.out
          ·exact Fr.new_ext (((Fr.of_ext (HXZ.out.trans' hx2)).alloc _).trans hf4) (fun b hb=>HOWNZ.out.block_ge hb.symm)
         case measure=>simp [intOf];omega
        ·have HTV:=aYl (show vals.take m=vals from List.take_of_length_le U)
         go_wp2_with fail;go_roundw
         case rel =>
          refine ⟨k+1,ys,U,by go_num,?_,?_,HXZ.out⟩
          ·rw [HRS.out]
           have:=HOWNZ.out;rw [HTV.out] at this;exact this
          ·rw [HRS.out]
           have:=HRLZ.out;rw [HTV.out] at this;exact this
         case measure=>simp [intOf];omega
      ·have HTR:=aYl (show rows.take k=rows from List.take_of_length_le U)
       go_wp2_with fail;go_roundw
       case rel =>
        have ho:=HOWN8.out;have hr:=HRL8.out;rw [HTR.out] at ho hr;have hlen:=gE rows vals;have hp:=HP.out;refine ⟨j+1,eS rows vals,U,by go_num,?_,HX1.out.trans' HXQ.out,U,?_,HQ.out⟩
        ·refine Lst.of_own ho (hr.mono (fun l _ cs h=>h.carry (fun _ _ _=>rfl) (fun b _ h=>h.1))) U (fun b hb=>.inr ?_)
         have:=ho.block_ge hb;omega
        ·intro q hq
         obtain ⟨q',hq',u,_,rfl⟩:=jR.1 hq;simp [HRR.out q' hq']
       case measure=>simp [intOf];omega
   ·have HQ:=aYl (show vN x before=⟨[],true⟩ by rw [HSEQ.out,HD.out,if_pos (.inl rfl)])
    go_wp2_with fail;have q:=((BR.out.set_ 0 (.slice none 0 0)).set_ 1 (.bool true)).alloc (.cells #[.slice A2 vals.length d2,.bool true] 194);have q0:=q.cell' (u:=.slice none 0 0) 0 rfl;have q1:=q.cell' (u:=.bool true) 1 rfl;clear q;rw [HQ.out];refine bodyPost_ret (v:=.agg #[.slice none 0 0,.bool true]) (by simp [results,Tryz.results197,go_sem,q0,q1]) rfl ⟨none,0,rfl,⟨none,0,[],rfl,Y,Y,⟨rfl,fun h=>absurd h Y⟩,rfl⟩,?_⟩;exact ((((HE.out.trans' HXR.out).setCell' (p:=⟨w.heap.size+1,0,none⟩) ae _).setCell' (p:=⟨w.heap.size+1,1,none⟩) ae _).alloc' _)
  ·have HQ:=aYl (show vN x before=⟨eN (rows.map (bW x.name)),false⟩ by rw [HSEQ.out,HT.out,drop_nil U];rfl)
   have HRW:=aYl (HROWS.out.carry (Q:=Bd P (w.heap.size+2) wr.heap.size) (fun _ _ _=>rfl) (fun b hb h=>⟨h,hb⟩));have HNM:=aYl HX.out.name;have hwr:w.heap.size+2<=wr.heap.size:=by omega
   have HBXR:=aYl (HBX.out.ext HXR.out);go_wp2_with fail;clear hbx7 r0 r1 f0 f1;obtain ⟨wo,rfl⟩:∃ wo:World,wo=wr:=⟨_,rfl⟩;go_loopw [12,13] (fun v i wz=>aQ1 P (w.heap.size+2) wo x.name rows v i wz) (fun _ i _=>rows.length - (intOf i).toNat)
   case atStart=>exact ⟨0,[],Nat.zero_le _,rfl,aN _ _ _ _,rfl,Ext.refl _⟩
   case round =>
    obtain ⟨k,xs,hk,rfl,hown,hrv,hxz⟩:=hrel;have HOWN:=aYl hown;have HRV:=aYl hrv;have HXZ:=aYl hxz;have hszz:=hxz.size;clear hown hrv hxz
    by_cases hlt4:k<rows.length
    ·obtain ⟨b5,o5,A6,d6,rfl,hb5,hv6,g6⟩:=(HRW.out.ext HXZ.out).get hlt4
     replace hb5:=hb5.2
     have HTM:=aYl (show (rows.take (k+1)).map (bW x.name)=(rows.take k).map (bW x.name) ++ [bW x.name (rows.getD k [])] by
      rw [aX [] hlt4,List.map_append];rfl)
     have HVM:=aYl (VAt.made HNM.out hv6);clear hv6;generalize rows.getD k []=r at *;have BX:=aYl (HBXR.out.ext HXZ.out);have x0:=BX.out.cell' (u:=↑x.kind) 0 rfl;have x1:=BX.out.cell' (u:=.string x.name) 1 rfl;have x2:=BX.out.cell' (u:=↑x.lo) 2 rfl;have x3:=BX.out.cell' (u:=↑x.hi) 3 rfl;have x4:=BX.out.cell' (u:=.slice a.wA x.weights.length a.wc) 4 rfl;have x5:=BX.out.cell' (u:=.slice a.lA x.labels.length a.lc) 5 rfl;have x6:=BX.out.cell' (u:=.slice a.vA x.values.length a.vc) 6 rfl;have x7:=BX.out.cell' (u:=.slice a.kA x.kids.length a.kc) 7 rfl;have x8:=BX.out.cell' (u:=↑x.value.kind) 8 rfl;have x9:=BX.out.cell' (u:=↑x.value.n) 9 rfl;have x10:=BX.out.cell' (u:=.string x.value.s) 10 rfl;have x11:=BX.out.cell' (u:=.slice a.xA x.value.kids.length a.xc) 11 rfl;have hk1:(k:Int)<(rows.length:Int):=by omega
     have hk0:(0:Int)<=(k:Int):=U
     go_wp2_with fail
     go_region_held3 (fun w'=>w'.cell? ⟨w.heap.size,0,none⟩=some (.int .i64 x.kind)∧w'.cell? ⟨w.heap.size,1,none⟩=some (.string x.name)∧w'.cell? ⟨w.heap.size,2,none⟩=some (.int .i64 x.lo)∧w'.cell? ⟨w.heap.size,3,none⟩=some (.int .i64 x.hi)∧w'.cell? ⟨w.heap.size,4,none⟩=some (.slice a.wA x.weights.length a.wc)∧w'.cell? ⟨w.heap.size,5,none⟩=some (.slice a.lA x.labels.length a.lc)∧w'.cell? ⟨w.heap.size,6,none⟩=some (.slice a.vA x.values.length a.vc)∧w'.cell? ⟨w.heap.size,7,none⟩=some (.slice a.kA x.kids.length a.kc)∧w'.cell? ⟨w.heap.size,8,none⟩=some (.int .i64 x.value.kind)∧w'.cell? ⟨w.heap.size,9,none⟩=some (.int .i64 x.value.n)∧w'.cell? ⟨w.heap.size,10,none⟩=some (.string x.value.s)∧w'.cell? ⟨w.heap.size,11,none⟩=some (.slice a.xA x.value.kids.length a.xc)∧w'.cell? ⟨b5,o5+k,none⟩=some (.slice A6 r.length d6))
      (first
       | go_keep
       | (go_split_ands
          exact ⟨aA hxa ‹_›,aA hxa ‹_›,aA hxa ‹_›,aA hxa ‹_›,aA hxa ‹_›,aA hxa ‹_›,aA hxa ‹_›,aA hxa ‹_›,aA hxa ‹_›,aA hxa ‹_›,aA hxa ‹_›,aA hxa ‹_›,aA hxa ‹_›⟩)
       | (go_split_ands
          exact ⟨(hbl2.cell (p:=⟨w.heap.size,_,none⟩) hbx).trans ‹_›,(hbl2.cell (p:=⟨w.heap.size,_,none⟩) hbx).trans ‹_›,(hbl2.cell (p:=⟨w.heap.size,_,none⟩) hbx).trans ‹_›,(hbl2.cell (p:=⟨w.heap.size,_,none⟩) hbx).trans ‹_›,(hbl2.cell (p:=⟨w.heap.size,_,none⟩) hbx).trans ‹_›,(hbl2.cell (p:=⟨w.heap.size,_,none⟩) hbx).trans ‹_›,(hbl2.cell (p:=⟨w.heap.size,_,none⟩) hbx).trans ‹_›,(hbl2.cell (p:=⟨w.heap.size,_,none⟩) hbx).trans ‹_›,(hbl2.cell (p:=⟨w.heap.size,_,none⟩) hbx).trans ‹_›,(hbl2.cell (p:=⟨w.heap.size,_,none⟩) hbx).trans ‹_›,(hbl2.cell (p:=⟨w.heap.size,_,none⟩) hbx).trans ‹_›,(hbl2.cell (p:=⟨w.heap.size,_,none⟩) hbx).trans ‹_›,(hbl2.cell (p:=⟨b5,_,none⟩) hb5).trans ‹_›⟩))
      (first
       | (go_at_call 204;refine (oZ x a r A6 d6 _).mono ?_;rintro e w1 ⟨rfl,hxa⟩;have hszw:=hxa.size)
       | (refine bR _ (by rfl) (.tmp 79) (.tmp 86) 83 (by rfl) wo.heap.size 85 i0 _ 4 56 Tryz.underlying83 HI.out hz0 hz1 hz2 rfl (by omega) u12 _ _ (by rfl) ((HOWN.out.ext_ ((Ext.refl wr).drew'.trans' hxa)).alloc _) (fun _=>True) (some ⟨w1.heap.size,0,none⟩) 1 1 [.int .i64 (bW x.name r).kind,.int .i64 (bW x.name r).n,.string (bW x.name r).s,.slice A6 (bW x.name r).kids.length d6] (by rfl) (Sl.new w1 _ _ _ _ rfl) (by simp [Value.oneCell']) (by omega) (by omega) (by have:=hxa.size;simp at this ⊢;omega) ?_;intro v2 w2 ho2 hbl2))
     have HX1:=aYl ((Ext.refl wr).drew'.trans' hxa);have HX2:=aYl (show Ext wo w2 from ((HXZ.out.trans' HX1.out).alloc' _).trans hbl2);have HO2:=aYl ho2;have hbl3:Below wo.heap.size wr w2:=((HX1.out.mono hszz).alloc (by have:=HX1.out.size;omega) _).trans hbl2;have HBL3:=aYl hbl3;clear ho2 hbl2 hbl3 hxa hszw;go_wp2_with fail;go_roundw
     case rel =>
      refine ⟨k+1,_,U,by go_num,HO2.out,?_,HX2.out⟩;rw [HTM.out];have hk:aB (Bd P (w.heap.size+2) wo.heap.size) wr w2:=fun b _ h=>HBL3.out.block b h.2
      exact RVs.append (RVs.carry hk (fun _ _ h=>h) HRV.out) (RVs.one ((HVM.out.carry hk (fun _ _ h=>h)).rv))
     case measure=>simp [intOf];omega
    ·have HTR:=aYl (show rows.take k=rows from List.take_of_length_le U)
     have hkr:k=rows.length:=U
     have HVL:=aYl (show bV wr (New P (w.heap.size+2)) u12 (rows.map (bW x.name)) from by
      have ho:=HOWN.out;have hr:=HRV.out;rw [HTR.out] at hr;refine bV.of_own (ho.len_cast (by simp [hkr]) rfl) (RVs.carry (fun _ _ _=>rfl) (fun b _ h=>h.1) hr) ab (fun b hb=>.inr ?_);have:=ho.block_ge hb;omega)
     clear hkr;have BR:=aYl (HBR.out.ext (HXR.out.trans' HXZ.out));go_wp2_with fail;refine (yM (rows.map (bW x.name)) (New P (w.heap.size+2)) _ _ HVL.out ab).mono ?_;rintro e w1 ⟨v2,ys,rfl,ho,hr,hx1⟩;have BR1:=aYl (BR.out.ext hx1)
     have HRES:=aYl (show bV w1 (New P (w.heap.size+2)) v2 (eN (rows.map (bW x.name))) from
      bV.of_own ho hr (by have:=vJ (rows.map (bW x.name));simp at this;omega) (fun b hb=>.inr (by have:=ho.block_ge hb;omega)))
     obtain ⟨A7,c7,e7,-,-⟩:=HRES.out.form;subst e7;have HX1:=aYl (HXR.out.trans' (HXZ.out.trans' hx1));have r0:=BR1.out.cell' (u:=.slice none 0 0) 0 rfl;have r1:=BR1.out.cell' (u:=.bool false) 1 rfl;have f0:=BR1.out.frozen 0;have f1:=BR1.out.frozen 1;clear hx1 ho hr;go_wp2_with fail;have q:=((BR1.out.set_ 0 (.slice A7 (eN (rows.map (bW x.name))).length c7)).set_ 1 (.bool false));have q0:=q.cell' (u:=.slice A7 (eN (rows.map (bW x.name))).length c7) 0 rfl;have q1:=q.cell' (u:=.bool false) 1 rfl;clear q;rw [HQ.out];refine bodyPost_ret (v:=.agg #[.slice A7 (eN (rows.map (bW x.name))).length c7,.bool false]) (by simp [results,Tryz.results197,go_sem,q0,q1]) rfl ⟨A7,c7,rfl,?_,?_⟩
     ·refine HRES.out.carry (fun b hb h=>?_) (fun b hb h=>h.elim .inl (fun h=>.inr U))
      have hne:b ≠ w.heap.size+1:=by
       rcases h with h | h
       ·have:=HPP.out b h;omega
       ·omega
      rw [Below.heap_setCell _ _ _ _ hne,Below.heap_setCell _ _ _ _ hne]
     ·exact (((HE.out.trans' HX1.out).setCell' (p:=⟨w.heap.size+1,0,none⟩) ae _).setCell' (p:=⟨w.heap.size+1,1,none⟩) ae _)
theorem sX (x:GN)(a:NA)(P:Nat->Prop)(before:List GL)(vb:Value)(w:World)(hx:NAt w P x a)(hb:GLs w P vb before)
  (hkids:∀ z ∈ x.kids,0<=z∧z<(before.length:Int))(hlok:∀ z ∈ x.kids,LOK (before.getD z.toNat default))(hkl:x.kids.length<=2000) :
  Calls Tryz.prog 197 #[jJ x a,vb] w (xK P (vN x before) w):=by
 refine (sW x a (fun b=>P b∧b<w.heap.size) before vb w (hx.carry (fun _ _ _=>rfl) (fun b h1 h2=>⟨h2,h1⟩)) (hb.grow (Ext.refl _) (fun b h1 h2=>⟨h2,h1⟩)) hkids hlok hkl (fun b h=>h.2)).mono ?_;rintro e w' ⟨A,c,h1,h2,h3⟩;exact ⟨A,c,h1,h2.imp (fun b _ h=>h.elim (fun h=>.inl h.1) .inr),h3⟩
end Go.Proofs.YtkoeecdjijfjnaaGreat
