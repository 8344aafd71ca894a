/- Contracts of functions, plain laws. Conditions: none. -/
import Derived.Test.YtkoeecdjijfjnaaGreatE4
set_option maxRecDepth 100000
set_option maxHeartbeats 8000000
namespace Go.Proofs.YtkoeecdjijfjnaaGreat
open Go.RowKit
def bC (lss:List (List GV)):List (List GV):=lss.foldl eT [[]]
theorem iP (lss:List (List GV))(l:List GV):bC (lss ++ [l])=eT (bC lss) l:=by simp [bC]
theorem aBl (rows:List (List GV))(l:List GV)(k:Nat)(hk:k<rows.length*l.length):(eT rows l).getD k []=rows.getD (k / l.length) [] ++ [l.getD (k % l.length) default]:=by
 have hl:0<l.length:=by
  rcases Nat.eq_zero_or_pos l.length with h | h
  ·rw [h] at hk;simp at hk
  ·exact h
 induction rows generalizing k with
 | nil=>simp at hk
 | cons r rs ih =>
  unfold eT;rw [List.flatMap_cons]
  by_cases hlt:k<l.length
  ·have e1:k / l.length=0:=Nat.div_eq_of_lt hlt
   have e2:k % l.length=k:=Nat.mod_eq_of_lt hlt;rw [e1,e2];simp [List.getD,List.getElem?_append,hlt]
  ·have hge:l.length<=k:=by omega
   have h1:=ih (k - l.length) (by simp only [List.length_cons,Nat.add_mul,Nat.one_mul] at hk;omega)
   have e1:k / l.length=(k - l.length) / l.length+1:=by
    rw [Nat.div_eq k l.length,if_pos ⟨hl,hge⟩]
   have e2:k % l.length=(k - l.length) % l.length:=by rw [Nat.mod_eq_sub_mod hge]
   rw [e1,e2,List.getD_cons_succ,<- h1];simp only [List.getD,eT];rw [List.getElem?_append_right aa];simp
def qM (ls:List GL)(x:GN):GL :=
 match bQ ls [[]] x.kids with
 | none=>⟨[],true⟩
 | some rows=>⟨rows.map (bZ x.name),false⟩
structure wZ (w:World)(Q:Nat->Prop)(cells:List Value)(lss:List (List GV))(k:Nat):Prop where
 at_:∀ j,j<k->∃ A c,cells[j]?=some (.slice A (lss.getD j []).length c)∧bW w Q (.slice A (lss.getD j []).length c) (lss.getD j [])
theorem wZ.keep {w w':World}{Q:Nat->Prop}{cells:List Value}{lss:List (List GV)}{k:Nat}(h:wZ w Q cells lss k)(hk:aB Q w w'):wZ w' Q cells lss k :=
 ⟨fun j hj=>by obtain ⟨A,c,h1,h2⟩:=h.at_ j hj;exact ⟨A,c,h1,h2.carry hk (fun _ _ h=>h)⟩⟩
theorem wZ.put {w:World}{Q:Nat->Prop}{cells:List Value}{lss:List (List GV)}(h:wZ w Q cells lss lss.length){l:List GV}{A:Option Addr}{c:Nat}(hv:bW w Q (.slice A l.length c) l)(hlt:lss.length<cells.length) :
  wZ w Q (cells.set lss.length (.slice A l.length c)) (lss ++ [l]) (lss.length+1):=by
 refine ⟨fun j hj=>?_⟩
 by_cases e:j=lss.length
 ·subst e
  have e1:(lss ++ [l]).getD lss.length []=l:=U
  rw [e1];exact ⟨A,c,eq,hv⟩
 ·have e1:(lss ++ [l]).getD j []=lss.getD j []:=by simp [List.getD,List.getElem?_append,show j<lss.length by omega]
  rw [e1];obtain ⟨A',c',h1,h2⟩:=h.at_ j D;exact ⟨A',c',by rw [List.getElem?_set_ne (fun h=>e h.symm)];exact h1,h2⟩
theorem gA (z:Value)(n:Nat):madeCells #[z] n=(List.replicate n z).toArray:=by rw [<- toList_madeCells_one]
theorem qJ {lss:List (List GV)}:∀ (acc:List (List GV)),1<=acc.length->(∀ l ∈ lss,1<=l.length)->1<=(lss.foldl eT acc).length:=by
 induction lss with
 | nil=>intro acc h _;exact h
 | cons l ls ih =>
  intro acc h hl;refine ih _ ?_ (fun y hy=>hl y ap);rw [gH];exact Nat.mul_pos h (hl l U)
def aXj (t:List GN)(vn:Value)(g g':SA)(x:GN)(gL:Nat)(w:World)(tot i:Value)(wr:World):Prop :=
 ∃ (k:Nat) (lss:List (List GV)) (cells:List Value),k<=x.kids.length∧i=↑k∧tot=.int .i64 (bC lss).length∧lss.length=k∧(bC lss).length<=1024∧cells.length=x.kids.length∧Blk wr gL 83 cells.toArray∧wZ wr g'.Q cells lss k ∧
  (∀ l ∈ lss,l.length<=1024∧1<=l.length)∧Fr g.M w wr∧bS t vn g' wr∧(∀ v ∈ cells,∃ A n c,v=.slice A n c)∧bQ (aG t) [[]] x.kids=bQ (aG t) (bC lss) (x.kids.drop k)
def aXi (P:Nat->Prop)(name:ByteArray)(rows:List (List GV))(w0:World)(v i:Value)(wr:World):Prop :=
 ∃ (k:Nat) (xs:List Value),k<=rows.length∧i=↑k∧wr.ownsRow w0.heap.size 85 4 v k xs∧RVs wr (Off P w0.heap.size wr v) ((rows.take k).map (bZ name)) xs∧Ext w0 wr
def aUi (P:Nat->Prop)(lss:List (List GV))(row:List GV)(gK:Nat)(n:Nat)(w0:World)(kk i:Value)(wr:World):Prop :=
 ∃ (r k:Nat) (ii:Int) (tail:List GV) (cs:List Value),r<=n∧i=↑ii∧ii+1=r∧kk=↑k∧Blk wr gK 85 cs.toArray∧cs.length=n*4∧RVs wr P tail (cs.drop (r*4))∧row=(bC (lss.take r)).getD k [] ++ tail∧(k<(bC (lss.take r)).length∧k<=1024)∧tail.length+r=n∧Fr (fun b=>b=gK) w0 wr
theorem nB {lss:List (List GV)}{q:Nat}(h:q<lss.length):bC (lss.take (q+1))=eT (bC (lss.take q)) (lss.getD q []):=by
 rw [aV [] h,iP]
theorem qI {lss:List (List GV)}:∀ (acc:List (List GV))(m:Nat),(∀ r ∈ acc,r.length=m)->∀ r ∈ lss.foldl eT acc,r.length=m+lss.length:=by
 induction lss with
 | nil=>intro acc m h r hr;simpa using h r hr
 | cons l ls ih =>
  intro acc m h r hr;have:=ih (eT acc l) (m+1) (fun q hq=>by obtain ⟨q',hq',v,_,rfl⟩:=jK.1 hq;simp [h q' hq']) r hr;simp only [List.length_cons];omega
theorem aGo {w:World}{g:Nat}{t:TypeId}{cs:List Value}(h:Blk w g t cs.toArray)(q:Nat)(u0 u1 u2 u3:Value)(hq:q*4+4<=cs.length) :
  Blk ((((w.setCell ⟨g,q*4,none⟩ u0).setCell ⟨g,q*4+1,none⟩ u1).setCell ⟨g,q*4+2,none⟩ u2).setCell ⟨g,q*4+3,none⟩ u3) g t (cs.take (q*4) ++ [u0,u1,u2,u3] ++ cs.drop (q*4+4)).toArray:=by
 have h1:=(((h.set_ (q*4) u0).set_ (q*4+1) u1).set_ (q*4+2) u2).set_ (q*4+3) u3;simp only [List.setIfInBounds_toArray] at h1
 have e:((((cs.set (q*4) u0).set (q*4+1) u1).set (q*4+2) u2).set (q*4+3) u3)=cs.take (q*4) ++ [u0,u1,u2,u3] ++ cs.drop (q*4+4):=by
  apply List.ext_getElem?
  intro j;simp only [List.getElem?_set,List.length_set,List.getElem?_append,List.length_take,List.length_append,List.getElem?_take,List.getElem?_drop,List.length_cons,List.length_nil];have hm:min (q*4) cs.length=q*4:=by omega
  rw [hm]
  by_cases j0:j<q*4
  ·simp [j0,show ¬ q*4+3=j by omega,show ¬ q*4+2=j by omega,show ¬ q*4+1=j by omega,show ¬ q*4=j by omega,show j<q*4+4 by omega]
  by_cases j1:j<q*4+4
  ·have hc:j=q*4∨j=q*4+1∨j=q*4+2∨j=q*4+3:=by omega
   rcases hc with rfl | rfl | rfl | rfl
   ·simp [show q*4<cs.length by omega]
   ·simp [show q*4+1<cs.length by omega]
    intro h;omega
   ·simp [show q*4+2<cs.length by omega]
    intro h;omega
   ·simp [show q*4+3<cs.length by omega]
    intro h;omega
  ·simp [j0,j1,show ¬ q*4+3=j by omega,show ¬ q*4+2=j by omega,show ¬ q*4+1=j by omega,show ¬ q*4=j by omega]
   congr 1
   omega
 rw [e] at h1;exact h1
theorem aI1 {a b:Nat}(h:a<=1024):wrap64 ((a:Int) / (b:Int))=((a / b:Nat):Int):=by
 have h1:=Nat.div_le_self a b;rw [<- Int.natCast_ediv];generalize a / b=c at *;exact IntWalk.wrap64_in _ D
theorem aBr {P:Nat->Prop}{lss:List (List GV)}{row:List GV}{gK n q k':Nat}{w0 wr:World}{cs:List Value}{tail:List GV}{v:GV}{A4:Option Addr}{d4:Nat}(hBK:Blk wr gK 85 cs.toArray)(hcs:cs.length=n*4)(htl:RVs wr P tail (cs.drop ((q+1)*4)))
  (hrow:row=(bC (lss.take q)).getD k' [] ++ (v :: tail))(hk2:k'<(bC (lss.take q)).length)(hk3:k'<=1024)(htr:tail.length+(q+1)=n)(hfr:Fr (fun b=>b=gK) w0 wr)(hv:VAt wr P v A4 d4)(hP:¬ P gK) :
  aUi P lss row gK n w0 (↑(k':Int)) (.int .i64 ((q:Int) - 1)) ((((wr.setCell ⟨gK,q*4,none⟩ (↑v.kind)).setCell ⟨gK,q*4+1,none⟩ (↑v.n)).setCell ⟨gK,q*4+2,none⟩ (.string v.s)).setCell ⟨gK,q*4+3,none⟩ (.slice A4 v.kids.length d4)).drew:=by
 have hq4:q*4+4<=cs.length:=by rw [hcs];omega
 have hb4:=(aGo hBK q (↑v.kind) (↑v.n) (.string v.s) (.slice A4 v.kids.length d4) hq4).drew;have hl4:(cs.take (q*4)).length=q*4:=by rw [List.length_take];omega
 have hdr:(cs.take (q*4) ++ [Value.int .i64 v.kind,Value.int .i64 v.n,Value.string v.s,Value.slice A4 v.kids.length d4] ++ cs.drop (q*4+4)).drop (q*4)=cellsOf v A4 d4 ++ cs.drop ((q+1)*4):=by
  rw [List.append_assoc,List.drop_left' hl4,show q*4+4=(q+1)*4 by omega]
  rfl
 have hk0:aB P wr wr:=fun _ _ _=>rfl
 have hkp:=(((hk0.set (p:=⟨gK,q*4,none⟩) (↑v.kind) hP).set (p:=⟨gK,q*4+1,none⟩) (↑v.n) hP).set (p:=⟨gK,q*4+2,none⟩) (.string v.s) hP).set (p:=⟨gK,q*4+3,none⟩) (.slice A4 v.kids.length d4) hP
 have hlen4:(cs.take (q*4) ++ [Value.int .i64 v.kind,Value.int .i64 v.n,Value.string v.s,Value.slice A4 v.kids.length d4] ++ cs.drop (q*4+4)).length=n*4:=by
  rw [List.length_append,List.length_append,hl4,List.length_drop];simp only [List.length_cons,List.length_nil];omega
 refine ⟨q,k',(q:Int) - 1,v :: tail,_,D,rfl,D,rfl,hb4,hlen4,?_,hrow,⟨hk2,hk3⟩,aa,((((hfr.setCell (p:=⟨gK,q*4,none⟩) (.inl rfl) (↑v.kind)).setCell (p:=⟨gK,q*4+1,none⟩) (.inl rfl) (↑v.n)).setCell (p:=⟨gK,q*4+2,none⟩) (.inl rfl) (.string v.s)).setCell (p:=⟨gK,q*4+3,none⟩) (.inl rfl) (.slice A4 v.kids.length d4)).drew⟩;rw [hdr]
 show RVs _ _ ([v] ++ tail) _
 exact RVs.append (RVs.one ((hv.carry hkp (fun _ _ h=>h)).ext (Ext.refl _).drew').rv) (RVs.keep (aB.of_ext (Ext.refl _).drew') (fun _ h=>h) (RVs.carry hkp (fun _ _ h=>h) htl))
theorem oE {w:World}{P Q:Nat->Prop}{g n:Nat}{cs:List Value}{row:List GV}(hB:Blk w g 85 cs.toArray)(hr:RVs w P row cs)(hl:row.length=n)(hn:n<=17592186044416)(hg:Q g)(hPQ:∀ b,P b->Q b):bW w Q (.slice (some ⟨g,0,none⟩) row.length n) row :=
 ⟨some ⟨g,0,none⟩,n,cs,rfl,D,D,⟨hr.len,fun _=>⟨g,0,rfl,hg,fun j u hu=>by rw [Nat.zero_add,hB.cell];simpa using hu⟩⟩,RVs.keep (fun _ _ _=>rfl) hPQ hr⟩
theorem vS {P:Nat->Prop}{B:Nat}{wq w5 w6:World}{v v':Value}{done:List GV}{mv:GV}{xs:List Value}{A:Option Addr}{c k:Nat}(ho:wq.ownsRow B 85 4 v k xs)(hr:RVs wq (Off P B wq v) done xs)(h5:Ext wq w5)
  (hv:VAt w5 (fun b=>(P b∨B<=b)∧some b ≠ v.ownBlock) mv A c)(hf:Fr (fun k=>some k=v.ownBlock) (w5.alloc (.cells #[↑mv.kind,↑mv.n,.string mv.s,.slice A mv.kids.length c] 85)) w6)
  (hb:v'.ownBlock=v.ownBlock∨v'.ownBlock=some (w5.alloc (.cells #[↑mv.kind,↑mv.n,.string mv.s,.slice A mv.kids.length c] 85)).heap.size):RVs w6 (Off P B w6 v') (done ++ [mv]) (xs ++ cellsOf mv A c):=by
 have hs5:=h5.size;have hs6:=hf.size;simp at hs6;have h56:Fr (fun k=>some k=v.ownBlock) w5 w6:=(Fr.of_ext ((Ext.refl w5).alloc' _)).trans hf;have hq6:Fr (fun k=>some k=v.ownBlock) wq w6:=(Fr.of_ext h5).trans h56
 have hne:∀ b,b<w5.heap.size->some b ≠ v.ownBlock->some b ≠ v'.ownBlock:=by
  intro b hb' h;rcases hb with e | e
  ·rw [e];exact h
  ·rw [e];intro e';injection e' with e';simp at e';omega
 refine RVs.append (RVs.carry (aB.off hq6) (fun b hb' h=>⟨h.1,D,hne b D h.2.2⟩) hr) (RVs.one (hv.carry (fun b hb' h=>h56.block b hb' (fun e=>h.2 e)) (fun b hb' h=>⟨h.1,D,hne b hb' h.2⟩)).rv)
theorem xZ (t:List GN)(vn:Value)(g:SA)(f n:Nat)(hO:aAz t vn f)(x:GN)(a:NA)(b o:Nat)(w:World)(hx:NAt w g.Q x a)(hnc:bX w b o x a)(hbQ:g.Q b)(hks:∀ z ∈ x.kids,0<=z∧z<(n:Int))(hnf:n<=f)(hkl:x.kids.length<=2000)(hg:bD t n)(hs:bS t vn g w) :
  Calls Tryz.prog 203 #[.pointer (some ⟨g.s,0,none⟩),.pointer (some ⟨b,o,none⟩)] w (iL t vn g (qM (aG t) x) w):=by
 have HX:=aZv hx;have HKS:=aZv hks;have HG:=aZv hg;have HS:=aZv hs;have HNC:=aZv hnc;have HBQ:=aZv hbQ;have c7:=hnc.c7;have hki:=hx.kids;have lb:=hnc.lt;obtain ⟨hk1,hk2⟩:=hx.kids.le;obtain ⟨i0,hi,hz0,hz1,hz2⟩:=info_parts Tryz.info85;have HI:=aZv hi;obtain ⟨i1,hi',hz0',hz1',hz2'⟩:=info_parts Tryz.info83;have HI':=aZv hi'
 have hmk:∀ W:World,(Instr.makeSlice 196 (.int .i64 (x.kids.length:Int)) (.int .i64 (x.kids.length:Int))).run Tryz.prog W=.ok (.slice (some ⟨W.heap.size,0,none⟩) x.kids.length x.kids.length) (W.alloc (.cells (madeCells (Value.slice none 0 0).cells (x.kids.length*1)) 83)):=by
  intro W;have h:=run_make (P:=Tryz.prog) W 196 83 i1 _ Tryz.underlying196 hi' hz0' .i64 .i64 (x.kids.length:Int) (x.kids.length:Int) D (Int.le_refl _) (by rw [hz2'];omega) D;rw [hz1'] at h;rw [h]
  rfl
 clear hx hks hg hs hnc hbQ hi hi';generalize a.kA=Ak at *;generalize a.kc=kc at *;have HKI:=aZv hki;clear hki;go_enter Tryz.func203,Tryz.ntmps203;go_wp2_with fail;have HE:=aZv (show Ext w (w.alloc (.cells (madeCells #[.slice none 0 0] x.kids.length) 83)) from (Ext.refl w).alloc' _);have HBL:=aZv (Blk.new w 83 (madeCells #[.slice none 0 0] x.kids.length));have HS':=aZv (HS.out.more (Nat.le_refl _) HE.out U);generalize hW:w.alloc (.cells (madeCells #[.slice none 0 0] x.kids.length) 83)=W at *;clear hW hmk;obtain ⟨g',hg'⟩:∃ g',g'=SA.mk g.s g.k g.l g.m (fun b=>g.X b∨b=w.heap.size):=⟨_,rfl⟩;rw [<- hg'] at HS';have HGM:=aZv (show g'.M=g.M by rw [hg'];rfl);have HGS:=aZv (show g'.s=g.s by rw [hg']);have HGQ:=aZv (show ∀ b,g'.Q b->g.Q b∧b ≠ w.heap.size from fun b h=>by subst hg';exact ⟨⟨h.1,fun hx=>h.2 (.inl hx)⟩,fun e=>h.2 (.inr e)⟩);have HGX:=aZv (show g'.X w.heap.size by subst hg';exact .inr rfl);have HLESS:=aZv (show ∀ W',bS t vn g' W'->bS t vn g W' from fun W' h=>by subst hg';exact h.less (fun b hb=>.inl hb));have HML:=aZv (show ∀ b,g.M b->b<w.heap.size from fun b hb=>HS.out.lt hb);have HGL:=aZv (show ¬ g.M w.heap.size from fun h=>by have:=HS.out.lt h;omega);have HNS:=aZv (show w.heap.size ≠ g.s from fun e=>by obtain ⟨_,_,_,h⟩:=HS.out;have:=h.box.lt;omega)
 clear hg';go_loopw [7,27] (fun tot i wr=>aXj t vn g g' x w.heap.size w tot i wr) (fun _ i _=>x.kids.length - (intOf i).toNat)
 case atStart =>
  refine ⟨0,[],List.replicate x.kids.length (.slice none 0 0),Nat.zero_le _,rfl,rfl,rfl,by simp [bC],U,by rw [<- gA];exact HBL.out,⟨fun j hj=>by omega⟩,U,Fr.of_ext HE.out,HS'.out,?_,rfl⟩;intro v hv;rw [List.eq_of_mem_replicate hv];exact ⟨_,_,_,rfl⟩
 case round =>
  obtain ⟨k,lss,cells,hk,rfl,rfl,hlk,hrl,hcl,hB,hat,hls,hfr,hs,hsl,hsq⟩:=hrel;have HLK:=aZv hlk;have HCL:=aZv hcl;have HB:=aZv hB;have HAT:=aZv hat;have HLS:=aZv hls;have HFR:=aZv hfr;have HSR:=aZv hs;have HSL:=aZv hsl;have HSQ:=aZv hsq;have HKR:=aZv (HKI.out.keep (Q:=g.Q) (aB.of_fr hfr (fun b h=>h.1)) (fun _ h=>h));have hszr:=hfr.size;clear hlk hcl hB hat hls hfr hs hsl hsq
  by_cases hlt:k<x.kids.length
  ·obtain ⟨b1,o1,rfl,-,-,g1⟩:=HKR.out.get hlt
   have hz:=HKS.out _ (aD (d:=0) hlt);have HD:=aZv (HSQ.out.trans (by rw [aF 0 hlt,bQ]));generalize x.kids.getD k 0=z at *;obtain ⟨zn,rfl⟩:∃ zn:Nat,z=zn:=⟨z.toNat,D⟩;have HLOK:=aZv (lM HG.out zn D);have hgz:=HG.out.mono (j:=zn+1) D;have HOZ:=aZv (hO g' zn wr D hgz HSR.out);rw [HGS.out] at HOZ;simp only [Int.toNat_natCast] at HD;clear hgz;generalize (aG t).getD zn default=r at *;obtain ⟨vals,many⟩:=r;go_wp2_with fail;refine HOZ.out.mono ?_;rintro e w1 ⟨A2,d2,rfl,hv2,hf2,hs2⟩;rw [HGM.out] at hf2;have HV2:=aZv hv2;have HF2:=aZv (HFR.out.trans hf2);have HS2:=aZv hs2;have HB2:=aZv (HB.out.fr hf2 HGL.out);have HAT2:=aZv (HAT.out.keep (aB.of_fr hf2 (fun b h=>(HGQ.out b h).1.1)));clear hv2 hf2 hs2 g1;have hfew:=HLOK.out.few;simp only at hfew
   cases many
   ·have hnn:=HLOK.out.some_ rfl
    have hpos:1<=vals.length:=List.length_pos_iff.2 hnn;clear hnn
    by_cases hp:1024<(bC lss).length*vals.length
    ·have tp:decide (1024<wrap64 (((bC lss).length:Int)*(vals.length:Int)))=true:=by rw [lK hrl hfew];exact aZy D
     have HE2:=aZv (show qM (aG t) x=⟨[],true⟩ by unfold qM;rw [HD.out,if_pos (.inr hp)]);clear hp;go_wp2_with fail;go_ret2;rw [HE2.out];exact iL.none_ HF2.out (HLESS.out _ HS2.out)
    ·have tp:decide (1024<wrap64 (((bC lss).length:Int)*(vals.length:Int)))=false:=by rw [lK hrl hfew];exact aZz D
     have HE2:=aZv (show bQ (aG t) [[]] x.kids=bQ (aG t) (bC (lss ++ [vals])) (x.kids.drop (k+1)) by rw [HD.out,if_neg aa,iP]);have HMW:=aZv (show wrap64 (((bC lss).length:Int)*(vals.length:Int))=((bC (lss ++ [vals])).length:Int) by rw [lK hrl hfew,iP,gH]);have hr2:(bC (lss ++ [vals])).length<=1024:=by rw [iP,gH];omega
     clear hp;obtain ⟨An,nn,cn,en⟩:∃ A n c,cells.getD k default=Value.slice A n c:=HSL.out _ (aD (by rw [HCL.out];exact hlt));have l0:=HB2.out.cell' (u:=cells.getD k default) k (by have:=HCL.out;simp [this,hlt]);rw [en] at l0;have fl:=HB2.out.frozen k;have hk0:(0:Int)<=(k:Int):=by omega
     go_wp2_with fail;go_roundw
     case rel =>
      have hkl2:lss.length<cells.length:=by rw [HLK.out,HCL.out];exact hlt
      have hQL:¬ g'.Q w.heap.size:=fun h=>(HGQ.out _ h).2 rfl
      have hkp:aB g'.Q w1 (w1.setCell ⟨w.heap.size,k,none⟩ (.slice A2 vals.length d2)):=aB.set (fun _ _ _=>rfl) (p:=⟨w.heap.size,k,none⟩) _ hQL;have hB3:=HB2.out.set_ k (.slice A2 vals.length d2);simp only [List.setIfInBounds_toArray] at hB3;have hat2:=HAT2.out;rw [<- HLK.out] at hat2 hkp hB3;have hput:=(hat2.put HV2.out hkl2).keep hkp;rw [HLK.out] at hput hB3;refine ⟨k+1,lss ++ [vals],cells.set k (.slice A2 vals.length d2),D,by go_num,by rw [HMW.out],by simp [HLK.out],hr2,by simp [HCL.out],hB3,hput,?_,HF2.out.trans_new (Fr.setCell (Fr.refl _ _) (p:=⟨w.heap.size,k,none⟩) (.inl (.inr (Nat.le_refl _))) _),?_,?_,HE2.out⟩
      ·intro l hl
       rcases List.mem_append.1 hl with hl | hl
       ·exact HLS.out l hl
       ·rw [List.mem_singleton.1 hl];exact ⟨hfew,hpos⟩
      ·exact HS2.out.setX (p:=⟨w.heap.size,k,none⟩) HGX.out (by rw [HGS.out];exact HNS.out) (by rw [HGM.out];exact HGL.out) _
      ·intro v hv
       rcases List.mem_or_eq_of_mem_set hv with hv | rfl
       ·exact HSL.out v hv
       ·exact ⟨_,_,_,rfl⟩
     case measure=>simp [intOf];omega
   ·have HE2:=aZv (show qM (aG t) x=⟨[],true⟩ by unfold qM;rw [HD.out,if_pos (.inl rfl)])
    go_wp2_with fail;go_ret2;rw [HE2.out];exact iL.none_ HF2.out (HLESS.out _ HS2.out)
  ·have hkn:k=x.kids.length:=by omega
   have HLN:=aZv (show lss.length=x.kids.length by rw [HLK.out,hkn]);have HRES:=aZv (show qM (aG t) x=⟨(bC lss).map (bZ x.name),false⟩ by unfold qM;rw [HSQ.out,drop_nil D,bQ]);have hrp:1<=(bC lss).length:=qJ [[]] U (fun l hl=>(HLS.out l hl).2)
   have HATN:=aZv (show wZ wr (fun b=>g'.Q b∧b<wr.heap.size) cells lss x.kids.length from ⟨fun j hj=>by
    obtain ⟨A,c,h1,h2⟩:=HAT.out.at_ j D;exact ⟨A,c,h1,h2.imp (fun b hb h=>⟨h,hb⟩)⟩⟩)
   have HMEM:=aZv (show ∀ r ∈ bC lss,r.length=x.kids.length from fun r hr=>by have:=qI [[]] 0 U r hr;have:=HLN.out;omega);have HNC2:=aZv (HNC.out.keep (P:=g.Q) HBQ.out (aB.of_fr HFR.out (fun b h=>h.1)));have HNM:=aZv HX.out.name
   have hmk2:∀ W:World,(Instr.makeSlice 83 (.int .i64 0) (.int .i64 ((bC lss).length:Int))).run Tryz.prog W=.ok (.slice (some ⟨W.heap.size,0,none⟩) 0 (bC lss).length) (W.alloc (.cells (madeCells (Value.agg #[.int .i64 0,.int .i64 0,.string ByteArray.empty,.slice none 0 0]).cells ((bC lss).length*4)) 85)):=by
    intro W;have h:=run_make (P:=Tryz.prog) W 83 85 i0 _ Tryz.underlying83 HI.out hz0 .i64 .i64 0 ((bC lss).length:Int) (Int.le_refl _) D du D;rw [hz1] at h;rw [h]
    rfl
   have hmk3:∀ W:World,(Instr.makeSlice 83 (.int .i64 (x.kids.length:Int)) (.int .i64 (x.kids.length:Int))).run Tryz.prog W=.ok (.slice (some ⟨W.heap.size,0,none⟩) x.kids.length x.kids.length) (W.alloc (.cells (madeCells (Value.agg #[.int .i64 0,.int .i64 0,.string ByteArray.empty,.slice none 0 0]).cells (x.kids.length*4)) 85)):=by
    intro W;have h:=run_make (P:=Tryz.prog) W 83 85 i0 _ Tryz.underlying83 HI.out hz0 .i64 .i64 (x.kids.length:Int) (x.kids.length:Int) D (Int.le_refl _) du D;rw [hz1] at h;rw [h]
    rfl
   have HMK3:=aZv hmk3;clear hmk3 hkn;go_wp2_with fail;have HOW:=aZv (World.ownsRow_made (base:=wr.heap.size) (e:=85) (size:=4) wr (madeCells #[.int .i64 0,.int .i64 0,.string ByteArray.empty,.slice none 0 0] ((bC lss).length*4)) (bC lss).length (Nat.le_refl _) aq (size_madeCells _ _));have HE2:=aZv (show Ext wr (wr.alloc (.cells (madeCells #[.int .i64 0,.int .i64 0,.string ByteArray.empty,.slice none 0 0] ((bC lss).length*4)) 85)) from (Ext.refl wr).alloc' _);generalize hW2:wr.alloc (.cells (madeCells #[.int .i64 0,.int .i64 0,.string ByteArray.empty,.slice none 0 0] ((bC lss).length*4)) 85)=W2 at *;clear hW2 hmk2;obtain ⟨wo,rfl⟩:∃ wo:World,wo=wr:=⟨_,rfl⟩;have hgl0:=HB.out.lt;go_loopw [12,54] (fun v i wz=>aXi (fun b=>g'.Q b∧b<wo.heap.size) x.name (bC lss) wo v i wz) (fun _ i _=>(bC lss).length - (intOf i).toNat)
   case atStart=>exact ⟨0,[],Nat.zero_le _,rfl,HOW.out,rfl,HE2.out⟩
   case round =>
    obtain ⟨k2,xs,hk2',rfl,hown,hrv,hx2⟩:=hrel;have HOWN:=aZv hown;have HRV:=aZv hrv;have HX2:=aZv hx2;obtain ⟨A12,c12,e12,-,-,-⟩:=Sl.of_own hown;subst e12;have hszz:=hx2.size;clear hown hrv hx2
    by_cases hlt2:k2<(bC lss).length
    ·have hmk3:=HMK3.out
     go_wp2_with fail;clear hmk3;obtain ⟨wq,rfl⟩:∃ wq:World,wq=wr:=⟨_,rfl⟩;have HEK:=aZv (show Ext wq (wq.alloc (.cells (madeCells #[.int .i64 0,.int .i64 0,.string ByteArray.empty,.slice none 0 0] (x.kids.length*4)) 85)) from (Ext.refl wq).alloc' _);have HBK:=aZv (Blk.new wq 85 (madeCells #[.int .i64 0,.int .i64 0,.string ByteArray.empty,.slice none 0 0] (x.kids.length*4)));have hszk:wq.heap.size<(wq.alloc (.cells (madeCells #[.int .i64 0,.int .i64 0,.string ByteArray.empty,.slice none 0 0] (x.kids.length*4)) 85)).heap.size:=by simp
     generalize hWk:wq.alloc (.cells (madeCells #[.int .i64 0,.int .i64 0,.string ByteArray.empty,.slice none 0 0] (x.kids.length*4)) 85)=Wk at *;clear hWk;have HROW:=aZv (HMEM.out _ (aD (d:=[]) hlt2));have HTK:=aZv (show ((bC lss).take (k2+1)).map (bZ x.name)=((bC lss).take k2).map (bZ x.name) ++ [bZ x.name ((bC lss).getD k2 [])] by rw [aV [] hlt2,List.map_append];rfl);have HR0:=aZv (show (bC lss).getD k2 []=(bC (lss.take x.kids.length)).getD k2 [] ++ [] by rw [List.append_nil,List.take_of_length_le (by have:=HLN.out;omega)]);have HR1:=aZv (show k2<(bC (lss.take x.kids.length)).length by rw [List.take_of_length_le (by have:=HLN.out;omega)];exact hlt2);generalize (bC lss).getD k2 []=row at *;go_loopw [13,15] (fun kk i wy=>aUi (fun b=>g'.Q b∧b<wo.heap.size) lss row wq.heap.size x.kids.length Wk kk i wy) (fun _ i _=>(intOf i+1).toNat)
     case atStart =>
      refine ⟨x.kids.length,k2,(x.kids.length:Int) - 1,[],(madeCells #[.int .i64 0,.int .i64 0,.string ByteArray.empty,.slice none 0 0] (x.kids.length*4)).toList,Nat.le_refl _,rfl,D,rfl,HBK.out,by simp [size_madeCells],?_,HR0.out,⟨HR1.out,D⟩,U,Fr.refl _ _⟩;rw [List.drop_eq_nil_of_le (by simp [size_madeCells])]
      rfl
     case round =>
      obtain ⟨r,kk,ii,tail,cs,hr,rfl,hii,rfl,hBK,hcs,htl,hrow,⟨hkk,hkb⟩,htr,hfr3⟩:=hrel;have HBK3:=aZv hBK;have HCS:=aZv hcs;have HTL:=aZv htl;have HROW3:=aZv hrow;have HFR3:=aZv hfr3;have HTR:=aZv htr;have hsz3:=hfr3.size;have HEW:=aZv (show Ext wo wr from Fr.new_ext ((Fr.of_ext (HX2.out.trans' HEK.out)).trans hfr3) (fun b hb=>by omega));clear hBK hcs htl hrow hfr3 htr;rcases r with _ | q
      ·obtain rfl:ii=-1:=by omega
       clear hii;have hk1:kk=0:=by simp [bC] at hkk;omega
       have HRT:=aZv (show row=tail by rw [HROW3.out,hk1];simp [bC]);have htl:=HTL.out;rw [<- HRT.out,Nat.zero_mul,List.drop_zero] at htl;have hown_lt:∀ b,(Value.slice A12 k2 c12).ownBlock=some b->wo.heap.size<=b∧b<wq.heap.size:=fun b hb=>⟨HOWN.out.block_ge hb,HOWN.out.block_lt hb⟩
       have HOL:=aZv hown_lt;have HEQ:=aZv (show Ext wq wr from Fr.new_ext ((Fr.of_ext HEK.out).trans HFR3.out) (fun b hb=>by omega));have HVR:=aZv (oE (Q:=fun b=>((g'.Q b∧b<wo.heap.size)∨wo.heap.size<=b)∧some b ≠ (Value.slice A12 k2 c12).ownBlock) HBK3.out htl HROW.out D ⟨.inr D,fun e=>by have:=hown_lt _ e.symm;omega⟩ (fun b h=>⟨.inl h,fun e=>by have h3:=hown_lt _ e.symm;have:=h.2;omega⟩));have HVM:=aZv (VAt.made HNM.out HVR.out);have HMC:=aZv (jL x a b o row (some ⟨wq.heap.size,0,none⟩) x.kids.length wr (HNC2.out.ext HEW.out));rw [HROW.out] at HMC;clear hkk hk1 htl hown_lt;go_wp2_with fail;refine HMC.out.mono ?_;rintro e w5 ⟨rfl,hx5⟩;have HX5:=aZv (HEQ.out.trans' hx5);have HVM5:=aZv (HVM.out.ext hx5);have hs5:=hx5.size;clear hx5;generalize bZ x.name row=mv at *;go_wp2_with (at_builtin;go_must (refine aI _ rfl (.tmp 90) (.tmp 94) 83 ac wo.heap.size 85 i0 _ 4 56 Tryz.underlying83 HI.out hz0 hz1 hz2 rfl D (.slice A12 k2 c12) _ _ rfl ((HOWN.out.ext_ HX5.out).alloc _) (fun _=>True) (some ⟨w5.heap.size,0,none⟩) 1 1 [.int .i64 mv.kind,.int .i64 mv.n,.string mv.s,.slice (some ⟨wq.heap.size,0,none⟩) mv.kids.length x.kids.length] rfl (Sl.new w5 _ _ _ _ rfl) af D D aa ?_);intro v6 w6 ho6 hf6 hb6)
       go_roundw
       case rel =>
        refine ⟨k2+1,_,D,by go_num,ho6,?_,?_⟩
        ·rw [HTK.out]
         exact vS HOWN.out HRV.out HX5.out HVM5.out hf6 hb6
        ·exact Fr.new_ext (((Fr.of_ext (HX2.out.trans' HX5.out)).alloc _).trans hf6) (fun b hb=>(HOL.out b hb.symm).1)
       case measure=>simp [intOf];omega
      ·obtain rfl:ii=(q:Int):=by omega
       clear hii;have hql:q<lss.length:=by have:=HLN.out;omega
       have HSUC:=aZv (nB hql);have hll:=HLS.out _ (aD (d:=[]) hql);obtain ⟨Al,cl',hce,hvl⟩:=HATN.out.at_ q D;have HVL:=aZv (hvl.ext HEW.out);have gl0:=(HB.out.ext HEW.out).cell' (u:=.slice Al (lss.getD q []).length cl') q (by simpa using hce);have HKK:=aZv (show kk<(bC (lss.take q)).length*(lss.getD q []).length by rw [<- gH,<- HSUC.out];exact hkk);have hvle:=hvl.le;clear hce hvl hkk;generalize lss.getD q []=l at *;have hmod:kk % l.length<l.length:=Nat.mod_lt _ D;obtain ⟨bl,ol,A4,d4,rfl,-,hvv,g0,g1,g2,g3⟩:=HVL.out.get hmod;have HVV:=aZv hvv;have HGD:=aZv (show row=(bC (lss.take q)).getD (kk / l.length) [] ++ (l.getD (kk % l.length) default :: tail) by rw [HROW3.out,HSUC.out,aBl _ _ _ HKK.out];simp);have HKD:=aZv (show kk / l.length<(bC (lss.take q)).length from Nat.div_lt_of_lt_mul (by rw [Nat.mul_comm];exact HKK.out));clear hvv;generalize l.getD (kk % l.length) default=v at *;have hcl:=HCS.out;have z0:=HBK3.out.cell' (u:=cs.getD (q*4) default) (q*4) (by simp [show q*4<cs.length by omega]);have z1:=HBK3.out.cell' (u:=cs.getD (q*4+1) default) (q*4+1) (by simp [show q*4+1<cs.length by omega]);have z2:=HBK3.out.cell' (u:=cs.getD (q*4+2) default) (q*4+2) (by simp [show q*4+2<cs.length by omega])
       have z3:=HBK3.out.cell' (u:=cs.getD (q*4+3) default) (q*4+3) (by simp [show q*4+3<cs.length by omega]);have y0:=HBK3.out.frozen (q*4);have y1:=HBK3.out.frozen (q*4+1);have y2:=HBK3.out.frozen (q*4+2);have y3:=HBK3.out.frozen (q*4+3);clear hcl;have hq0:(0:Int)<=(q:Int):=by omega
       have hq1:(q:Int)<(x.kids.length:Int):=D
       have hle:¬ l=[]:=fun e=>by rw [e] at hll;simp at hll
       have hm0:(0:Int)<=Int.tmod (kk:Int) (l.length:Int):=by rw [<- Int.ofNat_tmod];omega
       have hm1:Int.tmod (kk:Int) (l.length:Int)<(l.length:Int):=by rw [<- Int.ofNat_tmod];omega
       have hmt:(Int.tmod (kk:Int) (l.length:Int)).toNat=kk % l.length:=by rw [<- Int.ofNat_tmod];rfl
       go_upto_region 22 with fail;go_still_tail 16,Y;clear hmt;go_wp2_with fail;go_roundw
       case rel =>
        rw [aI1 hkb];exact aBr HBK3.out HCS.out HTL.out HGD.out HKD.out (Nat.le_trans (Nat.div_le_self _ _) hkb) HTR.out HFR3.out HVV.out (fun h=>by have:=h.2;omega)
       case measure=>simp [intOf];try omega
    ·have HTR:=aZv (show (bC lss).take k2=bC lss from List.take_of_length_le D)
     have hkr:k2=(bC lss).length:=D
     have HKR2:=aZv hkr;clear hkr;go_wp2_with fail;go_ret2;rw [HRES.out];have ho:=HOWN.out;have hr:=HRV.out;rw [HTR.out] at hr;have hmk:((bC lss).map (bZ x.name)).length=k2:=by rw [List.length_map,HKR2.out]
     refine ⟨A12,c12,by rw [hmk];rfl,?_,?_,?_⟩
     ·rw [hmk]
      refine bW.of_own (ho.len_cast hmk.symm rfl) (RVs.carry (fun _ _ _=>rfl) (fun b hb h=>?_) hr) (by rw [hmk];omega) (fun b hb=>HS.out.newQ (by have:=ho.block_ge hb;omega));rcases h.1 with h1 | h1
      ·exact (HGQ.out b h1.1).1
      ·exact HS.out.newQ D
     ·exact HFR.out.trans (Fr.of_ext HX2.out)
     ·exact HLESS.out _ (HSR.out.ext HX2.out)
end Go.Proofs.YtkoeecdjijfjnaaGreat
