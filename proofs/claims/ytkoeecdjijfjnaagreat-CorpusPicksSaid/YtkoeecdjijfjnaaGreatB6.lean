/- Contracts of functions. Conditions: none. -/
import Derived.Deep.RegionLaw
import Derived.Deep.DeepCutAuto
import Derived.Deep.RegionHeld3
import Derived.Test.YtkoeecdjijfjnaaGreatB3
set_option maxRecDepth 100000
set_option maxHeartbeats 8000000
namespace Go.Proofs.YtkoeecdjijfjnaaGreat
open Go.RowKit
def cF (v:GV):Nat->List GV->Nat × Bool
 | i,[]=>(i,false)
 | i,x :: xs=>if cH x v<0 then cF v (i+1) xs else (i,decide (cH x v=0))
def cO (l:List GV)(v:GV):Nat × Bool:=cF v 0 l
def aMl (l:List GV)(v:GV)(W:World)(i:Value)(wr:World):Prop:=∃ k:Nat,k<=l.length∧i=↑k∧Ext W wr∧cO l v=cF v k (l.drop k)
def aFr (a b:Value)(w:World)(e:Ending)(w':World):Prop:=e=.returned (.tuple #[a,b])∧Ext w w'
theorem pA (l:List GV)(v:GV)(A:Option Addr)(c:Nat)(P Q:Nat->Prop)(vl:Value)(w:World)(hl:bV w P vl l)(hv:VAt w Q v A c) :
  Calls Tryz.prog 184 #[vl,eF v A c] w (aFr (.int .i64 (cO l v).1) (.bool (cO l v).2) w):=by
 have HL:=aYl hl;have HV:=aYl hv;obtain ⟨B,d,e,h1,h2⟩:=hl.form;subst e;clear hl hv;go_enter Tryz.func184,Tryz.ntmps184;go_wp2_with fail;have HE:=aYl (show Ext w (w.alloc (.cells #[↑v.kind,↑v.n,.string v.s,.slice A v.kids.length c] 85)) from (Ext.refl _).alloc' _);have HBX:=aYl (Blk.new w 85 #[↑v.kind,↑v.n,.string v.s,.slice A v.kids.length c]);generalize w.alloc (.cells #[↑v.kind,↑v.n,.string v.s,.slice A v.kids.length c] 85)=W at *;go_loopw [6] (fun i wr=>aMl l v W i wr) (fun i _=>l.length - (intOf i).toNat)
 case atStart=>exact ⟨0,Nat.zero_le _,rfl,Ext.refl _,rfl⟩
 case round =>
  obtain ⟨k,hk,rfl,hx,ht⟩:=hrel;have HT:=aYl ht;have HX:=aYl hx;clear ht hx
  by_cases hlt:k<l.length
  ·obtain ⟨b1,o1,A1,d1,rfl,-,hv1,g10,g11,g12,g13⟩:=(HL.out.ext (HE.out.trans' HX.out)).get hlt
   have HD:=aYl (show cO l v=if cH (l.getD k default) v<0 then cF v (k+1) (l.drop (k+1)) else (k,decide (cH (l.getD k default) v=0)) by
    rw [HT.out,aG default hlt];rfl)
   have HV1:=aYl hv1;have BX:=aYl (HBX.out.ext HX.out);have x0:=BX.out.cell' (u:=↑v.kind) 0 rfl;have x1:=BX.out.cell' (u:=↑v.n) 1 rfl;have x2:=BX.out.cell' (u:=.string v.s) 2 rfl;have x3:=BX.out.cell' (u:=.slice A v.kids.length c) 3 rfl;clear hv1;generalize l.getD k default=y at *;go_wp2_with fail;go_still_tail 5,aa;go_wp2_with fail;refine (gF y v A1 A d1 c P Q _ (HV1.out.ext (Ext.refl _).drew') (HV.out.ext ((HE.out.trans' HX.out).drew'))).mono ?_;rintro e w1 ⟨rfl,hx1⟩;have HX1:=aYl (HX.out.trans' ((Ext.refl _).drew'.trans' hx1));clear hx1;generalize cH y v=z at *
   by_cases hz:z<0
   ·have tz:decide (0<=z)=false:=aYp U
    go_wp2_with fail;go_roundw
    case rel=>exact ⟨k+1,U,by go_num,HX1.out,by rw [HD.out,if_pos U]⟩
    case measure=>simp [intOf];omega
   ·have tz:decide (0<=z)=true:=aYo U
    have HZ:=aYl (HD.out.trans (if_neg hz));go_wp2_with fail;go_ret2;refine ⟨?_,HE.out.trans' HX1.out⟩;rw [HZ.out]
    congr 4
  ·have HZ:=aYl (show cO l v=(k,false) by rw [HT.out,drop_nil U];rfl)
   have hkl:k=l.length:=U
   go_wp2_with fail;go_ret2;refine ⟨?_,HE.out.trans' HX.out⟩;rw [HZ.out]
   show Ending.returned (.tuple #[.int .i64 (l.length:Int),.bool false])=.returned (.tuple #[↑(k:Int),.bool false])
   rw [hkl]
theorem Tryz.info85:(Tryz.prog.info? 85).map (fun i=>(i.zero,i.size,i.bytes))=some (some (.agg #[.int .i64 0,.int .i64 0,.string ByteArray.empty,.slice none 0 0]),4,56):=aa
theorem aN (w:World)(base:Nat)(e:TypeId)(size:Nat):w.ownsRow base e size (.slice none 0 0) 0 []:=⟨Y,.inl ⟨rfl,rfl⟩⟩
theorem Sl.take {w:World}{P:Nat->Prop}{size:Nat}{A:Option Addr}{n:Nat}{cs:List Value}(h:Sl w P size A n cs){k:Nat}(hk:k<=n):Sl w P size A k (cs.take (k*size)):=by
 refine ⟨by rw [List.length_take,h.1];exact Nat.min_eq_left (Nat.mul_le_mul_right _ hk),fun hk0=>?_⟩;obtain ⟨b,off,e,hb,hc⟩:=h.2 U;refine ⟨b,off,e,hb,fun j u hu=>hc j u ?_⟩;rw [List.getElem?_take] at hu
 split at hu
 ·exact hu
 ·cases hu
theorem Sl.ext {w w':World}{P:Nat->Prop}{size:Nat}{A:Option Addr}{n:Nat}{cs:List Value}(h:Sl w P size A n cs)(hx:Ext w w'):Sl w' P size A n cs:=h.keep (aB.of_ext hx) (fun _ h=>h)
theorem Sl.drop {w:World}{P:Nat->Prop}{size:Nat}{b off:Nat}{n:Nat}{cs:List Value}(h:Sl w P size (some ⟨b,off,none⟩) n cs){k:Nat}(hk:k<=n) :
  Sl w P size (some ⟨b,off+k*size,none⟩) (n - k) (cs.drop (k*size)):=by
 refine ⟨by rw [List.length_drop,h.1,Nat.sub_mul],fun hk0=>?_⟩;obtain ⟨b',off',e,hb,hc⟩:=h.2 U;injection e with e;injection e with e1 e2;subst e1 e2;refine ⟨b,off+k*size,rfl,hb,fun j u hu=>?_⟩;rw [Nat.add_assoc];exact hc _ u (by rw [List.getElem?_drop] at hu;exact hu)
theorem Fr.none_ext {w w':World}(h:Fr (fun k=>some k=(Value.slice none 0 0).ownBlock) w w'):Ext w w':=h.new_ext (fun b hb=>by simp [Value.ownBlock] at hb)
def aF5 (out:List GV)(x:GV):List GV:=if (cO out x).2 then out else out.take (cO out x).1 ++ x :: out.drop (cO out x).1
def eR (out:List GV):List GV->List GV
 | []=>out
 | x :: xs=>eR (aF5 out x) xs
def eN (l:List GV):List GV:=eR [] l
theorem zC (v:GV)(l:List GV)(i:Nat):i<=(cF v i l).1∧(cF v i l).1<=i+l.length:=by
 induction l generalizing i with
 | nil=>simp [cF]
 | cons x xs ih =>
  simp only [cF]
  split
  ·have:=ih (i+1);simp only [List.length_cons];omega
  ·simp
theorem aA0 (l:List GV)(v:GV):(cO l v).1<=l.length:=by have:=zC v l 0;unfold cO;omega
theorem aHa (out:List GV)(x:GV):(aF5 out x).length<=out.length+1:=by
 unfold aF5
 split
 ·omega
 ·have:=aA0 out x;simp;omega
theorem _root_.Go.World.ownsRow.block_ge {w:World}{base:Nat}{e:TypeId}{size:Nat}{v:Value}{n:Nat}{xs:List Value}(h:w.ownsRow base e size v n xs){b:Nat}(hb:v.ownBlock=some b):base<=b:=by
 rcases h.2 with ⟨rfl,_⟩ | ⟨g,cap,cur,rfl,h1,_⟩
 ·simp [Value.ownBlock] at hb
 ·simp [Value.ownBlock] at hb;omega
section
variable {P:Program}
theorem bR (w:World){ops:Array Oper}{o:Oper}{a:Act}{K:Act->World->Prop}{Q:Exit->Act->World->Prop}{E:Prop}(hgd:o.guard=none)(s x:Operand)(t:TypeId)
  (ho:o.op=.call { callee:=.builtin .append,args:=#[s,x],argTypes:=#[t,t] })
  (B:Nat)(e:TypeId)(i:TypeInfo)(z:Value)(size bytes:Nat)(ht:P.underlying t=some (.slice e))(hi:P.info? e=some i)(hz:i.zero=some z)
  (hsize:i.size=size)(hby:i.bytes=bytes)(hzs:z.cells.size=size)(hsz:0<size)
  (v:Value)(n:Nat)(xs:List Value)(hs:a.eval s=v)(hown:w.ownsRow B e size v n xs)
  (S:Nat->Prop)(A:Option Addr)(m c:Nat)(news:List Value)(hx:a.eval x=.slice A m c)(hr:Sl w S size A m news)(h1:∀ u ∈ news,u.oneCell'=true)
  (h63:n+m<=1000000000000)(hbytes:(n+m)*bytes<=140737488355328)(hbase:B<=w.heap.size)
  (h:∀ v' w',w'.ownsRow B e size v' (n+m) (xs ++ news)->Below B w w'->K (a.put o.dst v') w') :
  if Region.wanted o (yielded ops a.tmps)=true then Oper.wp P o a w K Q else E :=
 eG w hgd s x t ho B e i z size bytes ht hi hz hsize hby hzs hsz v n xs hs hown S A m c news hx hr h1 h63 hbytes hbase fun v' w' h2 h3 _ =>
  h v' w' h2 ⟨h3.os,h3.tape,h3.output,h3.size,fun k hk=>h3.block k U (fun e=>by have:=hown.block_ge e.symm;omega)⟩
theorem gC (w:World){ops:Array Oper}{o:Oper}{a:Act}{K:Act->World->Prop}{Q:Exit->Act->World->Prop}{E:Prop}(hgd:o.guard=none)(s x:Operand)(t:TypeId)
  (ho:o.op=.call { callee:=.builtin .append,args:=#[s,x],argTypes:=#[t,t] })
  (B:Nat)(e:TypeId)(i:TypeInfo)(z:Value)(size bytes:Nat)(ht:P.underlying t=some (.slice e))(hi:P.info? e=some i)(hz:i.zero=some z)
  (hsize:i.size=size)(hby:i.bytes=bytes)(hzs:z.cells.size=size)(hsz:0<size)
  (hs:a.eval s=.slice none 0 0)
  (S:Nat->Prop)(A:Option Addr)(m c:Nat)(news:List Value)(hx:a.eval x=.slice A m c)(hr:Sl w S size A m news)(h1:∀ u ∈ news,u.oneCell'=true)
  (h63:m<=1000000000000)(hbytes:m*bytes<=140737488355328)(hbase:B<=w.heap.size)
  (h:∀ v' w',w'.ownsRow B e size v' m news->Ext w w'->Below B w w'->K (a.put o.dst v') w') :
  if Region.wanted o (yielded ops a.tmps)=true then Oper.wp P o a w K Q else E :=
 eG w hgd s x t ho B e i z size bytes ht hi hz hsize hby hzs hsz (.slice none 0 0) 0 [] hs (aN _ _ _ _) S A m c news hx hr h1 U (by rw [Nat.zero_add];exact hbytes) hbase fun v' w' h2 h3 _ =>
  h v' w' fz h3.none_ext (h3.none_ext.mono hbase)
end
theorem _root_.Go.World.ownsRow.base_le {w:World}{base base':Nat}{e:TypeId}{size:Nat}{v:Value}{n:Nat}{xs:List Value}(h:w.ownsRow base e size v n xs)(hb:base'<=base):w.ownsRow base' e size v n xs:=by
 refine ⟨h.1,?_⟩;rcases h.2 with h | ⟨g,cap,cur,h1,h2,h3⟩
 ·exact .inl h
 ·exact .inr ⟨g,cap,cur,h1,U,h3⟩
theorem RVs.cast {w:World}{P:Nat->Prop}{l l':List GV}{cs:List Value}(h:RVs w P l cs)(e:l=l'):RVs w P l' cs:=e ▸ h
theorem RV.oneCell {w:World}{P:Nat->Prop}{x:GV}{cs:List Value}(h:RV w P x cs):∀ u ∈ cs,u.oneCell'=true:=by
 obtain ⟨A,c,rfl,_⟩:=h.at_;intro u hu;simp only [cellsOf,List.mem_cons,List.not_mem_nil,or_false] at hu;rcases hu with rfl | rfl | rfl | rfl <;> rfl
theorem RVs.oneCell {w:World}{P:Nat->Prop}{l:List GV}{cs:List Value}(h:RVs w P l cs):∀ u ∈ cs,u.oneCell'=true:=by
 induction l generalizing cs with
 | nil=>simp only [RVs] at h;subst h;simp
 | cons x xs ih =>
  simp only [RVs] at h;obtain ⟨c1,c2,rfl,h1,h2⟩:=h;intro u hu;rcases List.mem_append.1 hu with hu | hu
  ·exact h1.oneCell u hu
  ·exact ih h2 u hu
def aL2 (l:List GV)(P:Nat->Prop)(w:World)(v i:Value)(wr:World):Prop :=
 ∃ (k:Nat) (out:List GV) (xs:List Value),k<=l.length∧i=↑k∧wr.ownsRow w.heap.size 85 4 v out.length xs∧RVs wr P out xs∧Ext w wr∧out.length<=k∧eN l=eR out (l.drop k)
def aJa (P:Nat->Prop)(l:List GV)(w:World)(e:Ending)(w':World):Prop :=
 ∃ v xs,e=.returned v∧w'.ownsRow w.heap.size 85 4 v l.length xs∧RVs w' P l xs∧Ext w w'
def rB (w:World)(S P:Nat->Prop)(v:Value)(l:List GV):Prop :=
 ∃ A c css,v=.slice A l.length c∧l.length<=c∧(l.length<=17592186044416∧c<=9223372036854775807)∧Sl w S 4 A l.length css∧RVs w P l css
theorem bV.two {w:World}{P:Nat->Prop}{v:Value}{l:List GV}(h:bV w P v l):rB w P P v l:=h
theorem rB.form {w:World}{S P:Nat->Prop}{v:Value}{l:List GV}(h:rB w S P v l):∃ A c,v=.slice A l.length c∧l.length<=c∧(l.length<=17592186044416∧c<=9223372036854775807):=by
 obtain ⟨A,c,_,h1,h2,h3,_⟩:=h;exact ⟨A,c,h1,h2,h3⟩
theorem rB.ext {w w':World}{S P:Nat->Prop}{v:Value}{l:List GV}(h:rB w S P v l)(hx:Ext w w'):rB w' S P v l:=by
 obtain ⟨A,c,css,h1,h2,h3,h4,h5⟩:=h;exact ⟨A,c,css,h1,h2,h3,h4.ext hx,RVs.keep (aB.of_ext hx) (fun _ h=>h) h5⟩
theorem rB.get {w:World}{S P:Nat->Prop}{A:Option Addr}{n c:Nat}{l:List GV}(h:rB w S P (.slice A n c) l){i:Nat}(hi:i<l.length) :
  ∃ b off A' d,A=some ⟨b,off,none⟩∧S b∧VAt w P (l.getD i default) A' d ∧
   w.cell? ⟨b,off+i*4,none⟩=some (.int .i64 (l.getD i default).kind)∧w.cell? ⟨b,off+i*4+1,none⟩=some (.int .i64 (l.getD i default).n) ∧
   w.cell? ⟨b,off+i*4+2,none⟩=some (.string (l.getD i default).s)∧w.cell? ⟨b,off+i*4+3,none⟩=some (.slice A' (l.getD i default).kids.length d):=by
 obtain ⟨A1,c1,css,e,h2,h3,h4,h5⟩:=h;injection e with e _ _;subst e;obtain ⟨b,off,rfl,hb,hc⟩:=h4.2 U;obtain ⟨A',d,e,hu⟩:=(h5.get hi).at_
 have hx:∀ j,j<4->css[i*4+j]?=((css.drop (i*4)).take 4)[j]?:=by
  intro j hj;rw [List.getElem?_take,if_pos hj,List.getElem?_drop]
 unfold cellsOf at e;refine ⟨b,off,A',d,rfl,hb,hu,?_,?_,?_,?_⟩
 ·apply hc;have:=hx 0 U;rw [e] at this;simpa using this
 ·rw [Nat.add_assoc];apply hc;have:=hx 1 U;rw [e] at this;simpa using this
 ·rw [Nat.add_assoc];apply hc;have:=hx 2 U;rw [e] at this;simpa using this
 ·rw [Nat.add_assoc];apply hc;have:=hx 3 U;rw [e] at this;simpa using this
theorem nK (l:List GV)(S P:Nat->Prop)(vl:Value)(w:World)(hl:rB w S P vl l)(hlen:l.length<=10000000) :
  Calls Tryz.prog 198 #[vl] w (aJa P (eN l) w):=by
 have HL:=aYl hl;obtain ⟨B,d,e,h1,h2⟩:=hl.form;subst e;clear hl;obtain ⟨i0,hi,hz0,hz1,hz2⟩:=info_parts Tryz.info85;have HI:=aYl hi;clear hi;go_enter Tryz.func198,Tryz.ntmps198;go_wp2_with fail;go_loopw [3,4] (fun v i wr=>aL2 l P w v i wr) (fun _ i _=>l.length - (intOf i).toNat)
 case atStart=>exact ⟨0,[],[],Nat.zero_le _,rfl,aN _ _ _ _,rfl,Ext.refl _,Nat.zero_le _,rfl⟩
 case round =>
  rename_i vo io
  obtain ⟨k,out,xs,hk,rfl,hown,hrv,hx,hok,ht⟩:=hrel;have HT:=aYl ht;have HX:=aYl hx;have HOWN:=aYl hown;have HRV:=aYl hrv;obtain ⟨A,c,hvo,hnc,hcm,hsl⟩:=Sl.of_own hown;unfold maxLen at hcm;have HSL:=aYl hsl;subst hvo;clear ht hx hown hrv hsl
  by_cases hlt:k<l.length
  ·obtain ⟨b1,o1,A1,d1,rfl,-,hv1,g10,g11,g12,g13⟩:=(HL.out.ext HX.out).get hlt
   have HD:=aYl (show eN l=eR (aF5 out (l.getD k default)) (l.drop (k+1)) by rw [HT.out,aG default hlt];rfl);have HV1:=aYl hv1;clear hv1;generalize l.getD k default=y at *;have HRW:=aYl (HRV.out)
   have HVO:=aYl (show bV wr (fun b=>P b∨w.heap.size<=b) (.slice A out.length c) out from
    ⟨A,c,xs,rfl,hnc,⟨U,hcm⟩,HSL.out _ (fun b hb=>.inr (HOWN.out.block_ge hb)),RVs.keep (fun _ _ _=>rfl) (fun _ h=>.inl h) HRV.out⟩)
   go_wp2_with fail;refine (pA out y A1 d1 _ P _ _ HVO.out HV1.out).mono ?_;rintro e w1 ⟨rfl,hx1⟩;have HX1:=aYl hx1;have hkl:=aA0 out y;have HINS:=aYl (show aF5 out y=if (cO out y).2 then out else out.take (cO out y).1 ++ y :: out.drop (cO out y).1 from rfl);have HXW:=aYl (HX.out.trans' hx1);have g20:=aA hx1 g10;have g21:=aA hx1 g11;have g22:=aA hx1 g12;have g23:=aA hx1 g13;have lb1:=aQ g20;have HOWN1:=aYl (HOWN.out.ext_ hx1);clear hx1 g10 g11 g12 g13;generalize cO out y=r at *;obtain ⟨q,bq⟩:=r
   replace hkl:q<=out.length:=hkl
   cases bq
   ·go_upto_region 8 with fail
    have hq1:(q:Int)<=(c:Int):=U
    have hq0:(0:Int)<=(q:Int):=U
    have hq2:(q:Int)<=(out.length:Int):=U
    have hk1:(k:Int)<(l.length:Int):=U
    have hk0:(0:Int)<=(k:Int):=U
    have hqc':q<=c:=U
    have HLEN:=aYl HOWN.out.1;have HLEN:=aYl HOWN1.out.1;rcases HOWN1.out.2 with ⟨e,hn0⟩ | ⟨g,cap,cur,e,hg,hcur,hn1,hcap,hcs,htk⟩
    ·obtain rfl:out=[]:=List.length_eq_zero_iff.1 hn0
     obtain rfl:q=0:=by simpa using hkl
     cases e
     have HS1:=aYl (show Sl w1 (fun b=>b<w1.heap.size) 4 none 0 [] from ⟨rfl,fun h=>absurd h U⟩);have HS3:=HS1
     go_region_held3 (fun w'=>w'.cell? ⟨b1,o1+k*4,none⟩=some (.int .i64 y.kind)∧w'.cell? ⟨b1,o1+k*4+1,none⟩=some (.int .i64 y.n)∧w'.cell? ⟨b1,o1+k*4+2,none⟩=some (.string y.s)∧w'.cell? ⟨b1,o1+k*4+3,none⟩=some (.slice A1 y.kids.length d1))
      (first
       | go_keep
       | (go_split_ands
          exact ⟨(hbl4.cell (p:=⟨b1,_,none⟩) lb1).trans ‹_›,(hbl4.cell (p:=⟨b1,_,none⟩) lb1).trans ‹_›,(hbl4.cell (p:=⟨b1,_,none⟩) lb1).trans ‹_›,(hbl4.cell (p:=⟨b1,_,none⟩) lb1).trans ‹_›⟩)
       | (go_split_ands
          exact ⟨(hbl3.cell (p:=⟨b1,_,none⟩) lb1).trans ‹_›,(hbl3.cell (p:=⟨b1,_,none⟩) lb1).trans ‹_›,(hbl3.cell (p:=⟨b1,_,none⟩) lb1).trans ‹_›,(hbl3.cell (p:=⟨b1,_,none⟩) lb1).trans ‹_›⟩)
       | (go_split_ands
          exact ⟨(hbl2.cell (p:=⟨b1,_,none⟩) lb1).trans ‹_›,(hbl2.cell (p:=⟨b1,_,none⟩) lb1).trans ‹_›,(hbl2.cell (p:=⟨b1,_,none⟩) lb1).trans ‹_›,(hbl2.cell (p:=⟨b1,_,none⟩) lb1).trans ‹_›⟩))
      (first
       | (refine gC _ (by rfl) (.tmp 25) (.tmp 28) 83 (by rfl) w1.heap.size 85 i0 _ 4 56 Tryz.underlying83 HI.out hz0 hz1 hz2 rfl (by omega) (by rfl) _ none 0 0 [] (by rfl) (HS1.out.ext (by repeat (first | exact Ext.refl _ | refine Ext.drew' ?_ | refine Ext.alloc' ?_ _))) (by simp) (by omega) (by omega) (by simp) ?_;intro v2 w2 ho2 hx2 hbl2;have hw2:Below w1.heap.size w1 w2:=(by first | exact (Below.refl _ w1).drew.trans hbl2 | exact ((Below.refl _ w1).drew.alloc (Nat.le_refl _) _).trans hbl2))
       | (refine bR _ (by rfl) (.tmp 35) (.tmp 38) 83 (by rfl) w1.heap.size 85 i0 _ 4 56 Tryz.underlying83 HI.out hz0 hz1 hz2 rfl (by omega) v3 (0+1) ([] ++ [.int .i64 y.kind,.int .i64 y.n,.string y.s,.slice A1 y.kids.length d1]) (by rfl) ho3 (fun b=>b<w1.heap.size) none 0 0 [] (by rfl) (HS3.out.keep (fun b _ hb=>hw3.block b hb) (fun _ h=>h)) (by simp) (by omega) (by omega) hw3.size ?_;intro v4 w4 ho4 hbl4)
       | (refine bR _ (by rfl) (.tmp 29) (.tmp 34) 83 (by rfl) w1.heap.size 85 i0 _ 4 56 Tryz.underlying83 HI.out hz0 hz1 hz2 rfl (by omega) v2 0 [] (by rfl) (ho2.alloc _) (fun _=>True) (some ⟨w2.heap.size,0,none⟩) 1 1 [.int .i64 y.kind,.int .i64 y.n,.string y.s,.slice A1 y.kids.length d1] (by rfl) (Sl.new w2 _ _ _ _ rfl) (by simp [Value.oneCell']) (by omega) (by omega) ?_ ?_;(have hs2:=hw2.size;simp at hs2 ⊢;omega);intro v3 w3 ho3 hbl3;have hw3:Below w1.heap.size w1 w3:=(hw2.alloc hw2.size _).trans hbl3)
       | (refine bR _ (by rfl) (.tmp 29) (.tmp 34) 83 (by rfl) w1.heap.size 85 i0 _ 4 56 Tryz.underlying83 HI.out hz0 hz1 hz2 rfl (by omega) v2 0 [] (by rfl) ho2 (fun _=>True) (some ⟨w1.heap.size,0,none⟩) 1 1 [.int .i64 y.kind,.int .i64 y.n,.string y.s,.slice A1 y.kids.length d1] (by rfl) ((Sl.new w1.drew _ _ _ _ rfl).ext hx2) (by simp [Value.oneCell']) (by omega) (by omega) ?_ ?_;(have hs2:=hw2.size;simp at hs2 ⊢;omega);intro v3 w3 ho3 hbl3;have hw3:Below w1.heap.size w1 w3:=hw2.trans hbl3))
     all_goals
      have HW4:=aYl (hw3.trans hbl4);have HO4:=aYl ho4;clear hw3 hbl4 hw2 hbl2 hbl3 ho4 ho3 ho2 hx2;go_wp2_with fail;go_roundw
      case rel =>
       refine ⟨k+1,[y],([] ++ [.int .i64 y.kind,.int .i64 y.n,.string y.s,.slice A1 y.kids.length d1]) ++ [],U,by go_num,?_,?_,HXW.out.trans' HW4.out,Y,fo⟩
       ·have h:=HO4.out.base_le HXW.out.size
        rw [show 0+1+0=[y].length from rfl] at h;exact h
       ·have h2:RV w4 P y _:=(HV1.out.ext (HX1.out.trans' HW4.out)).rv
        exact (RVs.append (RVs.append (show RVs w4 P [] [] from rfl) (RVs.one h2)) (show RVs w4 P [] [] from rfl)).cast Y
      case measure=>simp [intOf];omega
    ·cases e
     have hgl:g<w1.heap.size:=Blk.lt (t:=85) hcur
     have HS0:=aYl (show Sl w1 (fun b=>b<w1.heap.size) 4 (some ⟨g,0,none⟩) out.length xs from by
      obtain ⟨A',c',e',_,_,h⟩:=Sl.of_own HOWN1.out
      cases e'
      exact h _ (fun b hb=>by simp [Value.ownBlock] at hb;omega))
     have HS1:=aYl (HS0.out.take hkl);have HONE:=aYl HRV.out.oneCell;clear hcur hcs htk hcap
     by_cases hqc:c=q
     ·subst hqc
      have HS3:=aYl (show Sl w1 (fun b=>b<w1.heap.size) 4 (some ⟨g,0,none⟩) 0 (xs.drop (c*4)) from
       ⟨by rw [List.length_drop,HLEN.out];omega,fun h=>absurd h U⟩)
      go_region_held3 (fun w'=>w'.cell? ⟨b1,o1+k*4,none⟩=some (.int .i64 y.kind)∧w'.cell? ⟨b1,o1+k*4+1,none⟩=some (.int .i64 y.n)∧w'.cell? ⟨b1,o1+k*4+2,none⟩=some (.string y.s)∧w'.cell? ⟨b1,o1+k*4+3,none⟩=some (.slice A1 y.kids.length d1))
       (first
        | go_keep
        | (go_split_ands
           exact ⟨(hbl4.cell (p:=⟨b1,_,none⟩) lb1).trans ‹_›,(hbl4.cell (p:=⟨b1,_,none⟩) lb1).trans ‹_›,(hbl4.cell (p:=⟨b1,_,none⟩) lb1).trans ‹_›,(hbl4.cell (p:=⟨b1,_,none⟩) lb1).trans ‹_›⟩)
        | (go_split_ands
           exact ⟨(hbl3.cell (p:=⟨b1,_,none⟩) lb1).trans ‹_›,(hbl3.cell (p:=⟨b1,_,none⟩) lb1).trans ‹_›,(hbl3.cell (p:=⟨b1,_,none⟩) lb1).trans ‹_›,(hbl3.cell (p:=⟨b1,_,none⟩) lb1).trans ‹_›⟩)
        | (go_split_ands
           exact ⟨(hbl2.cell (p:=⟨b1,_,none⟩) lb1).trans ‹_›,(hbl2.cell (p:=⟨b1,_,none⟩) lb1).trans ‹_›,(hbl2.cell (p:=⟨b1,_,none⟩) lb1).trans ‹_›,(hbl2.cell (p:=⟨b1,_,none⟩) lb1).trans ‹_›⟩))
       (first
        | (refine gC _ (by rfl) (.tmp 25) (.tmp 28) 83 (by rfl) w1.heap.size 85 i0 _ 4 56 Tryz.underlying83 HI.out hz0 hz1 hz2 rfl (by omega) (by rfl) _ (some ⟨g,0,none⟩) c c (xs.take (c*4)) (by rfl) (HS1.out.ext (by repeat (first | exact Ext.refl _ | refine Ext.drew' ?_ | refine Ext.alloc' ?_ _))) (fun u hu=>HONE.out u (List.mem_of_mem_take hu)) (by omega) (by omega) (by simp) ?_;intro v2 w2 ho2 hx2 hbl2;have hw2:Below w1.heap.size w1 w2:=(by first | exact (Below.refl _ w1).drew.trans hbl2 | exact ((Below.refl _ w1).drew.alloc (Nat.le_refl _) _).trans hbl2))
        | (refine bR _ (by rfl) (.tmp 35) (.tmp 38) 83 (by rfl) w1.heap.size 85 i0 _ 4 56 Tryz.underlying83 HI.out hz0 hz1 hz2 rfl (by omega) v3 (c+1) (xs.take (c*4) ++ [.int .i64 y.kind,.int .i64 y.n,.string y.s,.slice A1 y.kids.length d1]) (by rfl) ho3 (fun b=>b<w1.heap.size) (some ⟨g,0,none⟩) 0 0 (xs.drop (c*4)) (by rfl) (HS3.out.keep (fun b _ hb=>hw3.block b hb) (fun _ h=>h)) (fun u hu=>HONE.out u (List.mem_of_mem_drop hu)) (by omega) (by omega) hw3.size ?_;intro v4 w4 ho4 hbl4)
        | (refine bR _ (by rfl) (.tmp 29) (.tmp 34) 83 (by rfl) w1.heap.size 85 i0 _ 4 56 Tryz.underlying83 HI.out hz0 hz1 hz2 rfl (by omega) v2 c (xs.take (c*4)) (by rfl) (ho2.alloc _) (fun _=>True) (some ⟨w2.heap.size,0,none⟩) 1 1 [.int .i64 y.kind,.int .i64 y.n,.string y.s,.slice A1 y.kids.length d1] (by rfl) (Sl.new w2 _ _ _ _ rfl) (by simp [Value.oneCell']) (by omega) (by omega) ?_ ?_;(have hs2:=hw2.size;simp at hs2 ⊢;omega);intro v3 w3 ho3 hbl3;have hw3:Below w1.heap.size w1 w3:=(hw2.alloc hw2.size _).trans hbl3)
        | (refine bR _ (by rfl) (.tmp 29) (.tmp 34) 83 (by rfl) w1.heap.size 85 i0 _ 4 56 Tryz.underlying83 HI.out hz0 hz1 hz2 rfl (by omega) v2 c (xs.take (c*4)) (by rfl) ho2 (fun _=>True) (some ⟨w1.heap.size,0,none⟩) 1 1 [.int .i64 y.kind,.int .i64 y.n,.string y.s,.slice A1 y.kids.length d1] (by rfl) ((Sl.new w1.drew _ _ _ _ rfl).ext hx2) (by simp [Value.oneCell']) (by omega) (by omega) ?_ ?_;(have hs2:=hw2.size;simp at hs2 ⊢;omega);intro v3 w3 ho3 hbl3;have hw3:Below w1.heap.size w1 w3:=hw2.trans hbl3))
      all_goals
       have HW4:=aYl (hw3.trans hbl4);have HO4:=aYl ho4;clear hw3 hbl4 hw2 hbl2 hbl3 ho4 ho3 ho2 hx2;go_wp2_with fail;go_roundw
       case rel =>
        refine ⟨k+1,out.take c ++ y :: out.drop c,(xs.take (c*4) ++ [.int .i64 y.kind,.int .i64 y.n,.string y.s,.slice A1 y.kids.length d1]) ++ xs.drop (c*4),U,by go_num,?_,?_,HXW.out.trans' HW4.out,ab,fo⟩
        ·have h:=HO4.out.base_le HXW.out.size
         rw [show c+1+0=(out.take c ++ y :: out.drop c).length by simp;omega] at h;exact h
        ·have hk:aB P wr w4:=aB.of_ext (HX1.out.trans' HW4.out)
         have h1:=RVs.keep hk (fun _ h=>h) HRV.out;have h2:RV w4 P y _:=(HV1.out.ext (HX1.out.trans' HW4.out)).rv;exact (RVs.append (RVs.append (h1.take c) (RVs.one h2)) (h1.drop c)).cast Y
       case measure=>simp [intOf];omega
     ·have HS3:=aYl (HS0.out.drop hkl)
      rw [Nat.zero_add] at HS3
      go_region_held3 (fun w'=>w'.cell? ⟨b1,o1+k*4,none⟩=some (.int .i64 y.kind)∧w'.cell? ⟨b1,o1+k*4+1,none⟩=some (.int .i64 y.n)∧w'.cell? ⟨b1,o1+k*4+2,none⟩=some (.string y.s)∧w'.cell? ⟨b1,o1+k*4+3,none⟩=some (.slice A1 y.kids.length d1))
       (first
        | go_keep
        | (go_split_ands
           exact ⟨(hbl4.cell (p:=⟨b1,_,none⟩) lb1).trans ‹_›,(hbl4.cell (p:=⟨b1,_,none⟩) lb1).trans ‹_›,(hbl4.cell (p:=⟨b1,_,none⟩) lb1).trans ‹_›,(hbl4.cell (p:=⟨b1,_,none⟩) lb1).trans ‹_›⟩)
        | (go_split_ands
           exact ⟨(hbl3.cell (p:=⟨b1,_,none⟩) lb1).trans ‹_›,(hbl3.cell (p:=⟨b1,_,none⟩) lb1).trans ‹_›,(hbl3.cell (p:=⟨b1,_,none⟩) lb1).trans ‹_›,(hbl3.cell (p:=⟨b1,_,none⟩) lb1).trans ‹_›⟩)
        | (go_split_ands
           exact ⟨(hbl2.cell (p:=⟨b1,_,none⟩) lb1).trans ‹_›,(hbl2.cell (p:=⟨b1,_,none⟩) lb1).trans ‹_›,(hbl2.cell (p:=⟨b1,_,none⟩) lb1).trans ‹_›,(hbl2.cell (p:=⟨b1,_,none⟩) lb1).trans ‹_›⟩))
       (first
        | (refine gC _ (by rfl) (.tmp 25) (.tmp 28) 83 (by rfl) w1.heap.size 85 i0 _ 4 56 Tryz.underlying83 HI.out hz0 hz1 hz2 rfl (by omega) (by rfl) _ (some ⟨g,0,none⟩) q c (xs.take (q*4)) (by rfl) (HS1.out.ext (by repeat (first | exact Ext.refl _ | refine Ext.drew' ?_ | refine Ext.alloc' ?_ _))) (fun u hu=>HONE.out u (List.mem_of_mem_take hu)) (by omega) (by omega) (by simp) ?_;intro v2 w2 ho2 hx2 hbl2;have hw2:Below w1.heap.size w1 w2:=(by first | exact (Below.refl _ w1).drew.trans hbl2 | exact ((Below.refl _ w1).drew.alloc (Nat.le_refl _) _).trans hbl2))
        | (refine bR _ (by rfl) (.tmp 35) (.tmp 38) 83 (by rfl) w1.heap.size 85 i0 _ 4 56 Tryz.underlying83 HI.out hz0 hz1 hz2 rfl (by omega) v3 (q+1) (xs.take (q*4) ++ [.int .i64 y.kind,.int .i64 y.n,.string y.s,.slice A1 y.kids.length d1]) (by rfl) ho3 (fun b=>b<w1.heap.size) (some ⟨g,q*4,none⟩) (out.length - q) (c - q) (xs.drop (q*4)) (by rfl) (HS3.out.keep (fun b _ hb=>hw3.block b hb) (fun _ h=>h)) (fun u hu=>HONE.out u (List.mem_of_mem_drop hu)) (by omega) (by omega) hw3.size ?_;intro v4 w4 ho4 hbl4)
        | (refine bR _ (by rfl) (.tmp 29) (.tmp 34) 83 (by rfl) w1.heap.size 85 i0 _ 4 56 Tryz.underlying83 HI.out hz0 hz1 hz2 rfl (by omega) v2 q (xs.take (q*4)) (by rfl) (ho2.alloc _) (fun _=>True) (some ⟨w2.heap.size,0,none⟩) 1 1 [.int .i64 y.kind,.int .i64 y.n,.string y.s,.slice A1 y.kids.length d1] (by rfl) (Sl.new w2 _ _ _ _ rfl) (by simp [Value.oneCell']) (by omega) (by omega) ?_ ?_;(have hs2:=hw2.size;simp at hs2 ⊢;omega);intro v3 w3 ho3 hbl3;have hw3:Below w1.heap.size w1 w3:=(hw2.alloc hw2.size _).trans hbl3)
        | (refine bR _ (by rfl) (.tmp 29) (.tmp 34) 83 (by rfl) w1.heap.size 85 i0 _ 4 56 Tryz.underlying83 HI.out hz0 hz1 hz2 rfl (by omega) v2 q (xs.take (q*4)) (by rfl) ho2 (fun _=>True) (some ⟨w1.heap.size,0,none⟩) 1 1 [.int .i64 y.kind,.int .i64 y.n,.string y.s,.slice A1 y.kids.length d1] (by rfl) ((Sl.new w1.drew _ _ _ _ rfl).ext hx2) (by simp [Value.oneCell']) (by omega) (by omega) ?_ ?_;(have hs2:=hw2.size;simp at hs2 ⊢;omega);intro v3 w3 ho3 hbl3;have hw3:Below w1.heap.size w1 w3:=hw2.trans hbl3))
      all_goals
       have HW4:=aYl (hw3.trans hbl4);have HO4:=aYl ho4;clear hw3 hbl4 hw2 hbl2 hbl3 ho4 ho3 ho2 hx2;go_wp2_with fail;go_roundw
       case rel =>
        refine ⟨k+1,out.take q ++ y :: out.drop q,(xs.take (q*4) ++ [.int .i64 y.kind,.int .i64 y.n,.string y.s,.slice A1 y.kids.length d1]) ++ xs.drop (q*4),U,by go_num,?_,?_,HXW.out.trans' HW4.out,ab,fo⟩
        ·have h:=HO4.out.base_le HXW.out.size
         rw [show q+1+(out.length - q)=(out.take q ++ y :: out.drop q).length by simp;omega] at h;exact h
        ·have hk:aB P wr w4:=aB.of_ext (HX1.out.trans' HW4.out)
         have h1:=RVs.keep hk (fun _ h=>h) HRV.out;have h2:RV w4 P y _:=(HV1.out.ext (HX1.out.trans' HW4.out)).rv;exact (RVs.append (RVs.append (h1.take q) (RVs.one h2)) (h1.drop q)).cast Y
       case measure=>simp [intOf];omega
   ·go_wp2_with fail
    go_roundw
    case rel=>exact ⟨k+1,out,xs,U,by go_num,HOWN1.out,RVs.keep (aB.of_ext HX1.out) (fun _ h=>h) HRV.out,HXW.out,U,fo⟩
    case measure=>simp [intOf];omega
  ·have HZ:=aYl (show eN l=out by rw [HT.out,drop_nil U];rfl)
   go_wp2_with fail;go_ret;refine ⟨_,xs,rfl,?_,?_,HX.out⟩
   ·rw [HZ.out];exact HOWN.out
   ·rw [HZ.out];exact HRV.out
theorem yM (l:List GV)(P:Nat->Prop)(vl:Value)(w:World)(hl:bV w P vl l)(hlen:l.length<=10000000) :
  Calls Tryz.prog 198 #[vl] w (aJa P (eN l) w):=nK l P P vl w hl.two hlen
end Go.Proofs.YtkoeecdjijfjnaaGreat
