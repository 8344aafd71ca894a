/- Plain laws: the values of the nodes of valid trees. Conditions: none. Before it: The contract of the reference's node. Conditions: none. Plain laws: the reference's Find and Sort of values. Conditions: none. The plain specification of the values of the nodes of a tree, and of valid trees. Conditions: none. Plain laws: what holds of the nodes of valid trees. Conditions: none. -/
import Derived.Test.YtkoeecdjijfjnaaGreatB6
import Derived.Test.YtkoeecdjijfjnaaGreatB4
import Derived.Test.YtkoeecdjijfjnaaGreatPlA
namespace Go.Proofs.YtkoeecdjijfjnaaGreat
open Go.RowKit
section
variable {P:Program}
theorem wpList_append_new (w:World){ops:Array Oper}{rest:List Oper}{o:Oper}{a:Act}{Q:Exit→Act→World→Prop}(hgd:o.guard=none)(s x:Operand)(t:TypeId)
  (ho:o.op=.call { callee:=.builtin .append,args:=#[s,x],argTypes:=#[t,t] })
  (B:Nat)(e:TypeId)(i:TypeInfo)(z:Value)(size bytes:Nat)(ht:P.underlying t=some (.slice e))(hi:P.info? e=some i)(hz:i.zero=some z)
  (hsize:i.size=size)(hby:i.bytes=bytes)(hzs:z.cells.size=size)(hsz:0<size)
  (v:Value)(n:Nat)(xs:List Value)(hs:a.eval s=v)(hown:w.ownsRow B e size v n xs)
  (S:Nat→Prop)(A:Option Addr)(m c:Nat)(news:List Value)(hx:a.eval x=.slice A m c)(hr:Sl w S size A m news)(h1:∀ u ∈ news,u.oneCell'=true)
  (h63:n+m≤1000000000000)(hbytes:(n+m)*bytes≤140737488355328)(hbase:B≤w.heap.size)
  (h:∀ v' w',w'.ownsRow B e size v' (n+m) (xs ++ news)→Below B w w'→wpList P ops Q rest (a.put o.dst v') w'):wpList P ops Q (o :: rest) a w :=
 wpList_append_sl w hgd s x t ho B e i z size bytes ht hi hz hsize hby hzs hsz v n xs hs hown S A m c news hx hr h1 h63 hbytes hbase fun v' w' h2 h3 _ =>
  h v' w' h2 ⟨h3.os,h3.tape,h3.output,h3.size,fun k hk=>h3.block k (by omega) (fun e=>by have:=hown.block_ge e.symm;omega)⟩
end
theorem Sl.len_cast {w:World}{P:Nat→Prop}{size:Nat}{A:Option Addr}{n m:Nat}{cs:List Value}(h:Sl w P size A n cs)(e:n=m):Sl w P size A m cs:=e ▸ h
def firstErr:List GV→Int
 | []=>0
 | v :: vs=>if validR v=0 then firstErr vs else validR v
def ownVals (x:GN):List GV:=if x.kind=0 then x.value :: x.values else x.values
def nodeR (i:Int)(x:GN):Int :=
 if formedN i x=false then 1 else if firstErr (ownVals x)=0 then (if numbersB x then 0 else 5) else firstErr (ownVals x)
def NodeInv (l:List GV)(W:World)(k:Value)(wr:World):Prop:=∃ j:Nat,j≤l.length∧k=.int .i64 j∧Ext W wr∧firstErr l=firstErr (l.drop j)
set_option maxRecDepth 100000 in
set_option maxHeartbeats 1000000 in
theorem node_k0 (i:Int)(x:GN)(a:NA)(P:Nat→Prop)(w:World)(hx:NAt w P x a)(hvl:x.values.length≤1000000)(hk:x.kind=0) :
  Calls Tryz.prog 57 #[.int .i64 i,nagg x a] w (RetE (.int .i64 (nodeR i x)) w):=by
 have HX:=Lib.hid hx
 have HN:=Lib.hid (show nodeR i x=if formedN i x=false then 1 else if firstErr (ownVals x)=0 then (if numbersB x then 0 else 5) else firstErr (ownVals x) from rfl)
 have HOV:=Lib.hid (show ownVals x=[x.value] ++ x.values by unfold ownVals;rw [if_pos hk];rfl)
 have t0:(x.kind == 0)=true:=beq_iff_eq.2 hk
 obtain ⟨hvl1,hvl2⟩:=hx.values.le
 clear hx hk
 obtain ⟨i0,hi,hz0,hz1,hz2⟩:=info_parts Tryz.info85
 have HI:=Lib.hid hi
 clear hi
 go_enter Tryz.func57,Tryz.ntmps57
 go_wp2_with fail
 refine (formedN_any i x a P _ (HX.out.ext ((Ext.refl _).alloc' _))).mono ?_
 rintro e w1 ⟨rfl,hx1⟩
 have HBX:=Lib.hid ((Blk.new w 87 (ncells x a).toArray).ext hx1)
 have HE:=Lib.hid (((Ext.refl w).alloc' _).trans' hx1)
 clear hx1
 have hb0:=HBX.out.cell' (u:=.int .i64 x.kind) 0 rfl
 have hb6:=HBX.out.cell' (u:=.slice a.vA x.values.length a.vc) 6 rfl
 have hb8:=HBX.out.cell' (u:=.int .i64 x.value.kind) 8 rfl
 have hb9:=HBX.out.cell' (u:=.int .i64 x.value.n) 9 rfl
 have hb10:=HBX.out.cell' (u:=.string x.value.s) 10 rfl
 have hb11:=HBX.out.cell' (u:=.slice a.xA x.value.kids.length a.xc) 11 rfl
 generalize formedN i x=bf at *
 cases bf
 ·go_wp2_with fail
  go_ret
  exact ⟨ret_int (by rw [HN.out];rfl),HE.out⟩
 ·have lw:=HBX.out.lt
  obtain ⟨vA,vc,css,ev,_,_,hvs,hvr⟩:=(HX.out.values.ext HE.out)
  injection ev with ev1 _ ev2
  rw [← ev1] at hvs
  have HVS:=Lib.hid hvs
  have HVR:=Lib.hid hvr
  clear ev1 ev2 hvs hvr
  go_wp2_with (first
   | (at_builtin;refine wpList_append_new _ rfl (.tmp 18) (.tmp 21) 83 (by rfl) w1.heap.size 85 i0 _ 4 56 Tryz.underlying83 HI.out hz0 hz1 hz2 rfl (by omega) (.slice none 0 0) 0 [] rfl (own_none _ _ _ _) (fun _=>True) (some ⟨w1.heap.size,0,none⟩) 1 1 [.int .i64 x.value.kind,.int .i64 x.value.n,.string x.value.s,.slice a.xA x.value.kids.length a.xc] rfl (Sl.new w1 _ _ _ _ rfl) (by simp [Value.oneCell']) (by omega) (by omega) (by simp) ?_;intro v2 w2 ho2 hbl2;have hw2:Below w1.heap.size w1 w2:=((Below.refl _ w1).alloc (Nat.le_refl _) _).trans hbl2;have hc6:w2.cell? ⟨w.heap.size,6,none⟩=some (.slice a.vA x.values.length a.vc):=(hw2.cell (p:=⟨w.heap.size,6,none⟩) lw).trans hb6;clear hbl2)
   | (at_builtin;refine wpList_append_new _ rfl (.tmp 23) (.tmp 25) 83 (by rfl) w1.heap.size 85 i0 _ 4 56 Tryz.underlying83 HI.out hz0 hz1 hz2 rfl (by omega) v2 _ _ rfl ho2 P a.vA x.values.length a.vc css rfl (HVS.out.ext hw2) HVR.out.oneCell (by omega) (by omega) hw2.size ?_;intro v3 w3 ho3 hbl3;have hw3:Below w1.heap.size w1 w3:=hw2.trans hbl3;clear hbl3 hc6))
  have hw3':Ext w1 w3:=hw3
  have HW3:=Lib.hid hw3'
  clear hw3'
  have HVL:=Lib.hid (show Vals w3 (fun b=>P b∨w1.heap.size≤b) v3 (ownVals x) by
   rw [HOV.out]
   obtain ⟨A,c,e,h1,h2,h3⟩:=Sl.of_own ho3
   unfold maxLen at h2
   refine ⟨A,c,_,by rw [e];congr 1;simp;omega,by simp;omega,⟨by simp;omega,h2⟩,(h3 _ (fun b hb=>.inr (ho3.block_ge hb))).len_cast (by simp;omega),?_⟩
   exact RVs.keep (P:=P) (fun _ _ _=>rfl) (fun _ h=>.inl h) (RVs.append (RVs.append (show RVs w3 P [] [] from rfl) (RVs.one ((HX.out.value.ext (HE.out.trans' HW3.out)).rv))) (RVs.keep (Keeps.of_ext HW3.out) (fun _ h=>h) HVR.out)))
  clear ho3 hw3 ho2 hw2
  obtain ⟨AL,cL,eL,hL1,hL2⟩:=HVL.out.form
  subst eL
  go_loopw [7] (fun k wr=>NodeInv (ownVals x) w3 k wr) (fun k _=>(ownVals x).length - (intOf k).toNat)
  case atStart=>exact ⟨0,Nat.zero_le _,rfl,Ext.refl _,rfl⟩
  case round =>
   obtain ⟨j,hj,rfl,hxr,ht⟩:=hrel
   have HT:=Lib.hid ht
   have HXR:=Lib.hid hxr
   clear ht hxr
   by_cases hlt:j<(ownVals x).length
   ·obtain ⟨b1,o1,A1,d1,rfl,-,hv1,g10,g11,g12,g13⟩:=(HVL.out.ext HXR.out).get hlt
    have HD:=Lib.hid (show firstErr (ownVals x)=if validR ((ownVals x).getD j default)=0 then firstErr ((ownVals x).drop (j+1)) else validR ((ownVals x).getD j default) by
     rw [HT.out,drop_getD default hlt];rfl)
    have HV1:=Lib.hid hv1
    clear hv1
    generalize (ownVals x).getD j default=y at *
    go_wp2_with fail
    refine (refValidV_any y A1 d1 _ _ HV1.out).mono ?_
    rintro e w4 ⟨rfl,hx4⟩
    have HX4:=Lib.hid (HXR.out.trans' hx4)
    clear hx4
    by_cases hz:validR y=0
    ·have HZ:=Lib.hid hz
     have tz:(validR y != 0)=false:=by rw [bne_eq_false_iff_eq];exact hz
     clear hz
     go_wp2_with fail
     go_roundw
     case rel=>exact ⟨j+1,by omega,by go_num,HX4.out,by rw [HD.out,if_pos HZ.out]⟩
     case measure=>simp [intOf];omega
    ·have HZ:=Lib.hid hz
     have tz:(validR y != 0)=true:=bne_iff_ne.2 hz
     have HN2:=Lib.hid (show nodeR i x=validR y by rw [HN.out,if_neg (by simp),HD.out,if_neg hz,if_neg hz])
     clear hz
     go_wp2_with fail
     go_ret
     exact ⟨ret_int HN2.out.symm,HE.out.trans' (HW3.out.trans' HX4.out)⟩
   ·have HN2:=Lib.hid (show nodeR i x=if numbersB x then 0 else 5 by
     rw [HN.out,if_neg (by simp),HT.out,drop_nil (by omega)];rfl)
    have BX:=Lib.hid (HBX.out.ext (HW3.out.trans' HXR.out))
    have x0:=BX.out.cell' (u:=.int .i64 x.kind) 0 rfl
    have x1:=BX.out.cell' (u:=.string x.name) 1 rfl
    have x2:=BX.out.cell' (u:=.int .i64 x.lo) 2 rfl
    have x3:=BX.out.cell' (u:=.int .i64 x.hi) 3 rfl
    have x4:=BX.out.cell' (u:=.slice a.wA x.weights.length a.wc) 4 rfl
    have x5:=BX.out.cell' (u:=.slice a.lA x.labels.length a.lc) 5 rfl
    have x6:=BX.out.cell' (u:=.slice a.vA x.values.length a.vc) 6 rfl
    have x7:=BX.out.cell' (u:=.slice a.kA x.kids.length a.kc) 7 rfl
    have x8:=BX.out.cell' (u:=.int .i64 x.value.kind) 8 rfl
    have x9:=BX.out.cell' (u:=.int .i64 x.value.n) 9 rfl
    have x10:=BX.out.cell' (u:=.string x.value.s) 10 rfl
    have x11:=BX.out.cell' (u:=.slice a.xA x.value.kids.length a.xc) 11 rfl
    go_wp2_with fail
    refine (numbers_any x a P _ (HX.out.ext (HE.out.trans' (HW3.out.trans' HXR.out)))).mono ?_
    rintro e w4 ⟨rfl,hx4⟩
    have HX4:=Lib.hid ((HE.out.trans' (HW3.out.trans' HXR.out)).trans' hx4)
    clear hx4
    generalize numbersB x=bn at *
    cases bn
    ·go_wp2_with fail
     go_ret
     exact ⟨ret_int (by rw [HN2.out];rfl),HX4.out⟩
    ·go_wp2_with fail
     go_ret
     exact ⟨ret_int (by rw [HN2.out];rfl),HX4.out⟩
set_option maxRecDepth 100000 in
set_option maxHeartbeats 1000000 in
theorem node_kn (i:Int)(x:GN)(a:NA)(P:Nat→Prop)(w:World)(hx:NAt w P x a)(hvl:x.values.length≤1000000)(hk:¬ x.kind=0) :
  Calls Tryz.prog 57 #[.int .i64 i,nagg x a] w (RetE (.int .i64 (nodeR i x)) w):=by
 have HX:=Lib.hid hx
 have HN:=Lib.hid (show nodeR i x=if formedN i x=false then 1 else if firstErr (ownVals x)=0 then (if numbersB x then 0 else 5) else firstErr (ownVals x) from rfl)
 have HOV:=Lib.hid (show ownVals x=x.values by unfold ownVals;rw [if_neg hk])
 have t0:(x.kind == 0)=false:=beq_eq_false_iff_ne.2 hk
 obtain ⟨hvl1,hvl2⟩:=hx.values.le
 clear hx hk
 obtain ⟨i0,hi,hz0,hz1,hz2⟩:=info_parts Tryz.info85
 have HI:=Lib.hid hi
 clear hi
 go_enter Tryz.func57,Tryz.ntmps57
 go_wp2_with fail
 refine (formedN_any i x a P _ (HX.out.ext ((Ext.refl _).alloc' _))).mono ?_
 rintro e w1 ⟨rfl,hx1⟩
 have HBX:=Lib.hid ((Blk.new w 87 (ncells x a).toArray).ext hx1)
 have HE:=Lib.hid (((Ext.refl w).alloc' _).trans' hx1)
 clear hx1
 have hb0:=HBX.out.cell' (u:=.int .i64 x.kind) 0 rfl
 have hb6:=HBX.out.cell' (u:=.slice a.vA x.values.length a.vc) 6 rfl
 generalize formedN i x=bf at *
 cases bf
 ·go_wp2_with fail
  go_ret
  exact ⟨ret_int (by rw [HN.out];rfl),HE.out⟩
 ·obtain ⟨vA,vc,css,ev,_,_,hvs,hvr⟩:=(HX.out.values.ext HE.out)
  injection ev with ev1 _ ev2
  rw [← ev1] at hvs
  have HVS:=Lib.hid hvs
  have HVR:=Lib.hid hvr
  clear ev1 ev2 hvs hvr
  go_wp2_with (at_builtin;refine wpList_append_new _ rfl (.tmp 23) (.tmp 25) 83 (by rfl) w1.heap.size 85 i0 _ 4 56 Tryz.underlying83 HI.out hz0 hz1 hz2 rfl (by omega) (.slice none 0 0) 0 [] rfl (own_none _ _ _ _) P a.vA x.values.length a.vc css rfl HVS.out HVR.out.oneCell (by omega) (by omega) (Nat.le_refl _) ?_;intro v3 w3 ho3 hbl3;have hw3:Below w1.heap.size w1 w3:=hbl3;clear hbl3)
  have hw3':Ext w1 w3:=hw3
  have HW3:=Lib.hid hw3'
  clear hw3'
  have HVL:=Lib.hid (show Vals w3 (fun b=>P b∨w1.heap.size≤b) v3 (ownVals x) by
   rw [HOV.out]
   obtain ⟨A,c,e,h1,h2,h3⟩:=Sl.of_own ho3
   unfold maxLen at h2
   refine ⟨A,c,_,by rw [e];congr 1;omega,by omega,⟨by omega,h2⟩,(h3 _ (fun b hb=>.inr (ho3.block_ge hb))).len_cast (by omega),?_⟩
   exact RVs.keep (P:=P) (fun _ _ _=>rfl) (fun _ h=>.inl h) (RVs.append (show RVs w3 P [] [] from rfl) (RVs.keep (Keeps.of_ext HW3.out) (fun _ h=>h) HVR.out)))
  clear ho3 hw3
  obtain ⟨AL,cL,eL,hL1,hL2⟩:=HVL.out.form
  subst eL
  go_loopw [7] (fun k wr=>NodeInv (ownVals x) w3 k wr) (fun k _=>(ownVals x).length - (intOf k).toNat)
  case atStart=>exact ⟨0,Nat.zero_le _,rfl,Ext.refl _,rfl⟩
  case round =>
   obtain ⟨j,hj,rfl,hxr,ht⟩:=hrel
   have HT:=Lib.hid ht
   have HXR:=Lib.hid hxr
   clear ht hxr
   by_cases hlt:j<(ownVals x).length
   ·obtain ⟨b1,o1,A1,d1,rfl,-,hv1,g10,g11,g12,g13⟩:=(HVL.out.ext HXR.out).get hlt
    have HD:=Lib.hid (show firstErr (ownVals x)=if validR ((ownVals x).getD j default)=0 then firstErr ((ownVals x).drop (j+1)) else validR ((ownVals x).getD j default) by
     rw [HT.out,drop_getD default hlt];rfl)
    have HV1:=Lib.hid hv1
    clear hv1
    generalize (ownVals x).getD j default=y at *
    go_wp2_with fail
    refine (refValidV_any y A1 d1 _ _ HV1.out).mono ?_
    rintro e w4 ⟨rfl,hx4⟩
    have HX4:=Lib.hid (HXR.out.trans' hx4)
    clear hx4
    by_cases hz:validR y=0
    ·have HZ:=Lib.hid hz
     have tz:(validR y != 0)=false:=by rw [bne_eq_false_iff_eq];exact hz
     clear hz
     go_wp2_with fail
     go_roundw
     case rel=>exact ⟨j+1,by omega,by go_num,HX4.out,by rw [HD.out,if_pos HZ.out]⟩
     case measure=>simp [intOf];omega
    ·have HZ:=Lib.hid hz
     have tz:(validR y != 0)=true:=bne_iff_ne.2 hz
     have HN2:=Lib.hid (show nodeR i x=validR y by rw [HN.out,if_neg (by simp),HD.out,if_neg hz,if_neg hz])
     clear hz
     go_wp2_with fail
     go_ret
     exact ⟨ret_int HN2.out.symm,HE.out.trans' (HW3.out.trans' HX4.out)⟩
   ·have HN2:=Lib.hid (show nodeR i x=if numbersB x then 0 else 5 by
     rw [HN.out,if_neg (by simp),HT.out,drop_nil (by omega)];rfl)
    have BX:=Lib.hid (HBX.out.ext (HW3.out.trans' HXR.out))
    have x0:=BX.out.cell' (u:=.int .i64 x.kind) 0 rfl
    have x1:=BX.out.cell' (u:=.string x.name) 1 rfl
    have x2:=BX.out.cell' (u:=.int .i64 x.lo) 2 rfl
    have x3:=BX.out.cell' (u:=.int .i64 x.hi) 3 rfl
    have x4:=BX.out.cell' (u:=.slice a.wA x.weights.length a.wc) 4 rfl
    have x5:=BX.out.cell' (u:=.slice a.lA x.labels.length a.lc) 5 rfl
    have x6:=BX.out.cell' (u:=.slice a.vA x.values.length a.vc) 6 rfl
    have x7:=BX.out.cell' (u:=.slice a.kA x.kids.length a.kc) 7 rfl
    have x8:=BX.out.cell' (u:=.int .i64 x.value.kind) 8 rfl
    have x9:=BX.out.cell' (u:=.int .i64 x.value.n) 9 rfl
    have x10:=BX.out.cell' (u:=.string x.value.s) 10 rfl
    have x11:=BX.out.cell' (u:=.slice a.xA x.value.kids.length a.xc) 11 rfl
    go_wp2_with fail
    refine (numbers_any x a P _ (HX.out.ext (HE.out.trans' (HW3.out.trans' HXR.out)))).mono ?_
    rintro e w4 ⟨rfl,hx4⟩
    have HX4:=Lib.hid ((HE.out.trans' (HW3.out.trans' HXR.out)).trans' hx4)
    clear hx4
    generalize numbersB x=bn at *
    cases bn
    ·go_wp2_with fail
     go_ret
     exact ⟨ret_int (by rw [HN2.out];rfl),HX4.out⟩
    ·go_wp2_with fail
     go_ret
     exact ⟨ret_int (by rw [HN2.out];rfl),HX4.out⟩
theorem node_any (i:Int)(x:GN)(a:NA)(P:Nat→Prop)(w:World)(hx:NAt w P x a)(hvl:x.values.length≤1000000) :
  Calls Tryz.prog 57 #[.int .i64 i,nagg x a] w (RetE (.int .i64 (nodeR i x)) w):=by
 by_cases hk:x.kind=0
 ·exact node_k0 i x a P w hx hvl hk
 ·exact node_kn i x a P w hx hvl hk
theorem findFrom_cut (v:GV):∀ (l:List GV)(i:Nat),∃ a b,l=a ++ b∧(findFrom v i l).1=i+a.length∧(∀ y ∈ a,ltV y v) ∧
  (((findFrom v i l).2=true∧∃ c,b=v :: c)∨((findFrom v i l).2=false∧(b=[]∨∃ y c,b=y :: c∧ltV v y)))
 | [],i=>⟨[],[],rfl,by simp [findFrom],by simp,.inr ⟨by simp [findFrom],.inl rfl⟩⟩
 | x :: xs,i=>by
  by_cases h:cmpV x v<0
  ·obtain ⟨a,b,e,h1,h2,h3⟩:=findFrom_cut v xs (i+1)
   refine ⟨x :: a,b,by rw [e];rfl,?_,?_,?_⟩
   ·simp only [findFrom,if_pos h,h1,List.length_cons];omega
   ·intro y hy
    rcases List.mem_cons.1 hy with rfl | hy
    ·exact h
    ·exact h2 y hy
   ·simp only [findFrom,if_pos h];exact h3
  ·refine ⟨[],x :: xs,rfl,by simp [findFrom,if_neg h],by simp,?_⟩
   simp only [findFrom,if_neg h]
   by_cases h0:cmpV x v=0
   ·exact .inl ⟨by simp [h0],xs,by rw [cmpV_zero x v h0]⟩
   ·exact .inr ⟨by simp [h0],.inr ⟨x,xs,rfl,by unfold ltV;have:=cmpV_swap x v;omega⟩⟩
theorem findR_cut (l:List GV)(v:GV):∃ a b,l=a ++ b∧(findR l v).1=a.length∧(∀ y ∈ a,ltV y v) ∧
  (((findR l v).2=true∧∃ c,b=v :: c)∨((findR l v).2=false∧(b=[]∨∃ y c,b=y :: c∧ltV v y))):=by
 obtain ⟨a,b,h1,h2,h3⟩:=findFrom_cut v l 0
 exact ⟨a,b,h1,by unfold findR;omega,h3⟩
theorem findR_mem {l:List GV}{v:GV}(hl:Inc l)(hv:v ∈ l):(findR l v).2=true∧(findR l v).1<l.length∧l.getD (findR l v).1 default=v:=by
 obtain ⟨a,b,e,h1,h2,h3⟩:=findR_cut l v
 rcases h3 with ⟨h3,c,rfl⟩ | ⟨h3,h4⟩
 ·refine ⟨h3,by rw [h1,e];simp,?_⟩
  rw [h1,e]
  simp
 ·exfalso
  rw [e] at hv hl
  have hl':=List.pairwise_append.1 hl
  rcases List.mem_append.1 hv with hv | hv
  ·exact (h2 v hv).irr
  ·rcases h4 with rfl | ⟨y,c,rfl,h4⟩
   ·simp at hv
   ·rcases List.mem_cons.1 hv with rfl | hv
    ·exact h4.irr
    ·exact (h4.tr ((List.pairwise_cons.1 hl'.2.1).1 v hv)).irr
theorem insR_inc {l:List GV}{v:GV}(hl:Inc l):Inc (insR l v)∧∀ y,y ∈ insR l v ↔ y=v∨y ∈ l:=by
 obtain ⟨a,b,e,h1,h2,h3⟩:=findR_cut l v
 unfold insR
 rcases h3 with ⟨h3,c,rfl⟩ | ⟨h3,h4⟩
 ·rw [if_pos h3]
  refine ⟨hl,fun y=>⟨.inr,?_⟩⟩
  rintro (rfl | h)
  ·rw [e];simp
  ·exact h
 ·rw [if_neg (by rw [h3];simp),h1,e,List.take_left' rfl,List.drop_left' rfl]
  rw [e] at hl
  have hl':=List.pairwise_append.1 hl
  have hb:∀ y ∈ b,ltV v y:=by
   intro y hy
   rcases h4 with rfl | ⟨z,c,rfl,h4⟩
   ·simp at hy
   ·rcases List.mem_cons.1 hy with rfl | hy
    ·exact h4
    ·exact h4.tr ((List.pairwise_cons.1 hl'.2.1).1 y hy)
  refine ⟨List.pairwise_append.2 ⟨hl'.1,List.pairwise_cons.2 ⟨hb,hl'.2.1⟩,?_⟩,fun y=>by simp;constructor <;> (intro h;rcases h with h | h | h <;> simp [h])⟩
  intro x hx y hy
  rcases List.mem_cons.1 hy with rfl | hy
  ·exact h2 x hx
  ·exact (h2 x hx).tr (hb y hy)
theorem sortFrom_inc:∀ (l out:List GV),Inc out→Inc (sortFrom out l)∧∀ y,y ∈ sortFrom out l ↔ y ∈ out∨y ∈ l
 | [],out,h=>⟨h,fun y=>by simp [sortFrom]⟩
 | x :: xs,out,h=>by
  obtain ⟨h1,h2⟩:=insR_inc (v:=x) h
  obtain ⟨h3,h4⟩:=sortFrom_inc xs (insR out x) h1
  refine ⟨h3,fun y=>?_⟩
  simp only [sortFrom]
  rw [h4,h2,List.mem_cons]
  constructor
  ·rintro ((h | h) | h)
   ·exact .inr (.inl h)
   ·exact .inl h
   ·exact .inr (.inr h)
  ·rintro (h | h | h)
   ·exact .inl (.inr h)
   ·exact .inl (.inl h)
   ·exact .inr h
theorem sortR_inc (l:List GV):Inc (sortR l):=(sortFrom_inc l [] .nil).1
theorem sortR_mem (l:List GV)(y:GV):y ∈ sortR l ↔ y ∈ l:=by have:=(sortFrom_inc l [] .nil).2 y;simpa [sortR] using this
theorem sortR_id {l:List GV}(h:Inc l):sortR l=l:=Inc.ext (sortR_inc l) h (sortR_mem l)
theorem sortFrom_len:∀ (l out:List GV),(sortFrom out l).length≤out.length+l.length
 | [],out=>by simp [sortFrom]
 | x :: xs,out=>by
  have h1:=sortFrom_len xs (insR out x)
  have h2:=insR_len out x
  simp only [sortFrom,List.length_cons]
  omega
theorem sortR_len (l:List GV):(sortR l).length≤l.length:=by have:=sortFrom_len l [];simpa [sortR] using this
theorem incB_inc:∀ {l:List GV},incB l=true ↔ Inc l
 | []=>by simp [incB]
 | [_]=>by simp [incB]
 | a :: b :: l=>by
  simp only [incB,Bool.and_eq_true,decide_eq_true_eq]
  rw [incB_inc (l:=b :: l)]
  show _ ↔ List.Pairwise ltV (a :: b :: l)
  rw [List.pairwise_cons]
  constructor
  ·rintro ⟨h1,h2⟩
   refine ⟨?_,h2⟩
   intro y hy
   rcases List.mem_cons.1 hy with rfl | hy
   ·exact h1
   ·exact ltV.tr h1 ((List.pairwise_cons.1 h2).1 y hy)
  ·rintro ⟨h1,h2⟩
   exact ⟨h1 b (by simp),h2⟩
theorem zip_same:∀ {a b:List GV},a.length=b.length→(a.zip b).all (fun p=>decide (cmpV p.1 p.2=0))=true→a=b
 | [],[],_,_=>rfl
 | x :: xs,y :: ys,h,k=>by
  simp only [List.zip_cons_cons,List.all_cons,Bool.and_eq_true,decide_eq_true_eq] at k
  rw [cmpV_zero x y k.1,zip_same (by simpa using h) k.2]
 | [],_ :: _,h,_=>by simp at h
 | _ :: _,[],h,_=>by simp at h
theorem zip_self:∀ (a:List GV),(a.zip a).all (fun p=>decide (cmpV p.1 p.2=0))=true
 | []=>rfl
 | x :: xs=>by simp only [List.zip_cons_cons,List.all_cons,cmpV_self,zip_self xs];rfl
theorem sameVsB_eq {a b:List GV}:sameVsB a b=true ↔ a=b:=by
 unfold sameVsB
 simp only [Bool.and_eq_true,decide_eq_true_eq]
 constructor
 ·rintro ⟨h1,h2⟩;exact zip_same h1 h2
 ·rintro rfl;exact ⟨rfl,zip_self a⟩
structure GL where
 vals:List GV
 many:Bool
instance:Inhabited GL:=⟨⟨[],false⟩⟩
def rangeV (lo:Int):Nat→List GV
 | 0=>[]
 | n+1=>.mk 0 lo ByteArray.empty [] :: rangeV (lo+1) n
def rowsR (rows:List (List GV))(vals:List GV):List (List GV):=rows.flatMap (fun r=>vals.map (fun v=>r ++ [v]))
def seqRows (before:List GL):List (List GV)→List Int→Option (List (List GV))
 | rows,[]=>some rows
 | rows,z :: zs=>if (before.getD z.toNat default).many=true∨1024<rows.length*(before.getD z.toNat default).vals.length then none
   else seqRows before (rowsR rows (before.getD z.toNat default).vals) zs
def seqR (x:GN)(before:List GL):GL :=
 match seqRows before [[]] x.kids with
 | none=>⟨[],true⟩
 | some rows=>⟨sortR (rows.map (madeV x.name)),false⟩
def uniR (before:List GL)(bind:Bool):Nat→List GV→Bool→List Int→GL
 | _,out,m,[]=>if m then ⟨[],true⟩ else ⟨out,false⟩
 | k,out,m,z :: zs=>if bind=true∧k=0 then uniR before bind (k+1) out m zs
   else uniR before bind (k+1) (sortR (out ++ (before.getD z.toNat default).vals)) (m || (before.getD z.toNat default).many || decide (1024<(sortR (out ++ (before.getD z.toNat default).vals)).length)) zs
def listR (before:List GL)(x:GN):GL :=
 if x.kind=0 then ⟨[x.value],false⟩
 else if x.kind=1 then (if 1024≤x.hi - x.lo then ⟨[],true⟩ else ⟨rangeV x.lo (x.hi - x.lo+1).toNat,false⟩)
 else if x.kind=3 then seqR x before
 else uniR before (decide (x.kind=4)) 0 [] false x.kids
def accL {β:Type}(f:List β→GN→β):List β→List GN→List β
 | acc,[]=>acc
 | acc,x :: xs=>accL f (acc ++ [f acc x]) xs
theorem accL_append {β:Type}(f:List β→GN→β):∀ (a b:List GN)(acc:List β),accL f acc (a ++ b)=accL f (accL f acc a) b
 | [],_,_=>rfl
 | x :: xs,b,acc=>by simp only [List.cons_append,accL];exact accL_append f xs b _
theorem accL_len {β:Type}(f:List β→GN→β):∀ (a:List GN)(acc:List β),(accL f acc a).length=acc.length+a.length
 | [],_=>rfl
 | x :: xs,acc=>by simp only [accL];rw [accL_len f xs];simp;omega
theorem accL_pre {β:Type}(f:List β→GN→β):∀ (a:List GN)(acc:List β),∃ l,accL f acc a=acc ++ l
 | [],acc=>⟨[],by simp [accL]⟩
 | x :: xs,acc=>by
  obtain ⟨l,h⟩:=accL_pre f xs (acc ++ [f acc x])
  exact ⟨f acc x :: l,by simp only [accL];rw [h];simp⟩
theorem accL_take {β:Type}(f:List β→GN→β)(l:List GN)(i:Nat)(hi:i≤l.length):accL f [] (l.take i)=(accL f [] l).take i:=by
 have h:=accL_append f (l.take i) (l.drop i) []
 rw [List.take_append_drop] at h
 obtain ⟨r,hr⟩:=accL_pre f (l.drop i) (accL f [] (l.take i))
 rw [h,hr,List.take_left']
 rw [accL_len];simp;omega
theorem accL_snoc {β:Type}(f:List β→GN→β)(l:List GN)(x:GN):accL f [] (l ++ [x])=accL f [] l ++ [f (accL f [] l) x]:=by
 rw [accL_append];rfl
theorem accL_get {β:Type}(f:List β→GN→β)(d:β)(l:List GN){i:Nat}(hi:i<l.length):(accL f [] l).getD i d=f (accL f [] (l.take i)) (l.getD i default):=by
 have h:=accL_take f l (i+1) (by omega)
 rw [take_succ_getD default hi,accL_snoc] at h
 have hl:(accL f [] (l.take i)).length=i:=by rw [accL_len];simp;omega
 have h2:((accL f [] l).take (i+1)).getD i d=(accL f [] l).getD i d:=by simp [List.getD]
 rw [← h2,← h]
 have:(accL f [] (l.take i) ++ [f (accL f [] (l.take i)) (l.getD i default)]).getD (accL f [] (l.take i)).length d=f (accL f [] (l.take i)) (l.getD i default):=by simp
 rw [hl] at this
 exact this
def listsR (l:List GN):List GL:=accL listR [] l
def lensR (l:List GN):List Int:=accL lenR [] l
def sizesR (l:List GN):List Int:=accL sizeR [] l
def boundR (t:List GN)(x:GN):Int :=
 if ((listsR t).getD (x.kids.getD 0 0).toNat default).many then 4
 else if sameVsB ((listsR t).getD (x.kids.getD 0 0).toNat default).vals x.values then 0 else 1
def checkR (t:List GN)(i:Nat):Int :=
 if nodeR i (t.getD i default)=0 then
  (if 256<(lensR t).getD i 0∨1024<(sizesR t).getD i 0 then 4
   else if (t.getD i default).kind=4 then boundR t (t.getD i default) else 0)
 else nodeR i (t.getD i default)
def validFrom (t:List GN):Nat→Nat→Int
 | _,0=>0
 | i,n+1=>if checkR t i=0 then validFrom t (i+1) n else checkR t i
def validT (t:List GN):Int:=if 4096<t.length then 4 else validFrom t 0 t.length
theorem validFrom_ok:∀ (t:List GN)(i n:Nat),validFrom t i n=0 ↔ ∀ j,i≤j→j<i+n→checkR t j=0
 | _,i,0=>by simp only [validFrom,true_iff];intro j h1 h2;omega
 | t,i,n+1=>by
  simp only [validFrom]
  by_cases h:checkR t i=0
  ·rw [if_pos h,validFrom_ok t (i+1) n]
   constructor
   ·intro h1 j h2 h3
    rcases Nat.eq_or_lt_of_le h2 with rfl | h2
    ·exact h
    ·exact h1 j (by omega) (by omega)
   ·intro h1 j h2 h3
    exact h1 j (by omega) (by omega)
  ·rw [if_neg h]
   constructor
   ·intro h1;exact absurd h1 h
   ·intro h1;exact absurd (h1 i (by omega) (by omega)) h
def GoodTo (t:List GN)(i:Nat):Prop:=i≤t.length∧t.length≤4096∧∀ j,j<i→checkR t j=0
structure NodeOK (j:Nat)(x:GN):Prop where
 kind:0≤x.kind∧x.kind≤4
 unused:unusedB x=true
 kids:∀ z ∈ x.kids,0≤z∧z<(j:Int)
 choice:x.kind=2→1≤x.kids.length∧x.kids.length≤256∧x.weights.length=x.kids.length∧(x.labels.length=0∨x.labels.length=x.kids.length)
 seq:x.kind=3→x.kids.length≤256∧(emptyB x.name=true∨(capB x.name=true∧x.kids.length≤16))
 bind:x.kind=4→x.kids.length=x.values.length+1
 inc:Inc x.values
 valid:firstErr (ownVals x)=0
 numbers:numbersB x=true
theorem nodeR_ok {j:Nat}{x:GN}:nodeR j x=0 ↔ NodeOK j x:=by
 unfold nodeR
 constructor
 ·intro h
  split at h
  ·omega
  ·next hf =>
   rw [Bool.not_eq_false] at hf
   split at h
   ·next hv =>
    split at h
    ·next hn =>
     unfold formedN fmA fmC fmS fmK at hf
     simp only [Bool.and_eq_true,Bool.not_eq_true',Bool.or_eq_false_iff,Bool.and_eq_false_imp,decide_eq_false_iff_not,decide_eq_true_eq,Bool.not_eq_false',List.all_eq_true] at hf
     obtain ⟨⟨⟨⟨⟨⟨h1,h2⟩,h3⟩,h4⟩,h5⟩,h6,h7⟩,h8⟩:=hf
     refine ⟨⟨by omega,by omega⟩,h1,fun z hz=>?_,fun hk=>?_,fun hk=>?_,fun hk=>?_,incB_inc.1 h8,hv,hn⟩
     ·have:=h4 z hz;omega
     ·obtain ⟨⟨⟨a,b⟩,c⟩,d⟩:=h5 hk
      refine ⟨by omega,by omega,c,?_⟩
      by_cases hl:x.labels.length=0
      ·exact .inl hl
      ·exact .inr (d (by omega))
     ·obtain ⟨a,b⟩:=h6 hk
      refine ⟨by omega,?_⟩
      by_cases he:emptyB x.name=true
      ·exact .inl he
      ·obtain ⟨c,d⟩:=b (by simpa using he)
       exact .inr ⟨c,by omega⟩
     ·exact h7 hk
    ·omega
   ·omega
 ·intro h
  have hf:formedN j x=true:=by
   unfold formedN fmA fmC fmS fmK
   simp only [Bool.and_eq_true,Bool.not_eq_true',Bool.or_eq_false_iff,Bool.and_eq_false_imp,decide_eq_false_iff_not,decide_eq_true_eq,Bool.not_eq_false',List.all_eq_true]
   refine ⟨⟨⟨⟨⟨⟨h.unused,by have:=h.kind;omega⟩,by have:=h.kind;omega⟩,fun z hz=>by have:=h.kids z hz;omega⟩,fun hk=>?_⟩,fun hk=>?_,fun hk=>h.bind hk⟩,incB_inc.2 h.inc⟩
   ·obtain ⟨a,b,c,d⟩:=h.choice hk
    exact ⟨⟨⟨by omega,by omega⟩,c⟩,fun hl=>by omega⟩
   ·obtain ⟨a,b⟩:=h.seq hk
    refine ⟨by omega,fun he=>?_⟩
    rcases b with b | ⟨b,c⟩
    ·rw [b] at he;cases he
    ·exact ⟨b,by omega⟩
  rw [if_neg (by simp [hf]),if_pos h.valid,if_pos h.numbers]
structure CheckOK (t:List GN)(j:Nat):Prop where
 node:NodeOK j (t.getD j default)
 len:(lensR t).getD j 0≤256
 size:(sizesR t).getD j 0≤1024
 many:(t.getD j default).kind=4→((listsR t).getD ((t.getD j default).kids.getD 0 0).toNat default).many=false
 vals:(t.getD j default).kind=4→((listsR t).getD ((t.getD j default).kids.getD 0 0).toNat default).vals=(t.getD j default).values
theorem checkR_ok {t:List GN}{j:Nat}:checkR t j=0 ↔ CheckOK t j:=by
 unfold checkR
 constructor
 ·intro h
  split at h
  ·next hn =>
   split at h
   ·omega
   ·next hl =>
    split at h
    ·next hk =>
     unfold boundR at h
     split at h
     ·omega
     ·next hm =>
      split at h
      ·next hs=>exact ⟨nodeR_ok.1 hn,by omega,by omega,fun _=>by simpa using hm,fun _=>sameVsB_eq.1 hs⟩
      ·omega
    ·next hk=>exact ⟨nodeR_ok.1 hn,by omega,by omega,fun h=>absurd h hk,fun h=>absurd h hk⟩
  ·next hn=>exact absurd h hn
 ·intro h
  rw [if_pos (nodeR_ok.2 h.node),if_neg (by have:=h.len;have:=h.size;omega)]
  split
  ·next hk =>
   unfold boundR
   rw [if_neg (by rw [h.many hk];simp),if_pos (sameVsB_eq.2 (h.vals hk))]
  ·rfl
theorem GoodTo.at_ {t:List GN}{i j:Nat}(h:GoodTo t i)(hj:j<i):CheckOK t j:=checkR_ok.1 (h.2.2 j hj)
theorem GoodTo.mono {t:List GN}{i j:Nat}(h:GoodTo t i)(hj:j≤i):GoodTo t j:=⟨by have:=h.1;omega,h.2.1,fun k hk=>h.2.2 k (by omega)⟩
theorem validT_ok {t:List GN}:validT t=0 ↔ GoodTo t t.length:=by
 unfold validT GoodTo
 constructor
 ·intro h
  split at h
  ·omega
  ·next hl=>exact ⟨Nat.le_refl _,by omega,fun j hj=>(validFrom_ok t 0 t.length).1 h j (by omega) (by omega)⟩
 ·rintro ⟨_,h1,h2⟩
  rw [if_neg (by omega)]
  exact (validFrom_ok t 0 t.length).2 (fun j _ hj=>h2 j (by omega))
theorem numbersB_ok {x:GN}(h:numbersB x=true):x.lo≤x.hi∧-4611686018427387904≤x.lo∧x.hi≤4611686018427387904∧x.hi<x.lo+1099511627776:=by
 unfold numbersB numA at h
 simp only [Bool.and_eq_true,Bool.not_eq_true',Bool.or_eq_false_iff,decide_eq_false_iff_not] at h
 omega
theorem rangeV_len (lo:Int)(n:Nat):(rangeV lo n).length=n:=by
 induction n generalizing lo with
 | zero=>rfl
 | succ n ih=>simp [rangeV,ih]
theorem rangeV_mem {lo:Int}{n:Nat}{v:GV}:v ∈ rangeV lo n ↔ ∃ k:Int,lo≤k∧k<lo+n∧v=.mk 0 k ByteArray.empty []:=by
 induction n generalizing lo with
 | zero=>simp only [rangeV,List.not_mem_nil,false_iff];rintro ⟨k,h1,h2,_⟩;omega
 | succ n ih =>
  simp only [rangeV,List.mem_cons,ih]
  constructor
  ·rintro (h | ⟨k,h1,h2,h3⟩)
   ·exact ⟨lo,by omega,by omega,h⟩
   ·exact ⟨k,by omega,by omega,h3⟩
  ·rintro ⟨k,h1,h2,h3⟩
   by_cases hk:k=lo
   ·subst hk;exact .inl h3
   ·exact .inr ⟨k,by omega,by omega,h3⟩
theorem cmpV_int (a b:Int):cmpV (.mk 0 a ByteArray.empty []) (.mk 0 b ByteArray.empty [])=cmpI a b:=by
 simp only [cmpV,cmpVs]
 rw [cmpI_eq rfl,cmpS_eq rfl]
 simp only [if_true]
 split
 ·next h=>exact h.symm
 ·rfl
theorem rangeV_inc (lo:Int)(n:Nat):Inc (rangeV lo n):=by
 induction n generalizing lo with
 | zero=>exact .nil
 | succ n ih =>
  refine List.pairwise_cons.2 ⟨fun y hy=>?_,ih _⟩
  obtain ⟨k,h1,h2,rfl⟩:=rangeV_mem.1 hy
  unfold ltV
  rw [cmpV_int,cmpI_neg]
  omega
abbrev IncL (l:List (List GV)):Prop:=l.Pairwise (fun a b=>cmpVs a b<0)
theorem cmpVs_snoc {a b:List GV}(h:a.length=b.length)(x y:GV):cmpVs (a ++ [x]) (b ++ [y])=if cmpVs a b=0 then cmpV x y else cmpVs a b:=by
 induction a generalizing b with
 | nil =>
  cases b with
  | nil=>simp only [List.nil_append,cmpVs,if_true];split <;> omega
  | cons _ _=>simp at h
 | cons u us ih =>
  cases b with
  | nil=>simp at h
  | cons v vs =>
   simp only [List.cons_append,cmpVs]
   rw [ih (by simpa using h)]
   by_cases h0:cmpV u v=0
   ·simp [h0]
   ·simp [h0]
theorem rowsR_len (rows:List (List GV))(vals:List GV):(rowsR rows vals).length=rows.length*vals.length:=by
 unfold rowsR
 induction rows with
 | nil=>simp
 | cons r rs ih=>simp only [List.flatMap_cons,List.length_append,List.length_map,ih,List.length_cons,Nat.add_mul];omega
theorem rowsR_mem {rows:List (List GV)}{vals:List GV}{r:List GV}:r ∈ rowsR rows vals ↔ ∃ q ∈ rows,∃ v ∈ vals,r=q ++ [v]:=by
 unfold rowsR
 simp only [List.mem_flatMap,List.mem_map]
 constructor
 ·rintro ⟨q,hq,v,hv,rfl⟩;exact ⟨q,hq,v,hv,rfl⟩
 ·rintro ⟨q,hq,v,hv,rfl⟩;exact ⟨q,hq,v,hv,rfl⟩
theorem rowsR_inc {rows:List (List GV)}{vals:List GV}{n:Nat}(hr:IncL rows)(hn:∀ r ∈ rows,r.length=n)(hv:Inc vals) :
  IncL (rowsR rows vals)∧∀ r ∈ rowsR rows vals,r.length=n+1:=by
 refine ⟨?_,fun r h=>by obtain ⟨q,hq,v,_,rfl⟩:=rowsR_mem.1 h;simp [hn q hq]⟩
 unfold rowsR
 induction rows with
 | nil=>simp
 | cons q qs ih =>
  rw [List.flatMap_cons]
  have hq:=List.pairwise_cons.1 hr
  refine List.pairwise_append.2 ⟨?_,ih hq.2 (fun r h=>hn r (by simp [h])),?_⟩
  ·rw [List.pairwise_map]
   refine hv.imp (fun {a b} h=>?_)
   rw [cmpVs_snoc rfl,cmpVs_self,if_pos rfl]
   exact h
  ·intro a ha b hb
   obtain ⟨v,_,rfl⟩:=List.mem_map.1 ha
   obtain ⟨r,hr,hb⟩:=List.mem_flatMap.1 hb
   obtain ⟨u,_,rfl⟩:=List.mem_map.1 hb
   have h1:=hq.1 r hr
   rw [cmpVs_snoc (by rw [hn q (by simp),hn r (by simp [hr])])]
   rw [if_neg (by omega)]
   exact h1
theorem madeV_cmp (s:ByteArray)(a b:List GV):cmpV (madeV s a) (madeV s b)=cmpVs a b:=by
 unfold madeV
 split <;> simp [cmpV,cmpI_eq,cmpS_eq]
theorem madeV_inc (s:ByteArray){rows:List (List GV)}(h:IncL rows):Inc (rows.map (madeV s)):=by
 rw [Inc,List.pairwise_map]
 exact h.imp (fun {a b} h=>by unfold ltV;rw [madeV_cmp];exact h)
structure LOK (l:GL):Prop where
 none_:l.many=true→l.vals=[]
 inc:Inc l.vals
 some_:l.many=false→l.vals ≠ []
 few:l.vals.length≤1024
theorem Inc.nil:Inc []:=List.Pairwise.nil
theorem LOK.many_:LOK ⟨[],true⟩:=⟨fun _=>rfl,Inc.nil,fun h=>(by cases h),Nat.zero_le _⟩
theorem seqRows_ok {before:List GL}:∀ (zs:List Int)(rows:List (List GV))(n:Nat),(∀ z ∈ zs,LOK (before.getD z.toNat default))→IncL rows→(∀ r ∈ rows,r.length=n)→rows ≠ []→rows.length≤1024 →
  ∀ out,seqRows before rows zs=some out→IncL out∧out ≠ []∧out.length≤1024∧(∀ r ∈ out,r.length=n+zs.length)
 | [],rows,n,_,h1,h2,h3,h4,out,h=>by
  simp only [seqRows,Option.some.injEq] at h
  subst h
  exact ⟨h1,h3,h4,h2⟩
 | z :: zs,rows,n,hz,h1,h2,h3,h4,out,h=>by
  simp only [seqRows] at h
  split at h
  ·cases h
  ·next hm =>
   have hl:=hz z (by simp)
   have hmf:(before.getD z.toNat default).many=false:=by
    cases e:(before.getD z.toNat default).many
    ·rfl
    ·exact absurd (.inl e) hm
   have hne:=hl.some_ hmf
   obtain ⟨h5,h6⟩:=rowsR_inc h1 h2 hl.inc
   have hlen:=rowsR_len rows (before.getD z.toNat default).vals
   have hpos:0<rows.length*(before.getD z.toNat default).vals.length:=Nat.mul_pos (List.length_pos_iff.2 h3) (List.length_pos_iff.2 hne)
   obtain ⟨a,b,c,d⟩:=seqRows_ok zs _ (n+1) (fun y hy=>hz y (by simp [hy])) h5 h6 (by intro e;rw [e] at hlen;rw [← hlen] at hpos;exact absurd hpos (by decide)) (by rw [hlen];omega) out h
   exact ⟨a,b,c,fun r hr=>by rw [d r hr];simp;omega⟩
theorem uniR_ok {before:List GL}{bind:Bool}:∀ (zs:List Int)(k:Nat)(out:List GV)(m:Bool),(∀ z ∈ zs,LOK (before.getD z.toNat default))→Inc out→(m=false→out.length≤1024) →
  (out ≠ []∨m=true∨(if bind=true∧k=0 then 2≤zs.length else 1≤zs.length))→LOK (uniR before bind k out m zs)
 | [],k,out,m,_,h1,h2,h3=>by
  simp only [uniR]
  split
  ·exact LOK.many_
  ·next hm =>
   have hmf:m=false:=by simpa using hm
   refine ⟨fun h=>(by cases h),h1,fun _=>?_,h2 hmf⟩
   rcases h3 with h3 | h3 | h3
   ·exact h3
   ·exact absurd h3 hm
   ·split at h3 <;> simp at h3
 | z :: zs,k,out,m,hz,h1,h2,h3=>by
  simp only [uniR]
  split
  ·next hb =>
   refine uniR_ok zs (k+1) out m (fun y hy=>hz y (by simp [hy])) h1 h2 ?_
   rcases h3 with h3 | h3 | h3
   ·exact .inl h3
   ·exact .inr (.inl h3)
   ·rw [if_pos hb] at h3
    refine .inr (.inr ?_)
    rw [if_neg (by omega)]
    simp at h3
    omega
  ·next hb =>
   have hl:=hz z (by simp)
   refine uniR_ok zs (k+1) _ _ (fun y hy=>hz y (by simp [hy])) (sortR_inc _) ?_ ?_
   ·intro h
    simp only [Bool.or_eq_false_iff,decide_eq_false_iff_not] at h
    omega
   ·cases e:(before.getD z.toNat default).many
    ·left
     have hne:=hl.some_ e
     intro h0
     obtain ⟨v,hv⟩:=List.exists_mem_of_ne_nil _ hne
     have:=(sortR_mem (out ++ (before.getD z.toNat default).vals) v).2 (List.mem_append_right _ hv)
     rw [h0] at this
     simp at this
    ·right;left;simp
theorem lists_kid {t:List GN}{j:Nat}(hj:j<t.length){z:Int}(hz:0≤z∧z<(j:Int)):(listsR (t.take j)).getD z.toNat default=(listsR t).getD z.toNat default:=by
 unfold listsR
 rw [accL_take _ _ _ (by omega)]
 have h:z.toNat<j:=by omega
 simp [List.getD,h]
theorem lists_get {t:List GN}{j:Nat}(hj:j<t.length):(listsR t).getD j default=listR (listsR (t.take j)) (t.getD j default):=accL_get listR default t hj
theorem lists_ok {t:List GN}{i:Nat}(h:GoodTo t i):∀ j,j<i→LOK ((listsR t).getD j default):=by
 intro j
 induction j using Nat.strongRecOn with
 | ind j ih =>
  intro hj
  have hjt:j<t.length:=by have:=h.1;omega
  have hc:=h.at_ hj
  rw [lists_get hjt]
  generalize hx:t.getD j default=x at *
  have hn:NodeOK j x:=by have:=hc.node;rw [hx] at this;exact this
  have hk:∀ z ∈ x.kids,LOK ((listsR (t.take j)).getD z.toNat default):=by
   intro z hz
   have hz':=hn.kids z hz
   rw [lists_kid hjt hz']
   exact ih z.toNat (by omega) (by omega)
  unfold listR
  split
  ·exact ⟨fun h=>(by cases h),List.pairwise_singleton _ _,fun _=>by simp,by simp⟩
  ·split
   ·have hr:=numbersB_ok hn.numbers
    split
    ·exact LOK.many_
    ·refine ⟨fun h=>(by cases h),rangeV_inc _ _,fun _ e=>?_,?_⟩
     ·have:=rangeV_len x.lo (x.hi - x.lo+1).toNat
      have e':rangeV x.lo (x.hi - x.lo+1).toNat=[]:=e
      rw [e'] at this
      simp at this
      omega
     ·show (rangeV x.lo (x.hi - x.lo+1).toNat).length≤1024
      rw [rangeV_len];omega
   ·split
    ·unfold seqR
     split
     ·exact LOK.many_
     ·next rows hrows =>
      obtain ⟨a,b,c,d⟩:=seqRows_ok x.kids [[]] 0 hk (List.pairwise_singleton _ _) (by simp) (by simp) (by simp) rows hrows
      have hi:=madeV_inc x.name a
      refine ⟨fun h=>(by cases h),sortR_inc _,fun _=>?_,?_⟩
      ·show sortR _ ≠ []
       rw [sortR_id hi];simpa using b
      ·show (sortR _).length≤1024
       rw [sortR_id hi];simpa using c
    ·next h0 h1 h3 =>
     refine uniR_ok _ _ _ _ hk Inc.nil (fun _=>Nat.zero_le _) (.inr (.inr ?_))
     have hkd:=hn.kind
     by_cases h2:x.kind=2
     ·rw [if_neg (by simp [h2])]
      have:=(hn.choice h2).1
      omega
     ·have h4:x.kind=4:=by omega
      rw [if_pos (by simp [h4])]
      have hb:=hn.bind h4
      have hm:=hc.many (by rw [hx];exact h4)
      have hv:=hc.vals (by rw [hx];exact h4)
      rw [hx] at hm hv
      have hz:x.kids.getD 0 0 ∈ x.kids:=getD_mem (by omega)
      have hz':=hn.kids _ hz
      have hl:=ih (x.kids.getD 0 0).toNat (by omega) (by omega)
      have:=hl.some_ hm
      rw [hv] at this
      have:=List.length_pos_iff.2 this
      omega
theorem kids_few {t:List GN}{i:Nat}(h:GoodTo t i){j:Nat}(hj:j<i):(t.getD j default).kids.length≤1025∧(t.getD j default).values.length≤1024∧((t.getD j default).kind=4→1≤(t.getD j default).values.length):=by
 have hc:=h.at_ hj
 have hn:=hc.node
 generalize hx:t.getD j default=x at *
 have hu:=hn.unused
 unfold unusedB unA unB unC at hu
 simp only [Bool.and_eq_true,Bool.not_eq_true',Bool.or_eq_false_iff,Bool.and_eq_false_imp,Bool.or_eq_true,decide_eq_false_iff_not,decide_eq_true_eq,Bool.not_eq_false'] at hu
 have hkd:=hn.kind
 by_cases h4:x.kind=4
 ·have hb:=hn.bind h4
  have hm:=hc.many (by rw [hx];exact h4)
  have hv:=hc.vals (by rw [hx];exact h4)
  rw [hx] at hm hv
  have hz:x.kids.getD 0 0 ∈ x.kids:=getD_mem (by omega)
  have hz':=hn.kids _ hz
  have hl:=lists_ok h (x.kids.getD 0 0).toNat (by omega)
  have h1:=hl.some_ hm
  have h2:=hl.few
  rw [hv] at h1 h2
  have:=List.length_pos_iff.2 h1
  exact ⟨by omega,h2,fun _=>by omega⟩
 ·have hv:x.values.length=0:=by
   have:=hu.1.2.2 h4
   omega
  refine ⟨?_,by omega,fun h=>absurd h h4⟩
  by_cases h2:x.kind=2
  ·have:=hn.choice h2;omega
  by_cases h3:x.kind=3
  ·have:=hn.seq h3;omega
  have:x.kids.length=0:=by
   rcases hu.2 with ⟨a,b⟩ | h
   ·omega
   ·omega
  omega
end Go.Proofs.YtkoeecdjijfjnaaGreat
