/- Contracts of functions. Conditions: none. -/
import Derived.Maps.AppendAt
import Derived.Deep.AppendLies
import Derived.RegionTactic
import Derived.OwnWalk
import Derived.Deep.DeepCutAuto
import Derived.Test.YtkoeecdjijfjnaaGreatA8
set_option maxRecDepth 100000
set_option maxHeartbeats 8000000
namespace Go.Proofs.YtkoeecdjijfjnaaGreat
open Go.RowKit
theorem qW (N:Nat)(hS:gY 152 (fun b=>b) aE N):gY 152 (fun b=>b) aE (N+1):=by
 intro x A c P w hN hx
 show Calls Tryz.prog 152 #[eF x A c] w (dV (.bool (dR aE x)) w)
 rcases Int.lt_or_le x.kind 0 with hk | hk0
 ·exact vS N x A c P w hN hx hk
 rcases Int.lt_or_le 3 x.kind with hk | hk3
 ·exact vX N x A c P w hN hx hk
 have h4:x.kind=0∨x.kind=1∨x.kind=2∨x.kind=3:=U
 rcases h4 with hk | hk | hk | hk
 ·by_cases he:x.s.toList=[]
  ·rcases Nat.lt_or_ge 0 x.kids.length with hl | hl
   ·exact tI N x A c P w hN hx hk he hl
   ·exact vW N hS x A c P w hN hx hk he hl
  ·exact tJ N x A c P w hN hx hk he
 ·by_cases he:x.s.toList=[]
  ·rcases Nat.lt_or_ge 0 x.kids.length with hl | hl
   ·exact tG N x A c P w hN hx hk he hl
   ·rcases Int.lt_or_le x.n 0 with hn | hn
    ·exact tE N x A c P w hN hx hk he hl hn
    ·rcases Int.lt_or_le 1 x.n with hn2 | hn2
     ·exact tF N x A c P w hN hx hk he hl hn2
     ·exact vV N hS x A c P w hN hx hk he hl hn hn2
  ·exact tH N x A c P w hN hx hk he
 ·by_cases he:x.s.toList=[]
  ·by_cases hn:x.n=0
   ·exact vU N hS x A c P w hN hx hk he hn
   ·exact tC N x A c P w hN hx hk he hn
  ·exact tD N x A c P w hN hx hk he
 ·cases he:qD x.s
  ·exact tB N x A c P w hN hx hk he
  ·by_cases hn:x.n=0
   ·exact vT N hS x A c P w hN hx hk he hn
   ·exact tA N x A c P w hN hx hk he hn
theorem tK (N:Nat):gY 152 (fun b=>b) aE N:=by
 induction N with
 | zero=>intro x A c P w hN;omega
 | succ N ih=>exact qW N ih
def eE (x:GV):Int:=if dR aE x=false then 1 else if dR bX x=false∨1024<rsz x then 4 else 0
theorem lR (x:GV)(A:Option Addr)(c:Nat)(P:Nat->Prop)(w:World)(hx:VAt w P x A c) :
  Calls Tryz.prog 109 #[eF x A c] w (dV (.int .i64 (eE x)) w):=by
 have HX:=aYl hx;have HV:=aYl (show eE x=if dR aE x=false then 1 else if dR bX x=false∨1024<rsz x then 4 else 0 from rfl);clear hx;go_enter Tryz.func109,Tryz.ntmps109;go_wp2_with fail;refine (tK (gsz x+1) x A c P _ U (HX.out.ext ((Ext.refl _).alloc' _))).mono ?_;rintro e w1 ⟨rfl,hx1⟩;have BX:=aYl ((Blk.new w 85 #[↑x.kind,↑x.n,.string x.s,.slice A x.kids.length c]).ext hx1);have HX1:=aYl (((Ext.refl w).alloc' _).trans' hx1);have x0:=BX.out.cell' (u:=↑x.kind) 0 rfl;have x1:=BX.out.cell' (u:=↑x.n) 1 rfl;have x2:=BX.out.cell' (u:=.string x.s) 2 rfl;have x3:=BX.out.cell' (u:=.slice A x.kids.length c) 3 rfl;clear hx1;generalize dR aE x=b1 at *
 cases b1
 ·go_wp2_with fail
  go_ret;exact ⟨aH gv,HX1.out⟩
 ·go_wp2_with fail
  refine (yL (gsz x+1) x A c P _ U (HX.out.ext HX1.out)).mono ?_;rintro e w2 ⟨rfl,hx2⟩;have BX2:=aYl (BX.out.ext hx2);have HX2:=aYl (HX1.out.trans' hx2);clear hx2 x0 x1 x2 x3;have x0:=BX2.out.cell' (u:=↑x.kind) 0 rfl;have x1:=BX2.out.cell' (u:=↑x.n) 1 rfl;have x2:=BX2.out.cell' (u:=.string x.s) 2 rfl;have x3:=BX2.out.cell' (u:=.slice A x.kids.length c) 3 rfl;generalize dR bX x=b2 at *
  cases b2
  ·go_wp2_with fail
   go_ret;exact ⟨aH gv,HX2.out⟩
  ·go_wp2_with fail
   refine (oY x A c P _ (HX.out.ext HX2.out)).mono ?_;rintro e w3 ⟨rfl,hx3⟩;have HX3:=aYl (HX2.out.trans' hx3);clear hx3;generalize rsz x=z at *;go_wp2_with fail
   all_goals
    go_ret;refine ⟨aH ?_,HX3.out⟩;rw [HV.out]
    simp_all
    try omega
theorem dH (b off j:Nat):(Addr.mk b off none).add j=⟨b,off+j,none⟩:=by
 unfold Addr.add
 split
 ·next h=>subst h;rfl
 ·rfl
theorem Fr.of_grown {w w':World}{row:Option Nat}(h:w.grownBy w' row):Fr (fun k=>some k=row) w w' :=
 ⟨h.os,h.tape,h.output,h.size,fun k hk hm=>h.block k hk hm⟩
section
variable {P:Program}
theorem nP (w:World)(base:Nat)(t ty e:TypeId)(i:TypeInfo)(size:Nat)(ht:P.underlying t=some (.slice e))(hi:P.info? e=some i)
  (v:Value)(n:Nat)(xs:List Value)(hown:w.ownsRow base e size v n xs)(c:Nat):(Builtin.append_ #[t,t] ty #[v,.slice none 0 c]).run P w=.ok v w:=by
 rcases hown.2 with ⟨rfl,rfl⟩ | ⟨g,cap,cur,rfl,_,_,hnc,_⟩
 ·simp [Builtin.append_,run_underlying ht,sizeOf,typeInfo,hi,Builtin.lenOf,Builtin.firstCells]
 ·simp [Builtin.append_,run_underlying ht,sizeOf,typeInfo,hi,Builtin.lenOf,Builtin.firstCells,hnc,storeCells]
theorem sY (w:World)(base:Nat)(t ty e:TypeId)(i:TypeInfo)(z:Value)(size bytes:Nat)(ht:P.underlying t=some (.slice e))(hi:P.info? e=some i)(hz:i.zero=some z)
  (hsize:i.size=size)(hby:i.bytes=bytes)(hzs:z.cells.size=size)(hsz:0<size)
  (v:Value)(n:Nat)(xs:List Value)(hown:w.ownsRow base e size v n xs)
  (S:Nat->Prop)(A:Option Addr)(m c:Nat)(news:List Value)(hr:Sl w S size A m news)(h1:∀ u ∈ news,u.oneCell'=true)
  (h63:n+m<=1000000000000)(hbytes:(n+m)*bytes<=140737488355328)(hbase:base<=w.heap.size) :
  ∃ v' w',(Builtin.append_ #[t,t] ty #[v,.slice A m c]).run P w=.ok v' w'∧w'.ownsRow base e size v' (n+m) (xs ++ news)∧Fr (fun k=>some k=v.ownBlock) w w' ∧
   (v'.ownBlock=v.ownBlock∨v'.ownBlock=some w.heap.size):=by
 have h63':n+m<=maxLen:=cj
 rcases A with _ | ad
 ·have hm:m=0:=by
   rcases Nat.eq_zero_or_pos m with h0 | h0
   ·exact h0
   ·obtain ⟨b,off,h,_⟩:=hr.2 h0
    cases h
  subst hm;have hn:news=[]:=List.eq_nil_of_length_eq_zero (by simpa using hr.1);subst hn;exact ⟨v,w,nP w base t ty e i size ht hi v n xs hown c,by simpa using hown,Fr.refl _ _,.inl rfl⟩
 ·have hcells:∀ j u,news[j]?=some u->w.cell? (ad.add j)=some u:=by
   intro j u hu;rcases Nat.eq_zero_or_pos m with h0 | h0
   ·subst h0
    have hn:news=[]:=List.eq_nil_of_length_eq_zero (by simpa using hr.1);subst hn;simp at hu
   ·obtain ⟨b,off,h,_,hc⟩:=hr.2 h0
    injection h with h;subst h;rw [dH];exact hc j u hu
  obtain ⟨v',w',hrun,h2,h3,_,h5⟩:=run_append_own_at (P:=P) w base t ty e i z size bytes ht hi hz hsize hby hzs hsz v n xs hown ad m c news hr.1 hcells h1 h63' hbytes hbase;exact ⟨v',w',hrun,h2,Fr.of_grown h3,h5⟩
theorem nH (w:World){o:Oper}{a:Act}{K:Act->World->Prop}{Q:Exit->Act->World->Prop}(s x:Operand)(t:TypeId)
  (ho:o.op=.call { callee:=.builtin .append,args:=#[s,x],argTypes:=#[t,t] })
  (base:Nat)(e:TypeId)(i:TypeInfo)(z:Value)(size bytes:Nat)(ht:P.underlying t=some (.slice e))(hi:P.info? e=some i)(hz:i.zero=some z)
  (hsize:i.size=size)(hby:i.bytes=bytes)(hzs:z.cells.size=size)(hsz:0<size)
  (v:Value)(n:Nat)(xs:List Value)(hs:a.eval s=v)(hown:w.ownsRow base e size v n xs)
  (S:Nat->Prop)(A:Option Addr)(m c:Nat)(news:List Value)(hx:a.eval x=.slice A m c)(hr:Sl w S size A m news)(h1:∀ u ∈ news,u.oneCell'=true)
  (h63:n+m<=1000000000000)(hbytes:(n+m)*bytes<=140737488355328)(hbase:base<=w.heap.size)
  (h:∀ v' w',w'.ownsRow base e size v' (n+m) (xs ++ news)->Fr (fun k=>some k=v.ownBlock) w w'->(v'.ownBlock=v.ownBlock∨v'.ownBlock=some w.heap.size)->K (a.put o.dst v') w'):o.wp P a w K Q:=by
 obtain ⟨v',w',hrun,h2,h3,h4⟩:=sY (P:=P) w base t o.type e i z size bytes ht hi hz hsize hby hzs hsz v n xs hown S A m c news hr h1 h63 hbytes hbase;unfold Oper.wp execOp;simp only [ho,resolve,invoke,builtin,Sem.run_bind,Sem.run_pure,Result.andThen_ok,List.map_toArray,List.map_cons,List.map_nil,hs,hx,hrun];exact h v' w' h2 h3 h4
theorem aK (w:World){ops:Array Oper}{rest:List Oper}{o:Oper}{a:Act}{Q:Exit->Act->World->Prop}(hgd:o.guard=none)(s x:Operand)(t:TypeId)
  (ho:o.op=.call { callee:=.builtin .append,args:=#[s,x],argTypes:=#[t,t] })
  (base:Nat)(e:TypeId)(i:TypeInfo)(z:Value)(size bytes:Nat)(ht:P.underlying t=some (.slice e))(hi:P.info? e=some i)(hz:i.zero=some z)
  (hsize:i.size=size)(hby:i.bytes=bytes)(hzs:z.cells.size=size)(hsz:0<size)
  (v:Value)(n:Nat)(xs:List Value)(hs:a.eval s=v)(hown:w.ownsRow base e size v n xs)
  (S:Nat->Prop)(A:Option Addr)(m c:Nat)(news:List Value)(hx:a.eval x=.slice A m c)(hr:Sl w S size A m news)(h1:∀ u ∈ news,u.oneCell'=true)
  (h63:n+m<=1000000000000)(hbytes:(n+m)*bytes<=140737488355328)(hbase:base<=w.heap.size)
  (h:∀ v' w',w'.ownsRow base e size v' (n+m) (xs ++ news)->Fr (fun k=>some k=v.ownBlock) w w'->(v'.ownBlock=v.ownBlock∨v'.ownBlock=some w.heap.size)->wpList P ops Q rest (a.put o.dst v') w'):wpList P ops Q (o :: rest) a w :=
 wpList_plain hgd fun _ hK=>nH w s x t ho base e i z size bytes ht hi hz hsize hby hzs hsz v n xs hs hown S A m c news hx hr h1 h63 hbytes hbase fun v' w' h2 h3 h4=>hK _ _ (h v' w' h2 h3 h4)
theorem eG (w:World){ops:Array Oper}{o:Oper}{a:Act}{K:Act->World->Prop}{Q:Exit->Act->World->Prop}{E:Prop}(hgd:o.guard=none)(s x:Operand)(t:TypeId)
  (ho:o.op=.call { callee:=.builtin .append,args:=#[s,x],argTypes:=#[t,t] })
  (base:Nat)(e:TypeId)(i:TypeInfo)(z:Value)(size bytes:Nat)(ht:P.underlying t=some (.slice e))(hi:P.info? e=some i)(hz:i.zero=some z)
  (hsize:i.size=size)(hby:i.bytes=bytes)(hzs:z.cells.size=size)(hsz:0<size)
  (v:Value)(n:Nat)(xs:List Value)(hs:a.eval s=v)(hown:w.ownsRow base e size v n xs)
  (S:Nat->Prop)(A:Option Addr)(m c:Nat)(news:List Value)(hx:a.eval x=.slice A m c)(hr:Sl w S size A m news)(h1:∀ u ∈ news,u.oneCell'=true)
  (h63:n+m<=1000000000000)(hbytes:(n+m)*bytes<=140737488355328)(hbase:base<=w.heap.size)
  (h:∀ v' w',w'.ownsRow base e size v' (n+m) (xs ++ news)->Fr (fun k=>some k=v.ownBlock) w w'->(v'.ownBlock=v.ownBlock∨v'.ownBlock=some w.heap.size)->K (a.put o.dst v') w') :
  if Region.wanted o (yielded ops a.tmps)=true then Oper.wp P o a w K Q else E:=by
 have hw:Region.wanted o (yielded ops a.tmps)=true:=by simp [Region.wanted,hgd]
 rw [if_pos hw];exact nH w s x t ho base e i z size bytes ht hi hz hsize hby hzs hsz v n xs hs hown S A m c news hx hr h1 h63 hbytes hbase h
end
theorem Sl.of_own {w:World}{base:Nat}{e:TypeId}{size n:Nat}{v:Value}{xs:List Value}(h:w.ownsRow base e size v n xs) :
  ∃ A c,v=.slice A n c∧n<=c∧c<=maxLen∧∀ Q:Nat->Prop,(∀ b,v.ownBlock=some b->Q b)->Sl w Q size A n xs:=by
 rcases h.2 with ⟨rfl,rfl⟩ | ⟨g,cap,cur,rfl,hg,hh,hn,hm,hs,ht⟩
 ·exact ⟨none,0,rfl,Nat.le_refl _,Nat.zero_le _,fun Q _=>⟨by simpa using h.1,fun h=>absurd h U⟩⟩
 ·refine ⟨_,cap,rfl,hn,hm,fun Q hQ=>⟨h.1,fun hn=>⟨g,0,rfl,hQ g rfl,fun j u hu=>?_⟩⟩⟩
  have hb:Blk w g e cur:=hh;rw [hb.cell];rw [<- ht,List.getElem?_take] at hu
  split at hu
  ·simpa using hu
  ·cases hu
def RL {α:Type}(R:α->List Value->Prop):List α->List Value->Prop
 | [],cs=>cs=[]
 | x :: xs,cs=>∃ c1 c2,cs=c1 ++ c2∧R x c1∧RL R xs c2
section
variable {α:Type}{R:α->List Value->Prop}{size:Nat}
theorem RL.mono {R':α->List Value->Prop}{l:List α}{cs:List Value}(h:RL R l cs)(hR:∀ x ∈ l,∀ cs,R x cs->R' x cs):RL R' l cs:=by
 induction l generalizing cs with
 | nil=>exact h
 | cons x xs ih =>
  simp only [RL] at h ⊢;obtain ⟨c1,c2,rfl,h1,h2⟩:=h;exact ⟨c1,c2,rfl,hR x Y _ h1,ih h2 (fun y hy=>hR y ao)⟩
theorem RL.append {a b:List α}{ca cb:List Value}(ha:RL R a ca)(hb:RL R b cb):RL R (a ++ b) (ca ++ cb):=by
 induction a generalizing ca with
 | nil=>simp only [RL] at ha;subst ha;exact hb
 | cons x xs ih =>
  simp only [RL] at ha;obtain ⟨c1,c2,rfl,h1,h2⟩:=ha;simp only [List.cons_append,RL];exact ⟨c1,c2 ++ cb,Y,h1,ih h2⟩
theorem RL.one {x:α}{c:List Value}(h:R x c):RL R [x] c:=by
 simp only [RL];exact ⟨c,[],Y,h,rfl⟩
theorem RL.drop (hR:∀ x cs,R x cs->cs.length=size){l:List α}{cs:List Value}(h:RL R l cs)(k:Nat):RL R (l.drop k) (cs.drop (k*size)):=by
 induction k generalizing l cs with
 | zero=>simpa using h
 | succ k ih =>
  cases l with
  | nil=>simp only [RL] at h;subst h;simp [RL]
  | cons x xs =>
   simp only [RL] at h;obtain ⟨c1,c2,rfl,h1,h2⟩:=h;have e:(k+1)*size=c1.length+k*size:=by rw [hR _ _ h1,Nat.add_mul];omega
   rw [e,List.drop_length_add_append];exact ih h2
theorem RL.take (hR:∀ x cs,R x cs->cs.length=size){l:List α}{cs:List Value}(h:RL R l cs)(k:Nat):RL R (l.take k) (cs.take (k*size)):=by
 induction k generalizing l cs with
 | zero=>simp [RL]
 | succ k ih =>
  cases l with
  | nil=>simp only [RL] at h;subst h;simp [RL]
  | cons x xs =>
   simp only [RL] at h;obtain ⟨c1,c2,rfl,h1,h2⟩:=h;have e:(k+1)*size=c1.length+k*size:=by rw [hR _ _ h1,Nat.add_mul];omega
   rw [e,List.take_length_add_append];simp only [List.take_succ_cons,RL];exact ⟨c1,_,rfl,h1,ih h2⟩
theorem RL.get (hR:∀ x cs,R x cs->cs.length=size){l:List α}{cs:List Value}(h:RL R l cs){i:Nat}(d:α)(hi:i<l.length) :
  R (l.getD i d) ((cs.drop (i*size)).take size):=by
 have h1:=h.drop hR i;rw [aG d hi] at h1;simp only [RL] at h1;obtain ⟨c1,c2,e,h2,_⟩:=h1;rw [e,<- hR _ _ h2,List.take_left']
 ·exact h2
 ·rfl
end
theorem aJe {w:World}{P:Nat->Prop}{l:List GV}{cs:List Value}:RVs w P l cs ↔ RL (RV w P) l cs:=by
 induction l generalizing cs with
 | nil=>simp [RVs,RL]
 | cons x xs ih=>simp [RVs,RL,ih]
def Lst {α:Type}(w:World)(P:Nat->Prop)(size:Nat)(R:α->List Value->Prop)(v:Value)(l:List α):Prop :=
 ∃ A c css,v=.slice A l.length c∧l.length<=c∧(l.length<=17592186044416∧c<=9223372036854775807)∧Sl w P size A l.length css∧RL R l css
theorem aBg {w:World}{P:Nat->Prop}{v:Value}{l:List GV}:bV w P v l ↔ Lst w P 4 (RV w P) v l:=by
 unfold bV Lst;simp only [aJe]
theorem Lst.at_ {α:Type}{w:World}{P:Nat->Prop}{size:Nat}{R:α->List Value->Prop}{v:Value}{l:List α}(hR:∀ x cs,R x cs->cs.length=size)(h:Lst w P size R v l)(d:α){i:Nat}(hi:i<l.length) :
  ∃ b off c cs,v=.slice (some ⟨b,off,none⟩) l.length c∧P b∧l.length<=c∧(l.length<=17592186044416∧c<=9223372036854775807)∧R (l.getD i d) cs∧(∀ j u,cs[j]?=some u->w.cell? ⟨b,off+i*size+j,none⟩=some u):=by
 obtain ⟨A,c,css,rfl,h2,h3,h4,h5⟩:=h;obtain ⟨b,off,rfl,hb,hc⟩:=h4.2 U;refine ⟨b,off,c,_,rfl,hb,h2,h3,h5.get hR d hi,fun j u hu=>?_⟩;rw [Nat.add_assoc]
 apply hc
 rw [List.getElem?_take] at hu
 split at hu
 ·rw [List.getElem?_drop] at hu;exact hu
 ·cases hu
theorem Lst.keep {α:Type}{w w':World}{P Q:Nat->Prop}{size:Nat}{R R':α->List Value->Prop}{v:Value}{l:List α}(h:Lst w P size R v l)(hk:aB P w w')(hPQ:∀ b,P b->Q b)(hR:∀ x ∈ l,∀ cs,R x cs->R' x cs):Lst w' Q size R' v l:=by
 obtain ⟨A,c,css,h1,h2,h3,h4,h5⟩:=h;exact ⟨A,c,css,h1,h2,h3,h4.keep hk hPQ,h5.mono hR⟩
structure GN where
 kind:Int
 name:ByteArray
 lo:Int
 hi:Int
 weights:List Int
 labels:List ByteArray
 values:List GV
 kids:List Int
 value:GV
instance:Inhabited GN:=⟨⟨0,ByteArray.empty,0,0,[],[],[],[],default⟩⟩
structure NA where
 wA:Option Addr
 wc:Nat
 lA:Option Addr
 lc:Nat
 vA:Option Addr
 vc:Nat
 kA:Option Addr
 kc:Nat
 xA:Option Addr
 xc:Nat
def aTy (s:ByteArray)(cs:List Value):Prop:=s.size<=17592186044416∧cs=[.string s]
def uP (w:World)(P:Nat->Prop)(v:Value)(l:List ByteArray):Prop:=Lst w P 1 aTy v l
structure NAt (w:World)(P:Nat->Prop)(x:GN)(a:NA):Prop where
 kind:I64 x.kind
 name:x.name.size<=17592186044416
 lo:I64 x.lo
 hi:I64 x.hi
 weights:aU w P (.slice a.wA x.weights.length a.wc) x.weights
 labels:uP w P (.slice a.lA x.labels.length a.lc) x.labels
 values:bV w P (.slice a.vA x.values.length a.vc) x.values
 kids:aU w P (.slice a.kA x.kids.length a.kc) x.kids
 value:VAt w P x.value a.xA a.xc
abbrev aL (x:GN)(a:NA):List Value :=
 [.int .i64 x.kind,.string x.name,.int .i64 x.lo,.int .i64 x.hi,.slice a.wA x.weights.length a.wc,.slice a.lA x.labels.length a.lc,.slice a.vA x.values.length a.vc,.slice a.kA x.kids.length a.kc,
  .int .i64 x.value.kind,.int .i64 x.value.n,.string x.value.s,.slice a.xA x.value.kids.length a.xc]
abbrev jJ (x:GN)(a:NA):Value :=
 .agg #[↑x.kind,.string x.name,↑x.lo,↑x.hi,.slice a.wA x.weights.length a.wc,.slice a.lA x.labels.length a.lc,.slice a.vA x.values.length a.vc,.slice a.kA x.kids.length a.kc,
  ↑x.value.kind,↑x.value.n,.string x.value.s,.slice a.xA x.value.kids.length a.xc]
def RN (w:World)(P:Nat->Prop)(x:GN)(cs:List Value):Prop:=∃ a,cs=aL x a∧NAt w P x a
theorem RN.len {w:World}{P:Nat->Prop}(x:GN)(cs:List Value)(h:RN w P x cs):cs.length=12:=by
 obtain ⟨a,rfl,_⟩:=h
 rfl
def Nds (w:World)(P:Nat->Prop)(v:Value)(l:List GN):Prop:=Lst w P 12 (RN w P) v l
section
variable {w w':World}{P Q:Nat->Prop}
theorem uP.keep {v:Value}{l:List ByteArray}(h:uP w P v l)(hk:aB P w w')(hPQ:∀ b,P b->Q b):uP w' Q v l:=Lst.keep h hk hPQ (fun _ _ _ h=>h)
theorem NAt.keep {x:GN}{a:NA}(h:NAt w P x a)(hk:aB P w w')(hPQ:∀ b,P b->Q b):NAt w' Q x a :=
 ⟨h.kind,h.name,h.lo,h.hi,h.weights.keep hk hPQ,h.labels.keep hk hPQ,h.values.keep hk hPQ,h.kids.keep hk hPQ,h.value.keep hk hPQ⟩
theorem NAt.ext {x:GN}{a:NA}(h:NAt w P x a)(hx:Ext w w'):NAt w' P x a:=h.keep (aB.of_ext hx) (fun _ h=>h)
theorem RN.keep {x:GN}{cs:List Value}(h:RN w P x cs)(hk:aB P w w')(hPQ:∀ b,P b->Q b):RN w' Q x cs:=by
 obtain ⟨a,e,h⟩:=h;exact ⟨a,e,h.keep hk hPQ⟩
theorem Nds.keep {v:Value}{l:List GN}(h:Nds w P v l)(hk:aB P w w')(hPQ:∀ b,P b->Q b):Nds w' Q v l:=Lst.keep h hk hPQ (fun _ _ _ h=>RN.keep h hk hPQ)
theorem Nds.ext {v:Value}{l:List GN}(h:Nds w P v l)(hx:Ext w w'):Nds w' P v l:=h.keep (aB.of_ext hx) (fun _ h=>h)
theorem aU.form {v:Value}{l:List Int}(h:aU w P v l):∃ A c,v=.slice A l.length c∧l.length<=c∧(l.length<=17592186044416∧c<=9223372036854775807):=by
 obtain ⟨A,c,h1,h2,h3,_⟩:=h;exact ⟨A,c,h1,h2,h3⟩
theorem bV.form {v:Value}{l:List GV}(h:bV w P v l):∃ A c,v=.slice A l.length c∧l.length<=c∧(l.length<=17592186044416∧c<=9223372036854775807):=by
 obtain ⟨A,c,_,h1,h2,h3,_⟩:=h;exact ⟨A,c,h1,h2,h3⟩
theorem Nds.form {v:Value}{l:List GN}(h:Nds w P v l):∃ A c,v=.slice A l.length c∧l.length<=c∧(l.length<=17592186044416∧c<=9223372036854775807):=by
 obtain ⟨A,c,_,h1,h2,h3,_⟩:=h;exact ⟨A,c,h1,h2,h3⟩
theorem aU.at_ {v:Value}{l:List Int}(h:aU w P v l){i:Nat}(hi:i<l.length) :
  ∃ b off c,v=.slice (some ⟨b,off,none⟩) l.length c∧P b∧l.length<=c∧(l.length<=17592186044416∧c<=9223372036854775807)∧I64 (l.getD i 0)∧w.cell? ⟨b,off+i,none⟩=some (.int .i64 (l.getD i 0)):=by
 obtain ⟨A,c,rfl,h2,h3,h4,h5⟩:=h;obtain ⟨b,off,rfl,hb,hc⟩:=h5.2 U;refine ⟨b,off,c,rfl,hb,h2,h3,?_,?_⟩
 ·exact h4 _ (aF hi)
 ·apply hc;simp [hi]
theorem Nds.at_ {v:Value}{l:List GN}(h:Nds w P v l){i:Nat}(hi:i<l.length) :
  ∃ b off c a,v=.slice (some ⟨b,off,none⟩) l.length c∧P b∧NAt w P (l.getD i default) a ∧
   (∀ j u,(aL (l.getD i default) a)[j]?=some u->w.cell? ⟨b,off+i*12+j,none⟩=some u):=by
 obtain ⟨b,off,c,cs,e,hb,_,_,⟨a,rfl,ha⟩,hc⟩:=Lst.at_ RN.len h default hi;exact ⟨b,off,c,a,e,hb,ha,hc⟩
end
def bU (w:World)(b o:Nat)(x:GN)(a:NA):Prop:=∀ j u,(aL x a)[j]?=some u->w.cell? ⟨b,o+j,none⟩=some u
section
variable {w:World}{b o:Nat}{x:GN}{a:NA} (h:bU w b o x a)
include h
theorem bU.c0:w.cell? ⟨b,o,none⟩=some (↑x.kind):=h 0 _ rfl
theorem bU.c1:w.cell? ⟨b,o+1,none⟩=some (.string x.name):=h 1 _ rfl
theorem bU.c2:w.cell? ⟨b,o+2,none⟩=some (↑x.lo):=h 2 _ rfl
theorem bU.c3:w.cell? ⟨b,o+3,none⟩=some (↑x.hi):=h 3 _ rfl
theorem bU.c4:w.cell? ⟨b,o+4,none⟩=some (.slice a.wA x.weights.length a.wc):=h 4 _ rfl
theorem bU.c5:w.cell? ⟨b,o+5,none⟩=some (.slice a.lA x.labels.length a.lc):=h 5 _ rfl
theorem bU.c6:w.cell? ⟨b,o+6,none⟩=some (.slice a.vA x.values.length a.vc):=h 6 _ rfl
theorem bU.c7:w.cell? ⟨b,o+7,none⟩=some (.slice a.kA x.kids.length a.kc):=h 7 _ rfl
theorem bU.c8:w.cell? ⟨b,o+8,none⟩=some (↑x.value.kind):=h 8 _ rfl
theorem bU.c9:w.cell? ⟨b,o+9,none⟩=some (↑x.value.n):=h 9 _ rfl
theorem bU.c10:w.cell? ⟨b,o+10,none⟩=some (.string x.value.s):=h 10 _ rfl
theorem bU.c11:w.cell? ⟨b,o+11,none⟩=some (.slice a.xA x.value.kids.length a.xc):=h 11 _ rfl
theorem bU.ext {w':World}(hx:Ext w w'):bU w' b o x a:=fun j u hu=>aA hx (h j u hu)
theorem bU.lt:b<w.heap.size:=aQ (bU.c0 h)
theorem bU.keep {w':World}{P:Nat->Prop}(hb:P b)(hk:aB P w w'):bU w' b o x a:=fun j u hu=>by
 have h1:=h j u hu;rw [<- h1];exact World.cell?_of_block (w:=w) (hk b (aQ h1) hb)
end
def bW (name:ByteArray)(kids:List GV):GV:=if aY name then .mk 2 0 ByteArray.empty kids else .mk 3 0 name kids
theorem oZ (x:GN)(a:NA)(kids:List GV)(A:Option Addr)(c:Nat)(w:World) :
  Calls Tryz.prog 204 #[jJ x a,.slice A kids.length c] w fun e w'=>e=.returned (eF (bW x.name kids) A c)∧Ext w w':=by
 by_cases he:x.name.toList=[]
 ·have he1:x.name.toList.isEmpty=true:=by simp [he]
  have HM:=aYl (show bW x.name kids=.mk 2 0 ByteArray.empty kids by unfold bW aY;rw [he1];rfl);go_enter Tryz.func204,Tryz.ntmps204;go_wp2_with fail;rw [HM.out];exact bodyPost_ret (v:=.agg #[.int .i64 2,.int .i64 0,.string ByteArray.empty,.slice A kids.length c]) (by simp [results,Tryz.results204,go_sem];rfl) rfl ⟨rfl,((Ext.refl _).alloc' _).alloc' _⟩
 ·have he1:x.name.toList.isEmpty=false:=by simpa using he
  have HM:=aYl (show bW x.name kids=.mk 3 0 x.name kids by unfold bW aY;rw [he1];rfl);go_enter Tryz.func204,Tryz.ntmps204;go_wp2_with fail;rw [HM.out];exact bodyPost_ret (v:=.agg #[.int .i64 3,.int .i64 0,.string x.name,.slice A kids.length c]) (by simp [results,Tryz.results204,go_sem]) rfl ⟨rfl,((Ext.refl _).alloc' _).alloc' _⟩
def aP (x:GN):Int:=if x.kind=1 then wrap64 (wrap64 (x.hi - x.lo)+1) else x.kids.length
theorem gU (x:GN)(a:NA)(w:World) :
  Calls Tryz.prog 99 #[jJ x a] w (dV (.int .i64 (aP x)) w):=by
 have HO:=aYl (show aP x=if x.kind=1 then wrap64 (wrap64 (x.hi - x.lo)+1) else x.kids.length from rfl);go_enter Tryz.func99,Tryz.ntmps99;go_wp2_with fail
 all_goals
  go_ret;refine ⟨aH ?_,(Ext.refl _).alloc' _⟩;rw [HO.out]
  simp_all
theorem gQ {s:ByteArray}(h:s.toList=[]):aY s=true:=by unfold aY;rw [h];rfl
theorem gR {s:ByteArray}(h:¬ s.toList=[]):aY s=false:=by unfold aY;simpa using h
def qO (v:GV):Bool:=decide (v.kind=0) && decide (v.n=0) && aY v.s && !decide (0<v.kids.length)
def unA (x:GN)(bv:Bool):Bool:=(!decide (x.kind=0) && !bv) || (!decide (x.kind=1) && (!decide (x.lo=0) || !decide (x.hi=0))) || (!decide (x.kind=3) && !aY x.name)
def unB (x:GN):Bool:=(!decide (x.kind=2) && (decide (0<x.weights.length) || decide (0<x.labels.length))) || (!decide (x.kind=4) && decide (0<x.values.length))
def unC (x:GN):Bool:=(!decide (x.kind=0) && !decide (x.kind=1)) || !decide (0<x.kids.length)
def gT (x:GN):Bool:=!unA x (qO x.value) && !unB x && unC x
theorem aBt (x:GN)(a:NA)(w:World) :
  Calls Tryz.prog 150 #[jJ x a] w (dV (.bool (gT x)) w):=by
 have HU:=aYl (show gT x=(!unA x (qO x.value) && !unB x && unC x) from rfl);go_enter Tryz.func150,Tryz.ntmps150;go_upto_region 2 with fail;go_cut [4] (fun s wx=>s=.bool (qO x.value)∧wx=(w.alloc (.cells (aL x a).toArray 87)).alloc (.cells #[↑x.value.kind,↑x.value.n,.string x.value.s,.slice a.xA x.value.kids.length a.xc] 85))
 case first =>
  by_cases hvk:x.value.kind=0
  ·have t0vk:(x.value.kind == 0)=true:=aYn hvk
   have Hvk:=aYl hvk;clear hvk
   by_cases hvn:x.value.n=0
   ·have t0vn:(x.value.n == 0)=true:=aYn hvn
    have Hvn:=aYl hvn;clear hvn
    by_cases hvs:x.value.s.toList=[]
    ·have t0vs:x.value.s.toList.isEmpty=true:=by rw [hvs];rfl
     by_cases hvl:0<x.value.kids.length
     ·have t0vl:decide (0<(x.value.kids.length:Int))=true:=aYo U
      have t1vl:((x.value.kids.length:Int) == 0)=false:=aYm U;go_wp2_with fail;go_meet;exact ⟨congrArg Value.bool (by unfold qO;rw [aYo Hvk.out,aYo Hvn.out,gQ hvs,aYo hvl];try rfl),rfl⟩
     ·have t0vl:decide (0<(x.value.kids.length:Int))=false:=aYp U
      have t1vl:((x.value.kids.length:Int) == 0)=true:=aYn U;go_wp2_with fail;go_meet;exact ⟨congrArg Value.bool (by unfold qO;rw [aYo Hvk.out,aYo Hvn.out,gQ hvs,aYp hvl];try rfl),rfl⟩
    ·have t0vs:x.value.s.toList.isEmpty=false:=by simpa using hvs
     go_wp2_with fail;go_meet;exact ⟨congrArg Value.bool (by unfold qO;rw [aYo Hvk.out,aYo Hvn.out,gR hvs];try rfl),rfl⟩
   ·have t0vn:(x.value.n == 0)=false:=aYm hvn
    go_wp2_with fail;go_meet;exact ⟨congrArg Value.bool (by unfold qO;rw [aYo Hvk.out,aYp hvn];try rfl),rfl⟩
  ·have t0vk:(x.value.kind == 0)=false:=aYm hvk
   go_wp2_with fail;go_meet;exact ⟨congrArg Value.bool (by unfold qO;rw [aYp hvk];try rfl),rfl⟩
 case rest =>
  obtain ⟨rfl,rfl⟩:=hcut;generalize qO x.value=bv at *;go_upto_region 3 with fail;go_cut [57] (fun s wx=>s=.bool (unA x bv)∧wx=(w.alloc (.cells (aL x a).toArray 87)).alloc (.cells #[↑x.value.kind,↑x.value.n,.string x.value.s,.slice a.xA x.value.kids.length a.xc] 85))
  case first =>
   by_cases hk0:x.kind=0
   ·have t0k0:(x.kind == 0)=true:=aYn hk0
    have t1k0:(x.kind != 0)=false:=by rw [bne_eq_false_iff_eq];exact hk0
    have hk1:¬ x.kind=1:=U
    have t0k1:(x.kind == 1)=false:=aYm hk1;have t1k1:(x.kind != 1)=true:=bne_iff_ne.2 hk1;have hk3:¬ x.kind=3:=by omega
    have t0k3:(x.kind == 3)=false:=aYm hk3;have t1k3:(x.kind != 3)=true:=bne_iff_ne.2 hk3;have Hk0:=aYl hk0;clear hk0
    by_cases hlo:x.lo=0
    ·have t0lo:(x.lo == 0)=true:=aYn hlo
     have t1lo:(x.lo != 0)=false:=by rw [bne_eq_false_iff_eq];exact hlo
     have Hlo:=aYl hlo;clear hlo
     by_cases hhi:x.hi=0
     ·have t0hi:(x.hi == 0)=true:=aYn hhi
      have t1hi:(x.hi != 0)=false:=by rw [bne_eq_false_iff_eq];exact hhi
      have Hhi:=aYl hhi;clear hhi
      by_cases hnm:x.name.toList=[]
      ·have t0nm:x.name.toList.isEmpty=true:=by rw [hnm];rfl
       go_wp2_with fail;go_meet;exact ⟨congrArg Value.bool (by unfold unA;rw [aYp hk1,aYp hk3,aYo Hk0.out,aYo Hlo.out,aYo Hhi.out,gQ hnm];try rfl),rfl⟩
      ·have t0nm:x.name.toList.isEmpty=false:=by simpa using hnm
       go_wp2_with fail;go_meet;exact ⟨congrArg Value.bool (by unfold unA;rw [aYp hk1,aYp hk3,aYo Hk0.out,aYo Hlo.out,aYo Hhi.out,gR hnm];try rfl),rfl⟩
     ·have t0hi:(x.hi == 0)=false:=aYm hhi
      have t1hi:(x.hi != 0)=true:=bne_iff_ne.2 hhi;go_wp2_with fail;go_meet;exact ⟨congrArg Value.bool (by unfold unA;rw [aYp hk1,aYo Hk0.out,aYo Hlo.out,aYp hhi];try rfl),rfl⟩
    ·have t0lo:(x.lo == 0)=false:=aYm hlo
     have t1lo:(x.lo != 0)=true:=bne_iff_ne.2 hlo;go_wp2_with fail;go_meet;exact ⟨congrArg Value.bool (by unfold unA;rw [aYp hk1,aYo Hk0.out,aYp hlo];try rfl),rfl⟩
   ·have t0k0:(x.kind == 0)=false:=aYm hk0
    have t1k0:(x.kind != 0)=true:=bne_iff_ne.2 hk0
    by_cases hv:bv=true
    ·by_cases hk1:x.kind=1
     ·have t0k1:(x.kind == 1)=true:=aYn hk1
      have t1k1:(x.kind != 1)=false:=by rw [bne_eq_false_iff_eq];exact hk1
      have hk3:¬ x.kind=3:=U
      have t0k3:(x.kind == 3)=false:=aYm hk3;have t1k3:(x.kind != 3)=true:=bne_iff_ne.2 hk3;have Hk1:=aYl hk1;clear hk1
      by_cases hnm:x.name.toList=[]
      ·have t0nm:x.name.toList.isEmpty=true:=by rw [hnm];rfl
       go_wp2_with fail;go_meet;exact ⟨congrArg Value.bool (by unfold unA;rw [aYp hk0,hv,aYp hk3,aYo Hk1.out,gQ hnm];try rfl),rfl⟩
      ·have t0nm:x.name.toList.isEmpty=false:=by simpa using hnm
       go_wp2_with fail;go_meet;exact ⟨congrArg Value.bool (by unfold unA;rw [aYp hk0,hv,aYp hk3,aYo Hk1.out,gR hnm];try rfl),rfl⟩
     ·have t0k1:(x.kind == 1)=false:=aYm hk1
      have t1k1:(x.kind != 1)=true:=bne_iff_ne.2 hk1
      by_cases hlo:x.lo=0
      ·have t0lo:(x.lo == 0)=true:=aYn hlo
       have t1lo:(x.lo != 0)=false:=by rw [bne_eq_false_iff_eq];exact hlo
       have Hlo:=aYl hlo;clear hlo
       by_cases hhi:x.hi=0
       ·have t0hi:(x.hi == 0)=true:=aYn hhi
        have t1hi:(x.hi != 0)=false:=by rw [bne_eq_false_iff_eq];exact hhi
        have Hhi:=aYl hhi;clear hhi
        by_cases hk3:x.kind=3
        ·have t0k3:(x.kind == 3)=true:=aYn hk3
         have t1k3:(x.kind != 3)=false:=by rw [bne_eq_false_iff_eq];exact hk3
         have Hk3:=aYl hk3;clear hk3;go_wp2_with fail;go_meet;exact ⟨congrArg Value.bool (by unfold unA;rw [aYp hk0,hv,aYp hk1,aYo Hlo.out,aYo Hhi.out,aYo Hk3.out];try rfl),rfl⟩
        ·have t0k3:(x.kind == 3)=false:=aYm hk3
         have t1k3:(x.kind != 3)=true:=bne_iff_ne.2 hk3
         by_cases hnm:x.name.toList=[]
         ·have t0nm:x.name.toList.isEmpty=true:=by rw [hnm];rfl
          go_wp2_with fail;go_meet;exact ⟨congrArg Value.bool (by unfold unA;rw [aYp hk0,hv,aYp hk1,aYo Hlo.out,aYo Hhi.out,aYp hk3,gQ hnm];try rfl),rfl⟩
         ·have t0nm:x.name.toList.isEmpty=false:=by simpa using hnm
          go_wp2_with fail;go_meet;exact ⟨congrArg Value.bool (by unfold unA;rw [aYp hk0,hv,aYp hk1,aYo Hlo.out,aYo Hhi.out,aYp hk3,gR hnm];try rfl),rfl⟩
       ·have t0hi:(x.hi == 0)=false:=aYm hhi
        have t1hi:(x.hi != 0)=true:=bne_iff_ne.2 hhi;go_wp2_with fail;go_meet;exact ⟨congrArg Value.bool (by unfold unA;rw [aYp hk0,hv,aYp hk1,aYo Hlo.out,aYp hhi];try rfl),rfl⟩
      ·have t0lo:(x.lo == 0)=false:=aYm hlo
       have t1lo:(x.lo != 0)=true:=bne_iff_ne.2 hlo;go_wp2_with fail;go_meet;exact ⟨congrArg Value.bool (by unfold unA;rw [aYp hk0,hv,aYp hk1,aYp hlo];try rfl),rfl⟩
    ·have t0v:bv=false:=by simpa using hv
     go_wp2_with fail;go_meet;exact ⟨congrArg Value.bool (by unfold unA;rw [aYp hk0,(Bool.eq_false_iff.2 hv)];try rfl),rfl⟩
  case rest =>
   obtain ⟨rfl,rfl⟩:=hcut;generalize unA x bv=b3 at *
   cases b3
   ·go_upto_region 5 with fail
    go_cut [83] (fun s wx=>s=.bool (unB x)∧wx=(w.alloc (.cells (aL x a).toArray 87)).alloc (.cells #[↑x.value.kind,↑x.value.n,.string x.value.s,.slice a.xA x.value.kids.length a.xc] 85))
    case first =>
     by_cases hk2:x.kind=2
     ·have t0k2:(x.kind == 2)=true:=aYn hk2
      have t1k2:(x.kind != 2)=false:=by rw [bne_eq_false_iff_eq];exact hk2
      have hk4:¬ x.kind=4:=U
      have t0k4:(x.kind == 4)=false:=aYm hk4;have t1k4:(x.kind != 4)=true:=bne_iff_ne.2 hk4;have Hk2:=aYl hk2;clear hk2
      by_cases hvv:0<x.values.length
      ·have t0vv:decide (0<(x.values.length:Int))=true:=aYo U
       go_wp2_with fail;go_meet;exact ⟨congrArg Value.bool (by unfold unB;rw [aYp hk4,aYo Hk2.out,aYo hvv];try rfl),rfl⟩
      ·have t0vv:decide (0<(x.values.length:Int))=false:=aYp U
       go_wp2_with fail;go_meet;exact ⟨congrArg Value.bool (by unfold unB;rw [aYp hk4,aYo Hk2.out,aYp hvv];try rfl),rfl⟩
     ·have t0k2:(x.kind == 2)=false:=aYm hk2
      have t1k2:(x.kind != 2)=true:=bne_iff_ne.2 hk2
      by_cases hwt:0<x.weights.length
      ·have t0wt:decide (0<(x.weights.length:Int))=true:=aYo U
       go_wp2_with fail;go_meet;exact ⟨congrArg Value.bool (by unfold unB;rw [aYp hk2,aYo hwt];try rfl),rfl⟩
      ·have t0wt:decide (0<(x.weights.length:Int))=false:=aYp U
       by_cases hlb:0<x.labels.length
       ·have t0lb:decide (0<(x.labels.length:Int))=true:=aYo U
        go_wp2_with fail;go_meet;exact ⟨congrArg Value.bool (by unfold unB;rw [aYp hk2,aYp hwt,aYo hlb];try rfl),rfl⟩
       ·have t0lb:decide (0<(x.labels.length:Int))=false:=aYp U
        by_cases hk4:x.kind=4
        ·have t0k4:(x.kind == 4)=true:=aYn hk4
         have t1k4:(x.kind != 4)=false:=by rw [bne_eq_false_iff_eq];exact hk4
         have Hk4:=aYl hk4;clear hk4;go_wp2_with fail;go_meet;exact ⟨congrArg Value.bool (by unfold unB;rw [aYp hk2,aYp hwt,aYp hlb,aYo Hk4.out];try rfl),rfl⟩
        ·have t0k4:(x.kind == 4)=false:=aYm hk4
         have t1k4:(x.kind != 4)=true:=bne_iff_ne.2 hk4
         by_cases hvv:0<x.values.length
         ·have t0vv:decide (0<(x.values.length:Int))=true:=aYo U
          go_wp2_with fail;go_meet;exact ⟨congrArg Value.bool (by unfold unB;rw [aYp hk2,aYp hwt,aYp hlb,aYp hk4,aYo hvv];try rfl),rfl⟩
         ·have t0vv:decide (0<(x.values.length:Int))=false:=aYp U
          go_wp2_with fail;go_meet;exact ⟨congrArg Value.bool (by unfold unB;rw [aYp hk2,aYp hwt,aYp hlb,aYp hk4,aYp hvv];try rfl),rfl⟩
    case rest =>
     obtain ⟨rfl,rfl⟩:=hcut;generalize unB x=b5 at *
     cases b5
     ·have HU2:=aYl (show gT x=unC x by rw [HU.out];rfl)
      by_cases hk0:x.kind=0
      ·have t0k0:(x.kind == 0)=true:=aYn hk0
       have t1k0:(x.kind != 0)=false:=by rw [bne_eq_false_iff_eq];exact hk0
       have hk1:¬ x.kind=1:=U
       have t0k1:(x.kind == 1)=false:=aYm hk1;have t1k1:(x.kind != 1)=true:=bne_iff_ne.2 hk1;have Hk0:=aYl hk0;clear hk0
       by_cases hkd:0<x.kids.length
       ·have t0kd:decide (0<(x.kids.length:Int))=true:=aYo U
        have t1kd:((x.kids.length:Int) == 0)=false:=aYm U;go_wp2_with fail;go_ret;exact ⟨aC (by rw [HU2.out];unfold unC;rw [aYo Hk0.out,aYo hkd];try rfl),((Ext.refl _).alloc' _).alloc' _⟩
       ·have t0kd:decide (0<(x.kids.length:Int))=false:=aYp U
        have t1kd:((x.kids.length:Int) == 0)=true:=aYn U;go_wp2_with fail;go_ret;exact ⟨aC (by rw [HU2.out];unfold unC;rw [aYo Hk0.out,aYp hkd];try rfl),((Ext.refl _).alloc' _).alloc' _⟩
      ·have t0k0:(x.kind == 0)=false:=aYm hk0
       have t1k0:(x.kind != 0)=true:=bne_iff_ne.2 hk0
       by_cases hk1:x.kind=1
       ·have t0k1:(x.kind == 1)=true:=aYn hk1
        have t1k1:(x.kind != 1)=false:=by rw [bne_eq_false_iff_eq];exact hk1
        have Hk1:=aYl hk1;clear hk1
        by_cases hkd:0<x.kids.length
        ·have t0kd:decide (0<(x.kids.length:Int))=true:=aYo U
         have t1kd:((x.kids.length:Int) == 0)=false:=aYm U;go_wp2_with fail;go_ret;exact ⟨aC (by rw [HU2.out];unfold unC;rw [aYp hk0,aYo Hk1.out,aYo hkd];try rfl),((Ext.refl _).alloc' _).alloc' _⟩
        ·have t0kd:decide (0<(x.kids.length:Int))=false:=aYp U
         have t1kd:((x.kids.length:Int) == 0)=true:=aYn U;go_wp2_with fail;go_ret;exact ⟨aC (by rw [HU2.out];unfold unC;rw [aYp hk0,aYo Hk1.out,aYp hkd];try rfl),((Ext.refl _).alloc' _).alloc' _⟩
       ·have t0k1:(x.kind == 1)=false:=aYm hk1
        have t1k1:(x.kind != 1)=true:=bne_iff_ne.2 hk1;go_wp2_with fail;go_ret;exact ⟨aC (by rw [HU2.out];unfold unC;rw [aYp hk0,aYp hk1];try rfl),((Ext.refl _).alloc' _).alloc' _⟩
     ·go_wp2_with fail
      go_ret;exact ⟨aC ij,((Ext.refl _).alloc' _).alloc' _⟩
   ·go_wp2_with fail
    go_ret;exact ⟨aC ij,((Ext.refl _).alloc' _).alloc' _⟩
section
variable {w w':World}{P Q:Nat->Prop}{A:Option Addr}{n c:Nat}
theorem aU.le {l:List Int}(h:aU w P (.slice A n c) l):l.length<=c∧(l.length<=17592186044416∧c<=9223372036854775807):=by
 obtain ⟨A',c',e,h1,h2,_⟩:=h;injection e with _ _ e;omega
theorem bV.le {l:List GV}(h:bV w P (.slice A n c) l):l.length<=c∧(l.length<=17592186044416∧c<=9223372036854775807):=by
 obtain ⟨A',c',_,e,h1,h2,_⟩:=h;injection e with _ _ e;omega
theorem aU.get {l:List Int}(h:aU w P (.slice A n c) l){i:Nat}(hi:i<l.length) :
  ∃ b off,A=some ⟨b,off,none⟩∧P b∧I64 (l.getD i 0)∧w.cell? ⟨b,off+i,none⟩=some (.int .i64 (l.getD i 0)):=by
 obtain ⟨b,off,c',e,hb,_,_,h1,h2⟩:=h.at_ hi;injection e with e _ _;exact ⟨b,off,e,hb,h1,h2⟩
theorem bV.get {l:List GV}(h:bV w P (.slice A n c) l){i:Nat}(hi:i<l.length) :
  ∃ b off A' d,A=some ⟨b,off,none⟩∧P b∧VAt w P (l.getD i default) A' d ∧
   w.cell? ⟨b,off+i*4,none⟩=some (.int .i64 (l.getD i default).kind)∧w.cell? ⟨b,off+i*4+1,none⟩=some (.int .i64 (l.getD i default).n) ∧
   w.cell? ⟨b,off+i*4+2,none⟩=some (.string (l.getD i default).s)∧w.cell? ⟨b,off+i*4+3,none⟩=some (.slice A' (l.getD i default).kids.length d):=by
 obtain ⟨b,off,c',A',d,e,hb,_,_,h1,h2⟩:=h.at_ hi;injection e with e _ _;exact ⟨b,off,A',d,e,hb,h1,h2⟩
theorem Nds.get {l:List GN}(h:Nds w P (.slice A n c) l){i:Nat}(hi:i<l.length) :
  ∃ b off a,A=some ⟨b,off,none⟩∧P b∧NAt w P (l.getD i default) a∧bU w b (off+i*12) (l.getD i default) a:=by
 obtain ⟨b,off,c',a,e,hb,ha,hc⟩:=h.at_ hi;injection e with e _ _;exact ⟨b,off,a,e,hb,ha,hc⟩
end
def uU (x:GN):Bool:=decide (x.hi<x.lo) || decide (x.lo < -4611686018427387904) || decide (4611686018427387904<x.hi) || decide (x.lo+1099511627776<=x.hi)
def fH (n:Int):Bool:=decide (1<=n∧n<=1000)
def bF (x:GN):Bool:=!uU x && x.weights.all fH
def aQ2 (x:GN)(W:World)(i:Value)(wr:World):Prop:=∃ k:Nat,k<=x.weights.length∧i=↑k∧wr=W∧bF x=(x.weights.drop k).all fH
theorem pF (x:GN)(a:NA)(P:Nat->Prop)(w:World)(hx:NAt w P x a) :
  Calls Tryz.prog 110 #[jJ x a] w (dV (.bool (bF x)) w):=by
 have HX:=aYl hx;have HU:=aYl (show bF x=(!uU x && x.weights.all fH) from rfl);obtain ⟨hl,hc⟩:=hx.weights.le;have hi1:=hx.lo;have hi2:=hx.hi;unfold I64 at hi1 hi2;clear hx;go_enter Tryz.func110,Tryz.ntmps110;go_upto_region 1 with fail;go_cut [26] (fun s wx=>s=.bool (uU x)∧wx=w.alloc (.cells (aL x a).toArray 87))
 case first =>
  by_cases ha1:x.hi<x.lo
  ·have t0a1:decide (x.hi<x.lo)=true:=aYo ha1
   go_wp2_with fail;go_meet;exact ⟨congrArg Value.bool ec,rfl⟩
  ·have t0a1:decide (x.hi<x.lo)=false:=aYp ha1
   by_cases ha2:x.lo < -4611686018427387904
   ·have t0a2:decide (x.lo < -4611686018427387904)=true:=aYo ha2
    go_wp2_with fail;go_meet;exact ⟨congrArg Value.bool au,rfl⟩
   ·have t0a2:decide (x.lo < -4611686018427387904)=false:=aYp ha2
    by_cases ha3:4611686018427387904<x.hi
    ·have t0a3:decide (4611686018427387904<x.hi)=true:=aYo ha3
     go_wp2_with fail;go_meet;exact ⟨congrArg Value.bool an,rfl⟩
    ·have t0a3:decide (4611686018427387904<x.hi)=false:=aYp ha3
     by_cases ha4:x.lo+1099511627776<=x.hi
     ·have t0a4:decide (x.lo+1099511627776<=x.hi)=true:=aYo ha4
      go_wp2_with fail;go_meet;exact ⟨congrArg Value.bool (by unfold uU;rw [(show decide (x.hi<x.lo)=false from aYp U),(show decide (x.lo < -4611686018427387904)=false from aYp U),(show decide (4611686018427387904<x.hi)=false from aYp U),(show decide (x.lo+1099511627776<=x.hi)=true from aYo U)];try rfl),rfl⟩
     ·have t0a4:decide (x.lo+1099511627776<=x.hi)=false:=aYp ha4
      go_wp2_with fail;go_meet;exact ⟨congrArg Value.bool (by unfold uU;rw [(show decide (x.hi<x.lo)=false from aYp U),(show decide (x.lo < -4611686018427387904)=false from aYp U),(show decide (4611686018427387904<x.hi)=false from aYp U),(show decide (x.lo+1099511627776<=x.hi)=false from aYp U)];try rfl),rfl⟩
 case rest =>
  obtain ⟨rfl,rfl⟩:=hcut;have HB:=aYl (show Blk (w.alloc (.cells (aL x a).toArray 87)) w.heap.size 87 (aL x a).toArray from Blk.new _ _ _);have HE:=aYl (show Ext w (w.alloc (.cells (aL x a).toArray 87)) from (Ext.refl _).alloc' _);have hb4:=HB.out.cell' (u:=.slice a.wA x.weights.length a.wc) 4 rfl;have HW:=aYl (HX.out.weights.ext HE.out);generalize w.alloc (.cells (aL x a).toArray 87)=W at *;generalize uU x=bn at *
  cases bn
  ·have HU2:=aYl (show bF x=(x.weights.drop 0).all fH by rw [HU.out];rfl)
   go_wp2_with fail;go_loopw [3] (fun i wr=>aQ2 x W i wr) (fun i _=>x.weights.length - (intOf i).toNat)
   case atStart=>exact ⟨0,Nat.zero_le _,rfl,rfl,HU2.out⟩
   case round =>
    obtain ⟨k,hk,rfl,rfl,ht⟩:=hrel;have HT:=aYl ht;clear ht
    by_cases hlt:k<x.weights.length
    ·obtain ⟨b1,o1,e1,-,hv,g1⟩:=HW.out.get hlt
     rw [e1] at hb4;clear e1;have HD:=aYl (show bF x=(fH (x.weights.getD k 0) && (x.weights.drop (k+1)).all fH) by rw [HT.out,aG 0 hlt];rfl);generalize x.weights.getD k 0=z at *;clear hv
     by_cases hz1:z<1
     ·have HN:=aYl (show fH z=false from aYp U)
      go_wp2_with fail;go_ret;exact ⟨aC d9,HE.out⟩
     ·have tz1:decide (z<1)=false:=aYp hz1
      by_cases hz2:1000<z
      ·have HN:=aYl (show fH z=false from aYp U)
       go_wp2_with fail;go_ret;exact ⟨aC d9,HE.out⟩
      ·have tz2:decide (1000<z)=false:=aYp hz2
       have HN:=aYl (show fH z=true from aYo U);go_wp2_with fail;go_roundw
       case rel=>exact ⟨k+1,U,by go_num,rfl,d9⟩
       case measure=>simp [intOf];omega
    ·go_wp2_with fail
     go_ret;exact ⟨aC (by rw [HT.out,drop_nil U];rfl),HE.out⟩
  ·go_wp2_with fail
   go_ret;exact ⟨aC ij,HE.out⟩
def eB (a b:List GV):Bool:=decide (a.length=b.length) && (a.zip b).all (fun p=>decide (cH p.1 p.2=0))
def aBh (a b:List GV)(W:World)(i:Value)(wr:World):Prop:=∃ k:Nat,k<=a.length∧i=↑k∧Ext W wr∧eB a b=((a.drop k).zip (b.drop k)).all (fun p=>decide (cH p.1 p.2=0))
theorem qS (a b:List GV)(P Q:Nat->Prop)(va vb:Value)(w:World)(ha:bV w P va a)(hb:bV w Q vb b) :
  Calls Tryz.prog 112 #[va,vb] w (dV (.bool (eB a b)) w):=by
 have HA:=aYl ha;have HB:=aYl hb;have HS:=aYl (show eB a b=(decide (a.length=b.length) && (a.zip b).all (fun p=>decide (cH p.1 p.2=0))) from rfl);obtain ⟨A,c,e,h1,h2⟩:=ha.form;obtain ⟨A',c',e',h1',h2'⟩:=hb.form;subst e e';clear ha hb
 by_cases hl:a.length=b.length
 ·have HS2:=aYl (show eB a b=((a.drop 0).zip (b.drop 0)).all (fun p=>decide (cH p.1 p.2=0)) by rw [HS.out,aYo hl];rfl)
  have hl1:a.length<=b.length:=U
  have hl2:b.length<=a.length:=U
  have hne:((a.length:Int) != (b.length:Int))=false:=ft
  clear hl;go_enter Tryz.func112,Tryz.ntmps112;go_wp2_with fail;go_loopw [5] (fun i wr=>aBh a b w i wr) (fun i _=>a.length - (intOf i).toNat)
  case atStart=>exact ⟨0,Nat.zero_le _,rfl,Ext.refl _,HS2.out⟩
  case round =>
   obtain ⟨k,hk,rfl,hx,ht⟩:=hrel;have HT:=aYl ht;have HX:=aYl hx;clear ht hx
   by_cases hlt:k<a.length
   ·have hlt':k<b.length:=by omega
    have HD:=aYl (show eB a b=(decide (cH (a.getD k default) (b.getD k default)=0) && ((a.drop (k+1)).zip (b.drop (k+1))).all (fun p=>decide (cH p.1 p.2=0))) by
     rw [HT.out,aG default hlt,aG default hlt']
     rfl)
    obtain ⟨b1,o1,c1,A1,d1,e1,-,-,-,hv1,g10,g11,g12,g13⟩:=(HA.out.ext HX.out).at_ hlt;obtain ⟨b2,o2,c2,A2,d2,e2,-,-,-,hv2,g20,g21,g22,g23⟩:=(HB.out.ext HX.out).at_ hlt'
    cases e1
    cases e2
    have HV1:=aYl hv1;have HV2:=aYl hv2;clear hv1 hv2;generalize a.getD k default=x at *;generalize b.getD k default=y at *;go_wp2_with fail;go_still_tail 8,aa;go_wp2_with fail;refine (gF x y A1 A2 d1 d2 P Q _ (HV1.out.ext (Ext.refl _).drew') (HV2.out.ext (Ext.refl _).drew')).mono ?_;rintro e w1 ⟨rfl,hx1⟩;have HX1:=aYl (HX.out.trans' ((Ext.refl _).drew'.trans' hx1));clear hx1
    by_cases hz:cH x y=0
    ·have HZ:=aYl hz
     have tz:(cH x y != 0)=false:=ct
     clear hz;go_wp2_with fail;go_roundw
     case rel=>exact ⟨k+1,U,by go_num,HX1.out,gi⟩
     case measure=>simp [intOf];omega
    ·have HZ:=aYl hz
     have tz:(cH x y != 0)=true:=bne_iff_ne.2 hz;clear hz;go_wp2_with fail;go_ret;exact ⟨aC (by rw [HD.out,aYp HZ.out];rfl),HX1.out⟩
   ·go_wp2_with fail
    go_ret;exact ⟨aC (by rw [HT.out,drop_nil (l:=a) U];rfl),HX.out⟩
 ·have hne:((a.length:Int) != (b.length:Int))=true:=bne_iff_ne.2 U
  have HL:=aYl hl;clear hl;go_enter Tryz.func112,Tryz.ntmps112;go_wp2_with fail;go_ret;exact ⟨aC (by rw [HS.out,aYp HL.out];rfl),Ext.refl _⟩
theorem Tryz.info3:(Tryz.prog.info? 3).map (fun i=>(i.zero,i.size,i.bytes))=some (some (.int .i64 0),1,8):=aa
def dG (before:List Int):Int->List Int->Int
 | s,[]=>s
 | s,z :: zs=>dG before (wrap64 (s+before.getD z.toNat 0)) zs
def aW (before:List Int)(ch:Bool):Nat->Int->List Int->Int
 | _,m,[]=>m
 | i,m,z :: zs=>aW before ch (i+1) (if ch=true∨0<i then (if m<before.getD z.toNat 0 then before.getD z.toNat 0 else m) else m) zs
def gO (before:List Int)(x:GN):Int :=
 if x.kind=0 then 0 else if x.kind=1 then 1 else if x.kind=3 then dG before 0 x.kids
 else if x.kind=2 then wrap64 (1+aW before true 0 0 x.kids)
 else wrap64 (before.getD (x.kids.getD 0 0).toNat 0+aW before false 0 0 x.kids)
def jH (before:List Int)(x:GN):Int :=
 if x.kind=0 then rsz x.value else if x.kind=1 then 1 else if x.kind=3 then dG before 1 x.kids
 else aW before (decide (x.kind=2)) 0 0 x.kids
def aJd (base:Nat)(e:TypeId)(size:Nat)(vb:Value)(n:Nat)(xs:List Value)(w:World)(en:Ending)(w':World):Prop :=
 ∃ v',en=.returned v'∧w'.ownsRow base e size v' n xs∧Fr (fun k=>some k=vb.ownBlock) w w'∧(v'.ownBlock=vb.ownBlock∨∃ b,v'.ownBlock=some b∧w.heap.size<=b)
theorem Sl.new (W:World)(cs:List Value)(t:TypeId)(n size:Nat)(h:cs.length=n*size):Sl (W.alloc (.cells cs.toArray t)) (fun _=>True) size (some ⟨W.heap.size,0,none⟩) n cs :=
 ⟨h,fun _=>⟨W.heap.size,0,rfl,trivial,fun j u hu=>by rw [fV];simpa using hu⟩⟩
theorem _root_.Go.World.ownsRow.ext_ {w w':World}{base:Nat}{e:TypeId}{size:Nat}{v:Value}{n:Nat}{xs:List Value}(h:w.ownsRow base e size v n xs)(hx:Ext w w'):w'.ownsRow base e size v n xs:=by
 refine ⟨h.1,?_⟩;rcases h.2 with h | ⟨g,cap,cur,h1,h2,h3,h4⟩
 ·exact .inl h
 ·exact .inr ⟨g,cap,cur,h1,h2,(Blk.ext (t:=e) h3 hx),h4⟩
end Go.Proofs.YtkoeecdjijfjnaaGreat
