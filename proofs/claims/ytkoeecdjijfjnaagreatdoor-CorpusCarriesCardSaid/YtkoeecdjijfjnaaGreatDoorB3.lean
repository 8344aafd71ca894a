/- Contracts and laws. Conditions: none. -/
import Derived.Maps.AppendAt
import Derived.Deep.AppendLies
import Derived.RegionTactic
import Derived.OwnWalk
import Derived.Deep.DeepCutAuto
import Derived.Test.YtkoeecdjijfjnaaGreatDoorA8
set_option linter.all false
set_option maxRecDepth 100000
set_option maxHeartbeats 8000000
namespace Go.Proofs.YtkoeecdjijfjnaaGreatDoor
open Go.RowKit
theorem sI (N:Nat)(hS:iM 86 (fun b=>b) aG N):iM 86 (fun b=>b) aG (N+1):=by
 intro x A c P w hN hx;show qg 86 #[cN x A c] w (dE (dV aG x) w);rcases Int.lt_or_le x.kind 0 with hk | hk0
 ·exact yA N x A c P w hN hx hk
 rcases Int.lt_or_le 3 x.kind with hk | hk3
 ·exact yF N x A c P w hN hx hk
 have h4:x.kind=0∨x.kind=1∨x.kind=2∨x.kind=3:=I;rcases h4 with hk | hk | hk | hk
 ·by_cases he:x.s.toList=[]
  ·rcases Nat.lt_or_ge 0 x.kids.length with hl | hl
   ·exact vD N x A c P w hN hx hk he hl
   ·exact yE N hS x A c P w hN hx hk he hl
  ·exact vE N x A c P w hN hx hk he
 ·by_cases he:x.s.toList=[]
  ·rcases Nat.lt_or_ge 0 x.kids.length with hl | hl
   ·exact vB N x A c P w hN hx hk he hl
   ·rcases Int.lt_or_le x.n 0 with hn | hn
    ·exact uY N x A c P w hN hx hk he hl hn
    ·rcases Int.lt_or_le 1 x.n with hn2 | hn2
     ·exact uZ N x A c P w hN hx hk he hl hn2
     ·exact yD N hS x A c P w hN hx hk he hl hn hn2
  ·exact vC N x A c P w hN hx hk he
 ·by_cases he:x.s.toList=[]
  ·by_cases hn:x.n=0
   ·exact yC N hS x A c P w hN hx hk he hn
   ·exact uW N x A c P w hN hx hk he hn
  ·exact uX N x A c P w hN hx hk he
 ·cases he:rO x.s
  ·exact uV N x A c P w hN hx hk he
  ·by_cases hn:x.n=0
   ·exact yB N hS x A c P w hN hx hk he hn
   ·exact uU N x A c P w hN hx hk he hn
theorem vF (N:Nat):iM 86 (fun b=>b) aG N:=by
 induction N with
 | zero=>intro x A c P w hN;omega
 | succ N ih=>exact sI N ih
def eI (x:GV):Int:=if dV aG x=false then 1 else if dV cD x=false∨1024<rsz x then 4 else 0
theorem mC (x:GV)(A:Option Addr)(c:Nat)(P:Nat->Prop)(w:World)(hx:VAt w P x A c) :
  qg 56 #[cN x A c] w (dE (.int .i64 (eI x)) w):=by
 have HX:=aYf hx;have HV:=aYf (show eI x=if dV aG x=false then 1 else if dV cD x=false∨1024<rsz x then 4 else 0 from rfl);clear hx;go_enter Tryz.func56,Tryz.ntmps56;go_wp2_with fail;refine (vF (gsz x+1) x A c P _ I (HX.out.ext ((aq _).alloc' _))).mono ?_;rintro e w1 ⟨rfl,hx1⟩;have BX:=aYf ((aw w 58 (qh x A c)).ext hx1);have HX1:=aYf (((aq w).alloc' _).trans' hx1);have x0:=BX.out.cell' (u:=↑x.kind) 0 rfl;have x1:=BX.out.cell' (u:=↑x.n) 1 rfl;have x2:=BX.out.cell' (u:=x.s) 2 rfl;have x3:=BX.out.cell' (u:=.slice A x.kids c) 3 rfl;clear hx1;generalize dV aG x=b1 at *;cases b1
 ·go_wp2_with fail
  go_ret;exact ⟨aK jr,HX1.out⟩
 ·go_wp2_with fail
  refine (I2 (gsz x+1) x A c P _ I (HX.out.ext HX1.out)).mono ?_;rintro e w2 ⟨rfl,hx2⟩;have BX2:=aYf (BX.out.ext hx2);have HX2:=aYf (HX1.out.trans' hx2);clear hx2 x0 x1 x2 x3;have x0:=BX2.out.cell' (u:=↑x.kind) 0 rfl;have x1:=BX2.out.cell' (u:=↑x.n) 1 rfl;have x2:=BX2.out.cell' (u:=x.s) 2 rfl;have x3:=BX2.out.cell' (u:=.slice A x.kids c) 3 rfl;generalize dV cD x=b2 at *;cases b2
  ·go_wp2_with fail
   go_ret;exact ⟨aK jr,HX2.out⟩
  ·go_wp2_with fail
   refine (pW x A c P _ (HX.out.ext HX2.out)).mono ?_;rintro e w3 ⟨rfl,hx3⟩;have HX3:=aYf (HX2.out.trans' hx3);clear hx3;generalize rsz x=z at *;go_wp2_with fail
   all_goals
    go_ret;refine ⟨aK ?_,HX3.out⟩;rw [HV.out]
    simp_all
    try omega
theorem dP (b off j:Nat):(Addr.mk b off none).add j=↑(qt b (off+j)):=by
 unfold Addr.add;split
 ·next h=>subst h;rfl
 ·rfl
theorem Fr.of_grown {w w':World}{row:Option Nat}(h:w.grownBy w' row):Fr (fun k=>some k=row) w w' :=
 ⟨h.os,h.tape,h.output,h.size,fun k hk hm=>h.block k hk hm⟩
section
variable {P:Program}
theorem oI (w:World)(base:Nat)(t ty e:TypeId)(i:TypeInfo)(size:Nat)(ht:P.underlying t=some (.slice e))(hi:P.info? e=some i)
  (v:Value)(n:Nat)(xs:List Value)(hown:w.ownsRow base e size v n xs)(c:Nat):(Builtin.append_ #[t,t] ty #[v,.slice none 0 c]).run P w=.ok v w:=by
 rcases hown.2 with ⟨rfl,rfl⟩ | ⟨g,cap,cur,rfl,_,_,hnc,_⟩
 ·simp [Builtin.append_,run_underlying ht,sizeOf,typeInfo,hi,Builtin.lenOf,Builtin.firstCells]
 ·simp [Builtin.append_,run_underlying ht,sizeOf,typeInfo,hi,Builtin.lenOf,Builtin.firstCells,hnc,storeCells]
theorem uR (w:World)(base:Nat)(t ty e:TypeId)(i:TypeInfo)(z:Value)(size bytes:Nat)(ht:P.underlying t=some (.slice e))(hi:P.info? e=some i)(hz:i.zero=some z)
  (hsize:i.size=size)(hby:i.bytes=bytes)(hzs:z.cells.size=size)(hsz:0<size)
  (v:Value)(n:Nat)(xs:List Value)(hown:w.ownsRow base e size v n xs)
  (S:Nat->Prop)(A:Option Addr)(m c:Nat)(news:List Value)(hr:Sl w S size A m news)(h1:∀ u ∈ news,u.oneCell'=true)
  (h63:n+m<=1000000000000)(hbytes:(n+m)*bytes<=140737488355328)(hbase:base<=w) :
  ∃ v' w',(Builtin.append_ #[t,t] ty #[v,.slice A m c]).run P w=.ok v' w'∧w'.ownsRow base e size v' (n+m) (xs ++ news)∧Fr (fun k=>some k=v.ownBlock) w w' ∧
   (v'.ownBlock=v.ownBlock∨v'.ownBlock=some w.heap.size):=by
 have h63':n+m<=maxLen:=du;rcases A with _ | ad
 ·have hm:m=0:=by
   rcases Nat.eq_zero_or_pos m with h0 | h0
   ·exact h0
   ·obtain ⟨b,off,h,_⟩:=hr.2 h0
    cases h
  subst hm;have hn:news=[]:=List.eq_nil_of_length_eq_zero (by simpa using hr.1);subst hn;exact ⟨v,w,oI w base t ty e i size ht hi v n xs hown c,by simpa using hown,au _ _,.inl rfl⟩
 ·have hcells:∀ j u,news[j]?=some u->w.cell? (ad.add j)=some u:=by
   intro j u hu;rcases Nat.eq_zero_or_pos m with h0 | h0
   ·subst h0
    have hn:news=[]:=List.eq_nil_of_length_eq_zero (by simpa using hr.1);subst hn;simp at hu
   ·obtain ⟨b,off,h,_,hc⟩:=hr.2 h0
    injection h with h;subst h;rw [dP];exact hc j u hu
  obtain ⟨v',w',hrun,h2,h3,_,h5⟩:=run_append_own_at (P:=P) w base t ty e i z size bytes ht hi hz hsize hby hzs hsz v n xs hown ad m c news hr.1 hcells h1 h63' hbytes hbase;exact ⟨v',w',hrun,h2,Fr.of_grown h3,h5⟩
theorem nU (w:World){o:Oper}{a:Act}{K:Act->World->Prop}{Q:Exit->Act->World->Prop}(s x:Operand)(t:TypeId)
  (ho:o.op=.call { callee:=.builtin .append,args:=#[s,x],argTypes:=#[t,t] })
  (base:Nat)(e:TypeId)(i:TypeInfo)(z:Value)(size bytes:Nat)(ht:P.underlying t=some (.slice e))(hi:P.info? e=some i)(hz:i.zero=some z)
  (hsize:i.size=size)(hby:i.bytes=bytes)(hzs:z.cells.size=size)(hsz:0<size)
  (v:Value)(n:Nat)(xs:List Value)(hs:a.eval s=v)(hown:w.ownsRow base e size v n xs)
  (S:Nat->Prop)(A:Option Addr)(m c:Nat)(news:List Value)(hx:a.eval x=.slice A m c)(hr:Sl w S size A m news)(h1:∀ u ∈ news,u.oneCell'=true)
  (h63:n+m<=1000000000000)(hbytes:(n+m)*bytes<=140737488355328)(hbase:base<=w)
  (h:∀ v' w',w'.ownsRow base e size v' (n+m) (xs ++ news)->Fr (fun k=>some k=v.ownBlock) w w'->(v'.ownBlock=v.ownBlock∨v'.ownBlock=some w.heap.size)->K (a.put o.dst v') w'):o.wp P a w K Q:=by
 obtain ⟨v',w',hrun,h2,h3,h4⟩:=uR (P:=P) w base t o.type e i z size bytes ht hi hz hsize hby hzs hsz v n xs hown S A m c news hr h1 h63 hbytes hbase;unfold Oper.wp execOp;simp only [ho,resolve,invoke,builtin,Sem.run_bind,Sem.run_pure,Result.andThen_ok,List.map_toArray,List.map_cons,List.map_nil,hs,hx,hrun];exact h v' w' h2 h3 h4
theorem aS (w:World){ops:Array Oper}{rest:List Oper}{o:Oper}{a:Act}{Q:Exit->Act->World->Prop}(hgd:o.guard=none)(s x:Operand)(t:TypeId)
  (ho:o.op=.call { callee:=.builtin .append,args:=#[s,x],argTypes:=#[t,t] })
  (base:Nat)(e:TypeId)(i:TypeInfo)(z:Value)(size bytes:Nat)(ht:P.underlying t=some (.slice e))(hi:P.info? e=some i)(hz:i.zero=some z)
  (hsize:i.size=size)(hby:i.bytes=bytes)(hzs:z.cells.size=size)(hsz:0<size)
  (v:Value)(n:Nat)(xs:List Value)(hs:a.eval s=v)(hown:w.ownsRow base e size v n xs)
  (S:Nat->Prop)(A:Option Addr)(m c:Nat)(news:List Value)(hx:a.eval x=.slice A m c)(hr:Sl w S size A m news)(h1:∀ u ∈ news,u.oneCell'=true)
  (h63:n+m<=1000000000000)(hbytes:(n+m)*bytes<=140737488355328)(hbase:base<=w)
  (h:∀ v' w',w'.ownsRow base e size v' (n+m) (xs ++ news)->Fr (fun k=>some k=v.ownBlock) w w'->(v'.ownBlock=v.ownBlock∨v'.ownBlock=some w.heap.size)->wpList P ops Q rest (a.put o.dst v') w'):wpList P ops Q (o :: rest) a w :=
 wpList_plain hgd fun _ hK=>nU w s x t ho base e i z size bytes ht hi hz hsize hby hzs hsz v n xs hs hown S A m c news hx hr h1 h63 hbytes hbase fun v' w' h2 h3 h4=>hK _ _ (h v' w' h2 h3 h4)
theorem eJ (w:World){ops:Array Oper}{o:Oper}{a:Act}{K:Act->World->Prop}{Q:Exit->Act->World->Prop}{E:Prop}(hgd:o.guard=none)(s x:Operand)(t:TypeId)
  (ho:o.op=.call { callee:=.builtin .append,args:=#[s,x],argTypes:=#[t,t] })
  (base:Nat)(e:TypeId)(i:TypeInfo)(z:Value)(size bytes:Nat)(ht:P.underlying t=some (.slice e))(hi:P.info? e=some i)(hz:i.zero=some z)
  (hsize:i.size=size)(hby:i.bytes=bytes)(hzs:z.cells.size=size)(hsz:0<size)
  (v:Value)(n:Nat)(xs:List Value)(hs:a.eval s=v)(hown:w.ownsRow base e size v n xs)
  (S:Nat->Prop)(A:Option Addr)(m c:Nat)(news:List Value)(hx:a.eval x=.slice A m c)(hr:Sl w S size A m news)(h1:∀ u ∈ news,u.oneCell'=true)
  (h63:n+m<=1000000000000)(hbytes:(n+m)*bytes<=140737488355328)(hbase:base<=w)
  (h:∀ v' w',w'.ownsRow base e size v' (n+m) (xs ++ news)->Fr (fun k=>some k=v.ownBlock) w w'->(v'.ownBlock=v.ownBlock∨v'.ownBlock=some w.heap.size)->K (a.put o.dst v') w') :
  if Region.wanted o (yielded ops a.tmps)=true then Oper.wp P o a w K Q else E:=by
 have hw:Region.wanted o (yielded ops a.tmps)=true:=by simp [Region.wanted,hgd]
 rw [if_pos hw];exact nU w s x t ho base e i z size bytes ht hi hz hsize hby hzs hsz v n xs hs hown S A m c news hx hr h1 h63 hbytes hbase h
end
theorem Sl.of_own {w:World}{base:Nat}{e:TypeId}{size n:Nat}{v:Value}{xs:List Value}(h:w.ownsRow base e size v n xs) :
  ∃ A c,v=.slice A n c∧n<=c∧c<=maxLen∧∀ Q:Nat->Prop,(∀ b,v.ownBlock=some b->Q b)->Sl w Q size A n xs:=by
 rcases h.2 with ⟨rfl,rfl⟩ | ⟨g,cap,cur,rfl,hg,hh,hn,hm,hs,ht⟩
 ·exact ⟨none,0,rfl,ab _,af _,fun Q _=>⟨by simpa using h.1,fun h=>absurd h I⟩⟩
 ·refine ⟨_,cap,rfl,hn,hm,fun Q hQ=>⟨h.1,fun hn=>⟨g,0,rfl,hQ g rfl,fun j u hu=>?_⟩⟩⟩
  have hb:Blk w g e cur:=hh;rw [hb.cell];rw [<- ht,List.getElem?_take] at hu;split at hu
  ·simpa using hu
  ·cases hu
def RL {α:Type}(R:α->List Value->Prop):List α->List Value->Prop
 | [],cs=>cs=[]
 | x :: xs,cs=>∃ c1 c2,cs=c1 ++ c2∧R x c1∧RL R xs c2
section
variable {α:Type}{R:α->List Value->Prop}{size:Nat}
theorem RL.mono {R':α->List Value->Prop}{l:List α}{cs:List Value}(h:RL R l cs)(hR:∀ x ∈ l,∀ cs,R x cs->R' x cs):RL R' l cs:=by
 induction l generalizing cs with
 | nil=>exact h
 | cons x xs ih =>
  simp only [RL] at h ⊢;obtain ⟨c1,c2,rfl,h1,h2⟩:=h;exact ⟨c1,c2,rfl,hR x U _ h1,ih h2 (fun y hy=>hR y dh)⟩
theorem RL.append {a b:List α}{ca cb:List Value}(ha:RL R a ca)(hb:RL R b cb):RL R (a ++ b) (ca ++ cb):=by
 induction a generalizing ca with
 | nil=>simp only [RL] at ha;subst ha;exact hb
 | cons x xs ih =>
  simp only [RL] at ha;obtain ⟨c1,c2,rfl,h1,h2⟩:=ha;simp only [List.cons_append,RL];exact ⟨c1,c2 ++ cb,U,h1,ih h2⟩
theorem RL.one {x:α}{c:List Value}(h:R x c):RL R [x] c:=by
 simp only [RL];exact ⟨c,[],U,h,rfl⟩
theorem RL.drop (hR:∀ x cs,R x cs->cs=size){l:List α}{cs:List Value}(h:RL R l cs)(k:Nat):RL R (l.drop k) (cs.drop (k*size)):=by
 induction k generalizing l cs with
 | zero=>simpa using h
 | succ k ih =>
  cases l with
  | nil=>simp only [RL] at h;subst h;simp [RL]
  | cons x xs =>
   simp only [RL] at h;obtain ⟨c1,c2,rfl,h1,h2⟩:=h;have e:(k+1)*size=c1+k*size:=by rw [hR _ _ h1,Nat.add_mul];omega
   rw [e,List.drop_length_add_append];exact ih h2
theorem RL.take (hR:∀ x cs,R x cs->cs=size){l:List α}{cs:List Value}(h:RL R l cs)(k:Nat):RL R (l.take k) (cs.take (k*size)):=by
 induction k generalizing l cs with
 | zero=>simp [RL]
 | succ k ih =>
  cases l with
  | nil=>simp only [RL] at h;subst h;simp [RL]
  | cons x xs =>
   simp only [RL] at h;obtain ⟨c1,c2,rfl,h1,h2⟩:=h;have e:(k+1)*size=c1+k*size:=by rw [hR _ _ h1,Nat.add_mul];omega
   rw [e,List.take_length_add_append];simp only [List.take_succ_cons,RL];exact ⟨c1,_,rfl,h1,ih h2⟩
theorem RL.get (hR:∀ x cs,R x cs->cs=size){l:List α}{cs:List Value}(h:RL R l cs){i:Nat}(d:α)(hi:i<l) :
  R (l.getD i d) ((cs.drop (i*size)).take size):=by
 have h1:=h.drop hR i;rw [aJ d hi] at h1;simp only [RL] at h1;obtain ⟨c1,c2,e,h2,_⟩:=h1;rw [e,<- hR _ _ h2,List.take_left']
 ·exact h2
 ·rfl
end
theorem Bm {w:World}{P:Nat->Prop}{l:List GV}{cs:List Value}:RVs w P l cs ↔ RL (RV w P) l cs:=by
 induction l generalizing cs with
 | nil=>simp [RVs,RL]
 | cons x xs ih=>simp [RVs,RL,ih]
def Lst {α:Type}(w:World)(P:Nat->Prop)(size:Nat)(R:α->List Value->Prop)(v:Value)(l:List α):Prop :=
 ∃ A c css,v=.slice A l c∧l<=c∧(l.length<=17592186044416∧c<=9223372036854775807)∧Sl w P size A l css∧RL R l css
theorem CO {w:World}{P:Nat->Prop}{v:Value}{l:List GV}:bZ w P v l ↔ Lst w P 4 (RV w P) v l:=by
 unfold bZ Lst;simp only [Bm]
theorem Lst.at_ {α:Type}{w:World}{P:Nat->Prop}{size:Nat}{R:α->List Value->Prop}{v:Value}{l:List α}(hR:∀ x cs,R x cs->cs=size)(h:Lst w P size R v l)(d:α){i:Nat}(hi:i<l) :
  ∃ b off c cs,v=.slice (qt b off) l c∧P b∧l<=c∧(l.length<=17592186044416∧c<=9223372036854775807)∧R (l.getD i d) cs∧(∀ j u,cs[j]?=some u->qc w b (off+i*size+j) u):=by
 obtain ⟨A,c,css,rfl,h2,h3,h4,h5⟩:=h;obtain ⟨b,off,rfl,hb,hc⟩:=h4.2 I;refine ⟨b,off,c,_,rfl,hb,h2,h3,h5.get hR d hi,fun j u hu=>?_⟩;rw [Nat.add_assoc];apply hc;rw [List.getElem?_take] at hu;split at hu
 ·rw [List.getElem?_drop] at hu;exact hu
 ·cases hu
theorem Lst.keep {α:Type}{w w':World}{P Q:Nat->Prop}{size:Nat}{R R':α->List Value->Prop}{v:Value}{l:List α}(h:Lst w P size R v l)(hk:aB P w w')(hPQ:∀ b,P b->Q b)(hR:∀ x ∈ l,∀ cs,R x cs->R' x cs):Lst w' Q size R' v l:=by
 obtain ⟨A,c,css,h1,h2,h3,h4,h5⟩:=h;exact ⟨A,c,css,h1,h2,h3,h4.keep hk hPQ,h5.mono hR⟩
structure GN where
 kind:Int
 name:ByteArray
 lo:Int
 hi:Int
 weights:List Int
 labels:List ByteArray
 values:List GV
 kids:List Int
 value:GV
instance:Inhabited GN:=⟨⟨0,ByteArray.empty,0,0,[],[],[],[],default⟩⟩
structure NA where
 wA:Option Addr
 wc:Nat
 lA:Option Addr
 lc:Nat
 vA:Option Addr
 vc:Nat
 kA:Option Addr
 kc:Nat
 xA:Option Addr
 xc:Nat
def lj (s:ByteArray)(cs:List Value):Prop:=s.size<=17592186044416∧cs=[.string s]
theorem lj.len (s:ByteArray)(cs:List Value)(h:lj s cs):cs.length=1:=by rw [h.2];rfl
def nS (w:World)(P:Nat->Prop)(v:Value)(l:List ByteArray):Prop:=Lst w P 1 lj v l
structure NAt (w:World)(P:Nat->Prop)(x:GN)(a:NA):Prop where
 kind:I64 x.kind
 name:x.name.size<=17592186044416
 lo:I64 x.lo
 hi:I64 x.hi
 weights:bL w P (.slice a.wA x.weights a.wc) x.weights
 labels:nS w P (.slice a.lA x.labels a.lc) x.labels
 values:bZ w P (.slice a.vA x.values a.vc) x.values
 kids:bL w P (.slice a.kA x.kids a.kc) x.kids
 value:VAt w P x.value a.xA a.xc
abbrev aN (x:GN)(a:NA):List Value :=
 [.int .i64 x.kind,.string x.name,.int .i64 x.lo,.int .i64 x.hi,.slice a.wA x.weights a.wc,.slice a.lA x.labels a.lc,.slice a.vA x.values a.vc,.slice a.kA x.kids a.kc,
  .int .i64 x.value.kind,.int .i64 x.value.n,.string x.value.s,.slice a.xA x.value.kids a.xc]
abbrev fE (x:GN)(a:NA):Value :=
 .agg #[x.kind,x.name,x.lo,x.hi,.slice a.wA x.weights a.wc,.slice a.lA x.labels a.lc,.slice a.vA x.values a.vc,.slice a.kA x.kids a.kc,
  ↑x.value.kind,x.value.n,x.value.s,.slice a.xA x.value.kids a.xc]
def RN (w:World)(P:Nat->Prop)(x:GN)(cs:List Value):Prop:=∃ a,cs=aN x a∧NAt w P x a
theorem RN.len {w:World}{P:Nat->Prop}(x:GN)(cs:List Value)(h:RN w P x cs):cs.length=12:=by
 obtain ⟨a,rfl,_⟩:=h;rfl
def Nds (w:World)(P:Nat->Prop)(v:Value)(l:List GN):Prop:=Lst w P 12 (RN w P) v l
section
variable {w w':World}{P Q:Nat->Prop}
theorem nS.keep {v:Value}{l:List ByteArray}(h:nS w P v l)(hk:aB P w w')(hPQ:∀ b,P b->Q b):nS w' Q v l:=Lst.keep h hk hPQ (fun _ _ _ h=>h)
theorem NAt.keep {x:GN}{a:NA}(h:NAt w P x a)(hk:aB P w w')(hPQ:∀ b,P b->Q b):NAt w' Q x a :=
 ⟨h.kind,h.name,h.lo,h.hi,h.weights.keep hk hPQ,h.labels.keep hk hPQ,h.values.keep hk hPQ,h.kids.keep hk hPQ,h.value.keep hk hPQ⟩
theorem NAt.ext {x:GN}{a:NA}(h:NAt w P x a)(hx:Ext w w'):NAt w' P x a:=h.keep (aB.of_ext hx) (fun _ h=>h)
theorem RN.keep {x:GN}{cs:List Value}(h:RN w P x cs)(hk:aB P w w')(hPQ:∀ b,P b->Q b):RN w' Q x cs:=by
 obtain ⟨a,e,h⟩:=h;exact ⟨a,e,h.keep hk hPQ⟩
theorem Nds.keep {v:Value}{l:List GN}(h:Nds w P v l)(hk:aB P w w')(hPQ:∀ b,P b->Q b):Nds w' Q v l:=Lst.keep h hk hPQ (fun _ _ _ h=>RN.keep h hk hPQ)
theorem Nds.ext {v:Value}{l:List GN}(h:Nds w P v l)(hx:Ext w w'):Nds w' P v l:=h.keep (aB.of_ext hx) (fun _ h=>h)
theorem bL.form {v:Value}{l:List Int}(h:bL w P v l):∃ A c,v=.slice A l c∧l<=c∧(l.length<=17592186044416∧c<=9223372036854775807):=by
 obtain ⟨A,c,h1,h2,h3,_⟩:=h;exact ⟨A,c,h1,h2,h3⟩
theorem bZ.form {v:Value}{l:List GV}(h:bZ w P v l):∃ A c,v=.slice A l c∧l<=c∧(l.length<=17592186044416∧c<=9223372036854775807):=by
 obtain ⟨A,c,_,h1,h2,h3,_⟩:=h;exact ⟨A,c,h1,h2,h3⟩
theorem nS.form {v:Value}{l:List ByteArray}(h:nS w P v l):∃ A c,v=.slice A l c∧l<=c∧(l.length<=17592186044416∧c<=9223372036854775807):=by
 obtain ⟨A,c,_,h1,h2,h3,_⟩:=h;exact ⟨A,c,h1,h2,h3⟩
theorem Nds.form {v:Value}{l:List GN}(h:Nds w P v l):∃ A c,v=.slice A l c∧l<=c∧(l.length<=17592186044416∧c<=9223372036854775807):=by
 obtain ⟨A,c,_,h1,h2,h3,_⟩:=h;exact ⟨A,c,h1,h2,h3⟩
theorem bL.at_ {v:Value}{l:List Int}(h:bL w P v l){i:Nat}(hi:i<l) :
  ∃ b off c,v=.slice (qt b off) l c∧P b∧l<=c∧(l.length<=17592186044416∧c<=9223372036854775807)∧I64 (l.getD i 0)∧qc w b (off+i) (.int .i64 (l.getD i 0)):=by
 obtain ⟨A,c,rfl,h2,h3,h4,h5⟩:=h;obtain ⟨b,off,rfl,hb,hc⟩:=h5.2 I;refine ⟨b,off,c,rfl,hb,h2,h3,?_,?_⟩
 ·exact h4 _ (aC hi)
 ·apply hc;simp [hi]
theorem Nds.at_ {v:Value}{l:List GN}(h:Nds w P v l){i:Nat}(hi:i<l) :
  ∃ b off c a,v=.slice (qt b off) l c∧P b∧NAt w P (l.getD i default) a ∧
   (∀ j u,(aN (l.getD i default) a)[j]?=some u->qc w b (off+i*12+j) u):=by
 obtain ⟨b,off,c,cs,e,hb,_,_,⟨a,rfl,ha⟩,hc⟩:=Lst.at_ RN.len h default hi;exact ⟨b,off,c,a,e,hb,ha,hc⟩
end
def aR (w:World)(b o:Nat)(x:GN)(a:NA):Prop:=∀ j u,(aN x a)[j]?=some u->qc w b (o+j) u
section
variable {w:World}{b o:Nat}{x:GN}{a:NA} (h:aR w b o x a)
include h
theorem aR.c0:qc w b o x.kind:=h 0 _ rfl
theorem aR.c1:qc w b (o+1) x.name:=h 1 _ rfl
theorem aR.c2:qc w b (o+2) x.lo:=h 2 _ rfl
theorem aR.c3:qc w b (o+3) x.hi:=h 3 _ rfl
theorem aR.c4:qc w b (o+4) (.slice a.wA x.weights a.wc):=h 4 _ rfl
theorem aR.c5:qc w b (o+5) (.slice a.lA x.labels a.lc):=h 5 _ rfl
theorem aR.c6:qc w b (o+6) (.slice a.vA x.values a.vc):=h 6 _ rfl
theorem aR.c7:qc w b (o+7) (.slice a.kA x.kids a.kc):=h 7 _ rfl
theorem aR.c8:qc w b (o+8) x.value.kind:=h 8 _ rfl
theorem aR.c9:qc w b (o+9) x.value.n:=h 9 _ rfl
theorem aR.c10:qc w b (o+10) x.value.s:=h 10 _ rfl
theorem aR.c11:qc w b (o+11) (.slice a.xA x.value.kids a.xc):=h 11 _ rfl
theorem aR.ext {w':World}(hx:Ext w w'):aR w' b o x a:=fun j u hu=>aA hx (h j u hu)
theorem aR.lt:b<w:=bB (aR.c0 h)
theorem aR.keep {w':World}{P:Nat->Prop}(hb:P b)(hk:aB P w w'):aR w' b o x a:=fun j u hu=>by
 have h1:=h j u hu;rw [<- h1];exact World.cell?_of_block (w:=w) (hk b (bB h1) hb)
end
def cB (name:ByteArray)(kids:List GV):GV:=if bF name then .mk 2 0 ByteArray.empty kids else .mk 3 0 name kids
theorem pX (x:GN)(a:NA)(kids:List GV)(A:Option Addr)(c:Nat)(w:World) :
  Calls Tryz.prog 137 #[fE x a,.slice A kids c] w fun e w'=>e=.returned (cN (cB x.name kids) A c)∧Ext w w':=by
 by_cases he:x.name.toList=[]
 ·have he1:x.name.toList.isEmpty=true:=by simp [he]
  have HM:=aYf (show cB x.name kids=.mk 2 0 ByteArray.empty kids by unfold cB bF;rw [he1];rfl);go_enter Tryz.func137,Tryz.ntmps137;go_wp2_with fail;rw [HM.out];exact bodyPost_ret (v:=.agg #[.int .i64 2,qz,.string ByteArray.empty,.slice A kids c]) (by simp [results,Tryz.results137,go_sem];rfl) rfl ⟨rfl,((aq _).alloc' _).alloc' _⟩
 ·have he1:x.name.toList.isEmpty=false:=by simpa using he
  have HM:=aYf (show cB x.name kids=.mk 3 0 x.name kids by unfold cB bF;rw [he1];rfl);go_enter Tryz.func137,Tryz.ntmps137;go_wp2_with fail;rw [HM.out];exact bodyPost_ret (v:=.agg #[.int .i64 3,qz,x.name,.slice A kids c]) (by simp [results,Tryz.results137,go_sem]) rfl ⟨rfl,((aq _).alloc' _).alloc' _⟩
def aP (x:GN):Int:=if x.kind=1 then wrap64 (wrap64 (x.hi - x.lo)+1) else x.kids.length
theorem lB (x:GN)(a:NA)(w:World) :
  qg 78 #[fE x a] w (dE (.int .i64 (aP x)) w):=by
 have HO:=aYf (show aP x=if x.kind=1 then wrap64 (wrap64 (x.hi - x.lo)+1) else x.kids.length from rfl);go_enter Tryz.func78,Tryz.ntmps78;go_wp2_with fail
 all_goals
  go_ret;refine ⟨aK ?_,(aq _).alloc' _⟩;rw [HO.out]
  simp_all
theorem iF {s:ByteArray}(h:s.toList=[]):bF s=true:=by unfold bF;rw [h];rfl
theorem iG {s:ByteArray}(h:¬ s.toList=[]):bF s=false:=by unfold bF;simpa using h
def rZ (v:GV):Bool:=decide (v.kind=0) && decide (v.n=0) && bF v.s && !decide (0<v.kids.length)
def unA (x:GN)(bv:Bool):Bool:=(!decide (x.kind=0) && !bv) || (!decide (x.kind=1) && (!decide (x.lo=0) || !decide (x.hi=0))) || (!decide (x.kind=3) && !bF x.name)
def unB (x:GN):Bool:=(!decide (x.kind=2) && (decide (0<x.weights.length) || decide (0<x.labels.length))) || (!decide (x.kind=4) && decide (0<x.values.length))
def unC (x:GN):Bool:=(!decide (x.kind=0) && !decide (x.kind=1)) || !decide (0<x.kids.length)
def gO (x:GN):Bool:=!unA x (rZ x.value) && !unB x && unC x
theorem KO (x:GN)(a:NA)(w:World) :
  qg 83 #[fE x a] w (dE (gO x) w):=by
 have HU:=aYf (show gO x=(!unA x (rZ x.value) && !unB x && unC x) from rfl);go_enter Tryz.func83,Tryz.ntmps83;go_upto_region 2 with fail;go_cut [4] (fun s wx=>s=.bool (rZ x.value)∧wx=(w.alloc (qk (aN x a).toArray 60)).alloc (qk #[x.value.kind,x.value.n,x.value.s,.slice a.xA x.value.kids a.xc] 58))
 case first =>
  by_cases hvk:x.value.kind=0
  ·have t0vk:(x.value.kind == 0)=true:=aYh hvk
   have Hvk:=aYf hvk;clear hvk;by_cases hvn:x.value.n=0
   ·have t0vn:(x.value.n == 0)=true:=aYh hvn
    have Hvn:=aYf hvn;clear hvn;by_cases hvs:x.value.s.toList=[]
    ·have t0vs:x.value.s.toList.isEmpty=true:=by rw [hvs];rfl
     by_cases hvl:0<x.value.kids.length
     ·have t0vl:decide (0<(x.value.kids:Int))=true:=aYi I
      have t1vl:((x.value.kids:Int) == 0)=false:=aYg I;go_wp2_with fail;go_meet;exact ⟨congrArg Value.bool (by unfold rZ;rw [aYi Hvk.out,aYi Hvn.out,iF hvs,aYi hvl];try rfl),rfl⟩
     ·have t0vl:decide (0<(x.value.kids:Int))=false:=aYj I
      have t1vl:((x.value.kids:Int) == 0)=true:=aYh I;go_wp2_with fail;go_meet;exact ⟨congrArg Value.bool (by unfold rZ;rw [aYi Hvk.out,aYi Hvn.out,iF hvs,aYj hvl];try rfl),rfl⟩
    ·have t0vs:x.value.s.toList.isEmpty=false:=by simpa using hvs
     go_wp2_with fail;go_meet;exact ⟨congrArg Value.bool (by unfold rZ;rw [aYi Hvk.out,aYi Hvn.out,iG hvs];try rfl),rfl⟩
   ·have t0vn:(x.value.n == 0)=false:=aYg hvn
    go_wp2_with fail;go_meet;exact ⟨congrArg Value.bool (by unfold rZ;rw [aYi Hvk.out,aYj hvn];try rfl),rfl⟩
  ·have t0vk:(x.value.kind == 0)=false:=aYg hvk
   go_wp2_with fail;go_meet;exact ⟨congrArg Value.bool (by unfold rZ;rw [aYj hvk];try rfl),rfl⟩
 case rest =>
  obtain ⟨rfl,rfl⟩:=hcut;generalize rZ x.value=bv at *;go_upto_region 3 with fail;go_cut [57] (fun s wx=>s=.bool (unA x bv)∧wx=(w.alloc (qk (aN x a).toArray 60)).alloc (qk #[x.value.kind,x.value.n,x.value.s,.slice a.xA x.value.kids a.xc] 58))
  case first =>
   by_cases hk0:x.kind=0
   ·have t0k0:(x.kind == 0)=true:=aYh hk0
    have t1k0:(x.kind != 0)=false:=by rw [bne_eq_false_iff_eq];exact hk0
    have hk1:¬ x.kind=1:=I;have t0k1:(x.kind == 1)=false:=aYg hk1;have t1k1:(x.kind != 1)=true:=bne_iff_ne.2 hk1;have hk3:¬ x.kind=3:=by omega
    have t0k3:(x.kind == 3)=false:=aYg hk3;have t1k3:(x.kind != 3)=true:=bne_iff_ne.2 hk3;have Hk0:=aYf hk0;clear hk0;by_cases hlo:x.lo=0
    ·have t0lo:(x.lo == 0)=true:=aYh hlo
     have t1lo:(x.lo != 0)=false:=by rw [bne_eq_false_iff_eq];exact hlo
     have Hlo:=aYf hlo;clear hlo;by_cases hhi:x.hi=0
     ·have t0hi:(x.hi == 0)=true:=aYh hhi
      have t1hi:(x.hi != 0)=false:=by rw [bne_eq_false_iff_eq];exact hhi
      have Hhi:=aYf hhi;clear hhi;by_cases hnm:x.name.toList=[]
      ·have t0nm:x.name.toList.isEmpty=true:=by rw [hnm];rfl
       go_wp2_with fail;go_meet;exact ⟨congrArg Value.bool (by unfold unA;rw [aYj hk1,aYj hk3,aYi Hk0.out,aYi Hlo.out,aYi Hhi.out,iF hnm];try rfl),rfl⟩
      ·have t0nm:x.name.toList.isEmpty=false:=by simpa using hnm
       go_wp2_with fail;go_meet;exact ⟨congrArg Value.bool (by unfold unA;rw [aYj hk1,aYj hk3,aYi Hk0.out,aYi Hlo.out,aYi Hhi.out,iG hnm];try rfl),rfl⟩
     ·have t0hi:(x.hi == 0)=false:=aYg hhi
      have t1hi:(x.hi != 0)=true:=bne_iff_ne.2 hhi;go_wp2_with fail;go_meet;exact ⟨congrArg Value.bool (by unfold unA;rw [aYj hk1,aYi Hk0.out,aYi Hlo.out,aYj hhi];try rfl),rfl⟩
    ·have t0lo:(x.lo == 0)=false:=aYg hlo
     have t1lo:(x.lo != 0)=true:=bne_iff_ne.2 hlo;go_wp2_with fail;go_meet;exact ⟨congrArg Value.bool (by unfold unA;rw [aYj hk1,aYi Hk0.out,aYj hlo];try rfl),rfl⟩
   ·have t0k0:(x.kind == 0)=false:=aYg hk0
    have t1k0:(x.kind != 0)=true:=bne_iff_ne.2 hk0;by_cases hv:bv=true
    ·by_cases hk1:x.kind=1
     ·have t0k1:(x.kind == 1)=true:=aYh hk1
      have t1k1:(x.kind != 1)=false:=by rw [bne_eq_false_iff_eq];exact hk1
      have hk3:¬ x.kind=3:=I;have t0k3:(x.kind == 3)=false:=aYg hk3;have t1k3:(x.kind != 3)=true:=bne_iff_ne.2 hk3;have Hk1:=aYf hk1;clear hk1;by_cases hnm:x.name.toList=[]
      ·have t0nm:x.name.toList.isEmpty=true:=by rw [hnm];rfl
       go_wp2_with fail;go_meet;exact ⟨congrArg Value.bool (by unfold unA;rw [aYj hk0,hv,aYj hk3,aYi Hk1.out,iF hnm];try rfl),rfl⟩
      ·have t0nm:x.name.toList.isEmpty=false:=by simpa using hnm
       go_wp2_with fail;go_meet;exact ⟨congrArg Value.bool (by unfold unA;rw [aYj hk0,hv,aYj hk3,aYi Hk1.out,iG hnm];try rfl),rfl⟩
     ·have t0k1:(x.kind == 1)=false:=aYg hk1
      have t1k1:(x.kind != 1)=true:=bne_iff_ne.2 hk1;by_cases hlo:x.lo=0
      ·have t0lo:(x.lo == 0)=true:=aYh hlo
       have t1lo:(x.lo != 0)=false:=by rw [bne_eq_false_iff_eq];exact hlo
       have Hlo:=aYf hlo;clear hlo;by_cases hhi:x.hi=0
       ·have t0hi:(x.hi == 0)=true:=aYh hhi
        have t1hi:(x.hi != 0)=false:=by rw [bne_eq_false_iff_eq];exact hhi
        have Hhi:=aYf hhi;clear hhi;by_cases hk3:x.kind=3
        ·have t0k3:(x.kind == 3)=true:=aYh hk3
         have t1k3:(x.kind != 3)=false:=by rw [bne_eq_false_iff_eq];exact hk3
         have Hk3:=aYf hk3;clear hk3;go_wp2_with fail;go_meet;exact ⟨congrArg Value.bool (by unfold unA;rw [aYj hk0,hv,aYj hk1,aYi Hlo.out,aYi Hhi.out,aYi Hk3.out];try rfl),rfl⟩
        ·have t0k3:(x.kind == 3)=false:=aYg hk3
         have t1k3:(x.kind != 3)=true:=bne_iff_ne.2 hk3;by_cases hnm:x.name.toList=[]
         ·have t0nm:x.name.toList.isEmpty=true:=by rw [hnm];rfl
          go_wp2_with fail;go_meet;exact ⟨congrArg Value.bool (by unfold unA;rw [aYj hk0,hv,aYj hk1,aYi Hlo.out,aYi Hhi.out,aYj hk3,iF hnm];try rfl),rfl⟩
         ·have t0nm:x.name.toList.isEmpty=false:=by simpa using hnm
          go_wp2_with fail;go_meet;exact ⟨congrArg Value.bool (by unfold unA;rw [aYj hk0,hv,aYj hk1,aYi Hlo.out,aYi Hhi.out,aYj hk3,iG hnm];try rfl),rfl⟩
       ·have t0hi:(x.hi == 0)=false:=aYg hhi
        have t1hi:(x.hi != 0)=true:=bne_iff_ne.2 hhi;go_wp2_with fail;go_meet;exact ⟨congrArg Value.bool (by unfold unA;rw [aYj hk0,hv,aYj hk1,aYi Hlo.out,aYj hhi];try rfl),rfl⟩
      ·have t0lo:(x.lo == 0)=false:=aYg hlo
       have t1lo:(x.lo != 0)=true:=bne_iff_ne.2 hlo;go_wp2_with fail;go_meet;exact ⟨congrArg Value.bool (by unfold unA;rw [aYj hk0,hv,aYj hk1,aYj hlo];try rfl),rfl⟩
    ·have t0v:bv=false:=by simpa using hv
     go_wp2_with fail;go_meet;exact ⟨congrArg Value.bool (by unfold unA;rw [aYj hk0,(Bool.eq_false_iff.2 hv)];try rfl),rfl⟩
  case rest =>
   obtain ⟨rfl,rfl⟩:=hcut;generalize unA x bv=b3 at *;cases b3
   ·go_upto_region 5 with fail
    go_cut [83] (fun s wx=>s=.bool (unB x)∧wx=(w.alloc (qk (aN x a).toArray 60)).alloc (qk #[x.value.kind,x.value.n,x.value.s,.slice a.xA x.value.kids a.xc] 58))
    case first =>
     by_cases hk2:x.kind=2
     ·have t0k2:(x.kind == 2)=true:=aYh hk2
      have t1k2:(x.kind != 2)=false:=by rw [bne_eq_false_iff_eq];exact hk2
      have hk4:¬ x.kind=4:=I;have t0k4:(x.kind == 4)=false:=aYg hk4;have t1k4:(x.kind != 4)=true:=bne_iff_ne.2 hk4;have Hk2:=aYf hk2;clear hk2;by_cases hvv:0<x.values.length
      ·have t0vv:decide (0<(x.values:Int))=true:=aYi I
       go_wp2_with fail;go_meet;exact ⟨congrArg Value.bool (by unfold unB;rw [aYj hk4,aYi Hk2.out,aYi hvv];try rfl),rfl⟩
      ·have t0vv:decide (0<(x.values:Int))=false:=aYj I
       go_wp2_with fail;go_meet;exact ⟨congrArg Value.bool (by unfold unB;rw [aYj hk4,aYi Hk2.out,aYj hvv];try rfl),rfl⟩
     ·have t0k2:(x.kind == 2)=false:=aYg hk2
      have t1k2:(x.kind != 2)=true:=bne_iff_ne.2 hk2;by_cases hwt:0<x.weights.length
      ·have t0wt:decide (0<(x.weights:Int))=true:=aYi I
       go_wp2_with fail;go_meet;exact ⟨congrArg Value.bool (by unfold unB;rw [aYj hk2,aYi hwt];try rfl),rfl⟩
      ·have t0wt:decide (0<(x.weights:Int))=false:=aYj I
       by_cases hlb:0<x.labels.length
       ·have t0lb:decide (0<(x.labels:Int))=true:=aYi I
        go_wp2_with fail;go_meet;exact ⟨congrArg Value.bool (by unfold unB;rw [aYj hk2,aYj hwt,aYi hlb];try rfl),rfl⟩
       ·have t0lb:decide (0<(x.labels:Int))=false:=aYj I
        by_cases hk4:x.kind=4
        ·have t0k4:(x.kind == 4)=true:=aYh hk4
         have t1k4:(x.kind != 4)=false:=by rw [bne_eq_false_iff_eq];exact hk4
         have Hk4:=aYf hk4;clear hk4;go_wp2_with fail;go_meet;exact ⟨congrArg Value.bool (by unfold unB;rw [aYj hk2,aYj hwt,aYj hlb,aYi Hk4.out];try rfl),rfl⟩
        ·have t0k4:(x.kind == 4)=false:=aYg hk4
         have t1k4:(x.kind != 4)=true:=bne_iff_ne.2 hk4;by_cases hvv:0<x.values.length
         ·have t0vv:decide (0<(x.values:Int))=true:=aYi I
          go_wp2_with fail;go_meet;exact ⟨congrArg Value.bool (by unfold unB;rw [aYj hk2,aYj hwt,aYj hlb,aYj hk4,aYi hvv];try rfl),rfl⟩
         ·have t0vv:decide (0<(x.values:Int))=false:=aYj I
          go_wp2_with fail;go_meet;exact ⟨congrArg Value.bool (by unfold unB;rw [aYj hk2,aYj hwt,aYj hlb,aYj hk4,aYj hvv];try rfl),rfl⟩
    case rest =>
     obtain ⟨rfl,rfl⟩:=hcut;generalize unB x=b5 at *;cases b5
     ·have HU2:=aYf (show gO x=unC x by rw [HU.out];rfl)
      by_cases hk0:x.kind=0
      ·have t0k0:(x.kind == 0)=true:=aYh hk0
       have t1k0:(x.kind != 0)=false:=by rw [bne_eq_false_iff_eq];exact hk0
       have hk1:¬ x.kind=1:=I;have t0k1:(x.kind == 1)=false:=aYg hk1;have t1k1:(x.kind != 1)=true:=bne_iff_ne.2 hk1;have Hk0:=aYf hk0;clear hk0;by_cases hkd:0<x.kids.length
       ·have t0kd:decide (0<(x.kids:Int))=true:=aYi I
        have t1kd:((x.kids:Int) == 0)=false:=aYg I;go_wp2_with fail;go_ret;exact ⟨aD (by rw [HU2.out];unfold unC;rw [aYi Hk0.out,aYi hkd];try rfl),((aq _).alloc' _).alloc' _⟩
       ·have t0kd:decide (0<(x.kids:Int))=false:=aYj I
        have t1kd:((x.kids:Int) == 0)=true:=aYh I;go_wp2_with fail;go_ret;exact ⟨aD (by rw [HU2.out];unfold unC;rw [aYi Hk0.out,aYj hkd];try rfl),((aq _).alloc' _).alloc' _⟩
      ·have t0k0:(x.kind == 0)=false:=aYg hk0
       have t1k0:(x.kind != 0)=true:=bne_iff_ne.2 hk0;by_cases hk1:x.kind=1
       ·have t0k1:(x.kind == 1)=true:=aYh hk1
        have t1k1:(x.kind != 1)=false:=by rw [bne_eq_false_iff_eq];exact hk1
        have Hk1:=aYf hk1;clear hk1;by_cases hkd:0<x.kids.length
        ·have t0kd:decide (0<(x.kids:Int))=true:=aYi I
         have t1kd:((x.kids:Int) == 0)=false:=aYg I;go_wp2_with fail;go_ret;exact ⟨aD (by rw [HU2.out];unfold unC;rw [aYj hk0,aYi Hk1.out,aYi hkd];try rfl),((aq _).alloc' _).alloc' _⟩
        ·have t0kd:decide (0<(x.kids:Int))=false:=aYj I
         have t1kd:((x.kids:Int) == 0)=true:=aYh I;go_wp2_with fail;go_ret;exact ⟨aD (by rw [HU2.out];unfold unC;rw [aYj hk0,aYi Hk1.out,aYj hkd];try rfl),((aq _).alloc' _).alloc' _⟩
       ·have t0k1:(x.kind == 1)=false:=aYg hk1
        have t1k1:(x.kind != 1)=true:=bne_iff_ne.2 hk1;go_wp2_with fail;go_ret;exact ⟨aD (by rw [HU2.out];unfold unC;rw [aYj hk0,aYj hk1];try rfl),((aq _).alloc' _).alloc' _⟩
     ·go_wp2_with fail
      go_ret;exact ⟨aD j2,((aq _).alloc' _).alloc' _⟩
   ·go_wp2_with fail
    go_ret;exact ⟨aD j2,((aq _).alloc' _).alloc' _⟩
section
variable {w w':World}{P Q:Nat->Prop}{A:Option Addr}{n c:Nat}
theorem bL.le {l:List Int}(h:bL w P (.slice A n c) l):l<=c∧(l.length<=17592186044416∧c<=9223372036854775807):=by
 obtain ⟨A',c',e,h1,h2,_⟩:=h;injection e with _ _ e;omega
theorem bZ.le {l:List GV}(h:bZ w P (.slice A n c) l):l<=c∧(l.length<=17592186044416∧c<=9223372036854775807):=by
 obtain ⟨A',c',_,e,h1,h2,_⟩:=h;injection e with _ _ e;omega
theorem bL.get {l:List Int}(h:bL w P (.slice A n c) l){i:Nat}(hi:i<l) :
  ∃ b off,A=some ↑(qt b off)∧P b∧I64 (l.getD i 0)∧qc w b (off+i) (.int .i64 (l.getD i 0)):=by
 obtain ⟨b,off,c',e,hb,_,_,h1,h2⟩:=h.at_ hi;injection e with e _ _;exact ⟨b,off,e,hb,h1,h2⟩
theorem bZ.get {l:List GV}(h:bZ w P (.slice A n c) l){i:Nat}(hi:i<l) :
  ∃ b off A' d,A=some ↑(qt b off)∧P b∧VAt w P (l.getD i default) A' d ∧
   qc w b (off+i*4) (.int .i64 (l.getD i default).kind)∧qc w b (off+i*4+1) (.int .i64 (l.getD i default).n) ∧
   qc w b (off+i*4+2) (.string (l.getD i default).s)∧qc w b (off+i*4+3) (.slice A' (l.getD i default).kids.length d):=by
 obtain ⟨b,off,c',A',d,e,hb,_,_,h1,h2⟩:=h.at_ hi;injection e with e _ _;exact ⟨b,off,A',d,e,hb,h1,h2⟩
theorem Nds.get {l:List GN}(h:Nds w P (.slice A n c) l){i:Nat}(hi:i<l) :
  ∃ b off a,A=some ↑(qt b off)∧P b∧NAt w P (l.getD i default) a∧aR w b (off+i*12) (l.getD i default) a:=by
 obtain ⟨b,off,c',a,e,hb,ha,hc⟩:=h.at_ hi;injection e with e _ _;exact ⟨b,off,a,e,hb,ha,hc⟩
end
def wX (x:GN):Bool:=decide (x.hi<x.lo) || decide (x.lo < -4611686018427387904) || decide (4611686018427387904<x.hi) || decide (x.lo+1099511627776<=x.hi)
def fS (n:Int):Bool:=decide (1<=n∧n<=1000)
def bQ (x:GN):Bool:=!wX x && x.weights.all fS
def FD (x:GN)(W:World)(i:Value)(wr:World):Prop:=∃ k:Nat,k<=x.weights.length∧i=↑k∧wr=W∧bQ x=(x.weights.drop k).all fS
theorem qC (x:GN)(a:NA)(P:Nat->Prop)(w:World)(hx:NAt w P x a) :
  qg 57 #[fE x a] w (dE (bQ x) w):=by
 have HX:=aYf hx;have HU:=aYf (show bQ x=(!wX x && x.weights.all fS) from rfl);obtain ⟨hl,hc⟩:=hx.weights.le;have hi1:=hx.lo;have hi2:=hx.hi;unfold I64 at hi1 hi2;clear hx;go_enter Tryz.func57,Tryz.ntmps57;go_upto_region 1 with fail;go_cut [26] (fun s wx=>s=.bool (wX x)∧wx=w.alloc (qk (aN x a).toArray 60))
 case first =>
  by_cases ha1:x.hi<x.lo
  ·have t0a1:decide (x.hi<x.lo)=true:=aYi ha1
   go_wp2_with fail;go_meet;exact ⟨congrArg Value.bool fw,rfl⟩
  ·have t0a1:decide (x.hi<x.lo)=false:=aYj ha1
   by_cases ha2:x.lo < -4611686018427387904
   ·have t0a2:decide (x.lo < -4611686018427387904)=true:=aYi ha2
    go_wp2_with fail;go_meet;exact ⟨congrArg Value.bool dw,rfl⟩
   ·have t0a2:decide (x.lo < -4611686018427387904)=false:=aYj ha2
    by_cases ha3:4611686018427387904<x.hi
    ·have t0a3:decide (4611686018427387904<x.hi)=true:=aYi ha3
     go_wp2_with fail;go_meet;exact ⟨congrArg Value.bool di,rfl⟩
    ·have t0a3:decide (4611686018427387904<x.hi)=false:=aYj ha3
     by_cases ha4:x.lo+1099511627776<=x.hi
     ·have t0a4:decide (x.lo+1099511627776<=x.hi)=true:=aYi ha4
      go_wp2_with fail;go_meet;exact ⟨congrArg Value.bool (by unfold wX;rw [(show decide (x.hi<x.lo)=false from aYj I),(show decide (x.lo < -4611686018427387904)=false from aYj I),(show decide (4611686018427387904<x.hi)=false from aYj I),(show decide (x.lo+1099511627776<=x.hi)=true from aYi I)];try rfl),rfl⟩
     ·have t0a4:decide (x.lo+1099511627776<=x.hi)=false:=aYj ha4
      go_wp2_with fail;go_meet;exact ⟨congrArg Value.bool (by unfold wX;rw [(show decide (x.hi<x.lo)=false from aYj I),(show decide (x.lo < -4611686018427387904)=false from aYj I),(show decide (4611686018427387904<x.hi)=false from aYj I),(show decide (x.lo+1099511627776<=x.hi)=false from aYj I)];try rfl),rfl⟩
 case rest =>
  obtain ⟨rfl,rfl⟩:=hcut;have HB:=aYf (show Blk (w.alloc (qk (aN x a).toArray 60)) w 60 (aN x a).toArray from aw _ _ _);have HE:=aYf (show Ext w (w.alloc (qk (aN x a).toArray 60)) from (aq _).alloc' _);have hb4:=HB.out.cell' (u:=.slice a.wA x.weights a.wc) 4 rfl;have HW:=aYf (HX.out.weights.ext HE.out);generalize w.alloc (qk (aN x a).toArray 60)=W at *;generalize wX x=bn at *;cases bn
  ·have HU2:=aYf (show bQ x=(x.weights.drop 0).all fS by rw [HU.out];rfl)
   go_wp2_with fail;go_loopw [3] (fun i wr=>FD x W i wr) (fun i _=>x.weights.length - (intOf i).toNat)
   case atStart=>exact ⟨0,af _,rfl,rfl,HU2.out⟩
   case round =>
    obtain ⟨k,hk,rfl,rfl,ht⟩:=hrel;have HT:=aYf ht;clear ht;by_cases hlt:k<x.weights
    ·obtain ⟨b1,o1,e1,-,hv,g1⟩:=HW.out.get hlt
     rw [e1] at hb4;clear e1;have HD:=aYf (show bQ x=(fS (x.weights.getD k 0) && (x.weights.drop (k+1)).all fS) by rw [HT.out,aJ 0 hlt];rfl);generalize x.weights.getD k 0=z at *;clear hv;by_cases hz1:z<1
     ·have HN:=aYf (show fS z=false from aYj I)
      go_wp2_with fail;go_ret;exact ⟨aD fu,HE.out⟩
     ·have tz1:decide (z<1)=false:=aYj hz1
      by_cases hz2:1000<z
      ·have HN:=aYf (show fS z=false from aYj I)
       go_wp2_with fail;go_ret;exact ⟨aD fu,HE.out⟩
      ·have tz2:decide (1000<z)=false:=aYj hz2
       have HN:=aYf (show fS z=true from aYi I);go_wp2_with fail;go_roundw
       case rel=>exact ⟨k+1,I,by go_num,rfl,fu⟩
       case measure=>simp [intOf];omega
    ·go_wp2_with fail
     go_ret;exact ⟨aD (by rw [HT.out,drop_nil I];rfl),HE.out⟩
  ·go_wp2_with fail
   go_ret;exact ⟨aD j2,HE.out⟩
def eF (a b:List GV):Bool:=decide (a.length=b) && (a.zip b).all (fun p=>decide (cS p.1 p.2=0))
def zc (a b:List GV)(W:World)(i:Value)(wr:World):Prop:=∃ k:Nat,k<=a.length∧i=↑k∧Ext W wr∧eF a b=((a.drop k).zip (b.drop k)).all (fun p=>decide (cS p.1 p.2=0))
theorem sF (a b:List GV)(P Q:Nat->Prop)(va vb:Value)(w:World)(ha:bZ w P va a)(hb:bZ w Q vb b) :
  qg 59 #[va,vb] w (dE (eF a b) w):=by
 have HA:=aYf ha;have HB:=aYf hb;have HS:=aYf (show eF a b=(decide (a.length=b) && (a.zip b).all (fun p=>decide (cS p.1 p.2=0))) from rfl);obtain ⟨A,c,e,h1,h2⟩:=ha.form;obtain ⟨A',c',e',h1',h2'⟩:=hb.form;subst e e';clear ha hb;by_cases hl:a.length=b
 ·have HS2:=aYf (show eF a b=((a.drop 0).zip (b.drop 0)).all (fun p=>decide (cS p.1 p.2=0)) by rw [HS.out,aYi hl];rfl)
  have hl1:a.length<=b:=I;have hl2:b.length<=a:=I;have hne:((a:Int) != (b:Int))=false:=iu;clear hl;go_enter Tryz.func59,Tryz.ntmps59;go_wp2_with fail;go_loopw [5] (fun i wr=>zc a b w i wr) (fun i _=>a.length - (intOf i).toNat)
  case atStart=>exact ⟨0,af _,rfl,aq _,HS2.out⟩
  case round =>
   obtain ⟨k,hk,rfl,hx,ht⟩:=hrel;have HT:=aYf ht;have HX:=aYf hx;clear ht hx;by_cases hlt:k<a
   ·have hlt':k<b:=by omega
    have HD:=aYf (show eF a b=(decide (cS (a.getD k default) (b.getD k default)=0) && ((a.drop (k+1)).zip (b.drop (k+1))).all (fun p=>decide (cS p.1 p.2=0))) by
     rw [HT.out,aJ default hlt,aJ default hlt'];rfl)
    obtain ⟨b1,o1,c1,A1,d1,e1,-,-,-,hv1,g10,g11,g12,g13⟩:=(HA.out.ext HX.out).at_ hlt;obtain ⟨b2,o2,c2,A2,d2,e2,-,-,-,hv2,g20,g21,g22,g23⟩:=(HB.out.ext HX.out).at_ hlt';cases e1;cases e2;have HV1:=aYf hv1;have HV2:=aYf hv2;clear hv1 hv2;generalize a.getD k default=x at *;generalize b.getD k default=y at *;go_wp2_with fail;go_still_tail 8,av;go_wp2_with fail;refine (gS x y A1 A2 d1 d2 P Q _ (HV1.out.ext (aq _).drew') (HV2.out.ext (aq _).drew')).mono ?_;rintro e w1 ⟨rfl,hx1⟩;have HX1:=aYf (HX.out.trans' ((aq _).drew'.trans' hx1));clear hx1;by_cases hz:cS x y=0
    ·have HZ:=aYf hz
     have tz:(cS x y != 0)=false:=er;clear hz;go_wp2_with fail;go_roundw
     case rel=>exact ⟨k+1,I,by go_num,HX1.out,ji⟩
     case measure=>simp [intOf];omega
    ·have HZ:=aYf hz
     have tz:(cS x y != 0)=true:=bne_iff_ne.2 hz;clear hz;go_wp2_with fail;go_ret;exact ⟨aD (by rw [HD.out,aYj HZ.out];rfl),HX1.out⟩
   ·go_wp2_with fail
    go_ret;exact ⟨aD (by rw [HT.out,drop_nil (l:=a) I];rfl),HX.out⟩
 ·have hne:((a:Int) != (b:Int))=true:=bne_iff_ne.2 I
  have HL:=aYf hl;clear hl;go_enter Tryz.func59,Tryz.ntmps59;go_wp2_with fail;go_ret;exact ⟨aD (by rw [HS.out,aYj HL.out];rfl),aq _⟩
theorem Tryz.info3:(Tryz.prog.info? 3).map (fun i=>(i.zero,i.size,i.bytes))=some (some ↑qz,1,8):=av
def dO (before:List Int):Int->List Int->Int
 | s,[]=>s
 | s,z :: zs=>dO before (wrap64 (s+before.getD z.toNat 0)) zs
def bA (before:List Int)(ch:Bool):Nat->Int->List Int->Int
 | _,m,[]=>m
 | i,m,z :: zs=>bA before ch (i+1) (if ch=true∨0<i then (if m<before.getD z.toNat 0 then before.getD z.toNat 0 else m) else m) zs
def gZ (before:List Int)(x:GN):Int :=
 if x.kind=0 then 0 else if x.kind=1 then 1 else if x.kind=3 then dO before 0 x.kids
 else if x.kind=2 then wrap64 (1+bA before true 0 0 x.kids)
 else wrap64 (before.getD (x.kids.getD 0 0).toNat 0+bA before false 0 0 x.kids)
def jO (before:List Int)(x:GN):Int :=
 if x.kind=0 then rsz x.value else if x.kind=1 then 1 else if x.kind=3 then dO before 1 x.kids
 else bA before (decide (x.kind=2)) 0 0 x.kids
def yp (base:Nat)(e:TypeId)(size:Nat)(vb:Value)(n:Nat)(xs:List Value)(w:World)(en:Ending)(w':World):Prop :=
 ∃ v',en=.returned v'∧w'.ownsRow base e size v' n xs∧Fr (fun k=>some k=vb.ownBlock) w w'∧(v'.ownBlock=vb.ownBlock∨∃ b,v'.ownBlock=some b∧w<=b)
theorem Sl.new (W:World)(cs:List Value)(t:TypeId)(n size:Nat)(h:cs=n*size):Sl (W.alloc (qk cs.toArray t)) (fun _=>True) size (qp W) n cs :=
 ⟨h,fun _=>⟨W.heap.size,0,rfl,trivial,fun j u hu=>by rw [jF];simpa using hu⟩⟩
theorem _root_.Go.World.ownsRow.ext_ {w w':World}{base:Nat}{e:TypeId}{size:Nat}{v:Value}{n:Nat}{xs:List Value}(h:w.ownsRow base e size v n xs)(hx:Ext w w'):w'.ownsRow base e size v n xs:=by
 refine ⟨h.1,?_⟩;rcases h.2 with h | ⟨g,cap,cur,h1,h2,h3,h4⟩
 ·exact .inl h
 ·exact .inr ⟨g,cap,cur,h1,h2,(Blk.ext (t:=e) h3 hx),h4⟩
