/- Contracts and laws. Conditions: none. -/
import Derived.BigCall
import Derived.Deep.RegionLaw
import Derived.OrdersHeld
import Derived.StillTail
import Derived.Test.YtkoeecdjijfjnaaGreatDoorB3
set_option linter.all false
set_option maxRecDepth 100000
set_option maxHeartbeats 8000000
namespace Go.Proofs.YtkoeecdjijfjnaaGreatDoor
open Go.RowKit
structure kg (w:World) where
 v:World
 h:Ext w v
instance (w:World):Nonempty (kg w):=⟨⟨w,aq w⟩⟩
theorem lS {P:Program}{id:Nat}{Q:Exit->Act->World->Prop}{a:Act}{w:World}{l:List Oper}(hm:P.follows .mixedOrders=true)(hB:Region.lexB .any l.toArray=true)
  (h:wpQuiet P l.toArray (fun w'=>∃ p:kg w,w'=p.v) (fun a'=>∀ w',(∃ p:kg w,w'=p.v)->Q .normal a' w') l a):(Code.region id l.toArray true).wp P Q a w :=
 wp_region_quiet (C:=fun w'=>∃ p:kg w,w'=p.v) hm hB ⟨⟨w.drew,(aq w).drew'⟩,rfl⟩ ie
theorem kg.cell {w:World}{b off:Nat}{u:Value}(h:qc w b off u)(p:kg w):qc p.v b off u:=aA p.h h
theorem zf {P:Program}{f:FuncId}{args:Array Value}{w:World}{p:kg w}{v:Value}(h:Calls P f args p.v (dE v p.v)):Calls P f args p.v fun e w''=>e=.returned v∧∃ q:kg w,w''=q.v :=
 h.mono fun _ _ ⟨he,hx⟩=>⟨he,⟨_,p.h.trans' hx⟩,rfl⟩
theorem xP {P:Program}{ops:Array Oper}{o:Oper}{a:Act}{w:World}{K:Act->World->Prop}{Q:Exit->Act->World->Prop}{E:Prop}(hg:o.guard=none)(f:FuncId)(xs:Array Operand)(ats:Array TypeId)
  (hop:o.op=Op.call { callee:=Callee.value (Operand.func f),args:=xs,argTypes:=ats })(fn:Func)(hf:P.funcs[f]?=some fn)(hn:(fn.name == "runtime.NumGoroutine")=false) (hb:fn.body.isNone=false) (vs:Array Value) (hv:xs.map a.eval=vs) (h:Calls P f vs w fun e w'=>∃ v,e=.returned v∧K (a.put o.dst v) w') :
  if Region.wanted o (yielded ops a.tmps)=true then Oper.wp P o a w K Q else E:=by
 have hw:Region.wanted o (yielded ops a.tmps)=true:=dy;rw [if_pos hw];unfold Oper.wp;obtain ⟨dst,op,ty,pos,after,guard⟩:=o;simp only at hop;subst hop;rw [execOp_call_go,hv];subst hv;have hp:Sem.run P program w=.ok P w:=rfl;simp only [callFunc,Array.append_empty,Array.empty_append,Sem.run_bind,hp,Result.andThen_ok,hf,hn,hb,Bool.false_eq_true,if_false,Sem.run_pure,Oper.upon];refine h.mono ?_;rintro e w' ⟨v,rfl,hk⟩;exact hk
section
variable {P:Program}{ops:Array Oper}{Q:Exit->Act->World->Prop}{md:Region.Mode}{S:World->Prop}{bf:Nat->Bool}
def iC (P:Program)(md:Region.Mode)(ops:Array Oper)(Q:Exit->Act->World->Prop)(S:World->Prop)(bf:Nat->Bool):Nat->Array Bool->Act->World->Prop
 | 0,listed,a,w=>Region.ready md ops listed=[]∧Q .normal a w
 | fuel+1,listed,a,w=>(Region.ready md ops listed=[]->Q .normal a w) ∧
  ∀ i ∈ Region.ready md ops listed,wpOp P ops Q i (fun a' w'=>(bf i=true->S w')∧iC P md ops Q S bf fuel (listed.setIfInBounds i true) a' w') a w
theorem sQ:∀ (fuel:Nat)(listed:Array Bool)(a:Act)(w:World),iC P md ops Q S bf fuel listed a w->wpAny P md ops Q fuel listed a w
 | 0,_,_,_,h=>h
 | fuel+1,_,_,_,h=>⟨h.1,fun i hi=>wpOp_mono (fun a' w' h'=>sQ fuel _ a' w' h'.2) (h.2 i hi)⟩
theorem xF {i:Nat}{oi:Oper}{v:Value}(hi:ops[i]?=some oi)(hsel:∀ (j:Nat)(o:Oper) cs b,ops[j]?=some o->o.op ≠ .select cs b)
  (hQ:∀ c a w,Q (.panic c) (a.put oi.dst v) w->Q (.panic c) a w)(hw:∀ j oj,ops[j]?=some oj->bf j=true∨∃ e ∈ oj.after,Region.binds md e=true∧e.on=i) :
  ∀ (fuel:Nat) (listed:Array Bool) (a:Act) (w:World),
   (∀ j oj,ops[j]?=some oj->j ≠ i->listed.getD j true=false->(∀ e ∈ oj.after,Region.binds md e=true->e.on ≠ i)->oi.apart ops oj=true) ->
   i ∈ Region.ready md ops listed->YieldsIf P ops S oi v a->S w ->
   iC P md ops Q S bf fuel (listed.setIfInBounds i true) (a.put oi.dst v) w->iC P md ops Q S bf (fuel+1) listed a w:=by
 intro fuel
 induction fuel with
 | zero =>
  intro listed a w _ hr hy hS H;refine ⟨fun h=>(by rw [h] at hr;cases hr),fun j hj=>?_⟩;by_cases hji:j=i
  ·subst hji;exact hy.wpOp hi hS ⟨fun _=>hS,H⟩
  ·have:=ready_mono hj hji
   rw [H.1] at this;cases this
 | succ fuel ih =>
  intro listed a w hfree hr hy hS H;refine ⟨fun h=>(by rw [h] at hr;cases hr),fun j hj=>?_⟩;by_cases hji:j=i
  ·subst hji;exact hy.wpOp hi hS ⟨fun _=>hS,H⟩
  ·have h1:=H.2 j (ready_mono hj hji)
   obtain ⟨hjun,oj,hoj,hall⟩:=mem_ready.1 hj
   have hnot:∀ e ∈ oj.after,Region.binds md e=true->e.on ≠ i:=fun e he hb heq=>by
    have h1:=hall e he hb;have h0:=(mem_ready.1 hr).1;rw [heq] at h1;rcases Nat.lt_or_ge i listed.size with h' | h'
    ·simp [h'] at h0 h1;rw [h0] at h1;cases h1
    ·simp [Array.getElem?_eq_none h'] at h1
   have hbj:bf j=true:=by
    rcases hw j oj hoj with h | ⟨e,he,hb,hon⟩
    ·exact h
    ·exact absurd hon (hnot e he hb)
   have h2:=wpOp_putIf hoj (hfree j oj hoj hji hjun hnot) (fun cs b=>hsel i oi cs b hi) (fun cs b=>hsel j oj cs b hoj) hQ hy h1
   have hfree':∀ k ok,ops[k]?=some ok->k ≠ i->(listed.setIfInBounds j true).getD k true=false ->
     (∀ e ∈ ok.after,Region.binds md e=true->e.on ≠ i)->oi.apart ops ok=true:=fun k ok hk hki hun hno=>by
    refine hfree k ok hk hki ?_ hno;by_cases hjk:j=k
    ·subst hjk;exact hjun
    ·rw [getD_set_ne true hjk] at hun;exact hun
   refine wpOp_mono (fun a' w' h3=>⟨h3.2.1,ih (listed.setIfInBounds j true) a' w' hfree' (ready_mono hr (Ne.symm hji)) h3.1 (h3.2.1 hbj) ?_⟩) h2;rw [Array.setIfInBounds_comm _ _ hji];exact h3.2.2
def rx (md:Region.Mode)(ops:Array Oper)(bf:Nat->Bool)(i:Nat):Bool:=(List.range ops.size).all fun j=>bf j || Region.waitsFor md ops j i
theorem Dx {i:Nat}(h:rx md ops bf i=true):∀ j oj,ops[j]?=some oj->bf j=true∨∃ e ∈ oj.after,Region.binds md e=true∧e.on=i:=by
 intro j oj hj;have hlt:j<ops.size:=(Array.getElem?_eq_some_iff.1 hj).1;have h1:=List.all_eq_true.1 h j (List.mem_range.2 hlt);rcases Bool.or_eq_true_iff.1 h1 with h1 | h1
 ·exact .inl h1
 ·obtain ⟨o',ho',e,he,hb,hon⟩:=Region.waitsFor_spec h1
  have:o'=oj:=Option.some.inj (ho'.symm.trans hj);subst this;exact .inr ⟨e,he,hb,hon⟩
theorem zY {i:Nat}{oi:Oper}{v:Value}{fuel:Nat}{listed:Array Bool}{a:Act}{w:World}(hi:ops[i]?=some oi)
  (hs:Region.noSelect ops=true)(hf:Region.free md ops listed i=true)(hr:(Region.ready md ops listed).contains i=true)(hb:rx md ops bf i=true)
  (hQ:∀ c a w,Q (.panic c) (a.put oi.dst v) w->Q (.panic c) a w)(hy:YieldsIf P ops S oi v a)(hS:S w)
  (h:iC P md ops Q S bf fuel (listed.setIfInBounds i true) (a.put oi.dst v) w):iC P md ops Q S bf (fuel+1) listed a w :=
 xF hi (Region.noSelect_spec hs) hQ (Dx hb) fuel listed a w (Region.free_spec hi hf) (by simpa using hr) hy hS h
theorem Ji {i:Nat}{o:Oper}{fuel:Nat}{listed:Array Bool}{a:Act}{w:World}(hr:Region.ready md ops listed=[i])(hi:ops[i]?=some o)
  (h:∀ K:Act->World->Prop,(∀ a' w',(bf i=true->S w')->iC P md ops Q S bf fuel (listed.setIfInBounds i true) a' w'->K a' w')->if Region.wanted o (yielded ops a.tmps)=true then Oper.wp P o a w K Q else K (a.put o.dst undef) w):iC P md ops Q S bf (fuel+1) listed a w:=by
 refine ⟨fun h0=>(by rw [h0] at hr;cases hr),fun j hj=>?_⟩;rw [hr] at hj;simp only [List.mem_singleton] at hj;subst hj;have h1:=h (fun a' w'=>(bf j=true->S w')∧iC P md ops Q S bf fuel (listed.setIfInBounds j true) a' w') (fun a' w' h2 h3=>⟨h2,h3⟩);unfold wpOp;simp only [hi];split
 ·rename_i hw
  rw [if_pos hw] at h1;exact .inl h1
 ·rename_i hw
  rw [if_neg hw] at h1;exact h1
theorem zZ {listed:Array Bool}{a:Act}{w:World}(hr:Region.ready md ops listed=[])(h:Q .normal a w) :
  ∀ fuel,iC P md ops Q S bf fuel listed a w
 | 0=>⟨hr,h⟩
 | _+1=>⟨fun _=>h,by rw [hr];simp⟩
theorem zX {id:Nat}{a:Act}{w:World}(S:World->Prop)(bf:Nat->Bool)(hm:P.follows .mixedOrders=true)
  (h:iC P .any ops Q S bf ops.size (Array.replicate ops.size false) a { w with drawn:=w.drawn+1 }):(Code.region id ops true).wp P Q a w :=
 wp_region_any hm (sQ _ _ _ _ h)
end
theorem vp (a:Act)(d e:Nat)(v:Value):(a.put (some d) v).eval (.tmp e)=if d=e then (if d<a.tmps.size then v else undef) else a.eval (.tmp e):=by
 simp only [Act.put,Act.eval];by_cases h:d=e
 ·subst h
  by_cases h2:d<a.tmps.size <;> simp [h2]
 ·simp [h]
theorem zp (a:Act)(d:Nat)(v:Value):(a.put (some d) v).tmps.size=a.tmps.size:=by simp [Act.put]
section
variable {ρ:Operand->Value}{o:Oper}{w:World}
theorem Bz {g f:Nat}{v:Value}(x:Operand)(ho:o.op=.load 9 x)(hx:ρ x=↑(qt g f))(hc:qc w g f v):(execOp ρ o).run Tryz.prog w=.ok (.value v) w:=by
 simp [execOp,ho,hx,go_sem,hc]
end
section
variable {ops:Array Oper}{o:Oper}{a:Act}{w:World}{K:Act->World->Prop}{Q:Exit->Act->World->Prop}{E:Prop}
end
def xX (n:Nat):Code->Option Code
 | .region id ops d=>if id=n then some (.region id ops d) else none
 | .seq a b=>match xX n a with
  | some c=>some c
  | none=>xX n b
 | .block _ c=>xX n c
 | .scope c=>xX n c
 | .loop c=>xX n c
 | .cond _ a b=>match xX n a with
  | some c=>some c
  | none=>xX n b
 | _=>none
noncomputable def RG (f:Func) (n:Nat):Code:=(f.body.bind (xX n)).getD .skip
section
variable {P:Program}{ops:Array Oper}{Q:Exit->Act->World->Prop}{md:Region.Mode}{S:World->Prop}{bf:Nat->Bool}
end
section
variable {ρ:Operand->Value}{o:Oper}{w:World}
end
section
variable {ρ:Operand->Value}{o:Oper}{w:World}
end
structure WL (ops:Array Oper)(Q:Exit->Act->World->Prop)(l:List Oper)(a:Act)(w:World):Prop where
 out:wpList Tryz.prog ops Q l a w
theorem zW {id:Nat}{l:List Oper}{Q:Exit->Act->World->Prop}{a:Act}{w:World}(h:WL l.toArray Q l a w):(Code.region id l.toArray false).wp Tryz.prog Q a w:=wp_region_lit h.out
theorem rW {id:Nat}{l:List Oper}{Q:Exit->Act->World->Prop}{a:Act}{w:World}{c:Code}(h:WL l.toArray Q l a w)(hc:c=.region id l.toArray false:=by exact rfl):qw c Q a w:=by
 subst hc;exact zW h
theorem rS {id:Nat}{l:List Oper}{Q:Exit->Act->World->Prop}{a:Act}{w:World}{c c2:Code}(h:WL l.toArray (Exit.then (Code.wp Tryz.prog c2 Q) Q) l a w)(hc:c=.region id l.toArray false:=by exact rfl):qw (.seq c c2) Q a w:=wp_seq (rW h hc)
theorem aV {ops:Array Oper}{Q:Exit->Act->World->Prop}{a:Act}{w:World}(h:Q .normal a w):WL ops Q [] a w:=⟨h⟩
section
variable {ops:Array Oper}{Q:Exit->Act->World->Prop}{a:Act}{w w1:World}{rest:List Oper}{o:Oper}
theorem D4 (d:Nat)(v:Value)(hg:o.guard=none)(hd:o.dst=some d)(hrun:(execOp a.eval o).run Tryz.prog w=.ok (.value v) w1)(h:WL ops Q rest (a.put (some d) v) w1):WL ops Q (o :: rest) a w:=by
 refine ⟨wpList_plain hg (fun K hK=>?_)⟩;unfold Oper.wp;rw [hrun];show K (a.put o.dst v) w1;rw [hd];exact hK _ _ h.out
theorem Md (d:Nat)(v:Value)(hw:Region.wanted o (yielded ops a.tmps)=true)(hd:o.dst=some d)(hrun:(execOp a.eval o).run Tryz.prog w=.ok (.value v) w1)(h:WL ops Q rest (a.put (some d) v) w1):WL ops Q (o :: rest) a w:=by
 refine ⟨wpList_step (fun K hK=>?_)⟩;rw [if_pos hw];unfold Oper.wp;rw [hrun];show K (a.put o.dst v) w1;rw [hd];exact hK _ _ h.out
theorem Ep (hg:o.guard=none)(hd:o.dst=none)(hrun:(execOp a.eval o).run Tryz.prog w=.ok .skip w1)(h:WL ops Q rest a w1):WL ops Q (o :: rest) a w:=by
 refine ⟨wpList_plain hg (fun K hK=>?_)⟩;unfold Oper.wp;rw [hrun];show K (a.put o.dst undef) w1;rw [hd];exact hK _ _ h.out
theorem Em (d:Nat)(hg:o.guard=none)(hd:o.dst=some d)(f:FuncId)(xs:Array Operand)(ats:Array TypeId)(hop:o.op=Op.call { callee:=Callee.value (Operand.func f),args:=xs,argTypes:=ats })(fn:Func)(hf:Tryz.prog.funcs[f]?=some fn)(hn:(fn.name == "runtime.NumGoroutine")=false) (hb:fn.body.isNone=false) (vs:Array Value) (hv:xs.map a.eval=vs)
  (h:Calls Tryz.prog f vs w fun e w'=>∃ v,e=.returned v∧WL ops Q rest (a.put (some d) v) w'):WL ops Q (o :: rest) a w:=by
 refine ⟨wpList_step (fun K hK=>?_)⟩;refine xP hg f xs ats hop fn hf hn hb vs hv (h.mono ?_);rintro e w' ⟨v,rfl,h2⟩;exact ⟨v,rfl,by rw [hd];exact hK _ _ h2.out⟩
theorem eV {j d:Nat}{want b:Bool}(hg:o.guard=some (j,want))(hj:(ops[j]?).bind (fun x=>x.dst)=some d)(hd:d<a.tmps.size)(he:a.eval (.tmp d)=.bool b):Region.wanted o (yielded ops a.tmps)=(b == want):=by
 have h1:a.tmps[d]?=some ↑b:=by
  have h2:a.tmps.getD d undef=.bool b:=he;simp only [Array.getD,hd,dite_true] at h2;rw [Array.getElem?_eq_getElem hd];exact congrArg some h2
 have h3:yielded ops a.tmps j=some b:=by
  unfold yielded;rw [show ((ops[j]?).bind (fun x=>x.dst)).bind (fun x=>a.tmps[x]?)=some ↑b by rw [hj];exact h1]
 simp only [Region.wanted,hg,h3];cases b <;> cases want <;> rfl
theorem Ke (d gd:Nat){j:Nat}{want b:Bool}(hg:o.guard=some (j,want))(hj:(ops[j]?).bind (fun x=>x.dst)=some gd)(hs:gd<a.tmps.size)(he:a.eval (.tmp gd)=.bool b)(hb:(b == want)=false)(hd:o.dst=some d)(h:WL ops Q rest (a.put (some d) undef) w):WL ops Q (o :: rest) a w:=by
 refine ⟨wpList_skip fv ?_⟩;rw [hd];exact h.out
theorem za (d:Nat)(v:Value)(gd:Nat){j:Nat}{want b:Bool}(hg:o.guard=some (j,want))(hj:(ops[j]?).bind (fun x=>x.dst)=some gd)(hs:gd<a.tmps.size)(he:a.eval (.tmp gd)=.bool b)(hb:(b == want)=true)(hd:o.dst=some d)(hrun:(execOp a.eval o).run Tryz.prog w=.ok (.value v) w1)(h:WL ops Q rest (a.put (some d) v) w1):WL ops Q (o :: rest) a w :=
 Md d v fv hd hrun h
theorem MH (s x:Operand)(t:TypeId)(d:Nat)(hgd:o.guard=none)(hd:o.dst=some d)
  (ho:o.op=.call { callee:=.builtin .append,args:=#[s,x],argTypes:=#[t,t] })
  (base:Nat)(e:TypeId)(i:TypeInfo)(z:Value)(size bytes:Nat)(ht:Tryz.prog.underlying t=some (.slice e))(hi:Tryz.prog.info? e=some i)(hz:i.zero=some z)
  (hsize:i.size=size)(hby:i.bytes=bytes)(hzs:z.cells.size=size)(hsz:0<size)
  (v:Value)(n:Nat)(xs:List Value)(hs:a.eval s=v)(hown:w.ownsRow base e size v n xs)
  (S:Nat->Prop)(A:Option Addr)(m c:Nat)(news:List Value)(hx:a.eval x=.slice A m c)(hr:Sl w S size A m news)(h1:∀ u ∈ news,u.oneCell'=true)
  (h63:n+m<=1000000000000)(hbytes:(n+m)*bytes<=140737488355328)(hbase:base<=w)
  (h:∀ v' w',w'.ownsRow base e size v' (n+m) (xs ++ news)->Fr (fun k=>some k=v.ownBlock) w w'->(v'.ownBlock=v.ownBlock∨v'.ownBlock=some w.heap.size)->WL ops Q rest (a.put (some d) v') w'):WL ops Q (o :: rest) a w :=
 ⟨aS w hgd s x t ho base e i z size bytes ht hi hz hsize hby hzs hsz v n xs hs hown S A m c news hx hr h1 h63 hbytes hbase (fun v' w' q1 q2 q3=>by rw [hd];exact (h v' w' q1 q2 q3).out)⟩
end
section
variable {ρ:Operand->Value}{o:Oper}{w:World}
end
theorem pM {P:Program}{o:Oper}{a:Act}{w:World}{K:Act->World->Prop}{Q:Exit->Act->World->Prop}(f:FuncId)(xs:Array Operand)(ats:Array TypeId)
  (hop:o.op=Op.call { callee:=Callee.value (Operand.func f),args:=xs,argTypes:=ats })(fn:Func)(hf:P.funcs[f]?=some fn)(hn:(fn.name == "runtime.NumGoroutine")=false) (hb:fn.body.isNone=false) (vs:Array Value) (hv:xs.map a.eval=vs) (h:Calls P f vs w fun e w'=>∃ v,e=.returned v∧K (a.put o.dst v) w') :
  Oper.wp P o a w K Q:=by
 unfold Oper.wp;obtain ⟨dst,op,ty,pos,after,guard⟩:=o;simp only at hop;subst hop;rw [execOp_call_go,hv];subst hv;have hp:Sem.run P program w=.ok P w:=rfl;simp only [callFunc,Array.append_empty,Array.empty_append,Sem.run_bind,hp,Result.andThen_ok,hf,hn,hb,Bool.false_eq_true,if_false,Sem.run_pure,Oper.upon];refine h.mono ?_;rintro e w' ⟨v,rfl,hk⟩;exact hk
section
variable {ops:Array Oper}{Q:Exit->Act->World->Prop}{a:Act}{w w1:World}{rest:List Oper}{o:Oper}
theorem DF (d gd:Nat){j:Nat}{want b:Bool}(hg:o.guard=some (j,want))(hj:(ops[j]?).bind (fun x=>x.dst)=some gd)(hs:gd<a.tmps.size)(he:a.eval (.tmp gd)=.bool b)(hbw:(b == want)=true)(hd:o.dst=some d)(f:FuncId)(xs:Array Operand)(ats:Array TypeId)(hop:o.op=Op.call { callee:=Callee.value (Operand.func f),args:=xs,argTypes:=ats })(fn:Func)(hf:Tryz.prog.funcs[f]?=some fn)(hn:(fn.name == "runtime.NumGoroutine")=false) (hb:fn.body.isNone=false) (vs:Array Value) (hv:xs.map a.eval=vs)
  (h:Calls Tryz.prog f vs w fun e w'=>∃ v,e=.returned v∧WL ops Q rest (a.put (some d) v) w'):WL ops Q (o :: rest) a w:=by
 have hw:Region.wanted o (yielded ops a.tmps)=true:=jq;refine ⟨wpList_step (fun K hK=>?_)⟩;rw [if_pos hw];refine pM f xs ats hop fn hf hn hb vs hv (h.mono ?_);rintro e w' ⟨v,rfl,h2⟩;exact ⟨v,rfl,by rw [hd];exact hK _ _ h2.out⟩
end
structure WQ (ops:Array Oper)(C:World->Prop)(K:Act->Prop)(l:List Oper)(a:Act):Prop where
 out:wpQuiet Tryz.prog ops C K l a
section
variable {ops:Array Oper}{C:World->Prop}{K:Act->Prop}{a:Act}{rest:List Oper}{o:Oper}
theorem cU {id:Nat}{Q:Exit->Act->World->Prop}{w:World}{l:List Oper}(C:World->Prop)(hm:Tryz.prog.follows .mixedOrders=true)(hB:Region.lexB .any l.toArray=true)(hC:C w.drew)
  (h:WQ l.toArray C (fun a'=>∀ w',C w'->Q .normal a' w') l a):(Code.region id l.toArray true).wp Tryz.prog Q a w :=
 wp_region_quiet (C:=C) hm hB hC (by simpa using h.out)
theorem l6 (h:K a):WQ ops C K [] a:=⟨h⟩
theorem ni (d:Nat)(v:Value)(hw:Region.wanted o (yielded ops a.tmps)=true)(hd:o.dst=some d)(hrun:∀ w,C w->o.quietAt Tryz.prog a C w v)(h:WQ ops C K rest (a.put (some d) v)):WQ ops C K (o :: rest) a:=by
 refine ⟨Go.BigFrame.wpQuiet_want hw (fun K hK=>⟨v,hrun,?_⟩)⟩;rw [hd];exact hK _ h.out
theorem yG {v:Value}{w:World}(h:(execOp a.eval o).run Tryz.prog w=.ok (.value v) w):o.quietAt Tryz.prog a C w v:=by
 unfold Oper.quietAt;rw [h];exact ⟨rfl,rfl⟩
theorem Js (d:Nat)(v:Value)(hg:o.guard=none)(hd:o.dst=some d)(hrun:∀ w,C w->(execOp a.eval o).run Tryz.prog w=.ok (.value v) w)(h:WQ ops C K rest (a.put (some d) v)):WQ ops C K (o :: rest) a :=
 ni d v dy hd (fun w hw=>yG (hrun w hw)) h
theorem Iy (d:Nat)(v:Value)(gd:Nat){j:Nat}{want b:Bool}(hg:o.guard=some (j,want))(hj:(ops[j]?).bind (fun x=>x.dst)=some gd)(hs:gd<a.tmps.size)(he:a.eval (.tmp gd)=.bool b)(hb:(b == want)=true)(hd:o.dst=some d)(hrun:∀ w,C w->(execOp a.eval o).run Tryz.prog w=.ok (.value v) w)(h:WQ ops C K rest (a.put (some d) v)):WQ ops C K (o :: rest) a :=
 ni d v fv hd (fun w hw=>yG (hrun w hw)) h
theorem Lr (d gd:Nat){j:Nat}{want b:Bool}(hg:o.guard=some (j,want))(hj:(ops[j]?).bind (fun x=>x.dst)=some gd)(hs:gd<a.tmps.size)(he:a.eval (.tmp gd)=.bool b)(hb:(b == want)=false)(hd:o.dst=some d)(h:WQ ops C K rest (a.put (some d) undef)):WQ ops C K (o :: rest) a:=by
 refine ⟨Go.BigFrame.wpQuiet_skip fv ?_⟩;rw [hd];exact h.out
theorem ux {v:Value}{w:World}(f:FuncId)(xs:Array Operand)(ats:Array TypeId)(hop:o.op=Op.call { callee:=Callee.value (Operand.func f),args:=xs,argTypes:=ats })(fn:Func)(hf:Tryz.prog.funcs[f]?=some fn)(hn:(fn.name == "runtime.NumGoroutine")=false) (hb:fn.body.isNone=false) (vs:Array Value) (hv:xs.map a.eval=vs)
  (h:Calls Tryz.prog f vs w fun e w'=>e=.returned v∧C w'):o.quietAt Tryz.prog a C w v:=by
 unfold Oper.quietAt;obtain ⟨dst,op,ty,pos,after,guard⟩:=o;simp only at hop;subst hop;rw [execOp_call_go,hv];subst hv;have hp:Sem.run Tryz.prog program w=.ok Tryz.prog w:=rfl;simp only [callFunc,Array.append_empty,Array.empty_append,Sem.run_bind,hp,Result.andThen_ok,hf,hn,hb,Bool.false_eq_true,if_false,Sem.run_pure,Oper.quietUpon];exact ⟨trivial,h⟩
theorem DQ (d:Nat)(v:Value)(hg:o.guard=none)(hd:o.dst=some d)(f:FuncId)(xs:Array Operand)(ats:Array TypeId)(hop:o.op=Op.call { callee:=Callee.value (Operand.func f),args:=xs,argTypes:=ats })(fn:Func)(hf:Tryz.prog.funcs[f]?=some fn)(hn:(fn.name == "runtime.NumGoroutine")=false) (hb:fn.body.isNone=false) (vs:Array Value) (hv:xs.map a.eval=vs)
  (hc:∀ w,C w->Calls Tryz.prog f vs w fun e w'=>e=.returned v∧C w')(h:WQ ops C K rest (a.put (some d) v)):WQ ops C K (o :: rest) a :=
 ni d v dy hd (fun w hw=>ux f xs ats hop fn hf hn hb vs hv (hc w hw)) h
theorem LD (d:Nat)(v:Value)(gd:Nat){j:Nat}{want b:Bool}(hg:o.guard=some (j,want))(hj:(ops[j]?).bind (fun x=>x.dst)=some gd)(hs:gd<a.tmps.size)(he:a.eval (.tmp gd)=.bool b)(hbw:(b == want)=true)(hd:o.dst=some d)(f:FuncId)(xs:Array Operand)(ats:Array TypeId)(hop:o.op=Op.call { callee:=Callee.value (Operand.func f),args:=xs,argTypes:=ats })(fn:Func)(hf:Tryz.prog.funcs[f]?=some fn)(hn:(fn.name == "runtime.NumGoroutine")=false) (hb:fn.body.isNone=false) (vs:Array Value) (hv:xs.map a.eval=vs)
  (hc:∀ w,C w->Calls Tryz.prog f vs w fun e w'=>e=.returned v∧C w')(h:WQ ops C K rest (a.put (some d) v)):WQ ops C K (o :: rest) a :=
 ni d v jq hd (fun w hw=>ux f xs ats hop fn hf hn hb vs hv (hc w hw)) h
end
def mkL (n:Nat):List Nat->Array Bool
 | []=>Array.replicate n false
 | i :: is=>(mkL n is).setIfInBounds i true
def NQ (K:Act->World->Prop):Exit->Act->World->Prop:=fun e a w=>e=.normal∧K a w
def tkB (ops:Array Oper)(bf:Nat->Bool)(is:List Nat)(i:Nat):Bool:=Region.noSelect ops && (Region.free .any ops (mkL ops.size is) i && ((Region.ready .any ops (mkL ops.size is)).contains i && rx .any ops bf i))
structure WD (ops:Array Oper)(K:Act->World->Prop)(S:World->Prop)(bf:Nat->Bool)(n:Nat)(is:List Nat)(a:Act)(w:World):Prop where
 out:iC Tryz.prog .any ops (NQ K) S bf n (mkL ops.size is) a w
section
variable {ops:Array Oper}{K:Act->World->Prop}{S:World->Prop}{bf:Nat->Bool}{n:Nat}{is:List Nat}{a:Act}{w w1:World}{o:Oper}
theorem fR {id:Nat}{Q:Exit->Act->World->Prop}(S:World->Prop)(bf:Nat->Bool)(n:Nat)(hm:Tryz.prog.follows .mixedOrders=true)(hn:ops.size=n)(h:WD ops (fun a w=>Q .normal a w) S bf n [] a w.drew):(Code.region id ops true).wp Tryz.prog Q a w:=by
 subst hn;refine wp_mono (zX S bf hm h.out) ?_;rintro e a w ⟨rfl,h⟩;exact h
theorem kF (hr:Region.ready .any ops (mkL ops.size is)=[])(h:K a w):WD ops K S bf n is a w:=⟨zZ hr ⟨rfl,h⟩ n⟩
theorem uw (i d:Nat)(v:Value)(hi:ops[i]?=some o)(hd:o.dst=some d)(ht:tkB ops bf is i=true)(hy:YieldsIf Tryz.prog ops S o v a)(hS:S w)(h:WD ops K S bf n (i :: is) (a.put (some d) v) w):WD ops K S bf (n+1) is a w:=by
 simp only [tkB,Bool.and_eq_true] at ht;refine ⟨zY hi ht.1 ht.2.1 ht.2.2.1 ht.2.2.2 (fun _ _ _ h=>absurd h.1 U) hy hS ?_⟩;rw [hd];exact h.out
theorem AY (i d:Nat)(v:Value)(hi:ops[i]?=some o)(hd:o.dst=some d)(ht:tkB ops bf is i=true)(hg:o.guard=none)(hy:∀ w,S w->(execOp a.eval o).run Tryz.prog w=.ok (.value v) w)(hS:S w)(h:WD ops K S bf n (i :: is) (a.put (some d) v) w):WD ops K S bf (n+1) is a w :=
 uw i d v hi hd ht (.inl ⟨dy,hy⟩) hS h
theorem l5 (i:Nat)(hr:Region.ready .any ops (mkL ops.size is)=[i])(hi:ops[i]?=some o)
  (h:∀ K':Act->World->Prop,(∀ a' w',(bf i=true->S w')->WD ops K S bf n (i :: is) a' w'->K' a' w')->if Region.wanted o (yielded ops a.tmps)=true then Oper.wp Tryz.prog o a w K' (NQ K) else K' (a.put o.dst undef) w):WD ops K S bf (n+1) is a w :=
 ⟨Ji hr hi (fun K' hK=>h K' (fun a' w' h1 h2=>hK a' w' h1 h2.out))⟩
theorem Jz (i:Nat)(hr:Region.ready .any ops (mkL ops.size is)=[i])(hi:ops[i]?=some o)(hg:o.guard=none)(hd:o.dst=none)
  (hrun:(execOp a.eval o).run Tryz.prog w=.ok .skip w1)(hS:bf i=true->S w1)(h:WD ops K S bf n (i :: is) a w1):WD ops K S bf (n+1) is a w:=by
 refine l5 i hr hi (fun K' hK=>?_);have hw:Region.wanted o (yielded ops a.tmps)=true:=by simp [Region.wanted,hg]
 rw [if_pos hw];unfold Oper.wp;rw [hrun];show K' (a.put o.dst undef) w1;rw [hd];exact hK _ _ hS h
theorem Cs (i d:Nat)(hr:Region.ready .any ops (mkL ops.size is)=[i])(hi:ops[i]?=some o)(hw:Region.wanted o (yielded ops a.tmps)=true)(hd:o.dst=some d)(f:FuncId)(xs:Array Operand)(ats:Array TypeId)(hop:o.op=Op.call { callee:=Callee.value (Operand.func f),args:=xs,argTypes:=ats })(fn:Func)(hf:Tryz.prog.funcs[f]?=some fn)(hn:(fn.name == "runtime.NumGoroutine")=false) (hb:fn.body.isNone=false) (vs:Array Value) (hv:xs.map a.eval=vs)
  (h:Calls Tryz.prog f vs w fun e w'=>∃ v,e=.returned v∧(bf i=true->S w')∧WD ops K S bf n (i :: is) (a.put (some d) v) w'):WD ops K S bf (n+1) is a w:=by
 refine l5 i hr hi (fun K' hK=>?_);rw [if_pos hw];refine pM f xs ats hop fn hf hn hb vs hv (h.mono ?_);rintro e w' ⟨v,rfl,h1,h2⟩;exact ⟨v,rfl,by rw [hd];exact hK _ _ h1 h2⟩
theorem Ch (i d:Nat)(hr:Region.ready .any ops (mkL ops.size is)=[i])(hi:ops[i]?=some o)(hg:o.guard=none)(hd:o.dst=some d)(f:FuncId)(xs:Array Operand)(ats:Array TypeId)(hop:o.op=Op.call { callee:=Callee.value (Operand.func f),args:=xs,argTypes:=ats })(fn:Func)(hf:Tryz.prog.funcs[f]?=some fn)(hn:(fn.name == "runtime.NumGoroutine")=false) (hb:fn.body.isNone=false) (vs:Array Value) (hv:xs.map a.eval=vs)
  (h:Calls Tryz.prog f vs w fun e w'=>∃ v,e=.returned v∧(bf i=true->S w')∧WD ops K S bf n (i :: is) (a.put (some d) v) w'):WD ops K S bf (n+1) is a w :=
 Cs i d hr hi dy hd f xs ats hop fn hf hn hb vs hv h
theorem Fl (i d gd:Nat){j:Nat}{want b:Bool}(hr:Region.ready .any ops (mkL ops.size is)=[i])(hi:ops[i]?=some o)(hg:o.guard=some (j,want))(hj:(ops[j]?).bind (fun x=>x.dst)=some gd)(hs:gd<a.tmps.size)(he:a.eval (.tmp gd)=.bool b)(hbw:(b == want)=true)(hd:o.dst=some d)(f:FuncId)(xs:Array Operand)(ats:Array TypeId)(hop:o.op=Op.call { callee:=Callee.value (Operand.func f),args:=xs,argTypes:=ats })(fn:Func)(hf:Tryz.prog.funcs[f]?=some fn)(hn:(fn.name == "runtime.NumGoroutine")=false) (hb:fn.body.isNone=false) (vs:Array Value) (hv:xs.map a.eval=vs)
  (h:Calls Tryz.prog f vs w fun e w'=>∃ v,e=.returned v∧(bf i=true->S w')∧WD ops K S bf n (i :: is) (a.put (some d) v) w'):WD ops K S bf (n+1) is a w :=
 Cs i d hr hi jq hd f xs ats hop fn hf hn hb vs hv h
end
