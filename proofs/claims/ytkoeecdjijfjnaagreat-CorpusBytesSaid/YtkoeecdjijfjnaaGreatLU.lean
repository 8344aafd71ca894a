/- Contracts and laws. Conditions: none. -/
import Derived.BigCall
import Derived.Deep.RegionLaw
import Derived.OrdersHeld
import Derived.StillTail
import Derived.Test.YtkoeecdjijfjnaaGreatB3
set_option linter.all false
set_option maxRecDepth 100000
set_option maxHeartbeats 8000000
namespace Go.Proofs.YtkoeecdjijfjnaaGreat
open Go.RowKit
structure aGi (w:World) where
 v:World
 h:Ext w v
instance (w:World):Nonempty (aGi w):=⟨⟨w,aq w⟩⟩
theorem mE {P id Q a w l}(hm:P.follows .mixedOrders=true)(hB:Region.lexB .any l.toArray=true)
  (h:wpQuiet P l.toArray (fun w'=>∃ p:aGi w,w'=p.v) (fun a'=>∀ w',(∃ p:aGi w,w'=p.v)->Q .normal a' w') l a):(Code.region id l.toArray true).wp P Q a w :=
 wp_region_quiet (C:=fun w'=>∃ p:aGi w,w'=p.v) hm hB ⟨⟨w.drew,(aq w).drew'⟩,rfl⟩ fw
theorem aGi.cell {w b off u}(h:qc w b off u)(p:aGi w):qc p.v b off u:=aA p.h h
theorem aNa {P f args w}{p:aGi w}{v}(h:Calls P f args p.v (dI v p.v)):Calls P f args p.v fun e w''=>e=.returned v∧∃ q:aGi w,w''=q.v :=
 h.mono fun _ _ ⟨he,hx⟩=>⟨he,⟨_,p.h.trans' hx⟩,rfl⟩
theorem zH {P:Program}{ops:Array Oper}{o:Oper}{a:Act}{w:World}{K:Act->World->Prop}{Q:Exit->Act->World->Prop}{E:Prop}(hg:o.guard=none)(f:FuncId)(xs:Array Operand)(ats:Array TypeId)
  (hop:o.op=Op.call { callee:=Callee.value (Operand.func f),args:=xs,argTypes:=ats })(fn:Func)(hf:P.funcs[f]?=some fn)(hn:(fn.name == "runtime.NumGoroutine")=false) (hb:fn.body.isNone=false) (vs:Array Value) (hv:xs.map a.eval=vs) (h:Calls P f vs w fun e w'=>∃ v,e=.returned v∧K (a.put o.dst v) w') :
  if Region.wanted o (yielded ops a.tmps)=true then Oper.wp P o a w K Q else E:=by
 have hw:Region.wanted o (yielded ops a.tmps)=true:=dr;rw [if_pos hw];unfold Oper.wp;obtain ⟨dst,op,ty,pos,after,guard⟩:=o;simp only at hop;subst hop;rw [execOp_call_go,hv];subst hv;have hp:Sem.run P program w=.ok P w:=rfl;simp only [callFunc,Array.append_empty,Array.empty_append,Sem.run_bind,hp,Result.andThen_ok,hf,hn,hb,Bool.false_eq_true,if_false,Sem.run_pure,Oper.upon];refine h.mono ?_;rintro e w' ⟨v,rfl,hk⟩;exact hk
section
variable {P:Program}{ops:Array Oper}{Q:Exit->Act->World->Prop}{md:Region.Mode}{S:World->Prop}{bf:Nat->Bool}
def gI (P:Program)(md:Region.Mode)(ops:Array Oper)(Q:Exit->Act->World->Prop)(S:World->Prop)(bf:Nat->Bool):Nat->Array Bool->Act->World->Prop
 | 0,listed,a,w=>Region.ready md ops listed=[]∧Q .normal a w
 | fuel+1,listed,a,w=>(Region.ready md ops listed=[]->Q .normal a w) ∧
  ∀ i ∈ Region.ready md ops listed,wpOp P ops Q i (fun a' w'=>(bf i=true->S w')∧gI P md ops Q S bf fuel (listed.setIfInBounds i true) a' w') a w
theorem uD:∀ fuel listed a w,gI P md ops Q S bf fuel listed a w->wpAny P md ops Q fuel listed a w
 | 0,_,_,_,h=>h
 | fuel+1,_,_,_,h=>⟨h.1,fun i hi=>wpOp_mono (fun a' w' h'=>uD fuel _ a' w' h'.2) (h.2 i hi)⟩
theorem yY {i oi v}(hi:ops[i]?=some oi)(hsel:∀ (j:Nat)(o:Oper) cs b,ops[j]?=some o->o.op ≠ .select cs b)
  (hQ:∀ c a w,Q (.panic c) (a.put oi.dst v) w->Q (.panic c) a w)(hw:∀ j oj,ops[j]?=some oj->bf j=true∨∃ e ∈ oj.after,Region.binds md e=true∧e.on=i) :
  ∀ fuel listed a w,
   (∀ j oj,ops[j]?=some oj->j ≠ i->listed.getD j true=false->(∀ e ∈ oj.after,Region.binds md e=true->e.on ≠ i)->oi.apart ops oj=true) ->
   i ∈ Region.ready md ops listed->YieldsIf P ops S oi v a->S w ->
   gI P md ops Q S bf fuel (listed.setIfInBounds i true) (a.put oi.dst v) w->gI P md ops Q S bf (fuel+1) listed a w:=by
 intro fuel
 induction fuel with
 | zero =>
  intro listed a w _ hr hy hS H;refine ⟨fun h=>(by rw [h] at hr;cases hr),fun j hj=>?_⟩;by_cases hji:j=i
  ·subst hji;exact hy.wpOp hi hS ⟨fun _=>hS,H⟩
  ·have:=ready_mono hj hji
   rw [H.1] at this;cases this
 | succ fuel ih =>
  intro listed a w hfree hr hy hS H;refine ⟨fun h=>(by rw [h] at hr;cases hr),fun j hj=>?_⟩;by_cases hji:j=i
  ·subst hji;exact hy.wpOp hi hS ⟨fun _=>hS,H⟩
  ·have h1:=H.2 j (ready_mono hj hji)
   obtain ⟨hjun,oj,hoj,hall⟩:=mem_ready.1 hj
   have hnot:∀ e ∈ oj.after,Region.binds md e=true->e.on ≠ i:=fun e he hb heq=>by
    have h1:=hall e he hb;have h0:=(mem_ready.1 hr).1;rw [heq] at h1;rcases Nat.lt_or_ge i listed.size with h' | h'
    ·simp [h'] at h0 h1;rw [h0] at h1;cases h1
    ·simp [Array.getElem?_eq_none h'] at h1
   have hbj:bf j=true:=by
    rcases hw j oj hoj with h | ⟨e,he,hb,hon⟩
    ·exact h
    ·exact absurd hon (hnot e he hb)
   have h2:=wpOp_putIf hoj (hfree j oj hoj hji hjun hnot) (fun cs b=>hsel i oi cs b hi) (fun cs b=>hsel j oj cs b hoj) hQ hy h1
   have hfree':∀ k ok,ops[k]?=some ok->k ≠ i->(listed.setIfInBounds j true).getD k true=false ->
     (∀ e ∈ ok.after,Region.binds md e=true->e.on ≠ i)->oi.apart ops ok=true:=fun k ok hk hki hun hno=>by
    refine hfree k ok hk hki ?_ hno;by_cases hjk:j=k
    ·subst hjk;exact hjun
    ·rw [getD_set_ne true hjk] at hun;exact hun
   refine wpOp_mono (fun a' w' h3=>⟨h3.2.1,ih (listed.setIfInBounds j true) a' w' hfree' (ready_mono hr (Ne.symm hji)) h3.1 (h3.2.1 hbj) ?_⟩) h2;rw [Array.setIfInBounds_comm _ _ hji];exact h3.2.2
def aN7 (md:Region.Mode)(ops:Array Oper)(bf:Nat->Bool)(i:Nat):Bool:=(List.range ops.size).all fun j=>bf j || Region.waitsFor md ops j i
theorem aEw {i}(h:aN7 md ops bf i=true):∀ j oj,ops[j]?=some oj->bf j=true∨∃ e ∈ oj.after,Region.binds md e=true∧e.on=i:=by
 intro j oj hj;have hlt:j<ops.size:=(Array.getElem?_eq_some_iff.1 hj).1;have h1:=List.all_eq_true.1 h j (List.mem_range.2 hlt);rcases Bool.or_eq_true_iff.1 h1 with h1 | h1
 ·exact .inl h1
 ·obtain ⟨o',ho',e,he,hb,hon⟩:=Region.waitsFor_spec h1
  have:o'=oj:=Option.some.inj (ho'.symm.trans hj);subst this;exact .inr ⟨e,he,hb,hon⟩
theorem aBl {i oi v fuel listed a w}(hi:ops[i]?=some oi)
  (hs:Region.noSelect ops=true)(hf:Region.free md ops listed i=true)(hr:(Region.ready md ops listed).contains i=true)(hb:aN7 md ops bf i=true)
  (hQ:∀ c a w,Q (.panic c) (a.put oi.dst v) w->Q (.panic c) a w)(hy:YieldsIf P ops S oi v a)(hS:S w)
  (h:gI P md ops Q S bf fuel (listed.setIfInBounds i true) (a.put oi.dst v) w):gI P md ops Q S bf (fuel+1) listed a w :=
 yY hi (Region.noSelect_spec hs) hQ (aEw hb) fuel listed a w (Region.free_spec hi hf) (by simpa using hr) hy hS h
theorem aEt {i o fuel listed a w}(hr:Region.ready md ops listed=[i])(hi:ops[i]?=some o)
  (h:∀ K:Act->World->Prop,(∀ a' w',(bf i=true->S w')->gI P md ops Q S bf fuel (listed.setIfInBounds i true) a' w'->K a' w')->if Region.wanted o (yielded ops a.tmps)=true then Oper.wp P o a w K Q else K (a.put o.dst undef) w):gI P md ops Q S bf (fuel+1) listed a w:=by
 refine ⟨fun h0=>(by rw [h0] at hr;cases hr),fun j hj=>?_⟩;rw [hr] at hj;simp only [List.mem_singleton] at hj;subst hj;have h1:=h (fun a' w'=>(bf j=true->S w')∧gI P md ops Q S bf fuel (listed.setIfInBounds j true) a' w') (fun a' w' h2 h3=>⟨h2,h3⟩);unfold wpOp;simp only [hi];split
 ·rename_i hw
  rw [if_pos hw] at h1;exact .inl h1
 ·rename_i hw
  rw [if_neg hw] at h1;exact h1
theorem aBm {listed a w}(hr:Region.ready md ops listed=[])(h:Q .normal a w) :
  ∀ fuel,gI P md ops Q S bf fuel listed a w
 | 0=>⟨hr,h⟩
 | _+1=>⟨fun _=>h,by rw [hr];simp⟩
theorem aBk {id:Nat}{a:Act}{w:World}(S:World->Prop)(bf:Nat->Bool)(hm:P.follows .mixedOrders=true)
  (h:gI P .any ops Q S bf ops.size (Array.replicate ops.size false) a { w with drawn:=w.drawn+1 }):(Code.region id ops true).wp P Q a w :=
 wp_region_any hm (uD _ _ _ _ h)
end
theorem vp (a:Act)(d e:Nat)(v):(a.put (some d) v).eval (.tmp e)=if d=e then (if d<a.tmps.size then v else undef) else a.eval (.tmp e):=by
 simp only [Act.put,Act.eval];by_cases h:d=e
 ·subst h
  by_cases h2:d<a.tmps.size <;> simp [h2]
 ·simp [h]
theorem zp (a:Act)(d:Nat)(v):(a.put (some d) v).tmps.size=a.tmps.size:=by simp [Act.put]
section
variable {ρ:Operand->Value}{o:Oper}{w:World}
theorem aGk {g f v}(x)(ho:o.op=.load 9 x)(hx:ρ x=↑(qt g f))(hc:qc w g f v):(execOp ρ o).run Tryz.prog w=.ok (.value v) w:=by
 simp [execOp,ho,hx,go_sem,hc]
end
section
variable {ops:Array Oper}{o:Oper}{a:Act}{w:World}{K:Act->World->Prop}{Q:Exit->Act->World->Prop}{E:Prop}
end
def zP (n:Nat):Code->Option Code
 | .region id ops d=>if id=n then some (.region id ops d) else none
 | .seq a b=>match zP n a with
  | some c=>some c
  | none=>zP n b
 | .block _ c=>zP n c
 | .scope c=>zP n c
 | .loop c=>zP n c
 | .cond _ a b=>match zP n a with
  | some c=>some c
  | none=>zP n b
 | _=>none
noncomputable def RG (f:Func) (n:Nat):Code:=(f.body.bind (zP n)).getD .skip
section
variable {P:Program}{ops:Array Oper}{Q:Exit->Act->World->Prop}{md:Region.Mode}{S:World->Prop}{bf:Nat->Bool}
end
theorem vc (a:Act)(v):a.eval (.const v)=v:=rfl
section
variable {ρ:Operand->Value}{o:Oper}{w:World}
end
noncomputable def a1f:=RG Tryz.f8 34
noncomputable def a1h:=RG Tryz.f8 26
noncomputable def a1i:=RG Tryz.f8 25
noncomputable def a1g:=RG Tryz.f8 28
