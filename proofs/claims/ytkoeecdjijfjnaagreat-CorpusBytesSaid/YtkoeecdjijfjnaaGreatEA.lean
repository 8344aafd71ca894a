/- Contracts and laws. Conditions: none. -/
import Derived.Test.YtkoeecdjijfjnaaGreatLU
set_option linter.all false
set_option maxRecDepth 100000
set_option maxHeartbeats 8000000
namespace Go.Proofs.YtkoeecdjijfjnaaGreat
open Go.RowKit
section
variable {ρ:Operand->Value}{o:Oper}{w:World}
end
structure WL (ops:Array Oper)(Q:Exit->Act->World->Prop)(l:List Oper)(a:Act)(w:World):Prop where
 out:wpList Tryz.prog ops Q l a w
theorem aBj {id l Q a w}(h:WL l.toArray Q l a w):(Code.region id l.toArray false).wp Tryz.prog Q a w:=wp_region_lit h.out
theorem rW {id:Nat}{l:List Oper}{Q:Exit->Act->World->Prop}{a:Act}{w:World}{c:Code}(h:WL l.toArray Q l a w)(hc:c=.region id l.toArray false:=by exact rfl):qw c Q a w:=by
 subst hc;exact aBj h
theorem rS {id:Nat}{l:List Oper}{Q:Exit->Act->World->Prop}{a:Act}{w:World}{c c2:Code}(h:WL l.toArray (Exit.then (Code.wp Tryz.prog c2 Q) Q) l a w)(hc:c=.region id l.toArray false:=by exact rfl):qw (.seq c c2) Q a w:=wp_seq (rW h hc)
theorem bS {ops Q a w}(h:Q .normal a w):WL ops Q [] a w:=⟨h⟩
section
variable {ops:Array Oper}{Q:Exit->Act->World->Prop}{a:Act}{w w1:World}{rest:List Oper}{o:Oper}
theorem aP8 (d:Nat)(v)(hg:o.guard=none)(hd:o.dst=some d)(hrun:(execOp a.eval o).run Tryz.prog w=.ok (.value v) w1)(h:WL ops Q rest (a.put (some d) v) w1):WL ops Q (o :: rest) a w:=by
 refine ⟨wpList_plain hg (fun K hK=>?_)⟩;unfold Oper.wp;rw [hrun];show K (a.put o.dst v) w1;rw [hd];exact hK _ _ h.out
theorem a2a (d:Nat)(v)(hw:Region.wanted o (yielded ops a.tmps)=true)(hd:o.dst=some d)(hrun:(execOp a.eval o).run Tryz.prog w=.ok (.value v) w1)(h:WL ops Q rest (a.put (some d) v) w1):WL ops Q (o :: rest) a w:=by
 refine ⟨wpList_step (fun K hK=>?_)⟩;rw [if_pos hw];unfold Oper.wp;rw [hrun];show K (a.put o.dst v) w1;rw [hd];exact hK _ _ h.out
theorem aUv (hg:o.guard=none)(hd:o.dst=none)(hrun:(execOp a.eval o).run Tryz.prog w=.ok .skip w1)(h:WL ops Q rest a w1):WL ops Q (o :: rest) a w:=by
 refine ⟨wpList_plain hg (fun K hK=>?_)⟩;unfold Oper.wp;rw [hrun];show K (a.put o.dst undef) w1;rw [hd];exact hK _ _ h.out
theorem aUx (d:Nat)(hg:o.guard=none)(hd:o.dst=some d)(f:FuncId)(xs:Array Operand)(ats:Array TypeId)(hop:o.op=Op.call { callee:=Callee.value (Operand.func f),args:=xs,argTypes:=ats })(fn:Func)(hf:Tryz.prog.funcs[f]?=some fn)(hn:(fn.name == "runtime.NumGoroutine")=false) (hb:fn.body.isNone=false) (vs:Array Value) (hv:xs.map a.eval=vs)
  (h:Calls Tryz.prog f vs w fun e w'=>∃ v,e=.returned v∧WL ops Q rest (a.put (some d) v) w'):WL ops Q (o :: rest) a w:=by
 refine ⟨wpList_step (fun K hK=>?_)⟩;refine zH hg f xs ats hop fn hf hn hb vs hv (h.mono ?_);rintro e w' ⟨v,rfl,h2⟩;exact ⟨v,rfl,by rw [hd];exact hK _ _ h2.out⟩
theorem eP {j d:Nat}{want b}(hg:o.guard=some (j,want))(hj:(ops[j]?).bind (fun x=>x.dst)=some d)(hd:d<a.tmps.size)(he:a.eval (.tmp d)=.bool b):Region.wanted o (yielded ops a.tmps)=(b == want):=by
 have h1:a.tmps[d]?=some ↑b:=by
  have h2:a.tmps.getD d undef=.bool b:=he;simp only [Array.getD,hd,dite_true] at h2;rw [Array.getElem?_eq_getElem hd];exact congrArg some h2
 have h3:yielded ops a.tmps j=some b:=by
  unfold yielded;rw [show ((ops[j]?).bind (fun x=>x.dst)).bind (fun x=>a.tmps[x]?)=some ↑b by rw [hj];exact h1]
 simp only [Region.wanted,hg,h3];cases b <;> cases want <;> rfl
theorem aYz (d gd:Nat){j want b}(hg:o.guard=some (j,want))(hj:(ops[j]?).bind (fun x=>x.dst)=some gd)(hs:gd<a.tmps.size)(he:a.eval (.tmp gd)=.bool b)(hb:(b == want)=false)(hd:o.dst=some d)(h:WL ops Q rest (a.put (some d) undef) w):WL ops Q (o :: rest) a w:=by
 refine ⟨wpList_skip fq ?_⟩;rw [hd];exact h.out
theorem aUw (d:Nat)(v)(gd:Nat){j want b}(hg:o.guard=some (j,want))(hj:(ops[j]?).bind (fun x=>x.dst)=some gd)(hs:gd<a.tmps.size)(he:a.eval (.tmp gd)=.bool b)(hb:(b == want)=true)(hd:o.dst=some d)(hrun:(execOp a.eval o).run Tryz.prog w=.ok (.value v) w1)(h:WL ops Q rest (a.put (some d) v) w1):WL ops Q (o :: rest) a w :=
 a2a d v fq hd hrun h
theorem aLg (s x:Operand)(t:TypeId)(d:Nat)(hgd:o.guard=none)(hd:o.dst=some d)
  (ho:o.op=.call { callee:=.builtin .append,args:=#[s,x],argTypes:=#[t,t] })
  (base:Nat)(e:TypeId)(i:TypeInfo)(z:Value)(size bytes:Nat)(ht:Tryz.prog.underlying t=some (.slice e))(hi:Tryz.prog.info? e=some i)(hz:i.zero=some z)
  (hsize:i.size=size)(hby:i.bytes=bytes)(hzs:z.cells.size=size)(hsz:0<size)
  (v:Value)(n:Nat)(xs:List Value)(hs:a.eval s=v)(hown:w.ownsRow base e size v n xs)
  (S:Nat->Prop)(A:Option Addr)(m c:Nat)(news:List Value)(hx:a.eval x=.slice A m c)(hr:Sl w S size A m news)(h1:∀ u ∈ news,u.oneCell'=true)
  (h63:n+m<=1000000000000)(hbytes:(n+m)*bytes<=140737488355328)(hbase:base<=w)
  (h:∀ v' w',w'.ownsRow base e size v' (n+m) (xs ++ news)->Fr (fun k=>some k=v.ownBlock) w w'->(v'.ownBlock=v.ownBlock∨v'.ownBlock=some w.heap.size)->WL ops Q rest (a.put (some d) v') w'):WL ops Q (o :: rest) a w :=
 ⟨aN w hgd s x t ho base e i z size bytes ht hi hz hsize hby hzs hsz v n xs hs hown S A m c news hx hr h1 h63 hbytes hbase (fun v' w' q1 q2 q3=>by rw [hd];exact (h v' w' q1 q2 q3).out)⟩
end
section
variable {ρ:Operand->Value}{o:Oper}{w:World}
end
theorem mF {P:Program}{o:Oper}{a:Act}{w:World}{K:Act->World->Prop}{Q:Exit->Act->World->Prop}(f:FuncId)(xs:Array Operand)(ats:Array TypeId)
  (hop:o.op=Op.call { callee:=Callee.value (Operand.func f),args:=xs,argTypes:=ats })(fn:Func)(hf:P.funcs[f]?=some fn)(hn:(fn.name == "runtime.NumGoroutine")=false) (hb:fn.body.isNone=false) (vs:Array Value) (hv:xs.map a.eval=vs) (h:Calls P f vs w fun e w'=>∃ v,e=.returned v∧K (a.put o.dst v) w') :
  Oper.wp P o a w K Q:=by
 unfold Oper.wp;obtain ⟨dst,op,ty,pos,after,guard⟩:=o;simp only at hop;subst hop;rw [execOp_call_go,hv];subst hv;have hp:Sem.run P program w=.ok P w:=rfl;simp only [callFunc,Array.append_empty,Array.empty_append,Sem.run_bind,hp,Result.andThen_ok,hf,hn,hb,Bool.false_eq_true,if_false,Sem.run_pure,Oper.upon];refine h.mono ?_;rintro e w' ⟨v,rfl,hk⟩;exact hk
section
variable {ops:Array Oper}{Q:Exit->Act->World->Prop}{a:Act}{w w1:World}{rest:List Oper}{o:Oper}
theorem aP9 (d gd:Nat){j:Nat}{want b:Bool}(hg:o.guard=some (j,want))(hj:(ops[j]?).bind (fun x=>x.dst)=some gd)(hs:gd<a.tmps.size)(he:a.eval (.tmp gd)=.bool b)(hbw:(b == want)=true)(hd:o.dst=some d)(f:FuncId)(xs:Array Operand)(ats:Array TypeId)(hop:o.op=Op.call { callee:=Callee.value (Operand.func f),args:=xs,argTypes:=ats })(fn:Func)(hf:Tryz.prog.funcs[f]?=some fn)(hn:(fn.name == "runtime.NumGoroutine")=false) (hb:fn.body.isNone=false) (vs:Array Value) (hv:xs.map a.eval=vs)
  (h:Calls Tryz.prog f vs w fun e w'=>∃ v,e=.returned v∧WL ops Q rest (a.put (some d) v) w'):WL ops Q (o :: rest) a w:=by
 have hw:Region.wanted o (yielded ops a.tmps)=true:=i8;refine ⟨wpList_step (fun K hK=>?_)⟩;rw [if_pos hw];refine mF f xs ats hop fn hf hn hb vs hv (h.mono ?_);rintro e w' ⟨v,rfl,h2⟩;exact ⟨v,rfl,by rw [hd];exact hK _ _ h2.out⟩
end
structure WQ (ops:Array Oper)(C:World->Prop)(K:Act->Prop)(l:List Oper)(a:Act):Prop where
 out:wpQuiet Tryz.prog ops C K l a
section
variable {ops:Array Oper}{C:World->Prop}{K:Act->Prop}{a:Act}{rest:List Oper}{o:Oper}
theorem gH {id Q w l}(C)(hm:Tryz.prog.follows .mixedOrders=true)(hB:Region.lexB .any l.toArray=true)(hC:C w.drew)
  (h:WQ l.toArray C (fun a'=>∀ w',C w'->Q .normal a' w') l a):(Code.region id l.toArray true).wp Tryz.prog Q a w :=
 wp_region_quiet (C:=C) hm hB hC (by simpa using h.out)
theorem aHb (h:K a):WQ ops C K [] a:=⟨h⟩
theorem aWo (d:Nat)(v)(hw:Region.wanted o (yielded ops a.tmps)=true)(hd:o.dst=some d)(hrun:∀ w,C w->o.quietAt Tryz.prog a C w v)(h:WQ ops C K rest (a.put (some d) v)):WQ ops C K (o :: rest) a:=by
 refine ⟨Go.BigFrame.wpQuiet_want hw (fun K hK=>⟨v,hrun,?_⟩)⟩;rw [hd];exact hK _ h.out
theorem zZ {v w}(h:(execOp a.eval o).run Tryz.prog w=.ok (.value v) w):o.quietAt Tryz.prog a C w v:=by
 unfold Oper.quietAt;rw [h];exact ⟨rfl,rfl⟩
theorem aPu (d:Nat)(v)(hg:o.guard=none)(hd:o.dst=some d)(hrun:∀ w,C w->(execOp a.eval o).run Tryz.prog w=.ok (.value v) w)(h:WQ ops C K rest (a.put (some d) v)):WQ ops C K (o :: rest) a :=
 aWo d v dr hd (fun w hw=>zZ (hrun w hw)) h
theorem aYq (d:Nat)(v)(gd:Nat){j want b}(hg:o.guard=some (j,want))(hj:(ops[j]?).bind (fun x=>x.dst)=some gd)(hs:gd<a.tmps.size)(he:a.eval (.tmp gd)=.bool b)(hb:(b == want)=true)(hd:o.dst=some d)(hrun:∀ w,C w->(execOp a.eval o).run Tryz.prog w=.ok (.value v) w)(h:WQ ops C K rest (a.put (some d) v)):WQ ops C K (o :: rest) a :=
 aWo d v fq hd (fun w hw=>zZ (hrun w hw)) h
theorem aYr (d gd:Nat){j want b}(hg:o.guard=some (j,want))(hj:(ops[j]?).bind (fun x=>x.dst)=some gd)(hs:gd<a.tmps.size)(he:a.eval (.tmp gd)=.bool b)(hb:(b == want)=false)(hd:o.dst=some d)(h:WQ ops C K rest (a.put (some d) undef)):WQ ops C K (o :: rest) a:=by
 refine ⟨Go.BigFrame.wpQuiet_skip fq ?_⟩;rw [hd];exact h.out
theorem aDh {v:Value}{w:World}(f:FuncId)(xs:Array Operand)(ats:Array TypeId)(hop:o.op=Op.call { callee:=Callee.value (Operand.func f),args:=xs,argTypes:=ats })(fn:Func)(hf:Tryz.prog.funcs[f]?=some fn)(hn:(fn.name == "runtime.NumGoroutine")=false) (hb:fn.body.isNone=false) (vs:Array Value) (hv:xs.map a.eval=vs)
  (h:Calls Tryz.prog f vs w fun e w'=>e=.returned v∧C w'):o.quietAt Tryz.prog a C w v:=by
 unfold Oper.quietAt;obtain ⟨dst,op,ty,pos,after,guard⟩:=o;simp only at hop;subst hop;rw [execOp_call_go,hv];subst hv;have hp:Sem.run Tryz.prog program w=.ok Tryz.prog w:=rfl;simp only [callFunc,Array.append_empty,Array.empty_append,Sem.run_bind,hp,Result.andThen_ok,hf,hn,hb,Bool.false_eq_true,if_false,Sem.run_pure,Oper.quietUpon];exact ⟨trivial,h⟩
theorem aUe (d:Nat)(v:Value)(hg:o.guard=none)(hd:o.dst=some d)(f:FuncId)(xs:Array Operand)(ats:Array TypeId)(hop:o.op=Op.call { callee:=Callee.value (Operand.func f),args:=xs,argTypes:=ats })(fn:Func)(hf:Tryz.prog.funcs[f]?=some fn)(hn:(fn.name == "runtime.NumGoroutine")=false) (hb:fn.body.isNone=false) (vs:Array Value) (hv:xs.map a.eval=vs)
  (hc:∀ w,C w->Calls Tryz.prog f vs w fun e w'=>e=.returned v∧C w')(h:WQ ops C K rest (a.put (some d) v)):WQ ops C K (o :: rest) a :=
 aWo d v dr hd (fun w hw=>aDh f xs ats hop fn hf hn hb vs hv (hc w hw)) h
theorem aPv (d:Nat)(v:Value)(gd:Nat){j:Nat}{want b:Bool}(hg:o.guard=some (j,want))(hj:(ops[j]?).bind (fun x=>x.dst)=some gd)(hs:gd<a.tmps.size)(he:a.eval (.tmp gd)=.bool b)(hbw:(b == want)=true)(hd:o.dst=some d)(f:FuncId)(xs:Array Operand)(ats:Array TypeId)(hop:o.op=Op.call { callee:=Callee.value (Operand.func f),args:=xs,argTypes:=ats })(fn:Func)(hf:Tryz.prog.funcs[f]?=some fn)(hn:(fn.name == "runtime.NumGoroutine")=false) (hb:fn.body.isNone=false) (vs:Array Value) (hv:xs.map a.eval=vs)
  (hc:∀ w,C w->Calls Tryz.prog f vs w fun e w'=>e=.returned v∧C w')(h:WQ ops C K rest (a.put (some d) v)):WQ ops C K (o :: rest) a :=
 aWo d v i8 hd (fun w hw=>aDh f xs ats hop fn hf hn hb vs hv (hc w hw)) h
end
def mkL (n:Nat):List Nat->Array Bool
 | []=>Array.replicate n false
 | i :: is=>(mkL n is).setIfInBounds i true
def NQ (K:Act->World->Prop):Exit->Act->World->Prop:=fun e a w=>e=.normal∧K a w
def tkB (ops:Array Oper)(bf:Nat->Bool)(is:List Nat)(i:Nat):Bool:=Region.noSelect ops && (Region.free .any ops (mkL ops.size is) i && ((Region.ready .any ops (mkL ops.size is)).contains i && aN7 .any ops bf i))
structure WD (ops:Array Oper)(K:Act->World->Prop)(S:World->Prop)(bf:Nat->Bool)(n:Nat)(is:List Nat)(a:Act)(w:World):Prop where
 out:gI Tryz.prog .any ops (NQ K) S bf n (mkL ops.size is) a w
section
variable {ops:Array Oper}{K:Act->World->Prop}{S:World->Prop}{bf:Nat->Bool}{n:Nat}{is:List Nat}{a:Act}{w w1:World}{o:Oper}
theorem dF {id Q}(S bf n)(hm:Tryz.prog.follows .mixedOrders=true)(hn:ops.size=n)(h:WD ops (fun a w=>Q .normal a w) S bf n [] a w.drew):(Code.region id ops true).wp Tryz.prog Q a w:=by
 subst hn;refine wp_mono (aBk S bf hm h.out) ?_;rintro e a w ⟨rfl,h⟩;exact h
theorem jN (hr:Region.ready .any ops (mkL ops.size is)=[])(h:K a w):WD ops K S bf n is a w:=⟨aBm hr ⟨rfl,h⟩ n⟩
theorem aD9 (i d:Nat)(v)(hi:ops[i]?=some o)(hd:o.dst=some d)(ht:tkB ops bf is i=true)(hy:YieldsIf Tryz.prog ops S o v a)(hS:S w)(h:WD ops K S bf n (i :: is) (a.put (some d) v) w):WD ops K S bf (n+1) is a w:=by
 simp only [tkB,Bool.and_eq_true] at ht;refine ⟨aBl hi ht.1 ht.2.1 ht.2.2.1 ht.2.2.2 (fun _ _ _ h=>absurd h.1 O) hy hS ?_⟩;rw [hd];exact h.out
theorem aNc (i d:Nat)(v)(hi:ops[i]?=some o)(hd:o.dst=some d)(ht:tkB ops bf is i=true)(hg:o.guard=none)(hy:∀ w,S w->(execOp a.eval o).run Tryz.prog w=.ok (.value v) w)(hS:S w)(h:WD ops K S bf n (i :: is) (a.put (some d) v) w):WD ops K S bf (n+1) is a w :=
 aD9 i d v hi hd ht (.inl ⟨dr,hy⟩) hS h
theorem aF0 (i)(hr:Region.ready .any ops (mkL ops.size is)=[i])(hi:ops[i]?=some o)
  (h:∀ K':Act->World->Prop,(∀ a' w',(bf i=true->S w')->WD ops K S bf n (i :: is) a' w'->K' a' w')->if Region.wanted o (yielded ops a.tmps)=true then Oper.wp Tryz.prog o a w K' (NQ K) else K' (a.put o.dst undef) w):WD ops K S bf (n+1) is a w :=
 ⟨aEt hr hi (fun K' hK=>h K' (fun a' w' h1 h2=>hK a' w' h1 h2.out))⟩
theorem aU8 (i)(hr:Region.ready .any ops (mkL ops.size is)=[i])(hi:ops[i]?=some o)(hg:o.guard=none)(hd:o.dst=none)
  (hrun:(execOp a.eval o).run Tryz.prog w=.ok .skip w1)(hS:bf i=true->S w1)(h:WD ops K S bf n (i :: is) a w1):WD ops K S bf (n+1) is a w:=by
 refine aF0 i hr hi (fun K' hK=>?_);have hw:Region.wanted o (yielded ops a.tmps)=true:=by simp [Region.wanted,hg]
 rw [if_pos hw];unfold Oper.wp;rw [hrun];show K' (a.put o.dst undef) w1;rw [hd];exact hK _ _ hS h
theorem aIi (i d:Nat)(hr:Region.ready .any ops (mkL ops.size is)=[i])(hi:ops[i]?=some o)(hw:Region.wanted o (yielded ops a.tmps)=true)(hd:o.dst=some d)(f:FuncId)(xs:Array Operand)(ats:Array TypeId)(hop:o.op=Op.call { callee:=Callee.value (Operand.func f),args:=xs,argTypes:=ats })(fn:Func)(hf:Tryz.prog.funcs[f]?=some fn)(hn:(fn.name == "runtime.NumGoroutine")=false) (hb:fn.body.isNone=false) (vs:Array Value) (hv:xs.map a.eval=vs)
  (h:Calls Tryz.prog f vs w fun e w'=>∃ v,e=.returned v∧(bf i=true->S w')∧WD ops K S bf n (i :: is) (a.put (some d) v) w'):WD ops K S bf (n+1) is a w:=by
 refine aF0 i hr hi (fun K' hK=>?_);rw [if_pos hw];refine mF f xs ats hop fn hf hn hb vs hv (h.mono ?_);rintro e w' ⟨v,rfl,h1,h2⟩;exact ⟨v,rfl,by rw [hd];exact hK _ _ h1 h2⟩
theorem aNd (i d:Nat)(hr:Region.ready .any ops (mkL ops.size is)=[i])(hi:ops[i]?=some o)(hg:o.guard=none)(hd:o.dst=some d)(f:FuncId)(xs:Array Operand)(ats:Array TypeId)(hop:o.op=Op.call { callee:=Callee.value (Operand.func f),args:=xs,argTypes:=ats })(fn:Func)(hf:Tryz.prog.funcs[f]?=some fn)(hn:(fn.name == "runtime.NumGoroutine")=false) (hb:fn.body.isNone=false) (vs:Array Value) (hv:xs.map a.eval=vs)
  (h:Calls Tryz.prog f vs w fun e w'=>∃ v,e=.returned v∧(bf i=true->S w')∧WD ops K S bf n (i :: is) (a.put (some d) v) w'):WD ops K S bf (n+1) is a w :=
 aIi i d hr hi dr hd f xs ats hop fn hf hn hb vs hv h
theorem aIj (i d gd:Nat){j:Nat}{want b:Bool}(hr:Region.ready .any ops (mkL ops.size is)=[i])(hi:ops[i]?=some o)(hg:o.guard=some (j,want))(hj:(ops[j]?).bind (fun x=>x.dst)=some gd)(hs:gd<a.tmps.size)(he:a.eval (.tmp gd)=.bool b)(hbw:(b == want)=true)(hd:o.dst=some d)(f:FuncId)(xs:Array Operand)(ats:Array TypeId)(hop:o.op=Op.call { callee:=Callee.value (Operand.func f),args:=xs,argTypes:=ats })(fn:Func)(hf:Tryz.prog.funcs[f]?=some fn)(hn:(fn.name == "runtime.NumGoroutine")=false) (hb:fn.body.isNone=false) (vs:Array Value) (hv:xs.map a.eval=vs)
  (h:Calls Tryz.prog f vs w fun e w'=>∃ v,e=.returned v∧(bf i=true->S w')∧WD ops K S bf n (i :: is) (a.put (some d) v) w'):WD ops K S bf (n+1) is a w :=
 aIi i d hr hi i8 hd f xs ats hop fn hf hn hb vs hv h
end
theorem yW {k:Nat}(h:k<=1000000000):IntKind.i64.wrap ((k:Int)+1)=(k:Int)+1:=IntWalk.i64_in _ I
def Ev (a:Act):Operand->Value:=a.eval
inductive Zq6 (a:Act)(t:Nat)(v:Value)|z
abbrev qq (a:Act)(t:Nat)(v:Value):Zq6 a t v:=.z
instance {a:Act}{t:Nat}{v:Value}:CoeSort (Zq6 a t v) Prop:=⟨fun _=>Ev a (.tmp t)=v⟩
instance {a:Act}{t:Nat}{v:Value}:CoeOut (Zq6 a t v) Prop:=⟨fun _=>Ev a (.tmp t)=v⟩
def Pt (a:Act)(d:Nat)(v:Value):Act:=a.put (some d) v
@[simp] theorem aWw (a v):Ev a (.const v)=v:=rfl
@[simp] theorem aBe (a) (d e:Nat) (v):Ev (Pt a d v) (.tmp e)=if d=e then (if d<a.tmps.size then v else undef) else Ev a (.tmp e):=vp a d e v
@[simp] theorem aI9 (a d v):(Pt a d v).tmps.size=a.tmps.size:=zp a d v
structure Ag (l:List Nat)(a a':Act):Prop where
 sz:a'.tmps.size=a.tmps.size
 df:a'.defers=a.defers
 ev:∀ t ∈ l,qq a' t (Ev a (.tmp t))
section
variable {l:List Nat}{a a' a'':Act}{d:Nat}{v:Value}
theorem Ag.rf:Ag l a a:=⟨rfl,rfl,fun _ _=>rfl⟩
theorem Ag.put (h:Ag l a a')(hd:l.contains d=false):Ag l a (Pt a' d v) :=
 ⟨by rw [aI9];exact h.sz,h.df,fun t ht=>by
  rw [aBe,if_neg (fun e=>by subst e;simp [ht] at hd)];exact h.ev t ht⟩
theorem Ag.get (h:Ag l a a')(t:Nat)(e:qq a t v)(ht:l.contains t=true:=by rfl):qq a' t v:=by
 rw [h.ev t (by simpa using ht)];exact e
theorem Ag.trans (h:Ag l a a')(h':Ag l a' a''):Ag l a a'':=⟨h'.sz.trans h.sz,h'.df.trans h.df,fun t ht=>(h'.ev t ht).trans (h.ev t ht)⟩
theorem Ag.mono {l l' a a'}(h:Ag l a a')(hl:l'.all l.contains=true):Ag l' a a':=⟨h.sz,h.df,fun t ht=>h.ev t (by simpa using List.all_eq_true.1 hl t ht)⟩
theorem Ag.b1 {l:List Nat}{a c:Act}{p:Prop}{n t0:Nat}{v0:Value}(h:Ag l a c)(s:a.tmps.size=n)(e0:Ev a (.tmp t0)=v0)(k:c.tmps.size=n->Ev c (.tmp t0)=v0->p)(h0:l.contains t0=true:=by rfl):p:=k (h.sz.trans s) (h.get _ e0 h0)
theorem Ag.b2 {l:List Nat}{a c:Act}{p:Prop}{n t0 t1:Nat}{v0 v1:Value}(h:Ag l a c)(s:a.tmps.size=n)(e0:Ev a (.tmp t0)=v0)(e1:Ev a (.tmp t1)=v1)(k:c.tmps.size=n->Ev c (.tmp t0)=v0->Ev c (.tmp t1)=v1->p)(h0:l.contains t0=true:=by rfl)(h1:l.contains t1=true:=by rfl):p:=k (h.sz.trans s) (h.get _ e0 h0) (h.get _ e1 h1)
theorem Ag.b3 {l:List Nat}{a c:Act}{p:Prop}{n t0 t1 t2:Nat}{v0 v1 v2:Value}(h:Ag l a c)(s:a.tmps.size=n)(e0:Ev a (.tmp t0)=v0)(e1:Ev a (.tmp t1)=v1)(e2:Ev a (.tmp t2)=v2)(k:c.tmps.size=n->Ev c (.tmp t0)=v0->Ev c (.tmp t1)=v1->Ev c (.tmp t2)=v2->p)(h0:l.contains t0=true:=by rfl)(h1:l.contains t1=true:=by rfl)(h2:l.contains t2=true:=by rfl):p:=k (h.sz.trans s) (h.get _ e0 h0) (h.get _ e1 h1) (h.get _ e2 h2)
theorem Ag.b4 {l:List Nat}{a c:Act}{p:Prop}{n t0 t1 t2 t3:Nat}{v0 v1 v2 v3:Value}(h:Ag l a c)(s:a.tmps.size=n)(e0:Ev a (.tmp t0)=v0)(e1:Ev a (.tmp t1)=v1)(e2:Ev a (.tmp t2)=v2)(e3:Ev a (.tmp t3)=v3)(k:c.tmps.size=n->Ev c (.tmp t0)=v0->Ev c (.tmp t1)=v1->Ev c (.tmp t2)=v2->Ev c (.tmp t3)=v3->p)(h0:l.contains t0=true:=by rfl)(h1:l.contains t1=true:=by rfl)(h2:l.contains t2=true:=by rfl)(h3:l.contains t3=true:=by rfl):p:=k (h.sz.trans s) (h.get _ e0 h0) (h.get _ e1 h1) (h.get _ e2 h2) (h.get _ e3 h3)
theorem Ag.b5 {l:List Nat}{a c:Act}{p:Prop}{n t0 t1 t2 t3 t4:Nat}{v0 v1 v2 v3 v4:Value}(h:Ag l a c)(s:a.tmps.size=n)(e0:Ev a (.tmp t0)=v0)(e1:Ev a (.tmp t1)=v1)(e2:Ev a (.tmp t2)=v2)(e3:Ev a (.tmp t3)=v3)(e4:Ev a (.tmp t4)=v4)(k:c.tmps.size=n->Ev c (.tmp t0)=v0->Ev c (.tmp t1)=v1->Ev c (.tmp t2)=v2->Ev c (.tmp t3)=v3->Ev c (.tmp t4)=v4->p)(h0:l.contains t0=true:=by rfl)(h1:l.contains t1=true:=by rfl)(h2:l.contains t2=true:=by rfl)(h3:l.contains t3=true:=by rfl)(h4:l.contains t4=true:=by rfl):p:=k (h.sz.trans s) (h.get _ e0 h0) (h.get _ e1 h1) (h.get _ e2 h2) (h.get _ e3 h3) (h.get _ e4 h4)
theorem Ag.b7 {l:List Nat}{a c:Act}{p:Prop}{n t0 t1 t2 t3 t4 t5 t6:Nat}{v0 v1 v2 v3 v4 v5 v6:Value}(h:Ag l a c)(s:a.tmps.size=n)(e0:Ev a (.tmp t0)=v0)(e1:Ev a (.tmp t1)=v1)(e2:Ev a (.tmp t2)=v2)(e3:Ev a (.tmp t3)=v3)(e4:Ev a (.tmp t4)=v4)(e5:Ev a (.tmp t5)=v5)(e6:Ev a (.tmp t6)=v6)(k:c.tmps.size=n->Ev c (.tmp t0)=v0->Ev c (.tmp t1)=v1->Ev c (.tmp t2)=v2->Ev c (.tmp t3)=v3->Ev c (.tmp t4)=v4->Ev c (.tmp t5)=v5->Ev c (.tmp t6)=v6->p)(h0:l.contains t0=true:=by rfl)(h1:l.contains t1=true:=by rfl)(h2:l.contains t2=true:=by rfl)(h3:l.contains t3=true:=by rfl)(h4:l.contains t4=true:=by rfl)(h5:l.contains t5=true:=by rfl)(h6:l.contains t6=true:=by rfl):p:=k (h.sz.trans s) (h.get _ e0 h0) (h.get _ e1 h1) (h.get _ e2 h2) (h.get _ e3 h3) (h.get _ e4 h4) (h.get _ e5 h5) (h.get _ e6 h6)
theorem Ag.c0 {l a c}{p:Prop}{n D}(h:Ag l a c)(s:a.tmps.size=n)(d:a.defers=D)(k:c.tmps.size=n->c.defers=D->p):p:=k (h.sz.trans s) (h.df.trans d)
theorem Ag.c1 {l:List Nat}{a c:Act}{p:Prop}{n t0:Nat}{D:List Deferred}{v0:Value}(h:Ag l a c)(s:a.tmps.size=n)(d:a.defers=D)(e0:Ev a (.tmp t0)=v0)(k:c.tmps.size=n->c.defers=D->Ev c (.tmp t0)=v0->p)(h0:l.contains t0=true:=by rfl):p:=k (h.sz.trans s) (h.df.trans d) (h.get _ e0 h0)
theorem Ag.c2 {l:List Nat}{a c:Act}{p:Prop}{n t0 t1:Nat}{D:List Deferred}{v0 v1:Value}(h:Ag l a c)(s:a.tmps.size=n)(d:a.defers=D)(e0:Ev a (.tmp t0)=v0)(e1:Ev a (.tmp t1)=v1)(k:c.tmps.size=n->c.defers=D->Ev c (.tmp t0)=v0->Ev c (.tmp t1)=v1->p)(h0:l.contains t0=true:=by rfl)(h1:l.contains t1=true:=by rfl):p:=k (h.sz.trans s) (h.df.trans d) (h.get _ e0 h0) (h.get _ e1 h1)
theorem Ag.c3 {l:List Nat}{a c:Act}{p:Prop}{n t0 t1 t2:Nat}{D:List Deferred}{v0 v1 v2:Value}(h:Ag l a c)(s:a.tmps.size=n)(d:a.defers=D)(e0:Ev a (.tmp t0)=v0)(e1:Ev a (.tmp t1)=v1)(e2:Ev a (.tmp t2)=v2)(k:c.tmps.size=n->c.defers=D->Ev c (.tmp t0)=v0->Ev c (.tmp t1)=v1->Ev c (.tmp t2)=v2->p)(h0:l.contains t0=true:=by rfl)(h1:l.contains t1=true:=by rfl)(h2:l.contains t2=true:=by rfl):p:=k (h.sz.trans s) (h.df.trans d) (h.get _ e0 h0) (h.get _ e1 h1) (h.get _ e2 h2)
theorem Ag.c4 {l:List Nat}{a c:Act}{p:Prop}{n t0 t1 t2 t3:Nat}{D:List Deferred}{v0 v1 v2 v3:Value}(h:Ag l a c)(s:a.tmps.size=n)(d:a.defers=D)(e0:Ev a (.tmp t0)=v0)(e1:Ev a (.tmp t1)=v1)(e2:Ev a (.tmp t2)=v2)(e3:Ev a (.tmp t3)=v3)(k:c.tmps.size=n->c.defers=D->Ev c (.tmp t0)=v0->Ev c (.tmp t1)=v1->Ev c (.tmp t2)=v2->Ev c (.tmp t3)=v3->p)(h0:l.contains t0=true:=by rfl)(h1:l.contains t1=true:=by rfl)(h2:l.contains t2=true:=by rfl)(h3:l.contains t3=true:=by rfl):p:=k (h.sz.trans s) (h.df.trans d) (h.get _ e0 h0) (h.get _ e1 h1) (h.get _ e2 h2) (h.get _ e3 h3)
theorem Ag.c5 {l:List Nat}{a c:Act}{p:Prop}{n t0 t1 t2 t3 t4:Nat}{D:List Deferred}{v0 v1 v2 v3 v4:Value}(h:Ag l a c)(s:a.tmps.size=n)(d:a.defers=D)(e0:Ev a (.tmp t0)=v0)(e1:Ev a (.tmp t1)=v1)(e2:Ev a (.tmp t2)=v2)(e3:Ev a (.tmp t3)=v3)(e4:Ev a (.tmp t4)=v4)(k:c.tmps.size=n->c.defers=D->Ev c (.tmp t0)=v0->Ev c (.tmp t1)=v1->Ev c (.tmp t2)=v2->Ev c (.tmp t3)=v3->Ev c (.tmp t4)=v4->p)(h0:l.contains t0=true:=by rfl)(h1:l.contains t1=true:=by rfl)(h2:l.contains t2=true:=by rfl)(h3:l.contains t3=true:=by rfl)(h4:l.contains t4=true:=by rfl):p:=k (h.sz.trans s) (h.df.trans d) (h.get _ e0 h0) (h.get _ e1 h1) (h.get _ e2 h2) (h.get _ e3 h3) (h.get _ e4 h4)
theorem Ag.c6 {l:List Nat}{a c:Act}{p:Prop}{n t0 t1 t2 t3 t4 t5:Nat}{D:List Deferred}{v0 v1 v2 v3 v4 v5:Value}(h:Ag l a c)(s:a.tmps.size=n)(d:a.defers=D)(e0:Ev a (.tmp t0)=v0)(e1:Ev a (.tmp t1)=v1)(e2:Ev a (.tmp t2)=v2)(e3:Ev a (.tmp t3)=v3)(e4:Ev a (.tmp t4)=v4)(e5:Ev a (.tmp t5)=v5)(k:c.tmps.size=n->c.defers=D->Ev c (.tmp t0)=v0->Ev c (.tmp t1)=v1->Ev c (.tmp t2)=v2->Ev c (.tmp t3)=v3->Ev c (.tmp t4)=v4->Ev c (.tmp t5)=v5->p)(h0:l.contains t0=true:=by rfl)(h1:l.contains t1=true:=by rfl)(h2:l.contains t2=true:=by rfl)(h3:l.contains t3=true:=by rfl)(h4:l.contains t4=true:=by rfl)(h5:l.contains t5=true:=by rfl):p:=k (h.sz.trans s) (h.df.trans d) (h.get _ e0 h0) (h.get _ e1 h1) (h.get _ e2 h2) (h.get _ e3 h3) (h.get _ e4 h4) (h.get _ e5 h5)
theorem Ag.c7 {l:List Nat}{a c:Act}{p:Prop}{n t0 t1 t2 t3 t4 t5 t6:Nat}{D:List Deferred}{v0 v1 v2 v3 v4 v5 v6:Value}(h:Ag l a c)(s:a.tmps.size=n)(d:a.defers=D)(e0:Ev a (.tmp t0)=v0)(e1:Ev a (.tmp t1)=v1)(e2:Ev a (.tmp t2)=v2)(e3:Ev a (.tmp t3)=v3)(e4:Ev a (.tmp t4)=v4)(e5:Ev a (.tmp t5)=v5)(e6:Ev a (.tmp t6)=v6)(k:c.tmps.size=n->c.defers=D->Ev c (.tmp t0)=v0->Ev c (.tmp t1)=v1->Ev c (.tmp t2)=v2->Ev c (.tmp t3)=v3->Ev c (.tmp t4)=v4->Ev c (.tmp t5)=v5->Ev c (.tmp t6)=v6->p)(h0:l.contains t0=true:=by rfl)(h1:l.contains t1=true:=by rfl)(h2:l.contains t2=true:=by rfl)(h3:l.contains t3=true:=by rfl)(h4:l.contains t4=true:=by rfl)(h5:l.contains t5=true:=by rfl)(h6:l.contains t6=true:=by rfl):p:=k (h.sz.trans s) (h.df.trans d) (h.get _ e0 h0) (h.get _ e1 h1) (h.get _ e2 h2) (h.get _ e3 h3) (h.get _ e4 h4) (h.get _ e5 h5) (h.get _ e6 h6)
theorem Ag.c8 {l:List Nat}{a c:Act}{p:Prop}{n t0 t1 t2 t3 t4 t5 t6 t7:Nat}{D:List Deferred}{v0 v1 v2 v3 v4 v5 v6 v7:Value}(h:Ag l a c)(s:a.tmps.size=n)(d:a.defers=D)(e0:Ev a (.tmp t0)=v0)(e1:Ev a (.tmp t1)=v1)(e2:Ev a (.tmp t2)=v2)(e3:Ev a (.tmp t3)=v3)(e4:Ev a (.tmp t4)=v4)(e5:Ev a (.tmp t5)=v5)(e6:Ev a (.tmp t6)=v6)(e7:Ev a (.tmp t7)=v7)(k:c.tmps.size=n->c.defers=D->Ev c (.tmp t0)=v0->Ev c (.tmp t1)=v1->Ev c (.tmp t2)=v2->Ev c (.tmp t3)=v3->Ev c (.tmp t4)=v4->Ev c (.tmp t5)=v5->Ev c (.tmp t6)=v6->Ev c (.tmp t7)=v7->p)(h0:l.contains t0=true:=by rfl)(h1:l.contains t1=true:=by rfl)(h2:l.contains t2=true:=by rfl)(h3:l.contains t3=true:=by rfl)(h4:l.contains t4=true:=by rfl)(h5:l.contains t5=true:=by rfl)(h6:l.contains t6=true:=by rfl)(h7:l.contains t7=true:=by rfl):p:=k (h.sz.trans s) (h.df.trans d) (h.get _ e0 h0) (h.get _ e1 h1) (h.get _ e2 h2) (h.get _ e3 h3) (h.get _ e4 h4) (h.get _ e5 h5) (h.get _ e6 h6) (h.get _ e7 h7)
end
section
variable {ops:Array Oper}{Q:Exit->Act->World->Prop}{a:Act}{w w1:World}{rest:List Oper}{o:Oper}{d:Nat}{v:Value}
theorem l_v (hg:o.guard=none)(hd:o.dst=some d)(hrun:(execOp (Ev a) o).run Tryz.prog w=.ok (.value v) w1)(h:WL ops Q rest (Pt a d v) w1):WL ops Q (o :: rest) a w:=aP8 d v hg hd hrun h
theorem lV (h:WL ops Q rest (Pt a d v) w1)(hg:o.guard=none:=by exact rfl)(hd:o.dst=some d:=by exact rfl)(hrun:(execOp (Ev a) o).run Tryz.prog w=.ok (.value v) w1:=by simp [execOp,go_sem, *];exact ⟨rfl,rfl⟩):WL ops Q (o :: rest) a w:=l_v hg hd hrun h
theorem l_s (hg:o.guard=none)(hd:o.dst=none)(hrun:(execOp (Ev a) o).run Tryz.prog w=.ok .skip w1)(h:WL ops Q rest a w1):WL ops Q (o :: rest) a w:=aUv hg hd hrun h
theorem l_a {s x:Operand}{t e:TypeId}{z:Value}{size bytes:Nat}(hg:o.guard=none)(hd:o.dst=some d)(ho:o.op=.call { callee:=.builtin .append,args:=#[s,x],argTypes:=#[t,t] })(ht:Tryz.prog.underlying t=some (.slice e))(hI:(Tryz.prog.info? e).map (fun i=>(i.zero,i.size,i.bytes))=some (some z,size,bytes))(hzs:z.cells.size=size)(hsz:0<size)
  {base n:Nat}{v:Value}{xs:List Value} (hown:w.ownsRow base e size v n xs) {S:Nat->Prop}{A:Option Addr}{m c:Nat}{news:List Value} (hsl:Sl w S size A m news) (hs:Ev a s=v) (hx:Ev a x=.slice A m c) (h1:∀ u ∈ news,u.oneCell'=true) (h63:n+m<=1000000000000) (hbytes:(n+m)*bytes<=140737488355328) (hbase:base<=w)
  (h:∀ v' w',w'.ownsRow base e size v' (n+m) (xs ++ news)->Fr (fun k=>some k=v.ownBlock) w w'->(v'.ownBlock=v.ownBlock∨v'.ownBlock=some w.heap.size)->WL ops Q rest (Pt a d v') w'):WL ops Q (o :: rest) a w:=by
 obtain ⟨i0,hi,hz0,hz1,hz2⟩:=info_parts hI;exact aLg s x t d hg hd ho base e i0 z size bytes ht hi hz0 hz1 hz2 hzs hsz v n xs hs hown S A m c news hx hsl h1 h63 hbytes hbase h
theorem l_c {f:FuncId}{xs:Array Operand}{ats:Array TypeId}{fn:Func}{vs:Array Value}{R:Ending->World->Prop}(hg:o.guard=none)(hd:o.dst=some d)(hop:o.op=Op.call { callee:=Callee.value (Operand.func f),args:=xs,argTypes:=ats })(hf:Tryz.prog.funcs[f]?=some fn)(hn:(fn.name == "runtime.NumGoroutine")=false) (hb:fn.body.isNone=false)
  (hc:qg f vs w R)(hv:xs.map (Ev a)=vs)(h:∀ e w',R e w'->∃ v,e=.returned v∧WL ops Q rest (Pt a d v) w'):WL ops Q (o :: rest) a w :=
 aUx d hg hd f xs ats hop fn hf hn hb vs hv (hc.mono h)
end
section
variable {ops:Array Oper}{C:World->Prop}{K:Act->Prop}{a:Act}{rest:List Oper}{o:Oper}{d gd:Nat}{v:Value}{j:Nat}{want b:Bool}
theorem q_v (hg:o.guard=none)(hd:o.dst=some d)(hrun:∀ w,C w->(execOp (Ev a) o).run Tryz.prog w=.ok (.value v) w)(h:WQ ops C K rest (Pt a d v)):WQ ops C K (o :: rest) a:=aPu d v hg hd hrun h
theorem q_y (hg:o.guard=some (j,want))(hj:(ops[j]?).bind (fun x=>x.dst)=some gd)(hd:o.dst=some d)(hs:gd<a.tmps.size)(he:Ev a (.tmp gd)=.bool b)(hb:(b == want)=true)(hrun:∀ w,C w->(execOp (Ev a) o).run Tryz.prog w=.ok (.value v) w)(h:WQ ops C K rest (Pt a d v)):WQ ops C K (o :: rest) a:=aYq d v gd hg hj hs he hb hd hrun h
theorem q_n (hg:o.guard=some (j,want))(hj:(ops[j]?).bind (fun x=>x.dst)=some gd)(hd:o.dst=some d)(hs:gd<a.tmps.size)(he:Ev a (.tmp gd)=.bool b)(hb:(b == want)=false)(h:WQ ops C K rest (Pt a d undef)):WQ ops C K (o :: rest) a:=aYr d gd hg hj hs he hb hd h
theorem q_c {f:FuncId}{xs:Array Operand}{ats:Array TypeId}{fn:Func}{vs:Array Value}(hg:o.guard=none)(hd:o.dst=some d)(hop:o.op=Op.call { callee:=Callee.value (Operand.func f),args:=xs,argTypes:=ats })(hf:Tryz.prog.funcs[f]?=some fn)(hn:(fn.name == "runtime.NumGoroutine")=false) (hb:fn.body.isNone=false)
  (hc:∀ w,C w->Calls Tryz.prog f vs w fun e w'=>e=.returned v∧C w')(hv:xs.map (Ev a)=vs)(h:WQ ops C K rest (Pt a d v)):WQ ops C K (o :: rest) a:=aUe d v hg hd f xs ats hop fn hf hn hb vs hv hc h
theorem a1u {f:FuncId}{xs:Array Operand}{ats:Array TypeId}{fn:Func}{vs:Array Value}(hg:o.guard=some (j,want))(hj:(ops[j]?).bind (fun x=>x.dst)=some gd)(hd:o.dst=some d)(hs:gd<a.tmps.size)(he:Ev a (.tmp gd)=.bool b)(hbw:(b == want)=true)(hop:o.op=Op.call { callee:=Callee.value (Operand.func f),args:=xs,argTypes:=ats })(hf:Tryz.prog.funcs[f]?=some fn)(hn:(fn.name == "runtime.NumGoroutine")=false) (hb:fn.body.isNone=false)
  (hc:∀ w,C w->Calls Tryz.prog f vs w fun e w'=>e=.returned v∧C w')(hv:xs.map (Ev a)=vs)(h:WQ ops C K rest (Pt a d v)):WQ ops C K (o :: rest) a:=aPv d v gd hg hj hs he hbw hd f xs ats hop fn hf hn hb vs hv hc h
end
section
variable {ops:Array Oper}{K:Act->World->Prop}{S:World->Prop}{bf:Nat->Bool}{n:Nat}{is:List Nat}{a:Act}{w w1:World}{o:Oper}{d gd:Nat}{v:Value}{j:Nat}{want b:Bool}
def WTd (ops:Array Oper)(S:World->Prop)(K':Act->Prop):List Nat->Act->Prop
 | [],a=>K' a
 | i :: J,a=>∃ o d v,ops[i]?=some o∧o.dst=some d∧YieldsIf Tryz.prog ops S o v a∧WTd ops S K' J (a.put (some d) v)
structure WT (ops:Array Oper)(S:World->Prop)(K':Act->Prop)(J:List Nat)(a:Act):Prop where
 out:WTd ops S K' J a
def aGr (ops:Array Oper)(bf:Nat->Bool):List Nat->List Nat->Bool
 | _,[]=>true
 | is,i :: J=>tkB ops bf is i && aGr ops bf (i :: is) J
def aKb:List Nat->List Nat->List Nat
 | is,[]=>is
 | is,i :: J=>aKb (i :: is) J
theorem a0l {n K'}(hS:S w):∀ J is a,aGr ops bf is J=true->WTd ops S K' J a->(∀ a',K' a'->WD ops K S bf n (aKb is J) a' w)->WD ops K S bf (n+J) is a w
 | [],is,a,_,h,hK=>hK a h
 | i :: J,is,a,ht,h,hK=>by
  obtain ⟨o,d,v,hi,hd,hy,h'⟩:=h;simp only [aGr,Bool.and_eq_true] at ht;have h2:=a0l (n:=n) hS J (i :: is) (a.put (some d) v) ht.2 h' hK;exact aD9 i d v hi hd ht.1 hy hS h2
theorem d_t {N:Nat}(n)(J:List Nat)(hN:N=n+J)(ht:aGr ops bf is J=true)(hS:S w)(h:WT ops S (fun a'=>WD ops K S bf n (aKb is J) a' w) J a):WD ops K S bf N is a w:=by
 subst hN;exact a0l hS J is a ht h.out (fun _ h=>h)
section
variable {K':Act->Prop}{J:List Nat}{i:Nat}
theorem t_e (h:K' a):WT ops S K' [] a:=⟨h⟩
theorem t_v (hi:ops[i]?=some o)(hg:o.guard=none)(hd:o.dst=some d)(hy:∀ w,S w->(execOp (Ev a) o).run Tryz.prog w=.ok (.value v) w)(h:WT ops S K' J (Pt a d v)):WT ops S K' (i :: J) a :=
 ⟨⟨o,d,v,hi,hd,.inl ⟨dr,hy⟩,h.out⟩⟩
theorem t_y (hi:ops[i]?=some o)(hg:o.guard=some (j,want))(hj:(ops[j]?).bind (fun x=>x.dst)=some gd)(hd:o.dst=some d)(hs:gd<a.tmps.size)(he:Ev a (.tmp gd)=.bool b)(hb:(b == want)=true)(hy:∀ w,S w->(execOp (Ev a) o).run Tryz.prog w=.ok (.value v) w)(h:WT ops S K' J (Pt a d v)):WT ops S K' (i :: J) a :=
 ⟨⟨o,d,v,hi,hd,.inl ⟨fq,hy⟩,h.out⟩⟩
theorem t_n (hi:ops[i]?=some o)(hg:o.guard=some (j,want))(hj:(ops[j]?).bind (fun x=>x.dst)=some gd)(hd:o.dst=some d)(hs:gd<a.tmps.size)(he:Ev a (.tmp gd)=.bool b)(hb:(b == want)=false)(h:WT ops S K' J (Pt a d undef)):WT ops S K' (i :: J) a :=
 ⟨⟨o,d,undef,hi,hd,.inr ⟨fq,rfl⟩,h.out⟩⟩
end
theorem d_1 (i)(hr:Region.ready .any ops (mkL ops.size is)=[i])(hi:ops[i]?=some o)(hg:o.guard=none)(hd:o.dst=some d)
  (hrun:(execOp (Ev a) o).run Tryz.prog w=.ok (.value v) w1)(hS:bf i=true->S w1)(h:WD ops K S bf n (i :: is) (Pt a d v) w1):WD ops K S bf (n+1) is a w:=by
 refine aF0 i hr hi (fun K' hK=>?_);have hw:Region.wanted o (yielded ops a.tmps)=true:=by simp [Region.wanted,hg]
 rw [if_pos hw];unfold Oper.wp;rw [show (execOp a.eval o).run Tryz.prog w=.ok (.value v) w1 from hrun];show K' (a.put o.dst v) w1;rw [hd];exact hK _ _ hS h
theorem d_s (i)(hr:Region.ready .any ops (mkL ops.size is)=[i])(hi:ops[i]?=some o)(hg:o.guard=none)(hd:o.dst=none)
  (hrun:(execOp (Ev a) o).run Tryz.prog w=.ok .skip w1)(hS:bf i=true->S w1)(h:WD ops K S bf n (i :: is) a w1):WD ops K S bf (n+1) is a w:=aU8 i hr hi hg hd hrun hS h
end
def a3v (ops:Array Oper)(C:World->Prop)(Q:Exit->Act->World->Prop)(o:Oper)(v:Value)(a:Act):Prop :=
 ∀ w,C w->∀ K:Act->World->Prop,(∀ w',C w'->K (a.put o.dst v) w')->if Region.wanted o (yielded ops a.tmps)=true then Oper.wp Tryz.prog o a w K Q else K (a.put o.dst undef) w
section
variable {ops:Array Oper}{K:Act->World->Prop}{S C:World->Prop}{bf:Nat->Bool}{n:Nat}{is:List Nat}{a:Act}{w:World}{oi oj:Oper}{Q:Exit->Act->World->Prop}
end
def Iv (b:Bool)(v:Value):Value:=cond b v undef
@[simp] theorem a38 (v):Iv true v=v:=rfl
@[simp] theorem aZw (a f):Ev a (.func f)=.func (.func f) #[] #[]:=rfl
section
variable {ops:Array Oper}{C:World->Prop}{a:Act}{rest:List Oper}{o:Oper}{d gd j:Nat}{v:Value}{b:Bool}{w:World}{y:Operand}{f:FuncId}{xs:Array Operand}{ats:Array TypeId}{fn:Func}{vs:Array Value}
structure WX (ops:Array Oper)(w:World)(Q:Exit->Act->World->Prop)(l:List Oper)(a:Act):Prop where
 out:∀ w',Ext w w'->WL ops Q l a w'
variable {Q:Exit->Act->World->Prop}
end
