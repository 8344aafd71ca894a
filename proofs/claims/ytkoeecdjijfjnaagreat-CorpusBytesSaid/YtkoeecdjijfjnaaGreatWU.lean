/- Contracts and laws. Conditions: none. -/
import Derived.Test.YtkoeecdjijfjnaaGreatWO
set_option linter.all false
set_option maxRecDepth 100000
set_option maxHeartbeats 8000000
namespace Go.Proofs.YtkoeecdjijfjnaaGreat
open Go.RowKit
def a3w (B:Nat)(l:List Int)(v:Value)(w:World):Prop:=∃ A c,v=.slice A l c∧l<=c∧c<=9223372036854775807∧l.length<=100000000000∧Byt l∧Sl w (fun k=>B<=k) 1 A l (l.map (Value.int .u8))
theorem cC.len {s s' n}(h:cC fG 0 s n s'):(∀ r,s'=some r->n<=r)∧(s'=none->n=0):=by
 cases s with
 | none=>obtain ⟨rfl,rfl⟩:=h;exact ⟨fun _ h=>(nomatch h),fun _=>rfl⟩
 | some l =>
  simp only [cC,aj] at h;cases hd:fG l with
  | none=>rw [hd] at h;obtain ⟨rfl,rfl⟩:=h;exact ⟨fun _ h=>(nomatch h),fun _=>rfl⟩
  | some y =>
   rw [hd] at h;obtain ⟨rfl,rfl⟩:=h;refine ⟨fun r hr=>?_,fun h=>(nomatch h)⟩;cases hr;unfold fG at hd;cases hu:sX l with
   | none=>rw [hu] at hd;simp at hd
   | some z =>
    rw [hu] at hd;simp only [aj] at hd;split at hd
    ·cases hd
    ·cases hd;omega
theorem cC.take {s s' n}(h:cC fG 0 s n s'):cC qQ [] s ((s'.getD []).take n) (s'.map (·.drop n)):=by
 cases s with
 | none=>obtain ⟨rfl,rfl⟩:=h;exact ⟨rfl,rfl⟩
 | some l =>
  simp only [cC,aj,aL6] at h ⊢;cases hd:fG l with
  | none=>rw [hd] at h;obtain ⟨rfl,rfl⟩:=h;exact ⟨rfl,rfl⟩
  | some y=>rw [hd] at h;obtain ⟨rfl,rfl⟩:=h;exact ⟨rfl,rfl⟩
theorem cC.str {s s' l}(h:cC qQ [] s l s'):cC yT ⟨#[]⟩ s (strOfNums l) s':=by
 cases s with
 | none=>obtain ⟨rfl,rfl⟩:=h;exact ⟨rfl,rfl⟩
 | some l0 =>
  simp only [cC,aj,yT] at h ⊢;cases hd:qQ l0 with
  | none=>rw [hd] at h;obtain ⟨rfl,rfl⟩:=h;exact ⟨rfl,rfl⟩
  | some y=>rw [hd] at h;obtain ⟨rfl,rfl⟩:=h;exact ⟨rfl,rfl⟩
section
variable {g:Nat}{P:Nat->Prop}{w w':World}{s:Option (List Int)}
theorem aGs {s' n w1}(hs:RS g P s' w1)(hd:cC fG 0 s n s'):∃ (A:Option Addr)(c:Nat)(l:List Int),n<=l∧l.take n=(s'.getD []).take n∧Sl w1 P 1 A n ((l.take n).map (Value.int .u8))∧Byt (l.take n)∧n<=c∧c<=9223372036854775807∧n<=100000000000∧Calls Tryz.prog 124 #[qp g,↑(n:Int)] w1 fun en w'=>en=.returned (.slice A n c)∧RS g P (s'.map (·.drop n)) w'∧Fr (fun k=>k=g) w1 w':=by
 obtain ⟨A,c,e,l,h1,h2⟩:=hs;obtain ⟨k1,k2⟩:=hd.len
 have hn:n<=l:=by
  cases s' with
  | none=>rw [k2 rfl];omega
  | some r=>obtain ⟨-,rfl⟩:=h2;exact k1 _ rfl
 have hlen:=h1.len;refine ⟨A,c,l,hn,?_,h1.sl.takeB hn,fun x hx=>h1.byt x (List.mem_of_mem_take hx),I,hlen.2.1,I,(aOa h1 n hn).mono ?_⟩
 ·cases s' with
  | none=>rw [k2 rfl];simp
  | some r=>obtain ⟨-,rfl⟩:=h2;rfl
 ·rintro en w' ⟨rfl,⟨A',c',h3⟩,hf⟩
  refine ⟨rfl,⟨A',c',e,_,h3,?_⟩,hf⟩;cases s' with
  | none=>exact h2
  | some r=>obtain ⟨rfl,rfl⟩:=h2;exact ⟨rfl,rfl⟩
noncomputable def R76:=RG Tryz.f76
noncomputable abbrev c76:Code:=.seq (R76 0) (.seq (R76 1) .ret)
theorem b76:Tryz.f76.body=some c76:=U
theorem aW8 (h:RS g P s w):qg 76 #[qp g] w (yO g P qQ [] (fun l v w'=>a3w w l v w') s w):=by
 obtain ⟨hg,hP⟩:=h.glt;refine bW Tryz.func76 b76 rfl O (fun a Q sz df ea hQ=>?_);have e0:=ea 0 (qp g) rfl;refine rS ?_;refine lv ?_;refine lN a [0] ?_;intro a1 u1;refine u1.c1 sz df e0 fun sz df e0=>?_
 refine rS ?_;refine lv ?_;have hx:Ext w (w.alloc (qk #[] 5)):=(aq w).alloc' _;have hO:By w (.slice (qp w) 0 0) [] (w.alloc (qk #[] 5)):=World.ownsRow_lit w #[] 0 (ab _) di rfl;replace h:=h.ext hx;generalize w.alloc (qk #[] 5)=W at *;iterate 2 refine lv ?_
 refine lc Tryz.func125 (rY h) ?_;rintro e w1 ⟨n,s',v,rfl,rfl,hs,hd,hf⟩;refine ⟨_,rfl,?_⟩;obtain ⟨A,c,l,hn,ht,hsl,hby,hc1,hc2,hn2,hc⟩:=aGs hs hd;refine lc Tryz.func124 hc ?_;rintro e w2 ⟨rfl,hs2,hf2⟩;refine ⟨_,rfl,?_⟩;have hF:=hf.trans hf2;have hO2:By w (.slice (qp w) 0 0) [] w2:=gS hO hF (fun b hb e=>by have h7:w.heap.size=b:=Option.some.inj hb;omega);have hsl2:=hsl.keep (Q:=fun _=>True) (aB.of_fr hf2 (fun k hk e=>by obtain ⟨_,_,_,_,h5,_⟩:=hs;exact h5.sep k hk e)) (fun _ _=>trivial);have htl:(l.take n)=n:=by rw [ak];omega
 refine la oH aHw hO2 hsl2 bh bh (ae hx.size hF.size) aGo ?_;intro v3 w3 h1 hf3 hv;refine lv ?_;refine lE a1 [] 2 ?_;intro a2 u2 e2
 have h1':By w v3 (l.take n) w3:=by
  unfold By;rw [htl]
  simpa using h1
 obtain ⟨A3,c3,rfl,h4,h5,h6⟩:=Sl.of_own h1';unfold maxLen at h5;have hown:(Value.slice (qp w) 0 0).ownBlock=some w.heap.size:=rfl;have hs3:=hs2.fr hf3 (fun e=>by have h7:=Option.some.inj (e.trans hown);omega) (fun k hk e=>by have h7:=Option.some.inj (e.trans hown);have:=hP _ hk;omega);exact wp_ret (hQ _ _ _ (u2.df.trans df) (by simp [results,Tryz.results76,go_sem,evT e2];try rfl) ⟨l.take n,_,_,rfl,⟨A3,c3,rfl,h4,I,by rw [htl];exact hn2,hby,h6 _ (fun b hb=>lI h1' hb)⟩,hs3,by rw [ht];exact hd.take,(((ar hx).trans hF).trans_new (M:=fun k=>k=g) (hf3.mono fun k hk=>.inr (by have h7:=Option.some.inj (hk.trans hown);omega)))⟩)
noncomputable def a02:=RG Tryz.f167
noncomputable abbrev a2n:Code:=.seq (a02 0) (.seq (a02 1) .ret)
theorem a3c:Tryz.f167.body=some a2n:=U
theorem aBx (h:RS g P s w):qg 167 #[qp g] w (yO g P yT ⟨#[]⟩ (fun x v _=>v=.string x∧x.size<=100000000000) s w):=by
 refine bW Tryz.func167 a3c rfl O (fun a Q sz df ea hQ=>?_);have e0:=ea 0 (qp g) rfl;refine rS ?_;refine lv ?_;refine lN a [0] ?_;intro a1 u1;refine u1.c1 sz df e0 fun sz df e0=>?_
 refine rS ?_;iterate 2 refine lv ?_
 refine lc Tryz.func125 (rY h) ?_;rintro e w1 ⟨n,s',v,rfl,rfl,hs,hd,hf⟩;refine ⟨_,rfl,?_⟩;obtain ⟨A,c,l,hn,ht,hsl,hby,hc1,hc2,hn2,hc⟩:=aGs hs hd;refine lc Tryz.func124 hc ?_;rintro e w2 ⟨rfl,hs2,hf2⟩;refine ⟨_,rfl,?_⟩;have hsl2:=hsl.keep (Q:=fun _=>True) (aB.of_fr hf2 (fun k hk e=>by obtain ⟨_,_,_,_,h5,_⟩:=hs;exact h5.sep k hk e)) (fun _ _=>trivial);have htl:(l.take n)=n:=by rw [ak];omega
 have hcv:(convert 74 9 (.slice A n c)).run Tryz.prog w2=.ok (.string (strOfNums (l.take n))) w2:=by
  by_cases h0:0<n
  ·obtain ⟨bk,ok,rfl,-,hcc⟩:=hsl2.2 h0
   refine run_convert_bytes_arg w2 74 5 oH U bk ok n c (l.take n) htl (fun i hi=>?_) 9 U;exact hcc i _ (by rw [List.getElem?_map,List.getD,List.getElem?_eq_getElem (show i<(l.take n) by omega)];rfl)
  ·obtain rfl:n=0:=by omega
   cases A with
   | none=>exact run_convert_bytes_nil w2 74 5 oH U 0 c 9 U
   | some ad =>
    rw [run_convert_bytes_string w2 74 9 5 (some ad) 0 c oH U U,run_bytesToString w2 ad 0 c [] (by simp [loadCells,loadCellsFrom])];rfl
 iterate 2 refine lv ?_
 refine lE a1 [] 2 ?_;intro a2 u2 e2;refine wp_ret (hQ _ _ _ (u2.df.trans df) (by simp [results,Tryz.results167,go_sem,evT e2,ht]) ⟨strOfNums (l.take n),_,_,rfl,⟨rfl,by rw [strOfNums_size,htl];exact hn2⟩,hs2,?_,hf.trans hf2⟩);have:=hd.take;rw [<- ht] at this;exact this.str
noncomputable def R80:=RG Tryz.f80
noncomputable abbrev c80:Code:=.seq (R80 0) (.seq (.seq (R80 1) (.cond (.tmp 7) (.seq (R80 2) .ret) .skip)) (.seq (.seq (R80 3) (.cond (.tmp 17) (.seq (R80 4) .ret) .skip)) (.seq (R80 5) .ret)))
theorem b80:Tryz.f80.body=some c80:=U
theorem aU6 (h:RS g P s w):Calls Tryz.prog 80 #[qp g] w fun e w'=>∃ r:Int,e=.returned (↑r)∧(r=0 ↔ s=some [])∧w'=w:=by
 refine bW Tryz.func80 b80 rfl O (fun a Q sz df ea hQ=>?_);have e0:=ea 0 (qp g) rfl;obtain ⟨A,c,e,l,h1,h2⟩:=h;have c0:=h1.box.cell' (u:=.slice A l c) 0 rfl;have c1:=h1.box.cell' (u:=↑e) 1 rfl;have hres:∀ (r:Int) (b2:Act),b2.defers=[]->qq b2 2 (.int .i64 r)->(r=0 ↔ s=some [])->Q .ret b2 w:=fun r b2 hd e2 hr=>hQ _ _ _ hd (by simp [results,Tryz.results80,go_sem,evT e2];try rfl) ⟨r,rfl,hr,rfl⟩
 refine rS ?_;refine lv ?_;refine lN a [0] ?_;intro a1 u1;refine u1.c1 sz df e0 fun sz df e0=>?_
 refine wp_seq (rS ?_);iterate 5 refine lv ?_
 refine lE a1 [0] 7 ?_;intro a2 u2 e7;refine u2.c1 sz df e0 fun sz df e0=>?_
 cases s with
 | none =>
  obtain ⟨h2,h3⟩:=h2;refine wp_cond_true (e7.trans jg) (rS ?_);iterate 5 refine lv ?_
  refine lE a2 [] 2 ?_;intro a3 u3 e2;exact wp_ret (hres e _ (u3.df.trans df) e2 ⟨fun h=>absurd h h2,fun h=>nomatch h⟩)
 | some l0 =>
  obtain ⟨rfl,rfl⟩:=h2;refine wp_cond_false (e7.trans O) (wp_skip (wp_seq (rS ?_)));iterate 6 refine lv ?_
  refine lE a2 [0] 17 ?_;intro a3 u3 e17;refine u3.c1 sz df e0 fun sz df e0=>?_
  by_cases hl:0<l.length
  ·refine wp_cond_true (e17.trans iy) (rS ?_)
   refine lv ?_;refine lE a3 [] 2 ?_;intro a4 u4 e2;exact wp_ret (hres 2 _ (u4.df.trans df) e2 ⟨fun h=>by omega,fun h=>by cases h;simp at hl⟩)
  ·refine wp_cond_false (e17.trans iy) (wp_skip (rS ?_))
   refine lv ?_;refine lE a3 [] 2 ?_;intro a4 u4 e2;exact wp_ret (hres 0 _ (u4.df.trans df) e2 ⟨fun _=>by rw [List.eq_nil_of_length_eq_zero (by omega:l.length=0)],fun _=>rfl⟩)
end
section
variable {w:World}{T:Nat->Prop}{A:Option Addr}{c:Nat}{l:List Int}
noncomputable def R74:=RG Tryz.f74
noncomputable abbrev c74:Code:=.seq (R74 0) (.seq (R74 1) .ret)
theorem b74:Tryz.f74.body=some c74:=U
theorem aMz (hl:l.length<=10000000000)(hb:Byt l)(hs:Sl w T 1 A l (l.map (Value.int .u8))):Calls Tryz.prog 74 #[.slice A l c] w fun e w'=>∃ g P,e=.returned (qp g)∧RS g P (some l) w'∧w<=g∧(∀ k,P k->w<=k)∧Ext w w':=by
 refine bW Tryz.func74 b74 rfl O (fun a Q sz df ea hQ=>?_);have e0:=ea 0 (.slice A l c) rfl;refine rS ?_;refine lv ?_;refine lN a [0] ?_;intro a1 u1;refine u1.c1 sz df e0 fun sz df e0=>?_
 refine rS ?_;refine lv ?_;have hx:Ext w (w.alloc (qk #[] 5)):=(aq w).alloc' _;have hO:Out w (.slice (qp w) 0 0) [] (w.alloc (qk #[] 5)):=⟨World.ownsRow_lit w #[] 0 (ab _) di rfl,⟨ar hx,.inr ⟨_,rfl,ab _⟩⟩,ab _⟩;have hs':=hs.ext hx;generalize w.alloc (qk #[] 5)=W at *;refine lv ?_;refine lap (c:=c) hO hs' rfl bh ?_;intro v2 w2 hO2;rw [List.nil_append] at hO2;obtain ⟨A2,c2,rfl,h1,h2,h3⟩:=hO2.sl;have hB:=aw w2 178 #[.slice A2 l c2,qz];have hx2:Ext w2 (w2.alloc (qk #[.slice A2 l c2,qz] 178)):=(aq w2).alloc' _;refine lv ?_;refine lv (w1:=w2.alloc (qk #[.slice A2 l c2,qz] 178)) ?_;refine lv ?_;refine lE a1 [] 2 ?_;intro a2 u2 e2;exact wp_ret (hQ _ _ _ (u2.df.trans df) (by simp [results,Tryz.results74,go_sem,evT e2];try rfl) ⟨w2.heap.size,_,rfl,⟨A2,c2,0,l,⟨hB,⟨h1,h2,I⟩,h3.ext hx2,hb,fun k hk=>by have:=hO2.row.block_lt hk.2.symm;omega,fun k hk=>by have:=hO2.row.block_lt hk.2.symm;have:=hx2.size;omega⟩,rfl,rfl⟩,hO2.ex.size,fun k hk=>hk.1,hO2.ex.trans' hx2⟩)
end
theorem aQi {a:Act}{dst:Option Tmp}{y:Operand}{xs:Array Operand}{ats:Array TypeId}{ty:TypeId}{pos:String}{after:Array Edge}{guard:Option (Nat × Bool)}{f:FuncId}{pre post:Array Value}(hy:a.eval y=.func (.func f) pre post) :
  execOp a.eval { dst,op:=.call { callee:=.value y,args:=xs,argTypes:=ats },type:=ty,pos,after,guard }=callFunc f (pre ++ xs.map a.eval ++ post):=by
 rw [show execOp a.eval { dst,op:=.call { callee:=.value y,args:=xs,argTypes:=ats },type:=ty,pos,after,guard }=(do let d <- Deferred.ofValue (a.eval y) (xs.map a.eval);invoke d.target d.args) from rfl,hy];rfl
section
variable {ops:Array Oper}{Q:Exit->Act->World->Prop}{a:Act}{w:World}{rest:List Oper}{o:Oper}{d:Nat}{y:Operand}{f:FuncId}{xs:Array Operand}{ats:Array TypeId}{fn:Func}{vs pre post:Array Value}{R:Ending->World->Prop}
theorem aWx {K:Act->World->Prop}(hop:o.op=Op.call { callee:=Callee.value y,args:=xs,argTypes:=ats })(hy:Ev a y=.func (.func f) pre post)(hf:Tryz.prog.funcs[f]?=some fn)(hn:(fn.name == "runtime.NumGoroutine")=false) (hb:fn.body.isNone=false) (hv:pre ++ xs.map (Ev a) ++ post=vs)
  (h:Calls Tryz.prog f vs w fun e w'=>∃ v,e=.returned v∧K (a.put o.dst v) w'):Oper.wp Tryz.prog o a w K Q:=by
 unfold Oper.wp;obtain ⟨dst,op,ty,pos,after,guard⟩:=o;simp only at hop;subst hop;subst hv;rw [aQi hy];have hp:Sem.run Tryz.prog program w=.ok Tryz.prog w:=rfl;simp only [callFunc,Sem.run_bind,hp,Result.andThen_ok,hf,hn,hb,Bool.false_eq_true,if_false,Sem.run_pure,Oper.upon];refine h.mono ?_;rintro e w' ⟨v,rfl,hk⟩;exact hk
theorem lcp (hf:Tryz.prog.funcs[f]?=some fn)(hy:Ev a y=.func (.func f) pre post)(hc:qg f vs w R)(h:∀ e w',R e w'->∃ v,e=.returned v∧WL ops Q rest (Pt a d v) w')
  (hg:o.guard=none:=by exact rfl)(hd:o.dst=some d:=by exact rfl)(hop:o.op=Op.call { callee:=Callee.value y,args:=xs,argTypes:=ats }:=by exact rfl)(hn:(fn.name == "runtime.NumGoroutine")=false:=by rfl) (hb:fn.body.isNone=false:=by rfl) (hv:pre ++ xs.map (Ev a) ++ post=vs:=by simp [*]):WL ops Q (o :: rest) a w:=by
 refine ⟨wpList_plain hg fun K hK=>?_⟩;refine aWx hop hy hf hn hb hv (hc.mono fun e w' hR=>?_);obtain ⟨v,rfl,h1⟩:=h e w' hR;exact ⟨v,rfl,by rw [hd];exact hK _ _ h1.out⟩
end
theorem cC.step {α}{d:Dec α}{x0 x s s'}(h:cC d x0 s x s'):(s'=none->∀ l,s=some l->d l=none)∧(∀ r,s'=some r->∃ l,s=some l∧d l=some (x,r)):=by
 cases s with
 | none=>obtain ⟨rfl,rfl⟩:=h;exact ⟨fun _ l h=>(nomatch h),fun r h=>(nomatch h)⟩
 | some l =>
  simp only [cC,aj] at h;cases hd:d l with
  | none=>rw [hd] at h;obtain ⟨rfl,rfl⟩:=h;exact ⟨fun _ l' e=>by cases e;exact hd,fun r h=>(nomatch h)⟩
  | some y=>rw [hd] at h;obtain ⟨rfl,rfl⟩:=h;exact ⟨fun h=>(nomatch h),fun r e=>by cases e;exact ⟨l,rfl,hd⟩⟩
def aE6 {α:Type}(d:Dec α)(n:Nat)(l0:Option (List Int))(acc:List α)(s:Option (List Int)):Prop:=match s with
 | some r=>acc<=n∧l0.bind (iR d n)=(iR d (n - acc) r).map fun y=>(acc ++ y.1,y.2)
 | none=>l0.bind (iR d n)=none
theorem aE6.next {α}{d:Dec α}{n l0 acc x x0 s s'}(h:aE6 d n l0 acc s)(hl:acc<n)(hd:cC d x0 s x s'):aE6 d n l0 (acc ++ [x]) s':=by
 obtain ⟨h1,h2⟩:=hd.step;cases s with
 | none =>
  cases s' with
  | none=>exact h
  | some r=>obtain ⟨l,e,-⟩:=h2 r rfl;cases e
 | some l =>
  obtain ⟨h3,h4⟩:=h;rw [show n - acc=(n - (acc.length+1))+1 by omega,iR] at h4;cases s' with
  | none =>
   rw [h1 rfl l rfl] at h4;exact h4
  | some r =>
   obtain ⟨l',e,h5⟩:=h2 r rfl;cases e;rw [h5] at h4;refine ⟨bh,?_⟩;rw [h4];simp [Option.map_map,Function.comp_def]
theorem cC.ints {s s1 sj n acc}(hd:cC fG 0 s n s1)(hr:aE6 eD n s1 acc sj)(he:sj=none∨acc=n):cC kC [] s (if sj.isNone then [] else acc) sj:=by
 have hb:s.bind kC=s1.bind (iR eD n):=by
  cases s with
  | none=>obtain ⟨-,rfl⟩:=hd;rfl
  | some l =>
   simp only [cC,aj,aIg] at hd ⊢;cases hl:fG l with
   | none=>rw [hl] at hd;obtain ⟨-,rfl⟩:=hd;rfl
   | some y=>rw [hl] at hd;obtain ⟨rfl,rfl⟩:=hd;rfl
 unfold cC;rw [hb];cases sj with
 | none=>rw [show s1.bind (iR eD n)=none from hr];exact ⟨rfl,rfl⟩
 | some r =>
  obtain ⟨h1,h2⟩:=hr;rw [h2,show n - acc=0 by rcases he with h | h;cases h;omega];simp [iR]
section
variable {g:Nat}{P:Nat->Prop}{w w':World}{s:Option (List Int)}
noncomputable def aJh:=RG Tryz.f127
noncomputable abbrev a2w:Code:=.seq (aJh 0) (.seq (aJh 1) (.seq (aJh 2) (.seq (.seq (aJh 3) (.block 0 (.loop (.seq (.seq (aJh 4) (.cond (.tmp 20) .skip (.exit 0))) (.seq (.block 1 (aJh 6)) (aJh 5)))))) (.seq (.seq (aJh 7) (.cond (.tmp 32) (.seq (aJh 8) .ret) .skip)) (.seq (aJh 9) .ret)))))
theorem a3l:Tryz.f127.body=some a2w:=U
theorem aP7 (h:RS g P s w):qg 127 #[qp g,.func (.func 77) #[qp g] #[]] w (yO g P kC [] (fun l v w'=>Ints w' (fun k=>w.heap.size<=k∧k<w'.heap.size) v l) s w):=by
 obtain ⟨hg,hP⟩:=h.glt;refine bW Tryz.func127 a3l rfl O (fun a Q sz df ea hQ=>?_);have e0:=ea 0 (qp g) rfl;have e1:=ea 1 (.func (.func 77) #[qp g] #[]) rfl;refine rS ?_;refine lv ?_;refine lN a [0,1] ?_;intro a1 u1;refine u1.c2 sz df e0 e1 fun sz df e0 e1=>?_
 refine rS ?_;refine lv ?_;refine lc Tryz.func125 (rY h) ?_;rintro e w1 ⟨n,s1,v,rfl,rfl,hs,hd,hf⟩;refine ⟨_,rfl,?_⟩;refine lv ?_;refine lE a1 [0,1] 5 ?_;intro a2 u2 e5;refine u2.c2 sz df e0 e1 fun sz df e0 e1=>?_
 have hn:n<=100000000000:=by
  obtain ⟨k1,k2⟩:=hd.len;cases s1 with
  | none=>rw [k2 rfl];omega
  | some r =>
   obtain ⟨A,c,e,l,h1,-,rfl⟩:=hs;have:=k1 _ rfl;have:=h1.len;omega
 refine rS ?_;refine lv ?_;have hx:Ext w1 (w1.alloc (qk #[] 3)):=(aq w1).alloc' _;have hO:(w1.alloc (qk #[] 3)).ownsRow w 3 1 (.slice (qp w1) 0 0) 0 []:=World.ownsRow_lit w1 #[] 0 hf.size di rfl;have hgo:some g ≠ (Value.slice (qp w1) 0 0).ownBlock:=fun e=>by have h1:g=w1:=Option.some.inj e;have:=hf.size;omega
 replace hs:=hs.ext hx;replace hf:=hf.trans (ar hx);generalize w1.alloc (qk #[] 3)=W at *;refine lv ?_;refine lE a2 [0,1,5] 6 ?_;intro a3 u3 e6;refine u3.c3 sz df e0 e1 e5 fun sz df e0 e1 e5=>?_
 refine wp_seq (rS ?_);refine lv ?_;refine lE a3 [0,1,5,6] 7 ?_;intro a4 u4 e7;refine u4.c4 sz df e0 e1 e5 e6 fun sz df e0 e1 e5 e6=>?_
 refine wp_block (wp_loop (fun a' V=>∃ (acc:List Int) (v:Value) (sj:Option (List Int)),Ag [0,1,5] a4 a'∧qq a' 7 (↑(acc:Int))∧qq a' 6 v∧V.ownsRow w 3 1 v acc (acc.map (Value.int .i64))∧(∀ x ∈ acc,I64 x)∧acc<=n∧RS g P sj V∧aE6 eD n s1 acc sj∧Fr (fun k=>k=g) w V∧some g ≠ v.ownBlock) (fun a' _=>(n - intOf (Ev a' (.tmp 7))).toNat) ⟨[],_,s1,.rf,e7,e6,hO,O,af _,hs,?_,hf,hgo⟩ ?_)
 ·cases s1 with
  | none=>rfl
  | some r=>exact ⟨af _,O⟩
 clear e6 e7 hO hgo hs hf;rintro a5 V ⟨acc,v,sj,u5,e7,e6,hO,h64,hj,hs,hr,hf,hgo⟩;refine u5.c3 sz df e0 e1 e5 fun sz df e0 e1 e5=>?_
 have m7:=e7;have hs':=hs;obtain ⟨A,c,e,l,h1,h2⟩:=hs';have c1:=h1.box.cell' (u:=↑e) 1 rfl
 have hreg:∀ R,(∀ a',Ag [0,1,5,6,7] a5 a'->qq a' 20 (decide (acc<n) && (e == 0))->R .normal a' V)->qw (aJh 4) R a5 V:=by
  intro R hR;refine rW ?_;by_cases hlt:acc<n
  ·iterate 4 refine lv ?_
   iterate 5 refine ly ?_
   refine lv ?_;exact lE a5 [0,1,5,6,7] 20 hR (he:=by simp [*])
  ·iterate 4 refine lv ?_
   iterate 5 refine ln ?_
   refine lv ?_;exact lE a5 [0,1,5,6,7] 20 hR (he:=by simp [*])
 refine wp_seq (wp_seq (hreg _ (fun a6 u6 e20=>?_)));clear hreg;refine u6.c5 sz df e0 e1 e5 e6 e7 fun sz df e0 e1 e5 e6 e7=>?_
 have hres:∀ (l':List Int) (v':Value) (b:Act),b.defers=[]->qq b 4 v'->Ints V (fun k=>w.heap.size<=k∧k<V.heap.size) v' l'->cC kC [] s l' sj->Q .ret b V:=fun l' v' b hd' e4 hI hds=>hQ _ _ _ hd' (by simp [results,Tryz.results127,go_sem,evT e4];try rfl) ⟨l',sj,_,rfl,hI,hs,hds,hf⟩
 by_cases hgo':acc<n∧e=0
 ·refine wp_cond_true (e20.trans (by simp [hgo'])) (wp_skip (wp_seq (wp_block (rW ?_))))
  iterate 2 refine lv ?_
  refine lcp Tryz.func77 (y:=.tmp 24) (pre:=#[qp g]) (post:=#[]) av (mV hs) ?_;rintro e w2 ⟨x,s2,v2,rfl,⟨rfl,hx64⟩,hs2,hd2,hf2⟩;refine ⟨_,rfl,?_⟩;have hO2:=gS hO hf2 (fun b hb e=>hgo ju);have hsz2:=hf2.size;have hszV:=hf.size;refine lv ?_;have hx2:Ext w2 (w2.alloc (qk #[↑x] 3)):=(aq w2).alloc' _;have hs3:=hs2.ext hx2;refine la Tryz.underlying22 Tryz.info3 (hO2.ext_ hx2) (T:=fun _=>True) (Sl.new w2 [.int .i64 x] 3 1 1 rfl) I I (by have:=hx2.size;omega) cd ?_;intro v3 w3 ho3 hf3 hv3;refine lv ?_;refine lE a6 [0,1,5,7] 6 ?_;clear e6;intro a7 u7 e6;refine u7.c4 sz df e0 e1 e5 e7 fun sz df e0 e1 e5 e7=>?_
  have hlw:=wrI (a:=(acc:Int)+1) I I;refine rW ?_;iterate 3 refine lv ?_
  refine lE a7 [0,1,5,6] 7 ?_;clear e7;intro b1 z1 e7;refine ⟨⟨acc ++ [x],v3,s2,(((u5.trans (u6.mono rfl)).trans (u7.mono rfl)).trans (z1.mono rfl)),e7.trans O,z1.get 6 e6,?_,?_,?_,?_,hr.next hgo'.1 hd2,?_,?_⟩,?_⟩
  ·rw [aa,List.map_append]
   exact ho3
  ·intro y hy
   rcases ap.1 hy with hy | hy
   ·exact h64 y hy
   ·simp at hy;rw [hy];exact hx64
  ·simp;omega
  ·exact hs3.fr hf3 hgo (fun k hk e=>by have:=hP k hk;have:=lI hO e.symm;omega)
  ·exact ((hf.trans hf2).trans (ar hx2)).trans_new (hf3.mono fun k hk=>.inr (lI hO hk.symm))
  ·rcases hv3 with e | e
   ·rw [e];exact hgo
   ·rw [e];intro h;have:=Option.some.inj h;have:=hs2.glt.1;have:=hx2.size;omega
  ·rw [e7,m7]
   simp only [intOf];omega
 ·have hcf:(decide (acc<n) && (e == 0))=false:=by
   rw [Bool.and_eq_false_iff];by_cases h1:acc<n
   ·exact .inr (a4c (fun h=>hgo' ⟨h1,h⟩))
   ·exact .inl (a4f h1)
  refine wp_cond_false (e20.trans (by rw [hcf])) (wp_exit (wp_seq (rS ?_)));iterate 5 refine lv ?_
  refine lE a6 [0,6] 32 ?_;intro a7 u7 e32;refine u7.c2 sz df e0 e6 fun sz df e0 e6=>?_
  cases sj with
  | none =>
   obtain ⟨h2,h3⟩:=h2;refine wp_cond_true (e32.trans jg) (rS ?_);refine lv ?_;refine lE a7 [] 4 ?_;intro a8 u8 e4;exact wp_ret (hres [] _ _ (u8.df.trans df) e4 ⟨none,0,rfl,ab _,O,O,⟨rfl,fun h=>absurd h O⟩⟩ (by simpa using hd.ints hr (.inl rfl)))
  | some r =>
   obtain ⟨rfl,rfl⟩:=h2;refine wp_cond_false (e32.trans O) (wp_skip (rS ?_));iterate 2 refine lv ?_
   refine lE a7 [] 4 ?_;intro a8 u8 e4;obtain ⟨A5,c5,rfl,h5,h6,h7⟩:=Sl.of_own hO;unfold maxLen at h6;exact wp_ret (hres acc _ _ (u8.df.trans df) e4 ⟨A5,c5,rfl,h5,I,h64,h7 _ (fun b hb=>⟨lI hO hb,hO.block_lt hb⟩)⟩ (by simpa using hd.ints hr (.inr I)))
noncomputable def R78:=RG Tryz.f78
noncomputable abbrev c78:Code:=.seq (R78 0) (.seq (R78 1) .ret)
theorem b78:Tryz.f78.body=some c78:=U
theorem aUz (h:RS g P s w):qg 78 #[qp g] w (yO g P kC [] (fun l v w'=>Ints w' (fun k=>w.heap.size<=k∧k<w'.heap.size) v l) s w):=by
 refine bW Tryz.func78 b78 rfl O (fun a Q sz df ea hQ=>?_);have e0:=ea 0 (qp g) rfl;refine rS ?_;refine lv ?_;refine lN a [0] ?_;intro a1 u1;refine u1.c1 sz df e0 fun sz df e0=>?_
 refine rS ?_;iterate 3 refine lv ?_
 refine lc Tryz.func127 (aP7 h) ?_;rintro e w1 ⟨x,s1,v,rfl,h1,h2,h3,h4⟩;refine ⟨_,rfl,?_⟩;refine lv ?_;refine lE a1 [] 2 ?_;intro a2 u2 e2;exact wp_ret (hQ _ _ _ (u2.df.trans df) (by simp [results,Tryz.results78,go_sem,evT e2];try rfl) ⟨x,s1,v,rfl,h1,h2,h3,h4⟩)
end
def aBf (F:Value)(w:World)(R:Ending->World->Prop):Prop:=∃ f pre post fn,F=.func (.func f) pre post∧Tryz.prog.funcs[f]?=some fn∧(fn.name == "runtime.NumGoroutine")=false∧fn.body.isNone=false∧qg f (pre ++ post) w R
theorem lcF {ops:Array Oper}{Q:Exit->Act->World->Prop}{a:Act}{w:World}{rest:List Oper}{o:Oper}{d:Nat}{y:Operand}{F:Value}{R:Ending->World->Prop}(hc:aBf F w R)(h:∀ e w',R e w'->∃ v,e=.returned v∧WL ops Q rest (Pt a d v) w')
  (hg:o.guard=none:=by exact rfl)(hd:o.dst=some d:=by exact rfl)(hop:o.op=Op.call { callee:=Callee.value y,args:=#[],argTypes:=#[] }:=by exact rfl)(hy:Ev a y=F:=by simp [*]):WL ops Q (o :: rest) a w:=by
 obtain ⟨f,pre,post,fn,rfl,h1,h2,h3,h4⟩:=hc;exact lcp h1 hy h4 h hg hd hop h2 h3 O
theorem aBf.mono {F w R R'}(h:aBf F w R)(hR:∀ e w',R e w'->R' e w'):aBf F w R':=by
 obtain ⟨f,pre,post,fn,h0,h1,h2,h3,h4⟩:=h;exact ⟨f,pre,post,fn,h0,h1,h2,h3,h4.mono hR⟩
def stD (bad:Bool)(sr:Option (List Int)):Option (List Int):=if bad then none else sr
structure DS (gd g most:Nat)(P:Nat->Prop)(bad:Bool)(sr:Option (List Int))(w:World):Prop where
 box:Blk w gd 181 #[qp g,↑(most:Int),bad]
 rd:RS g P sr w
 ne:gd ≠ g
 sep:∀ k,P k->k ≠ gd
def aMs {α:Type}(gd g most:Nat)(P:Nat->Prop)(d:Dec α)(val:α->Value->World->Prop)(bad:Bool)(sr:Option (List Int))(w:World)(e:Ending)(w':World):Prop:=∃ x bad' sr' v,e=.returned v∧val x v w'∧DS gd g most P bad' sr' w'∧(bad=true->bad'=true)∧cC d x (stD bad sr) x (stD bad' sr')∧Fr (fun k=>k=g∨k=gd) w w'
section
variable {gd g most:Nat}{P:Nat->Prop}{bad:Bool}{sr sr':Option (List Int)}{w w':World}
theorem DS.lt (h:DS gd g most P bad sr w):gd<w∧g<w∧∀ k,P k->k<w:=⟨h.box.lt,h.rd.glt⟩
theorem DS.fr {M}(h:DS gd g most P bad sr w)(hf:Fr M w w')(hg:¬ M g)(hd:¬ M gd)(hP:∀ k,P k->¬ M k):DS gd g most P bad sr w':=⟨h.box.fr hf hd,h.rd.fr hf hg hP,h.ne,h.sep⟩
theorem DS.ext (h:DS gd g most P bad sr w)(hx:Ext w w'):DS gd g most P bad sr w':=⟨h.box.ext hx,h.rd.ext hx,h.ne,h.sep⟩
theorem DS.read (h:DS gd g most P bad sr w)(hf:Fr (fun k=>k=g) w w')(hr:RS g P sr' w'):DS gd g most P bad sr' w':=⟨h.box.fr hf h.ne,hr,h.ne,h.sep⟩
theorem DS.mark (h:DS gd g most P bad sr w):DS gd g most P true sr (w.setCell (qt gd 2) true):=by
 refine ⟨by simpa using h.box.set_ 2 true,h.rd.fr (M:=fun k=>k=gd) ((au (fun k=>k=gd) w).setCell (p:=qt gd 2) (.inl rfl) _) (fun e=>h.ne e.symm) h.sep,h.ne,h.sep⟩
end
noncomputable abbrev cL (r0 r4 r8 r9:Code):Code:=.seq r0 (.seq (RG Tryz.f168 1) (.seq (.seq (RG Tryz.f168 2) (.cond (.tmp 22) (RG Tryz.f168 3) .skip)) (.seq r4 (.seq (.seq (RG Tryz.f168 5) (.block 0 (.loop (.seq (.seq (RG Tryz.f168 6) (.cond (.tmp 35) .skip (.exit 0))) (.seq (.block 1 r8) (RG Tryz.f168 7)))))) (.seq r9 .ret)))))
structure aWg (size:Nat)(e:TypeId)(elv:List Value->Value->Prop)(r0 r4 r8 r9:Code):Prop where
 h0:∀ Q a w,a.tmps.size=44->(∀ a',Ag [0,1] a a'->Q .normal a' w)->qw r0 Q a w
 h4:∀ Q a w,a.tmps.size=44->(∀ a',Ag [0,1,5] a a'->qq a' 6 qn->Q .normal a' w)->qw r4 Q a w
 h9:∀ Q a w v,a.tmps.size=44->qq a 6 v->(∀ a',Ag [] a a'->qq a' 4 v->Q .normal a' w)->qw r9 Q a w
 h8:∀ Q a V v n xs B F (X:List Value->Value->World->Prop),a.tmps.size=44->qq a 6 v->qq a 1 F->n+1<=100000000001->aBf F V (fun en w'=>∃ cs u,en=.returned u∧elv cs u∧w'.ownsRow B e size v n xs∧B<=w'.heap.size∧X cs u w') ->
  (∀ a' v' w1 w2 w' cs u,Ag [0,1,5,7] a a'->qq a' 6 v'->X cs u w1->Ext w1 w2->w'.ownsRow B e size v' (n+1) (xs ++ cs)->Fr (fun k=>some k=v.ownBlock) w2 w'->(v'.ownBlock=v.ownBlock∨v'.ownBlock=some w2.heap.size)->Q .normal a' w')->qw r8 Q a V
section
variable {gd g most:Nat}{P:Nat->Prop}{bad:Bool}{sr:Option (List Int)}{w:World}{Q:Exit->Act->World->Prop}{a:Act}
theorem aW7 (sz:a.tmps.size=44)(e0:qq a 0 (qp gd))(h:DS gd g most P bad sr w)(hQ:∀ a' n sr' w',Ag [0,1] a a'->qq a' 5 (.int .i64 n)->I64 n->DS gd g most P bad sr' w'->cC eD 0 sr n sr'->Fr (fun k=>k=g) w w'->Q .normal a' w'):qw (RG Tryz.f168 1) Q a w:=by
 have c0:=h.box.cell' (u:=qp g) 0 rfl;refine rW ?_;iterate 4 refine lv ?_
 refine lc Tryz.func77 (mV h.rd) ?_;rintro e w1 ⟨n,s1,v,rfl,⟨rfl,hn⟩,hs,hd,hf⟩;refine ⟨_,rfl,?_⟩;refine lv ?_;exact lE a [0,1] 5 (fun a' u e5=>hQ a' n s1 w1 u e5 hn (h.read hf hs) hd hf) (he:=by simp [*])
theorem aW6 {n:Int}(sz:a.tmps.size=44)(e0:qq a 0 (qp gd))(e5:qq a 5 n)(h:DS gd g most P bad sr w)(hQ:∀ a',Ag [0,1,5] a a'->qq a' 22 (.bool (decide (n<0∨(most:Int)<n)))->Q .normal a' w):qw (RG Tryz.f168 2) Q a w:=by
 have c1:=h.box.cell' (u:=↑(most:Int)) 1 rfl;refine rW ?_;by_cases hn:n<0
 ·iterate 3 refine lv ?_
  iterate 6 refine ln ?_
  refine lv ?_;exact lE a [0,1,5] 22 hQ (he:=by simp [*])
 ·iterate 3 refine lv ?_
  iterate 6 refine ly ?_
  refine lv ?_;exact lE a [0,1,5] 22 hQ (he:=by simp [*])
theorem aW3 {n:Int}{j:Nat}(sz:a.tmps.size=44)(e0:qq a 0 (qp gd))(e5:qq a 5 n)(e7:qq a 7 (j:Int))(h:DS gd g most P bad sr w)(hQ:∀ a',Ag [0,1,5,6,7] a a'->qq a' 35 (decide ((j:Int)<n) && !bad)->Q .normal a' w):qw (RG Tryz.f168 6) Q a w:=by
 have c2:=h.box.cell' (u:=bad) 2 rfl;refine rW ?_;by_cases hn:(j:Int)<n
 ·iterate 4 refine lv ?_
  iterate 5 refine ly ?_
  refine lv ?_;exact lE a [0,1,5,6,7] 35 hQ (he:=by simp [*])
 ·iterate 4 refine lv ?_
  iterate 5 refine ln ?_
  refine lv ?_;exact lE a [0,1,5,6,7] 35 hQ (he:=by simp [*])
theorem aW5 (sz:a.tmps.size=44)(e0:qq a 0 (qp gd))(h:DS gd g most P bad sr w)(hQ:∀ a',Ag [0,1,5] a a'->Q .normal a' (w.setCell (qt gd 2) true)):qw (RG Tryz.f168 3) Q a w:=by
 have c2:=h.box.cell' (u:=bad) 2 rfl;have f2:=h.box.frozen 2;refine rW ?_;iterate 3 refine lv ?_
 refine ls (w1:=w.setCell (qt gd 2) true) ?_ (hrun:=by simp [execOp,go_sem, *]);exact lN a [0,1,5] hQ
theorem aW4 (sz:a.tmps.size=44)(hQ:∀ a',Ag [0,1,5,6] a a'->qq a' 7 qz->Q .normal a' w):qw (RG Tryz.f168 5) Q a w:=by
 refine rW ?_;refine lv ?_;exact lE a [0,1,5,6] 7 hQ (he:=by simp [*])
theorem aW2 {j:Nat}(sz:a.tmps.size=44)(e7:qq a 7 (j:Int))(hj:j<=1000000000000)(hQ:∀ a',Ag [0,1,5,6] a a'->qq a' 7 (.int .i64 ((j+1:Nat):Int))->Q .normal a' w):qw (RG Tryz.f168 7) Q a w:=by
 have hw:=wrI (a:=(j:Int)+1) I I;refine rW ?_;iterate 3 refine lv ?_
 refine lE a [0,1,5,6] 7 ?_;intro a' u e;exact hQ a' u (e.trans O)
end
theorem aFf {α}{size f:Nat}{e}{R:World->(Nat->Prop)->α->List Value->Prop}(hEl:aJl size R)(d)(elv:List Value->Value->Prop){r0 r4 r8 r9 fn}(hfn:Tryz.prog.funcs[f]?=some fn)(hb:fn.body=some (cL r0 r4 r8 r9))(hn:fn.ntmps=44)(hres:∀ ts w,(results fn ts).run Tryz.prog w=.ok (ts[4]?.getD undef) w)(hL:aWg size e elv r0 r4 r8 r9)
  {gd g most P bad sr w F} (hD:DS gd g most P bad sr w) (hm:most<=100000000000)
  (hF:∀ V bad' sr',Fr (fun k=>k=g∨k=gd∨w.heap.size<=k) w V->DS gd g most P bad' sr' V->aBf F V (aMs gd g most P d (fun x u w'=>∃ cs,elv cs u∧R w' (fun k=>V.heap.size<=k∧k<w'.heap.size) x cs) bad' sr' V)) :
  qg f #[qp gd,F] w (aMs gd g most P (oC most d) (fun l v w'=>Lst w' (fun k=>w.heap.size<=k∧k<w'.heap.size) size (R w' (fun k=>w.heap.size<=k∧k<w'.heap.size)) v l) bad sr w):=by
 obtain ⟨hl1,hl2,hl3⟩:=hD.lt;refine bW hfn hb hn O (fun a Q sz df ea hQ=>?_);have e0:=ea 0 (qp gd) rfl;have e1:=ea 1 F rfl;refine wp_seq (hL.h0 _ _ _ sz (fun a1 u1=>?_));refine u1.c2 sz df e0 e1 fun sz df e0 e1=>?_
 refine wp_seq (aW7 sz e0 hD (fun a2 n sr1 w1 u2 e5 hnI hD1 hd1 hf1=>?_));refine u2.c2 sz df e0 e1 fun sz df e0 e1=>?_
 refine wp_seq (wp_seq (aW6 sz e0 e5 hD1 (fun a3 u3 e22=>?_)));refine u3.c3 sz df e0 e1 e5 fun sz df e0 e1 e5=>?_
 have hgo:∀ (a':Act) (V:World) (bad1:Bool) (l1:Option (List Int)),Ag [0,1,5] a3 a'->DS gd g most P bad1 sr1 V->stD bad1 sr1=l1->(stD bad sr).bind (oC most d)=l1.bind (iR d n.toNat)->(bad1=false->n<=most)->(bad=true->bad1=true)->Fr (fun k=>k=g∨k=gd) w V->qw (.seq r4 (.seq (.seq (RG Tryz.f168 5) (.block 0 (.loop (.seq (.seq (RG Tryz.f168 6) (.cond (.tmp 35) .skip (.exit 0))) (.seq (.block 1 r8) (RG Tryz.f168 7)))))) (.seq r9 .ret))) Q a' V:=by
  intro a4 V bad1 l1 u4 hDV hst hb0 hmn hmono hfV;refine u4.c3 sz df e0 e1 e5 fun sz df e0 e1 e5=>?_
  refine wp_seq (hL.h4 _ _ _ sz (fun a5 u5 e6=>?_));refine u5.c3 sz df e0 e1 e5 fun sz df e0 e1 e5=>?_
  refine wp_seq (wp_seq (aW4 sz (fun a6 u6 e7=>?_)));refine u6.c4 sz df e0 e1 e5 e6 fun sz df e0 e1 e5 e6=>?_
  refine wp_block (wp_loop (fun a' V'=>∃ (acc:List α) (xs:List Value) (v:Value) (bj:Bool) (sj:Option (List Int)),Ag [0,1,5] a6 a'∧qq a' 7 (↑(acc:Int))∧qq a' 6 v∧V'.ownsRow w e size v acc xs∧RL (R V' (fun k=>w.heap.size<=k∧k<V'.heap.size∧some k ≠ v.ownBlock)) acc xs∧acc.length<=100000000000∧DS gd g most P bj sj V'∧(bj=false->bad1=false)∧(bad=true->bj=true)∧aE6 d n.toNat l1 acc (stD bj sj)∧Fr (fun k=>k=g∨k=gd) w V') (fun a' _=>(n - intOf (Ev a' (.tmp 7))).toNat) ⟨[],[],nl,bad1,sr1,.rf,e7,e6,aP _ _ _ _,rfl,af _,hDV,fun h=>h,hmono,?_,hfV⟩ ?_)
  ·rw [hst]
   cases l1 with
   | none=>rfl
   | some r=>exact ⟨af _,O⟩
  clear e6 e7 hDV hst;rintro a7 V' ⟨acc,xs,v,bj,sj,u7,e7,e6,hO,hRL,hal,hDj,hbj,hmonoj,hrest,hfj⟩;refine u7.c3 sz df e0 e1 e5 fun sz df e0 e1 e5=>?_
  have m7:=e7;refine wp_seq (wp_seq (aW3 sz e0 e5 e7 hDj (fun a8 u8 e35=>?_)));refine u8.c5 sz df e0 e1 e5 e6 e7 fun sz df e0 e1 e5 e6 e7=>?_
  have hszV:=hfj.size;have hog:∀ k,some k=v.ownBlock->w<=k∧k<V':=fun k hk=>⟨lI hO hk.symm,hO.block_lt hk.symm⟩
  by_cases hgo2:(acc:Int)<n∧bj=false
  ·obtain ⟨hlt,rfl⟩:=hgo2
   have hnm:=hmn (hbj rfl);refine wp_cond_true (e35.trans dm) (wp_skip (wp_seq (wp_block (hL.h8 _ _ _ v acc xs w F (fun cs _ w1=>∃ x bad' sr',R w1 (fun k=>V'.heap.size<=k∧k<w1.heap.size) x cs∧DS gd g most P bad' sr' w1∧cC d x (stD false sj) x (stD bad' sr')∧Fr (fun k=>k=g∨k=gd) V' w1) sz e6 e1 I ((hF V' false sj (hfj.mono fun k hk=>hk.elim .inl (fun h=>.inr (.inl h))) hDj).mono ?_) ?_))))
   ·rintro en w1 ⟨x,bad',sr',u,rfl,⟨cs,hel,hRx⟩,hD',-,hdx,hf'⟩
    refine ⟨cs,u,rfl,hel,gS hO hf' (fun b hb h=>?_),ae hszV hf'.size,x,bad',sr',hRx,hD',hdx,hf'⟩;have:=(hog b hb.symm).1;rcases h with h | h <;> omega
   ·intro a9 v' w1 w2 w3 cs u u9 e6' hX hx12 ho3 hf3 hv3
    obtain ⟨x,bad',sr',hRx,hD',hdx,hf'⟩:=hX;have s1:=hf'.size;have s2:=hx12.size;have s3:=hf3.size;refine u9.b1 sz e7 fun sz e7=>?_
    have hrest':=hrest.next I hdx;refine aW2 sz e7 I (fun a10 u10 e7'=>?_);have hfA:Fr (fun k=>k=g∨k=gd∨some k=v.ownBlock) V' w3:=((hf'.mono fun k hk=>hk.elim .inl (fun h=>.inr (.inl h))).trans (ar hx12)).trans (hf3.mono fun k hk=>.inr (.inr hk));have hfB:Fr (fun k=>k=g∨k=gd∨some k=v.ownBlock) w1 w3:=(ar hx12).trans (hf3.mono fun k hk=>.inr (.inr hk))
    have hnew:∀ k,k<w2.heap.size->some k ≠ v.ownBlock->some k ≠ v'.ownBlock:=fun k hk hne h=>by
     rcases hv3 with e | e
     ·exact hne (h.trans e)
     ·have:=Option.some.inj (h.trans e);omega
    refine ⟨⟨acc ++ [x],xs ++ cs,v',bad',sr',((u7.trans (u8.mono rfl)).trans (u9.mono rfl)).trans (u10.mono rfl),e7'.trans O,u10.get 6 e6',by rw [aa];exact ho3,RL.append (hRL.move hEl (aB.of_fr hfA fun k hk h=>?_) (fun k hk h=>⟨h.1,I,hnew k I h.2.2⟩)) (RL.one (hEl.carry _ _ _ _ _ _ hRx (aB.of_fr hfB fun k hk h=>?_) (fun k hk h=>⟨I,I,hnew k I (fun e=>by have:=(hog k e).2;omega)⟩))),by rw [aa,List.length_singleton];omega,(hD'.ext hx12).fr hf3 (fun h=>by have:=(hog _ h).1;omega) (fun h=>by have:=(hog _ h).1;omega) (fun k hk h=>by have:=(hog _ h).1;have:=hl3 k hk;omega),fun _=>hbj rfl,fun h=>(nomatch (hmonoj h)),hrest',((hfj.trans hf').trans (ar hx12)).trans_new (hf3.mono fun k hk=>.inr (hog k hk).1)⟩,?_⟩
    ·rcases h with h | h | h
     ·omega
     ·omega
     ·exact hk.2.2 h
    ·rcases h with h | h | h
     ·omega
     ·omega
     ·have:=(hog k h).2;omega
    ·rw [e7',m7]
     simp only [intOf];omega
  ·have hcf:(decide ((acc:Int)<n) && !bj)=false:=by
    rw [Bool.and_eq_false_iff];by_cases h1:(acc:Int)<n
    ·refine .inr ?_
     cases bj with
     | true=>rfl
     | false=>exact absurd ⟨h1,rfl⟩ hgo2
    ·exact .inl (a4f h1)
   refine wp_cond_false (e35.trans (by rw [hcf])) (wp_exit (wp_seq (hL.h9 _ _ _ v sz e6 (fun a9 u9 e4=>?_))))
   have hdec:cC (oC most d) acc (stD bad sr) acc (stD bj sj):=by
    unfold cC;rw [hb0];cases hs:stD bj sj with
    | none=>rw [hs] at hrest;rw [show l1.bind (iR d n.toNat)=none from hrest];exact ⟨rfl,rfl⟩
    | some r =>
     rw [hs] at hrest;obtain ⟨h1,h2⟩:=hrest
     have hbf:bj=false:=by
      cases bj with
      | true=>cases hs
      | false=>rfl
     rw [h2,show n.toNat - acc=0 by
      by_cases h3:(acc:Int)<n
      ·exact absurd ⟨h3,hbf⟩ hgo2
      ·omega]
     simp [iR]
   refine wp_ret (hQ _ _ v (u9.df.trans df) (by rw [hres,evT e4]) ⟨acc,bj,sj,v,rfl,Lst.of_own hO (RL.mono hRL (fun x _ cs h=>hEl.carry _ _ _ _ _ _ h (fun _ _ _=>rfl) (fun k _ hk=>⟨hk.1,hk.2.1⟩))) I (fun k hk=>hog k hk.symm),hDj,hmonoj,hdec,hfj⟩)
 by_cases hbad:n<0∨(most:Int)<n
 ·refine wp_cond_true (e22.trans (by simp [hbad])) (aW5 sz e0 hD1 (fun a4 u4=>?_))
  refine hgo a4 _ true none u4 hD1.mark rfl ?_ (fun h=>nomatch h) (fun _=>rfl) ((hf1.mono fun k hk=>.inl hk).setCell (p:=qt gd 2) (.inl (.inr rfl)) _);cases bad with
  | true=>rfl
  | false =>
   simp only [stD,Bool.false_eq_true,if_false,Option.bind_none];cases sr with
   | none=>rfl
   | some l =>
    simp only [aj,oC,cC] at hd1 ⊢;cases hi:eD l with
    | none=>rfl
    | some y=>rw [hi] at hd1;obtain ⟨rfl,-⟩:=hd1;simp only [aj,if_pos hbad]
 ·refine wp_cond_false (e22.trans (by simp [hbad])) (wp_skip ?_)
  refine hgo a3 w1 bad (stD bad sr1) .rf hD1 rfl ?_ (fun _=>by omega) (fun h=>h) (hf1.mono fun k hk=>.inl hk);cases bad with
  | true=>rfl
  | false =>
   simp only [stD,Bool.false_eq_true,if_false];cases sr with
   | none=>obtain ⟨-,rfl⟩:=hd1;rfl
   | some l =>
    simp only [aj,oC,cC] at hd1 ⊢;cases hi:eD l with
    | none=>rw [hi] at hd1;obtain ⟨-,rfl⟩:=hd1;rfl
    | some y=>rw [hi] at hd1;obtain ⟨rfl,rfl⟩:=hd1;simp only [aj,if_neg hbad]
theorem a0v:Tryz.f168.body=some (cL (RG Tryz.f168 0) (RG Tryz.f168 4) (RG Tryz.f168 8) (RG Tryz.f168 9)):=U
theorem a3b:Tryz.f169.body=some (cL (RG Tryz.f169 0) (RG Tryz.f169 4) (RG Tryz.f169 8) (RG Tryz.f169 9)):=U
theorem a0u:Tryz.f170.body=some (cL (RG Tryz.f170 0) (RG Tryz.f170 4) (RG Tryz.f170 8) (RG Tryz.f170 9)):=U
theorem a3q:Tryz.f122.body=some (cL (RG Tryz.f122 0) (RG Tryz.f122 4) (RG Tryz.f122 8) (RG Tryz.f122 9)):=U
theorem aQb:(Tryz.prog.info? 85).map (fun i=>(i.zero,i.size,i.bytes))=some (some (.agg #[qz,qz,qe,qn]),4,56):=U
theorem aU2:(Tryz.prog.info? 9).map (fun i=>(i.zero,i.size,i.bytes))=some (some ↑qe,1,16):=U
theorem aUp:aWg 1 3 (fun cs u=>∃ x,cs=[.int .i64 x]∧u=↑x) (RG Tryz.f168 0) (RG Tryz.f168 4) (RG Tryz.f168 8) (RG Tryz.f168 9) where
 h0:=fun Q a w sz hQ=>by
  refine rW ?_;refine lv ?_;exact lN a [0,1] hQ
 h4:=fun Q a w sz hQ=>by
  refine rW ?_;refine lv ?_;exact lE a [0,1,5] 6 hQ (he:=by simp [*])
 h9:=fun Q a w v sz e6 hQ=>by
  refine rW ?_;iterate 2 refine lv ?_
  exact lE a [] 4 hQ (he:=by simp [*])
 h8:=fun Q a V v n xs B F X sz e6 e1 hn hc hQ=>by
  refine rW ?_;iterate 2 refine lv ?_
  refine lcF hc ?_;rintro en w1 ⟨cs,u,rfl,⟨x,rfl,rfl⟩,ho,hB,hX⟩;refine ⟨_,rfl,?_⟩;have hx:Ext w1 (w1.alloc (qk ([.int .i64 x]).toArray 3)):=(aq w1).alloc' _;refine lv (w1:=w1.alloc (qk ([.int .i64 x]).toArray 3)) ?_;refine la Tryz.underlying22 Tryz.info3 (ho.ext_ hx) (T:=fun _=>True) (Sl.new w1 ([.int .i64 x]) 3 1 1 rfl) I I gv cd ?_;intro v' w' h1 h2 h3;refine lv ?_;refine lE a [0,1,5,7] 6 ?_;intro a' u' e6';exact hQ a' v' w1 _ w' _ _ u' e6' hX hx h1 h2 h3
theorem aYu:aWg 1 9 (fun cs u=>∃ x,cs=[.string x]∧u=.string x) (RG Tryz.f169 0) (RG Tryz.f169 4) (RG Tryz.f169 8) (RG Tryz.f169 9) where
 h0:=fun Q a w sz hQ=>by
  refine rW ?_;refine lv ?_;exact lN a [0,1] hQ
 h4:=fun Q a w sz hQ=>by
  refine rW ?_;refine lv ?_;exact lE a [0,1,5] 6 hQ (he:=by simp [*])
 h9:=fun Q a w v sz e6 hQ=>by
  refine rW ?_;iterate 2 refine lv ?_
  exact lE a [] 4 hQ (he:=by simp [*])
 h8:=fun Q a V v n xs B F X sz e6 e1 hn hc hQ=>by
  refine rW ?_;iterate 2 refine lv ?_
  refine lcF hc ?_;rintro en w1 ⟨cs,u,rfl,⟨x,rfl,rfl⟩,ho,hB,hX⟩;refine ⟨_,rfl,?_⟩;have hx:Ext w1 (w1.alloc (qk ([.string x]).toArray 9)):=(aq w1).alloc' _;refine lv (w1:=w1.alloc (qk ([.string x]).toArray 9)) ?_;refine la Tryz.underlying82 aU2 (ho.ext_ hx) (T:=fun _=>True) (Sl.new w1 ([.string x]) 9 1 1 rfl) I I gv cd ?_;intro v' w' h1 h2 h3;refine lv ?_;refine lE a [0,1,5,7] 6 ?_;intro a' u' e6';exact hQ a' v' w1 _ w' _ _ u' e6' hX hx h1 h2 h3
theorem aUo:aWg 4 85 (fun cs u=>∃ x A c,cs=cellsOf x A c∧u=dA x A c) (RG Tryz.f170 0) (RG Tryz.f170 4) (RG Tryz.f170 8) (RG Tryz.f170 9) where
 h0:=fun Q a w sz hQ=>by
  refine rW ?_;refine lv ?_;exact lN a [0,1] hQ
 h4:=fun Q a w sz hQ=>by
  refine rW ?_;refine lv ?_;exact lE a [0,1,5] 6 hQ (he:=by simp [*])
 h9:=fun Q a w v sz e6 hQ=>by
  refine rW ?_;iterate 2 refine lv ?_
  exact lE a [] 4 hQ (he:=by simp [*])
 h8:=fun Q a V v n xs B F X sz e6 e1 hn hc hQ=>by
  refine rW ?_;iterate 2 refine lv ?_
  refine lcF hc ?_;rintro en w1 ⟨cs,u,rfl,⟨x,A,c,rfl,rfl⟩,ho,hB,hX⟩;refine ⟨_,rfl,?_⟩;have hx:Ext w1 (w1.alloc (qk (cellsOf x A c).toArray 85)):=(aq w1).alloc' _;refine lv (w1:=w1.alloc (qk (cellsOf x A c).toArray 85)) ?_;refine la Tryz.underlying83 aQb (ho.ext_ hx) (T:=fun _=>True) (Sl.new w1 (cellsOf x A c) 85 1 4 rfl) I I gv (by simp [Value.oneCell',cellsOf]) ?_;intro v' w' h1 h2 h3;refine lv ?_;refine lE a [0,1,5,7] 6 ?_;intro a' u' e6';exact hQ a' v' w1 _ w' _ _ u' e6' hX hx h1 h2 h3
theorem aYv:aWg 12 87 (fun cs u=>∃ x na,cs=aK x na∧u=fU x na) (RG Tryz.f122 0) (RG Tryz.f122 4) (RG Tryz.f122 8) (RG Tryz.f122 9) where
 h0:=fun Q a w sz hQ=>by
  refine rW ?_;refine lv ?_;exact lN a [0,1] hQ
 h4:=fun Q a w sz hQ=>by
  refine rW ?_;refine lv ?_;exact lE a [0,1,5] 6 hQ (he:=by simp [*])
 h9:=fun Q a w v sz e6 hQ=>by
  refine rW ?_;iterate 2 refine lv ?_
  exact lE a [] 4 hQ (he:=by simp [*])
 h8:=fun Q a V v n xs B F X sz e6 e1 hn hc hQ=>by
  refine rW ?_;iterate 2 refine lv ?_
  refine lcF hc ?_;rintro en w1 ⟨cs,u,rfl,⟨x,na,rfl,rfl⟩,ho,hB,hX⟩;refine ⟨_,rfl,?_⟩;have hx:Ext w1 (w1.alloc (qk (aK x na).toArray 87)):=(aq w1).alloc' _;refine lv (w1:=w1.alloc (qk (aK x na).toArray 87)) ?_;refine la Tryz.underlying23 Tryz.info87 (ho.ext_ hx) (T:=fun _=>True) (Sl.new w1 (aK x na) 87 1 12 rfl) I I gv cd ?_;intro v' w' h1 h2 h3;refine lv ?_;refine lE a [0,1,5,7] 6 ?_;intro a' u' e6';exact hQ a' v' w1 _ w' _ _ u' e6' hX hx h1 h2 h3
def SRd (bx gd g:Nat)(W:World):Prop:=qc W bx 0 (qp gd)∧qc W gd 0 (qp g)
def DF (gd g most:Nat)(P:Nat->Prop)(bad:Bool)(w:World)(s:Option (List Int))(W:World):Prop:=DS gd g most P bad s W∧Fr (fun k=>k=g∨k=gd) w W
section
variable {gd g most bx:Nat}{P:Nat->Prop}{bad:Bool}{s s':Option (List Int)}{w V W:World}
theorem DF.ext (h:DF gd g most P bad w s V)(hx:Ext V W):DF gd g most P bad w s W:=⟨h.1.ext hx,h.2.trans (ar hx)⟩
theorem DF.read (h:DF gd g most P bad w s V)(hf:Fr (fun k=>k=g) V W)(hs:RS g P s' W):DF gd g most P bad w s' W:=⟨h.1.read hf hs,h.2.trans (hf.mono fun k hk=>.inl hk)⟩
theorem DF.rd (h:DF gd g most P bad w s V)(cb:qc w bx 0 (qp gd))(hbx:bx<w∧bx ≠ g∧bx ≠ gd):SRd bx gd g V:=⟨(World.cell?_of_block (w:=w) (w':=V) (h.2.block bx hbx.1 (fun h=>h.elim hbx.2.1 hbx.2.2))).trans cb,h.1.box.cell' (u:=qp g) 0 rfl⟩
end
theorem aKx {Q a w gd g most bx P bad sr}(sz:a.tmps.size=33)(eb:qq a 2 (qp bx))(cb:qc w bx 0 (qp gd))(hbx:bx<w∧bx ≠ g∧bx ≠ gd)(hD:DS gd g most P bad sr w)
  (hQ:∀ (a':Act)(w':World)(G:Nat)(x0:Int)(x1:Int)(x2:ByteArray)(s1 s2 s3:Option (List Int)),Ag [2,3,4] a a'->qq a' 5 (qp G)->Blk w' G 85 #[↑x0,↑x1,x2,qn]->w<=G->DS gd g most P bad s3 w'->Fr (fun k=>k=g∨k=gd) w w'->cC eD 0 sr x0 s1->cC eD 0 s1 x1 s2->cC yT ⟨#[]⟩ s2 x2 s3->I64 x0->I64 x1->x2.size<=100000000000->Q .normal a' w'):qw (RG Tryz.f172 4) Q a w:=by
 obtain ⟨hl1,hl2,hl3⟩:=hD.lt;have hx0:Ext w w.drew:=(aq w).drew';have hD0:DF gd g most P bad w sr w.drew:=⟨hD.ext hx0,ar hx0⟩;refine rD (SRd bx gd g) (fun q=>q != 17) 18 ?_;generalize w.drew=W at *;refine dt 6 [0,1,2,3,5,6,7,8,10,11,12,13] (hS:=hD0.rd cb hbx) ?_;iterate 12 refine tv ?_ (hy:=by (intro w hw;simp [execOp,go_sem,hw.1,hw.2, *];rfl))
 refine t_e (WA.go (j:=16) (g:=5) (ty:=85) (z:=([↑qz,↑qz,↑qe,↑qn]:List Value).toArray) (B:=w.heap.size) (D:=fun _=>DF gd g most P bad w sr) (L:=[2,3,4,15,20,25]) ?_ hD0);have hp:∀ {L b c t},Ag L b c->qq b t (qp g)->L.contains t=true->qq c t (qp g):=fun h e ht=>h.get _ e ht
 have hO:∀ {ops:Array Oper},(∃ oj,ops[16]?=some oj∧oj.guard=none∧oj.dst=some 5∧oj.op=.alloc 85)->∀ s L,L.contains 5=false->AOp ops (SRd bx gd g) 16 5 85 ([↑qz,↑qz,↑qe,↑qn]:List Value).toArray w L (fun _=>DF gd g most P bad w s):=fun h s L hL=>⟨h,fun a w oj e=>by simp [execOp,go_sem,e];try rfl,hL,fun _ h q=>q.ext h,fun _ q=>q.2.size,fun _ _ q=>q.rd cb hbx⟩
 refine aJ0 (xs:=#[.tmp 15]) 4 (hO ⟨_,rfl,rfl,rfl,rfl⟩ sr _ rfl) ci Tryz.func77 (fun _ V _ q=>(mV q.1.rd).mono ?_) (fun c h=>by simp [hp (t:=15) h ci rfl]);rintro e V0 ⟨x0,s1,v,rfl,⟨rfl,h0⟩,hs,d0,hf⟩;have q':=q.read hf hs;refine ⟨_,_,fun _=>DF gd g most P bad w s1,rfl,hf,fun k e=>by subst e;exact hl2,q',q'.rd cb hbx,?_⟩;clear q' hs hf q;refine aJ0 (xs:=#[.tmp 20]) 9 (hO ⟨_,rfl,rfl,rfl,rfl⟩ s1 _ rfl) ci Tryz.func77 (fun _ V _ q=>(mV q.1.rd).mono ?_) (fun c h=>by simp [hp (t:=20) h ci rfl]);rintro e V1 ⟨x1,s2,v,rfl,⟨rfl,h1⟩,hs,d1,hf⟩;have q':=q.read hf hs;refine ⟨_,_,fun _=>DF gd g most P bad w s2,rfl,hf,fun k e=>by subst e;exact hl2,q',q'.rd cb hbx,?_⟩;clear q' hs hf q;refine aJ0 (xs:=#[.tmp 25]) 14 (hO ⟨_,rfl,rfl,rfl,rfl⟩ s2 _ rfl) ci Tryz.func167 (fun _ V _ q=>(aBx q.1.rd).mono ?_) (fun c h=>by simp [hp (t:=25) h ci rfl]);rintro e V2 ⟨x2,s3,v,rfl,⟨rfl,h2⟩,hs,d2,hf⟩;have q':=q.read hf hs;refine ⟨_,_,fun _=>DF gd g most P bad w s3,rfl,hf,fun k e=>by subst e;exact hl2,q',q'.rd cb hbx,?_⟩;clear q' hs hf q;refine aRq 15 (hO ⟨_,rfl,rfl,rfl,rfl⟩ s3 _ rfl) ?_ (v:=.agg #[↑x0,↑x1,x2,qn]) (hy:=fun c h W hW=>by simp [execOp,go_sem,h.get 16 (v:=↑x0) ci,h.get 21 (v:=↑x1) ci,h.get 26 (v:=x2) ci]);refine aWm (hO ⟨_,rfl,rfl,rfl,rfl⟩ s3 _ rfl) ci ?_;intro G c V hA e hB hG q;have eb:=hA.get 27 (v:=.agg #[↑x0,↑x1,x2,qn]) ci;refine dq 17 (w1:=V.setCells G 0 [.int .i64 x0,.int .i64 x1,x2,qn]) ?_ (hrun:=by simp [execOp,go_sem,hB.cell,hB.frozen, *];rfl);have hB2:=aG [.int .i64 x0,.int .i64 x1,x2,qn] (cs:=([↑qz,↑qz,↑qe,↑qn]:List Value)) 0 hB O;have hf2:Fr (fun k=>k=G) V (V.setCells G 0 [.int .i64 x0,.int .i64 x1,x2,qn]):=(au _ V).setCells _ 0 (.inl rfl);exact jN U (hQ c _ G x0 x1 x2 s1 s2 s3 ((by (repeat refine .put ?_ rfl);exact .rf:Ag [2,3,4] a _).trans (hA.mono rfl)) e hB2 hG (q.1.fr hf2 (fun e=>by omega) (fun e=>by omega) (fun k hk e=>by have:=hl3 k hk;omega)) (q.2.trans_new (hf2.mono fun k hk=>.inr I)) d0 d1 d2 h0 h1 h2)
theorem aK3 {Q a w gd g most bx P bad sr}(sz:a.tmps.size=57)(eb:qq a 1 (qp bx))(cb:qc w bx 0 (qp gd))(hbx:bx<w∧bx ≠ g∧bx ≠ gd)(hD:DS gd g most P bad sr w)
  (hQ:∀ (a':Act)(w':World)(G:Nat)(x0:Int)(x1:ByteArray)(x2:Int)(x3:Int)(s1 s2 s3 s4:Option (List Int)),Ag [1,2] a a'->qq a' 3 (qp G)->Blk w' G 87 #[↑x0,x1,↑x2,↑x3,qn,qn,qn,qn,qz,qz,qe,qn]->w<=G->DS gd g most P bad s4 w'->Fr (fun k=>k=g∨k=gd) w w'->cC eD 0 sr x0 s1->cC yT ⟨#[]⟩ s1 x1 s2->cC eD 0 s2 x2 s3->cC eD 0 s3 x3 s4->I64 x0->x1.size<=100000000000->I64 x2->I64 x3->Q .normal a' w'):qw (RG Tryz.f123 1) Q a w:=by
 obtain ⟨hl1,hl2,hl3⟩:=hD.lt;have hx0:Ext w w.drew:=(aq w).drew';have hD0:DF gd g most P bad w sr w.drew:=⟨hD.ext hx0,ar hx0⟩;refine rD (SRd bx gd g) (fun q=>q != 22) 23 ?_;generalize w.drew=W at *;refine dt 7 [0,1,2,3,5,6,7,8,10,11,12,13,15,16,17,18] (hS:=hD0.rd cb hbx) ?_;iterate 16 refine tv ?_ (hy:=by (intro w hw;simp [execOp,go_sem,hw.1,hw.2, *];rfl))
 refine t_e (WA.go (j:=21) (g:=3) (ty:=87) (z:=([↑qz,↑qe,↑qz,↑qz,↑qn,↑qn,↑qn,↑qn,↑qz,↑qz,↑qe,↑qn]:List Value).toArray) (B:=w.heap.size) (D:=fun _=>DF gd g most P bad w sr) (L:=[1,2,7,12,17,22]) ?_ hD0);have hp:∀ {L b c t},Ag L b c->qq b t (qp g)->L.contains t=true->qq c t (qp g):=fun h e ht=>h.get _ e ht
 have hO:∀ {ops:Array Oper},(∃ oj,ops[21]?=some oj∧oj.guard=none∧oj.dst=some 3∧oj.op=.alloc 87)->∀ s L,L.contains 3=false->AOp ops (SRd bx gd g) 21 3 87 ([↑qz,↑qe,↑qz,↑qz,↑qn,↑qn,↑qn,↑qn,↑qz,↑qz,↑qe,↑qn]:List Value).toArray w L (fun _=>DF gd g most P bad w s):=fun h s L hL=>⟨h,fun a w oj e=>by simp [execOp,go_sem,e];try rfl,hL,fun _ h q=>q.ext h,fun _ q=>q.2.size,fun _ _ q=>q.rd cb hbx⟩
 refine aJ0 (xs:=#[.tmp 7]) 4 (hO ⟨_,rfl,rfl,rfl,rfl⟩ sr _ rfl) ci Tryz.func77 (fun _ V _ q=>(mV q.1.rd).mono ?_) (fun c h=>by simp [hp (t:=7) h ci rfl]);rintro e V0 ⟨x0,s1,v,rfl,⟨rfl,h0⟩,hs,d0,hf⟩;have q':=q.read hf hs;refine ⟨_,_,fun _=>DF gd g most P bad w s1,rfl,hf,fun k e=>by subst e;exact hl2,q',q'.rd cb hbx,?_⟩;clear q' hs hf q;refine aJ0 (xs:=#[.tmp 12]) 9 (hO ⟨_,rfl,rfl,rfl,rfl⟩ s1 _ rfl) ci Tryz.func167 (fun _ V _ q=>(aBx q.1.rd).mono ?_) (fun c h=>by simp [hp (t:=12) h ci rfl]);rintro e V1 ⟨x1,s2,v,rfl,⟨rfl,h1⟩,hs,d1,hf⟩;have q':=q.read hf hs;refine ⟨_,_,fun _=>DF gd g most P bad w s2,rfl,hf,fun k e=>by subst e;exact hl2,q',q'.rd cb hbx,?_⟩;clear q' hs hf q;refine aJ0 (xs:=#[.tmp 17]) 14 (hO ⟨_,rfl,rfl,rfl,rfl⟩ s2 _ rfl) ci Tryz.func77 (fun _ V _ q=>(mV q.1.rd).mono ?_) (fun c h=>by simp [hp (t:=17) h ci rfl]);rintro e V2 ⟨x2,s3,v,rfl,⟨rfl,h2⟩,hs,d2,hf⟩;have q':=q.read hf hs;refine ⟨_,_,fun _=>DF gd g most P bad w s3,rfl,hf,fun k e=>by subst e;exact hl2,q',q'.rd cb hbx,?_⟩;clear q' hs hf q;refine aJ0 (xs:=#[.tmp 22]) 19 (hO ⟨_,rfl,rfl,rfl,rfl⟩ s3 _ rfl) ci Tryz.func77 (fun _ V _ q=>(mV q.1.rd).mono ?_) (fun c h=>by simp [hp (t:=22) h ci rfl]);rintro e V3 ⟨x3,s4,v,rfl,⟨rfl,h3⟩,hs,d3,hf⟩;have q':=q.read hf hs;refine ⟨_,_,fun _=>DF gd g most P bad w s4,rfl,hf,fun k e=>by subst e;exact hl2,q',q'.rd cb hbx,?_⟩;clear q' hs hf q;refine aRq 20 (hO ⟨_,rfl,rfl,rfl,rfl⟩ s4 _ rfl) ?_ (v:=.agg #[↑x0,x1,↑x2,↑x3,qn,qn,qn,qn,qz,qz,qe,qn]) (hy:=fun c h W hW=>by simp [execOp,go_sem,h.get 8 (v:=↑x0) ci,h.get 13 (v:=x1) ci,h.get 18 (v:=↑x2) ci,h.get 23 (v:=↑x3) ci]);refine aWm (hO ⟨_,rfl,rfl,rfl,rfl⟩ s4 _ rfl) ci ?_;intro G c V hA e hB hG q;have eb:=hA.get 24 (v:=.agg #[↑x0,x1,↑x2,↑x3,qn,qn,qn,qn,qz,qz,qe,qn]) ci;refine dq 22 (w1:=V.setCells G 0 [.int .i64 x0,x1,.int .i64 x2,.int .i64 x3,qn,qn,qn,qn,qz,qz,qe,qn]) ?_ (hrun:=by simp [execOp,go_sem,hB.cell,hB.frozen, *];rfl);have hB2:=aG [.int .i64 x0,x1,.int .i64 x2,.int .i64 x3,qn,qn,qn,qn,qz,qz,qe,qn] (cs:=([↑qz,↑qe,↑qz,↑qz,↑qn,↑qn,↑qn,↑qn,↑qz,↑qz,↑qe,↑qn]:List Value)) 0 hB O;have hf2:Fr (fun k=>k=G) V (V.setCells G 0 [.int .i64 x0,x1,.int .i64 x2,.int .i64 x3,qn,qn,qn,qn,qz,qz,qe,qn]):=(au _ V).setCells _ 0 (.inl rfl);exact jN U (hQ c _ G x0 x1 x2 x3 s1 s2 s3 s4 ((by (repeat refine .put ?_ rfl);exact .rf:Ag [1,2] a _).trans (hA.mono rfl)) e hB2 hG (q.1.fr hf2 (fun e=>by omega) (fun e=>by omega) (fun k hk e=>by have:=hl3 k hk;omega)) (q.2.trans_new (hf2.mono fun k hk=>.inr I)) d0 d1 d2 d3 h0 h1 h2 h3)
