/- Contracts of functions, plain laws. Conditions: none. -/
import Derived.Test.YtkoeecdjijfjnaaGreatO1
import Derived.Test.YtkoeecdjijfjnaaGreatED
set_option maxRecDepth 100000
set_option maxHeartbeats 8000000
namespace Go.Proofs.YtkoeecdjijfjnaaGreat
open Go.RowKit
def mgS (s:List GE × List (List Int))(x:GE):List GE × List (List Int):=(dE s.1 x,if fG x.path s.1 then s.2 else s.2 ++ [x.path])
def mg (L M:List GE):List GE × List (List Int):=M.foldl mgS (L,[])
def aFb (L:List GE)(ps:List (List Int)):Nat:=(ps.filter fun p=>fG p L).length
def mgE (b:Int)(L M:List GE):List GE:=tO b (mg L M).1
def mgN (b:Int)(L M:List GE):Int:=(aFb (mgE b L M) (mg L M).2:Nat)
theorem sB {α:Type}{l:List α}{k:Nat}(d:α)(hk:k<l.length):l.take (k+1)=l.take k ++ [l.getD k d]:=by
 rw [List.take_add_one];simp [List.getD,hk]
section
variable {L M:List GE}{k:Nat}
theorem yD (hk:k<M.length):mg L (M.take (k+1))=mgS (mg L (M.take k)) (M.getD k default):=by
 unfold mg;rw [sB default hk,List.foldl_append]
 rfl
theorem vR:∀ k,k<=M.length->(mg L (M.take k)).1.length<=L.length+k∧(mg L (M.take k)).2.length<=k
 | 0,_=>by simp [mg]
 | k+1,h=>by
  have ih:=vR k D;rw [yD D];generalize mg L (M.take k)=s at *;have h1:(dE s.1 (M.getD k default)).length<=s.1.length+1:=by rw [nS];exact pB _ _
  unfold mgS;refine ⟨by simp only;omega,?_⟩;simp only
  split
  ·omega
  ·rw [List.length_append,List.length_singleton];omega
theorem aAn {ps:List (List Int)}(hk:k<ps.length):aFb L (ps.take (k+1))=aFb L (ps.take k)+if fG (ps.getD k []) L then 1 else 0:=by
 unfold aFb;rw [sB [] hk,List.filter_append,List.length_append]
 congr 1
 by_cases h:fG (ps.getD k []) L=true
 ·rw [if_pos h,List.filter_cons_of_pos et];rfl
 ·rw [if_neg h,List.filter_cons_of_neg et];rfl
theorem aLa (ps:List (List Int)):aFb L ps<=ps.length:=List.length_filter_le _ _
end
def RP (w:World)(P:Nat->Prop)(p:List Int)(cs:List Value):Prop:=∃ v,cs=[v]∧bM w P v p
theorem RP.len {w:World}{P:Nat->Prop}(p:List Int)(cs:List Value)(h:RP w P p cs):cs.length=1:=by obtain ⟨v,rfl,-⟩:=h;rfl
theorem RP.elem:aLr 1 RP:=⟨fun _ _ _ _ h=>by obtain ⟨v,rfl,_⟩:=h;rfl,fun _ _ _ _ _ _ h hk hPQ=>by obtain ⟨v,e,h⟩:=h;exact ⟨v,e,h.carry hk hPQ⟩⟩
def Pth (w:World)(B:Nat)(P:Nat->Prop)(v:Value)(ps:List (List Int)):Prop:=∃ xs,w.ownsRow B 22 1 v ps.length xs∧RL (RP w P) ps xs
section
variable {w w':World}{B:Nat}{P P':Nat->Prop}{v:Value}{ps:List (List Int)}
theorem Pth.get {A:Option Addr}{n c k:Nat}(h:Pth w B P (.slice A n c) ps)(hn:ps.length<=100000)(hk:k<ps.length):∃ b off A' d,A=some ⟨b,off,none⟩∧n=ps.length∧bM w P (.slice A' (ps.getD k []).length d) (ps.getD k [])∧w.cell? ⟨b,off+k,none⟩=some (.slice A' (ps.getD k []).length d):=by
 obtain ⟨xs,h1,h2⟩:=h;have h3:Lst w (fun _=>True) 1 (RP w P) (.slice A n c) ps:=Lst.of_own h1 h2 D (fun _ _=>trivial);obtain ⟨b,off,c',cs,e,-,-,-,⟨u,rfl,hu⟩,hc⟩:=Lst.at_ RP.len h3 [] hk;injection e with e1 e2 e3;obtain ⟨A',d,rfl,-,-⟩:=hu.form;exact ⟨b,off,A',d,e1,e2,hu,by have:=hc 0 _ rfl;simpa using this⟩
theorem Pth.form (h:Pth w B P v ps):∃ A c,v=.slice A ps.length c:=by
 obtain ⟨xs,h1,-⟩:=h;obtain ⟨A,c,e,-,-,-⟩:=Sl.of_own h1;exact ⟨A,c,e⟩
theorem Pth.lt (h:Pth w B P v ps):∀ k,v.ownBlock=some k->B<=k∧k<w.heap.size:=by
 obtain ⟨xs,h1,-⟩:=h;exact fun k hk=>⟨h1.block_ge hk,h1.block_lt hk⟩
theorem Pth.carry (h:Pth w B P v ps)(hk:aB (fun k=>P k∨some k=v.ownBlock) w w')(hPQ:∀ k,k<w.heap.size->P k->P' k):Pth w' B P' v ps:=by
 obtain ⟨xs,h1,h2⟩:=h;refine ⟨xs,⟨h1.1,?_⟩,h2.move RP.elem (fun k hl hp=>hk k hl (.inl hp)) hPQ⟩;rcases h1.2 with h3 | ⟨G,cap,cur,h4,h5,h6,h7⟩
 ·exact .inl h3
 ·exact .inr ⟨G,cap,cur,h4,h5,(hk G (Blk.lt (t:=22) h6) (.inr (by rw [h4];rfl))).trans h6,h7⟩
theorem Pth.nil (w:World)(B:Nat)(P:Nat->Prop):Pth w B P (.slice none 0 0) []:=⟨[],aT w B 22 1,rfl⟩
end
theorem Tryz.info22p:(Tryz.prog.info? 22).map (fun i=>(i.zero,i.size,i.bytes))=some (some (.slice none 0 0),1,24):=Y
noncomputable def aVz:=RG Tryz.f28 0
noncomputable def aOh:=RG Tryz.f28 1
noncomputable def aVy:=RG Tryz.f28 2
noncomputable def aRp:=RG Tryz.f28 3
noncomputable def aVx:=RG Tryz.f28 4
noncomputable def aVw:=RG Tryz.f28 5
noncomputable def aRo:=RG Tryz.f28 6
noncomputable def aRn:=RG Tryz.f28 7
noncomputable def aOg:=RG Tryz.f28 8
noncomputable def aOf:=RG Tryz.f28 9
noncomputable def aDp:=RG Tryz.f28 10
noncomputable def aDo:=RG Tryz.f28 11
noncomputable def aJx:=RG Tryz.f28 12
noncomputable def aRr:=RG Tryz.f28 13
noncomputable def aJw:=RG Tryz.f28 14
noncomputable def aJv:=RG Tryz.f28 15
noncomputable def aDn:=RG Tryz.f28 16
noncomputable def aDm:=RG Tryz.f28 17
noncomputable def aDl:=RG Tryz.f28 18
noncomputable def aDk:=RG Tryz.f28 19
noncomputable def aRq:=RG Tryz.f28 20
section
variable {Q:Exit->Act->World->Prop}{a:Act}{w:World}{gc go g n c d k m:Nat}{A:Option Addr}{b:Bool}{vn vo v:Value}{L M:List GE}{Z:Nat->Prop}
theorem aG5 (hsz:a.tmps.size=55)(e1:Ev a (.tmp 1)=.pointer none)(h:∀ a',Ag [] a a'->Ev a' (.tmp 13)=.bool true->Q .normal a' w):Code.wp Tryz.prog aOh Q a w:=by
 refine rW ?_
 iterate 2 refine lV ?_
 exact aJ (h _ I O)
theorem aC9 (hsz:a.tmps.size=55)(e1:Ev a (.tmp 1)=.pointer (some ⟨go,0,none⟩))(h:∀ a',Ag [0,1] a a'->Ev a' (.tmp 13)=.bool false->Q .normal a' w):Code.wp Tryz.prog aOh Q a w:=by
 refine rW ?_
 iterate 2 refine lV ?_
 exact aJ (h _ I O)
theorem aC8 (hsz:a.tmps.size=55)(e0:Ev a (.tmp 0)=.pointer (some ⟨gc,0,none⟩))(e1:Ev a (.tmp 1)=.pointer (some ⟨go,0,none⟩))(h0:∀ w',Ext w w'->w'.cell? ⟨gc,0,none⟩=some vn∧w'.cell? ⟨go,0,none⟩=some vo)(hc:∀ w',Ext w w'->Calls Tryz.prog 64 #[.agg #[vn],.agg #[vo]] w' fun e w2=>e=.returned (.bool b)∧Ext w w2)
  (h:∀ a' w',Ext w w'->Ag [0,1] a a'->Ev a' (.tmp 23)=.bool (!b)->Q .normal a' w'):Code.wp Tryz.prog aRp Q a w:=by
 conv=>arg 2;whnf
 refine cM (fun w'=>Ext w w') Y Y (Ext.refl w).drew' ?_
 iterate 8 refine q_v rfl rfl (fun w hw=>by simp [execOp,go_sem,h0 w hw, *];rfl) ?_
 refine q_c rfl rfl rfl Tryz.func64 ac ac hc O ?_
 iterate 1 refine q_v rfl rfl (fun w hw=>by simp [execOp,go_sem, *];rfl) ?_
 exact nD (fun w' hw=>h _ w' hw I O)
theorem aM7 (hsz:a.tmps.size=55)(e1:Ev a (.tmp 1)=.pointer (some ⟨go,0,none⟩))(hc:Calls Tryz.prog 54 #[.pointer (some ⟨go,0,none⟩)] w (rS M w))
  (h:∀ a' A d w',Ag [0,6] a a'->Ev a' (.tmp 25)=.slice A M.length d->Ev a' (.tmp 26)=.int .i64 (M.length:Int)->Ev a' (.tmp 27)=.int .i64 0->Ens w' (fun b=>w.heap.size<=b) (.slice A M.length d) M->Ext w w'->Q .normal a' w'):Code.wp Tryz.prog aRo Q a w:=by
 refine rW ?_
 iterate 1 refine lV ?_
 refine l_c rfl rfl rfl Tryz.func54 ac ac hc O ?_;rintro e w' ⟨A,d,rfl,h1,h2⟩;refine ⟨_,rfl,?_⟩
 iterate 2 refine l_v rfl rfl (by simp [execOp,go_sem,hsz];exact ⟨rfl,rfl⟩) ?_
 exact aJ (h _ A d _ I ah ah ah h1 h2)
theorem aM6 (hsz:a.tmps.size=55)(e26:Ev a (.tmp 26)=↑(n:Int))(e27:Ev a (.tmp 27)=↑(k:Int))(h:∀ a',Ag [0,6,25,26,27] a a'->Ev a' (.tmp 28)=.bool (decide (k<n))->Q .normal a' w):Code.wp Tryz.prog aRn Q a w:=by
 refine rW ?_
 iterate 1 refine lV ?_
 exact aJ (h _ I O)
theorem aM5 {bx ox:Nat}{x:GE}(hsz:a.tmps.size=55)(e25:Ev a (.tmp 25)=.slice (some ⟨bx,ox,none⟩) n d)(e27:Ev a (.tmp 27)=↑(k:Int))(hk:(k:Int)<(n:Int))(hx:∀ j u,(bG x A c)[j]?=some u->w.cell? ⟨bx,ox+k*6+j,none⟩=some u)
  (h:∀ a' W,Ag [0,6,25,26,27] a a'->Ev a' (.tmp 8)=.pointer (some ⟨w.heap.size,0,none⟩)->Blk W w.heap.size 102 (bG x A c).toArray->Ext w W->Q .normal a' W):Code.wp Tryz.prog aOg Q a w:=by
 have q0:=hx 0 _ rfl;have q1:=hx 1 _ rfl;have q2:=hx 2 _ rfl;have q3:=hx 3 _ rfl;have q4:=hx 4 _ rfl;have q5:=hx 5 _ rfl;rw [Nat.add_zero] at q0;clear hx;refine rW ?_
 iterate 3 refine lV ?_
 clear q0 q1 q2 q3 q4 q5;have hB:=Blk.new w 102 #[.slice none 0 0,.int .i64 0,.int .i64 0,.int .i64 0,.bool false,.int .i64 0];have hX:Ext w (w.alloc (.cells #[.slice none 0 0,.int .i64 0,.int .i64 0,.int .i64 0,.bool false,.int .i64 0] 102)):=(Ext.refl w).alloc' _;generalize w.alloc (.cells #[.slice none 0 0,.int .i64 0,.int .i64 0,.int .i64 0,.bool false,.int .i64 0] 102)=W at *;refine l_s rfl rfl (by simp [execOp,go_sem,hB.cell,hB.frozen,hsz];rfl) ?_;refine aJ (h _ _ I O (aO (bG x A c) (cs:=[.slice none 0 0,.int .i64 0,.int .i64 0,.int .i64 0,.bool false,.int .i64 0]) 0 hB ip) ?_);exact ((Fr.of_ext (M:=fun _=>False) hX).setCells (bG x A c) 0 (.inr (Nat.le_refl _))).ext
theorem aM4 {x:GE}{R:World->Prop}(hsz:a.tmps.size=55)(e0:Ev a (.tmp 0)=.pointer (some ⟨gc,0,none⟩))(e8:Ev a (.tmp 8)=.pointer (some ⟨g,0,none⟩))(hB:Blk w g 102 (bG x A c).toArray)(hc:Calls Tryz.prog 48 #[.pointer (some ⟨gc,0,none⟩),aB6 x A c] w fun e w'=>e=.returned (.bool b)∧R w')
  (h:∀ a' w',R w'->Ag [0,6,8,25,26,27] a a'->Ev a' (.tmp 33)=.bool b->Q .normal a' w'):Code.wp Tryz.prog aOf Q a w:=by
 have q0:=hB.cell' (u:=.slice A x.path.length c) 0 rfl;have q1:=hB.cell' (u:=↑x.kind) 1 rfl;have q2:=hB.cell' (u:=↑x.at_) 2 rfl;have q3:=hB.cell' (u:=↑x.code) 3 rfl;have q4:=hB.cell' (u:=.bool x.fresh) 4 rfl;have q5:=hB.cell' (u:=↑x.hits) 5 rfl;refine rW ?_
 iterate 2 refine lV ?_
 refine l_c rfl rfl rfl Tryz.func48 ac ac hc O ?_;rintro e w' ⟨rfl,hR⟩;exact ⟨_,rfl,aJ (h _ _ hR I ah)⟩
theorem aHc {B:Nat}{ps:List (List Int)}{p:List Int}(hsz:a.tmps.size=55)(e6:Ev a (.tmp 6)=v)(e8:Ev a (.tmp 8)=.pointer (some ⟨g,0,none⟩))(q0:w.cell? ⟨g,0,none⟩=some (.slice A p.length c))(hp:Pth w B Z v ps)(hn:ps.length<=100000)(hB:B<=w.heap.size)(hi:bM w Z (.slice A p.length c) p)(hZ:∀ k,Z k->some k ≠ v.ownBlock)
  (h:∀ a' v' w',Ag [0,25,26,27] a a'->Ev a' (.tmp 6)=v'->Pth w' B Z v' (ps ++ [p])->Fr (fun k=>some k=v.ownBlock) w w'->(v'.ownBlock=v.ownBlock∨∃ k,v'.ownBlock=some k∧w.heap.size<=k)->Q .normal a' w'):Code.wp Tryz.prog aDp Q a w:=by
 obtain ⟨xs,h1,h2⟩:=hp;refine rW ?_
 iterate 4 refine lV ?_
 refine l_a rfl rfl rfl Tryz.underlying114 Tryz.info22p rfl D (h1.alloc _) (Sl.new w [.slice A p.length c] 22 1 1 rfl) O ab af D D aa ?_;intro v' w' ho hf hb;have hF:Fr (fun k=>some k=v.ownBlock) w w':=(Fr.of_ext ((Ext.refl w).alloc' _)).trans hf;have hk:aB Z w w':=aB.of_fr hF hZ
 iterate 1 refine l_v rfl rfl (by simp [execOp,go_sem,hsz];exact ⟨rfl,rfl⟩) ?_
 refine aJ (h _ v' _ I ah ⟨_,ho.len_cast U rfl,(h2.move RP.elem hk (fun _ _ h=>h)).append (RL.one ⟨_,rfl,hi.carry hk (fun _ _ h=>h)⟩)⟩ hF ?_);rcases hb with hb | hb
 ·exact .inl hb
 ·exact .inr ⟨_,hb,U⟩
theorem zK (hsz:a.tmps.size=55)(e27:Ev a (.tmp 27)=↑(k:Int))(hw:IntKind.i64.wrap ((k:Int)+1)=(k:Int)+1)(h:∀ a',Ag [0,6,25,26] a a'->Ev a' (.tmp 27)=.int .i64 ((k+1:Nat):Int)->Q .normal a' w):Code.wp Tryz.prog aDo Q a w:=by
 refine rW ?_
 iterate 2 refine lV ?_
 exact aJ (h _ I O)
theorem aHb {R:World->Prop}(hsz:a.tmps.size=55)(e0:Ev a (.tmp 0)=.pointer (some ⟨gc,0,none⟩))(hc:Calls Tryz.prog 49 #[.pointer (some ⟨gc,0,none⟩)] w fun e w'=>e=.returned (.tuple #[])∧R w')
  (h:∀ a' w',R w'->Ag [0,6] a a'->Q .normal a' w'):Code.wp Tryz.prog aJx Q a w:=by
 refine rW ?_
 iterate 1 refine lV ?_
 refine l_c rfl rfl rfl Tryz.func49 ac ac hc O ?_;rintro e w' ⟨rfl,hR⟩;exact ⟨_,rfl,aJ (h _ _ hR I)⟩
theorem aHa (hsz:a.tmps.size=55)(e6:Ev a (.tmp 6)=.slice A n c)(h:∀ a',Ag [0,9] a a'->Ev a' (.tmp 42)=.slice A n c->Ev a' (.tmp 43)=↑(n:Int)->Ev a' (.tmp 44)=.int .i64 0->Q .normal a' w):Code.wp Tryz.prog aJw Q a w:=by
 refine rW ?_
 iterate 3 refine lV ?_
 exact aJ (h _ I O O O)
theorem aG9 (hsz:a.tmps.size=55)(e43:Ev a (.tmp 43)=↑(n:Int))(e44:Ev a (.tmp 44)=↑(k:Int))(h:∀ a',Ag [0,9,42,43,44] a a'->Ev a' (.tmp 45)=.bool (decide (k<n))->Q .normal a' w):Code.wp Tryz.prog aJv Q a w:=by
 refine rW ?_
 iterate 1 refine lV ?_
 exact aJ (h _ I O)
theorem aG8 {bx ox:Nat}(hsz:a.tmps.size=55)(e42:Ev a (.tmp 42)=.slice (some ⟨bx,ox,none⟩) n d)(e44:Ev a (.tmp 44)=↑(k:Int))(hk:(k:Int)<(n:Int))(hx:w.cell? ⟨bx,ox+k,none⟩=some (.slice A m c))(h:∀ a',Ag [0,9,42,43,44] a a'->Ev a' (.tmp 11)=.slice A m c->Q .normal a' w):Code.wp Tryz.prog aDn Q a w:=by
 refine rW ?_
 iterate 3 refine lV ?_
 exact aJ (h _ I O)
theorem aG7 (hsz:a.tmps.size=55)(e0:Ev a (.tmp 0)=.pointer (some ⟨gc,0,none⟩))(e11:Ev a (.tmp 11)=v)(hc:Calls Tryz.prog 19 #[.pointer (some ⟨gc,0,none⟩),v] w (cT (.bool b) w))
  (h:∀ a' w',Ext w w'->Ag [0,9,42,43,44] a a'->Ev a' (.tmp 50)=.bool b->Q .normal a' w'):Code.wp Tryz.prog aDm Q a w:=by
 refine rW ?_
 iterate 2 refine lV ?_
 refine l_c rfl rfl rfl Tryz.func19 ac ac hc O ?_;rintro e w' ⟨rfl,hR⟩;exact ⟨_,rfl,aJ (h _ _ hR I ah)⟩
theorem aG6 (hsz:a.tmps.size=55)(e9:Ev a (.tmp 9)=↑(m:Int))(hw:IntKind.i64.wrap ((m:Int)+1)=(m:Int)+1)(h:∀ a',Ag [0,42,43,44] a a'->Ev a' (.tmp 9)=.int .i64 ((m+1:Nat):Int)->Q .normal a' w):Code.wp Tryz.prog aDl Q a w:=by
 refine rW ?_
 iterate 3 refine lV ?_
 exact aJ (h _ I O)
theorem zJ (hsz:a.tmps.size=55)(e44:Ev a (.tmp 44)=↑(k:Int))(hw:IntKind.i64.wrap ((k:Int)+1)=(k:Int)+1)(h:∀ a',Ag [0,9,42,43] a a'->Ev a' (.tmp 44)=.int .i64 ((k+1:Nat):Int)->Q .normal a' w):Code.wp Tryz.prog aDk Q a w:=by
 refine rW ?_
 iterate 2 refine lV ?_
 exact aJ (h _ I O)
end
noncomputable abbrev aW5:Code:=.seq aRn (.seq (.cond (.tmp 28) .skip (.exit 0)) (.seq (.block 1 (.seq aOg (.seq aOf (.cond (.tmp 33) aDp .skip)))) aDo))
noncomputable abbrev aW4:Code:=.seq aJv (.seq (.cond (.tmp 45) .skip (.exit 2)) (.seq (.block 3 (.seq aDn (.seq aDm (.cond (.tmp 50) aDl .skip)))) aDk))
noncomputable abbrev aAm:Code:=.seq aVz (.seq (.seq aOh (.cond (.tmp 13) (.seq aVy .ret) .skip)) (.seq (.seq aRp (.cond (.tmp 23) (.seq aVx .ret) .skip)) (.seq aVw (.seq (.seq aRo (.block 0 (.loop aW5))) (.seq aJx (.seq aRr (.seq (.seq aJw (.block 2 (.loop aW4))) (.seq aRq .ret))))))))
theorem aFt:Tryz.f28.body=some aAm:=Y
def aGc (t:List GN)(vn:Value)(b:Int)(L':List GE)(g:CA)(P:Nat->Prop)(v:Value)(w w':World):Prop :=
 ∃ P' v',nZ t vn b L' g P' v' 0 w'∧Fr (g.M v) w w'∧(∀ k,P' k->P k∨w.heap.size<=k)∧∀ k,g.M v' k->g.M v k∨w.heap.size<=k
section
variable {t t':List GN}{vn vo:Value}{b b':Int}{L M L1 L2:List GE}{g g':CA}{P P':Nat->Prop}{v v':Value}{w w':World}{a:Act}{R:Exit->Act->World->Prop}{d:Nat}{A:Option Addr}
def I28 (t:List GN)(vn:Value)(b:Int)(L M:List GE)(g:CA)(P:Nat->Prop)(v:Value)(w:World)(Z:Nat->Prop)(B:Nat)(A:Option Addr)(d k:Nat)(a0 a:Act)(wr:World):Prop :=
 ∃ P1 v1 vr,a.tmps.size=a0.tmps.size∧a.defers=a0.defers∧k<=M.length∧Ev a (.tmp 0)=.pointer (some ⟨g.c,0,none⟩)∧Ev a (.tmp 6)=vr∧Ev a (.tmp 25)=.slice A M.length d∧Ev a (.tmp 26)=.int .i64 (M.length:Int)∧Ev a (.tmp 27)=↑(k:Int) ∧
  nZ t vn b (mg L (M.take k)).1 g P1 v1 0 wr∧Fr (g.M v) w wr∧(∀ q,P1 q->P q∨w.heap.size<=q)∧(∀ q,g.M v1 q->g.M v q∨w.heap.size<=q)∧Ens wr Z (.slice A M.length d) M∧Pth wr B Z vr (mg L (M.take k)).2 ∧
  (∀ q,Z q∨vr.ownBlock=some q->¬ g.M v1 q)∧(∀ q,vr.ownBlock=some q->¬ P1 q)∧B<=wr.heap.size
theorem yF {Z:Nat->Prop}{B k:Nat}{a0:Act}(hI:I28 t vn b L M g P v w Z B A d k a0 a w')(hsz:a0.tmps.size=55)(hk:k<M.length)(hfew:L.length+M.length<=100000)(hpl:∀ x ∈ M,x.path.length<=1000)(hZB:∀ q,Z q->q<B)(hBw:w.heap.size<=B)
  (hR:∀ a' W,I28 t vn b L M g P v w Z B A d (k+1) a0 a' W->R .normal a' W):Code.wp Tryz.prog (.seq (.block 1 (.seq aOg (.seq aOf (.cond (.tmp 33) aDp .skip)))) aDo) R a w':=by
 obtain ⟨P1,v1,vr,hs0,hdf,-,e0,e6,e25,e26,e27,hC,hF,hP,hM,hE,hPt,s1,s2,hBw'⟩:=hI;have z0:a.tmps.size=55:=by rw [hs0];exact hsz
 have hlen:=vR (L:=L) (M:=M) k D;have hsn:=yD (L:=L) hk;have hxm:(M.getD k default) ∈ M:=aD hk;have hxl:=hpl _ hxm;obtain ⟨bx,ox,A1,d1,rfl,hZb,hx,hcell⟩:=hE.get hk;generalize M.getD k default=x at *;generalize mg L (M.take k)=s at *;refine wp_seq (wp_block (wp_seq (aM5 z0 e25 e27 D hcell ?_)));intro a1 W1 g1 e8 hB1 hX1;have z1:a1.tmps.size=55:=by rw [g1.sz];exact z0
 have hs1:=hX1.size;have hC1:=hC.ext hX1;have hlo:=hC.lo;refine wp_seq (aM4 (x:=x) z1 (g1.get 0 e0) e8 hB1 (R:=hH t vn b (dE s.1 x) g P1 v1 W1) (zY t vn b s.1 g P1 Z v1 x A1 d1 W1 hC1.cor (hx.ext hX1) D hxl) ?_);intro a2 W2 hA g2 e33;have z2:a2.tmps.size=55:=by rw [g2.sz];exact z1
 obtain ⟨P2,v2,hC2,-,hF2,hP2,hM2⟩:=hC1.after hA;have hs2:=hF2.size;have f0:=g2.get 0 (g1.get 0 e0);have f6:=g2.get 6 (g1.get 6 e6);have f8:=g2.get 8 e8;have f25:=g2.get 25 (g1.get 25 e25);have f26:=g2.get 26 (g1.get 26 e26);have f27:=g2.get 27 (g1.get 27 e27);have d2:a2.defers=a0.defers:=(g2.df.trans g1.df).trans hdf;have hvr:=hPt.lt;have hF02:Fr (g.M v) w W2:=(hF.trans (Fr.of_ext hX1)).trans_new (hF2.mono hM)
 have hP02:∀ q,P2 q->P q∨w.heap.size<=q:=fun q hq=>by
  have:=hF.size;rcases hP2 q hq with h | h
  ·exact hP q h
  ·exact .inr D
 have hM02:∀ q,g.M v2 q->g.M v q∨w.heap.size<=q:=fun q hq=>by
  have:=hF.size;rcases hM2 q hq with h | h
  ·exact hM q h
  ·exact .inr D
 have hkZ:aB (fun q=>Z q∨some q=vr.ownBlock) W1 W2:=aB.of_fr hF2 (fun q hq hm=>s1 q (hq.imp id Eq.symm) hm);have hE2:Ens W2 Z (.slice (some ⟨bx,ox,none⟩) M.length d) M:=(hE.ext hX1).carry (fun q h1 h2=>hkZ q h1 (.inl h2)) (fun _ _ h=>h);have hPt2:Pth W2 B Z vr s.2:=(hPt.carry (aB.of_ext hX1) (fun _ _ h=>h)).carry hkZ (fun _ _ h=>h);have hx2:EAt W2 Z x A1 d1:=(hx.ext hX1).carry (fun q h1 h2=>hkZ q h1 (.inl h2)) (fun _ _ h=>h)
 have s1':∀ q,Z q∨vr.ownBlock=some q->¬ g.M v2 q:=fun q hq hm=>by
  rcases hM2 q hm with h | h
  ·exact s1 q hq h
  ·rcases hq with hq | hq
   ·have:=hZB q hq;omega
   ·have:=(hvr q hq).2;omega
 have s2':∀ q,vr.ownBlock=some q->¬ P2 q:=fun q hq hm=>by
  rcases hP2 q hm with h | h
  ·exact s2 q hq h
  ·have:=(hvr q hq).2;omega
 by_cases hh:fG x.path s.1=true
 ·refine wp_cond_false (e33.trans (by rw [hh];rfl)) (wp_skip ?_)
  refine zK (k:=k) z2 f27 (IntWalk.i64_in _ D) ?_;intro a3 g3 e27';refine hR _ _ ⟨P2,v2,vr,by rw [g3.sz,z2,hsz],g3.df.trans d2,hk,g3.get 0 f0,g3.get 6 f6,g3.get 25 f25,g3.get 26 f26,e27',?_,hF02,hP02,hM02,hE2,?_,s1',s2',D⟩
  ·rw [hsn];exact hC2
  ·rw [hsn];unfold mgS;simp only;rw [if_pos hh];exact hPt2
 ·refine wp_cond_true (e33.trans (by simp [hh])) ?_
  have hq0:W2.cell? ⟨w'.heap.size,0,none⟩=some (.slice A1 x.path.length d1):=by
   have h8:Blk W2 w'.heap.size 102 (bG x A1 d1).toArray:=(hF2.block _ hB1.lt (fun hm=>by have:=(hlo _ (.inr hm)).2;omega)).trans hB1;exact h8.cell' 0 rfl
  refine aHc (p:=x.path) z2 f6 f8 hq0 hPt2 D D hx2.path (fun q hz he=>by have:=(hvr q he.symm).1;have:=hZB q hz;omega) ?_;intro a3 v3 W3 g3 e6' hPt3 hF3 hb3;have z3:a3.tmps.size=55:=by rw [g3.sz];exact z2
  have hs3:=hF3.size
  have hk3:aB (fun q=>Z q∨P2 q∨g.M v2 q) W2 W3:=aB.of_fr hF3 (fun q hq he=>by
   rcases hq with hq | hq | hq
   ·have:=(hvr q he.symm).1;have:=hZB q hq;omega
   ·exact s2' q he.symm hq
   ·exact s1' q (.inr he.symm) hq)
  have hge:∀ q,v3.ownBlock=some q->vr.ownBlock=some q∨W2.heap.size<=q:=fun q hq=>by
   rcases hb3 with h | ⟨k',h,h2⟩
   ·exact .inl (by rw [<- h];exact hq)
   ·rw [h] at hq;injection hq with hq;subst hq;exact .inr h2
  refine zK (k:=k) z3 (g3.get 27 f27) (IntWalk.i64_in _ D) ?_;intro a4 g4 e27';refine hR _ _ ⟨P2,v2,v3,ie,(g4.df.trans g3.df).trans d2,hk,g4.get 0 (g3.get 0 f0),g4.get 6 e6',g4.get 25 (g3.get 25 f25),g4.get 26 (g3.get 26 f26),e27',?_,?_,hP02,hM02,hE2.carry (fun q h1 h2=>hk3 q h1 (.inl h2)) (fun _ _ h=>h),?_,?_,?_,D⟩
  ·rw [hsn]
   exact ⟨hC2.cor.carry (fun q h1 h2=>hk3 q h1 (.inr h2)) (fun _ _ h=>h) hC2.cor.excl,fun q hq=>⟨Nat.zero_le _,Nat.lt_of_lt_of_le (hC2.lo q hq).2 hs3⟩⟩
  ·exact hF02.trans_new (hF3.mono (fun q hq=>.inr (by have:=(hvr q hq.symm).1;omega)))
  ·rw [hsn];unfold mgS;simp only;rw [if_neg hh];exact hPt3
  ·intro q hq hm
   rcases hq with hq | hq
   ·exact s1' q (.inl hq) hm
   ·rcases hge q hq with h | h
    ·exact s1' q (.inr h) hm
    ·have:=(hC2.lo q (.inr hm)).2;omega
  ·intro q hq hm
   rcases hge q hq with h | h
   ·exact s2' q h hm
   ·have:=(hC2.lo q (.inl hm)).2;omega
def aXn (L':List GE)(ps:List (List Int))(A:Option Addr)(d:Nat)(gc:Nat)(k:Nat)(a0 a:Act)(ws w:World):Prop :=
 a.tmps.size=a0.tmps.size∧a.defers=a0.defers∧k<=ps.length∧Ev a (.tmp 0)=.pointer (some ⟨gc,0,none⟩)∧Ev a (.tmp 9)=.int .i64 ((aFb L' (ps.take k):Nat):Int)∧Ev a (.tmp 42)=.slice A ps.length d∧Ev a (.tmp 43)=.int .i64 (ps.length:Int)∧Ev a (.tmp 44)=↑(k:Int)∧Ext ws w
theorem yG {k B:Nat}{Z:Nat->Prop}{ps:List (List Int)}{a0:Act}{w1:World}(hI:aXn L ps A d g.c k a0 a w w1)(hsz:a0.tmps.size=55)(hk:k<ps.length)(hn:ps.length<=100000)(hC:cI t vn b L g P v w)(hP:Pth w B Z (.slice A ps.length d) ps)
  (hR:∀ a' W,aXn L ps A d g.c (k+1) a0 a' w W->R .normal a' W):Code.wp Tryz.prog (.seq (.block 3 (.seq aDn (.seq aDm (.cond (.tmp 50) aDl .skip)))) aDk) R a w1:=by
 obtain ⟨hs0,hdf,-,e0,e9,e42,e43,e44,hX⟩:=hI;have z0:a.tmps.size=55:=by rw [hs0];exact hsz
 obtain ⟨bx,ox,A1,d1,rfl,-,hi,hcell⟩:=hP.get hn hk;have hcn:=aAn (L:=L) hk;have hcl:=aLa (L:=L) (ps.take k);have htl:(ps.take k).length<=k:=by rw [List.length_take];omega
 generalize ps.getD k []=p at *;generalize aFb L (ps.take k)=m at *;refine wp_seq (wp_block (wp_seq (aG8 z0 e42 e44 D (aA hX hcell) ?_)));intro a1 g1 e11;have z1:a1.tmps.size=55:=by rw [g1.sz];exact z0
 refine wp_seq (aG7 z1 (g1.get 0 e0) e11 (yP t vn b L g P Z v _ p w1 (hC.ext hX) (hi.ext hX)) ?_);intro a2 w2 hx2 g2 e50;have G2:=g1.trans g2;have z2:a2.tmps.size=55:=by rw [g2.sz];exact z1
 by_cases hh:fG p L=true
 ·refine wp_cond_true (e50.trans (by rw [hh])) ?_
  refine aG6 (m:=m) z2 (G2.get 9 e9) (IntWalk.i64_in _ D) ?_;intro a3 g3 e9';have z3:a3.tmps.size=55:=by rw [g3.sz];exact z2
  have G3:=(G2.mono (l':=[0,42,43,44]) rfl).trans g3;refine zJ (k:=k) z3 (G3.get 44 e44) (IntWalk.i64_in _ D) ?_;intro a4 g4 e44';refine hR _ _ ⟨ie,(g4.df.trans G3.df).trans hdf,hk,g4.get 0 (G3.get 0 e0),?_,g4.get 42 (G3.get 42 e42),g4.get 43 (G3.get 43 e43),e44',hX.trans' hx2⟩;rw [hcn,if_pos hh];exact g4.get 9 e9'
 ·refine wp_cond_false (e50.trans (by simp [hh])) (wp_skip ?_)
  refine zJ (k:=k) z2 (G2.get 44 e44) (IntWalk.i64_in _ D) ?_;intro a4 g4 e44';refine hR _ _ ⟨by rw [g4.sz,z2,hsz],(g4.df.trans G2.df).trans hdf,hk,g4.get 0 (G2.get 0 e0),?_,g4.get 42 (G2.get 42 e42),g4.get 43 (G2.get 43 e43),e44',hX.trans' hx2⟩;rw [hcn,if_neg hh];exact g4.get 9 (G2.get 9 e9)
theorem aIc (hC:cI t vn b L g P v w)(hlt:∀ q,P q->q<w.heap.size)(hO:cI t' vo b' M g' P' v' w)(heq:eqT t t'=true)(hfew:L.length+M.length<=100000)(hsz:a.tmps.size=55)(e0:Ev a (.tmp 0)=.pointer (some ⟨g.c,0,none⟩))(e1:Ev a (.tmp 1)=.pointer (some ⟨g'.c,0,none⟩))
  (hR:∀ a' w',a'.defers=a.defers->Ev a' (.tmp 4)=.int .i64 (mgN b L M)->Ev a' (.tmp 5)=.int .i64 0->aGc t vn b (mgE b L M) g P v w w'->R .ret a' w'):Code.wp Tryz.prog aAm R a w:=by
 refine wp_seq ?_;refine rW ?_
 iterate 2 refine lV ?_
 refine aJ (wp_seq (wp_seq (aC9 O ab ?_)));intro a1 g1 e13;have z1:a1.tmps.size=55:=by rw [g1.sz];simp [*]
 have d1:a1.defers=a.defers:=g1.df;have f0:=g1.get 0 (v:=.pointer (some ⟨g.c,0,none⟩)) O;have f1:=g1.get 1 (v:=.pointer (some ⟨g'.c,0,none⟩)) O;refine wp_cond_false e13 (wp_skip ?_);clear g1 e13;refine wp_seq (wp_seq (aC8 z1 f0 f1 (b:=true) (vn:=vn) (vo:=vo) (fun w' h=>⟨aA h (hC.box.cell' 0 rfl),aA h (hO.box.cell' 0 rfl)⟩) (fun w' h=>?_) ?_))
 ·have:=wN t t' P P' vn vo w' (hC.ext h).walk.nodes (hO.ext h).walk.nodes
  rw [heq] at this;exact dR h this
 intro a2 w2 hx2 g2 e23;have z2:a2.tmps.size=55:=by rw [g2.sz];exact z1
 refine wp_cond_false e23 (wp_skip (wp_seq ?_));refine rW ?_
 iterate 1 refine l_v rfl rfl (by simp [execOp,go_sem,z2];exact ⟨rfl,rfl⟩) ?_
 refine aJ ?_;have hC2:=hC.ext hx2;have hO2:=hO.ext hx2;refine wp_seq (wp_seq (aM7 gv (by simp [g2.get 1 f1]) (iR t' vo b' M g' P' v' w2 hO2) ?_));intro a3 A d w3 g3 e25 e26 e27 hE hx3;have z3:a3.tmps.size=55:=by rw [g3.sz];simp [z2]
 have h30:=g3.get 0 (v:=.pointer (some ⟨g.c,0,none⟩)) (by simp [g2.get 0 f0]);have h36:=g3.get 6 (v:=.slice none 0 0) gv;have d3:a3.defers=a.defers:=g3.df.trans (g2.df.trans d1);have hs3:=hx3.size;have hs2:=hx2.size;have hC3:=hC2.ext hx3;have hloM:∀ q,g.M v q->q<w.heap.size:=fun q hq=>hC.mlt hq
 have hpl:=hO.short
 refine wp_block (wp_loop (fun a' w'=>∃ k,I28 t vn b L M g P v w (fun q=>w2.heap.size<=q∧q<w3.heap.size) w3.heap.size A d k a3 a' w') (fun a' _=>M.length - (intOf (Ev a' (.tmp 27))).toNat)
  ⟨0,P,v,.slice none 0 0,rfl,rfl,Nat.zero_le _,h30,h36,e25,e26,e27,⟨hC3,fun q hq=>⟨Nat.zero_le _,?_⟩⟩,Fr.of_ext (hx2.trans' hx3),fun q hq=>.inl hq,fun q hq=>.inl hq,hE.carry (fun _ _ _=>rfl) (fun q h1 h2=>⟨h2,h1⟩),Pth.nil _ _ _,?_,fun q hq=>by simp [Value.ownBlock] at hq,Nat.le_refl _⟩ ?_)
 ·rcases hq with hq | hq
  ·have:=hlt q hq;omega
  ·have:=hloM q hq;omega
 ·intro q hq hm
  have:=hloM q hm;rcases hq with hq | hq
  ·omega
  ·simp [Value.ownBlock] at hq
 rintro a4 w4 ⟨k,hI⟩;have hk:k<=M.length:=hI.choose_spec.choose_spec.choose_spec.2.2.1;obtain ⟨P1,v1,vr,hs0,hdf,-,e0,e6,e25',e26',e27',hC4,hF,hP,hM,hE4,hPt,s1,s2,hBw⟩:=id hI;have z4:a4.tmps.size=55:=by rw [hs0];exact z3
 refine wp_seq (aM6 z4 e26' e27' ?_);intro a5 g5 e28;have z5:a5.tmps.size=55:=by rw [g5.sz];exact z4
 have hI5:I28 t vn b L M g P v w (fun q=>w2.heap.size<=q∧q<w3.heap.size) w3.heap.size A d k a3 a5 w4 :=
  ⟨P1,v1,vr,by rw [z5,z3],g5.df.trans hdf,hk,g5.get 0 e0,g5.get 6 e6,g5.get 25 e25',g5.get 26 e26',g5.get 27 e27',hC4,hF,hP,hM,hE4,hPt,s1,s2,hBw⟩
 by_cases hltk:k<M.length
 ·refine wp_seq (wp_cond_true (e28.trans (by simp [hltk])) (wp_skip ?_))
  refine yF hI5 z3 hltk hfew hpl (fun q hq=>hq.2) D ?_;intro a' W h;refine ⟨⟨k+1,h⟩,?_⟩;obtain ⟨_,_,_,-,-,-,-,-,-,-,h27,-⟩:=h;rw [h27,e27'];simp [intOf];omega
 ·refine wp_seq (wp_cond_false (e28.trans (by simp [hltk])) (wp_exit ?_))
  obtain rfl:k=M.length:=D
  rw [List.take_length] at hC4 hPt;have hml:=vR (L:=L) M.length (Nat.le_refl _);rw [List.take_length] at hml;clear hI hI5 hE4 e25' e26' e27' e28;refine wp_seq (aHb z5 (g5.get 0 e0) (aE7 t vn b _ g P1 v1 w4 hC4.cor) ?_);rintro a6 w6 ⟨v2,hC6,hv2,hF6⟩ g6;have z6:a6.tmps.size=55:=by rw [g6.sz];exact z5
  have hg2:∀ q,g.M v2 q->g.M v1 q:=fun q hq=>by
   rcases hq with hq | hq
   ·exact .inl hq
   ·exact .inr (by rw [<- hv2];exact hq)
  have hs6:=hF6.size
  have hAW:∀ w7,Ext w6 w7->aGc t vn b (mgE b L M) g P v w w7:=fun w7 hx7=>by
   have:=hx7.size
   exact ⟨P1,v2,⟨hC6.ext hx7,fun q hq=>⟨Nat.zero_le _,by
    have:q<w4.heap.size:=(hC4.lo q (hq.imp id (hg2 q))).2;omega⟩⟩,(hF.trans_new (hF6.mono hM)).trans (Fr.of_ext hx7),hP,fun q hq=>hM q (hg2 q hq)⟩
  have hPt6:Pth w6 w3.heap.size (fun q=>w2.heap.size<=q∧q<w3.heap.size) vr (mg L M).2:=hPt.carry (aB.of_fr hF6 (fun q hq hm=>s1 q (hq.imp id Eq.symm) hm)) (fun _ _ h=>h);have h66:=g6.get 6 (g5.get 6 e6);have h60:=g6.get 0 (g5.get 0 e0);have d6:a6.defers=a.defers:=(g6.df.trans (g5.df.trans hdf)).trans d3;obtain ⟨A6,c6,rfl⟩:=hPt6.form;have hN:mgN b L M=(aFb (mgE b L M) (mg L M).2:Nat):=rfl;have hC7:cI t vn b (mgE b L M) g P1 v2 w6:=hC6;generalize (mg L M).2=ps at *;generalize mgE b L M=L' at *;clear hC4 hF hP hM hPt s1 s2 hF6 hg2 hC6;refine wp_seq ?_;refine rW ?_
  iterate 1 refine l_v rfl rfl (by simp [execOp,go_sem,z6];exact ⟨rfl,rfl⟩) ?_
  refine aJ (wp_seq (wp_seq (aHa (A:=A6) (n:=ps.length) (c:=c6) (by simp [z6]) (by simp [h66]) ?_)));intro a7 g7 e42 e43 e44;have z7:a7.tmps.size=55:=by rw [g7.sz];simp [z6]
  have h70:=g7.get 0 (v:=.pointer (some ⟨g.c,0,none⟩)) (by simp [h60]);have h79:=g7.get 9 (v:=.int .i64 0) (by simp [z6]);have d7:a7.defers=a.defers:=g7.df.trans d6;refine wp_block (wp_loop (fun a' w'=>∃ k,aXn L' ps A6 c6 g.c k a7 a' w6 w') (fun a' _=>ps.length - (intOf (Ev a' (.tmp 44))).toNat) ⟨0,rfl,rfl,Nat.zero_le _,h70,h79,e42,e43,e44,Ext.refl _⟩ ?_);rintro a8 w8 ⟨k,hI⟩;obtain ⟨hs8,hd8,hk8,q0,q9,q42,q43,q44,hX8⟩:=id hI;have z8:a8.tmps.size=55:=by rw [hs8];exact z7
  refine wp_seq (aG9 z8 q43 q44 ?_);intro a9 g9 e45;have z9:a9.tmps.size=55:=by rw [g9.sz];exact z8
  by_cases hl:k<ps.length
  ·refine wp_seq (wp_cond_true (e45.trans fp) (wp_skip ?_))
   refine yG (a0:=a7) ⟨by rw [z9,z7],g9.df.trans hd8,hk8,g9.get 0 q0,g9.get 9 q9,g9.get 42 q42,g9.get 43 q43,g9.get 44 q44,hX8⟩ z7 hl D hC7 hPt6 ?_;intro a' W h;refine ⟨⟨k+1,h⟩,?_⟩;rw [h.2.2.2.2.2.2.2.1,q44];simp [intOf];omega
  ·refine wp_seq (wp_cond_false (e45.trans fp) (wp_exit ?_))
   obtain rfl:k=ps.length:=D
   rw [List.take_length] at q9;have q9':=g9.get 9 q9;refine wp_seq ?_;refine rW ?_
   iterate 3 refine l_v rfl rfl (by simp [execOp,go_sem,z9,q9'];exact ⟨rfl,rfl⟩) ?_
   exact aJ (wp_ret (hR _ _ ((g9.df.trans hd8).trans d7) (by simp [z9,hN]) (by simp [z9]) (hAW _ hX8)))
theorem aEe (hC:cI t vn b L g P v w)(hlt:∀ q,P q->q<w.heap.size)(hO:cI t' vo b' M g' P' v' w)(heq:eqT t t'=true)(hfew:L.length+M.length<=100000) :
  Calls Tryz.prog 28 #[.pointer (some ⟨g.c,0,none⟩),.pointer (some ⟨g'.c,0,none⟩)] w fun e w'=>e=.returned (.tuple #[.int .i64 (mgN b L M),.int .i64 0])∧aGc t vn b (mgE b L M) g P v w w':=by
 refine calls_of_wp Tryz.func28 aFt (aIc hC hlt hO heq hfew (by simp [Tryz.ntmps28]) ai ai ?_);intro a' w' h1 h2 h3 h4;refine bodyPost_ret (v:=.tuple #[.int .i64 (mgN b L M),.int .i64 0]) ?_ h1 ⟨rfl,h4⟩;have h5:a'.tmps[4]?.getD undef=.int .i64 (mgN b L M):=by rw [<- h2];simp [Ev,Act.eval]
 have h6:a'.tmps[5]?.getD undef=.int .i64 0:=ey
 simp [results,Tryz.results28,go_sem,h5,h6]
theorem aD9 (hC:cI t vn b L g P v w)(hO:cI t' vo b' M g' P' v' w)(heq:eqT t t'=false)(hsz:a.tmps.size=55)(e0:Ev a (.tmp 0)=.pointer (some ⟨g.c,0,none⟩))(e1:Ev a (.tmp 1)=.pointer (some ⟨g'.c,0,none⟩))
  (hR:∀ a' w',a'.defers=a.defers->Ev a' (.tmp 4)=.int .i64 0->Ev a' (.tmp 5)=.int .i64 22->Ext w w'->R .ret a' w'):Code.wp Tryz.prog aAm R a w:=by
 refine wp_seq ?_;refine rW ?_
 iterate 2 refine lV ?_
 refine aJ (wp_seq (wp_seq (aC9 O ab ?_)));intro a1 g1 e13;have z1:a1.tmps.size=55:=by rw [g1.sz];simp [*]
 have d1:a1.defers=a.defers:=g1.df;have f0:=g1.get 0 (v:=.pointer (some ⟨g.c,0,none⟩)) O;have f1:=g1.get 1 (v:=.pointer (some ⟨g'.c,0,none⟩)) O;refine wp_cond_false e13 (wp_skip ?_);clear g1 e13;refine wp_seq (wp_seq (aC8 z1 f0 f1 (b:=false) (vn:=vn) (vo:=vo) (fun w' h=>⟨aA h (hC.box.cell' 0 rfl),aA h (hO.box.cell' 0 rfl)⟩) (fun w' h=>?_) ?_))
 ·have:=wN t t' P P' vn vo w' (hC.ext h).walk.nodes (hO.ext h).walk.nodes
  rw [heq] at this;exact dR h this
 intro a2 w2 hx2 g2 e23;have z2:a2.tmps.size=55:=by rw [g2.sz];exact z1
 refine wp_cond_true e23 (wp_seq ?_);refine rW ?_
 iterate 2 refine l_v rfl rfl (by simp [execOp,go_sem,z2];exact ⟨rfl,rfl⟩) ?_
 exact aJ (wp_ret (hR _ _ (g2.df.trans d1) gv gv hx2))
theorem aOw (hsz:a.tmps.size=55)(e1:Ev a (.tmp 1)=.pointer none)
  (hR:∀ a',a'.defers=a.defers->Ev a' (.tmp 4)=.int .i64 0->Ev a' (.tmp 5)=.int .i64 1->R .ret a' w):Code.wp Tryz.prog aAm R a w:=by
 refine wp_seq ?_;refine rW ?_
 iterate 2 refine lV ?_
 refine aJ (wp_seq (wp_seq (aG5 O O ?_)));intro a1 g1 e13;have z1:a1.tmps.size=55:=by rw [g1.sz];simp [*]
 refine wp_cond_true e13 (wp_seq ?_);refine rW ?_
 iterate 2 refine l_v rfl rfl (by simp [execOp,go_sem,z1];exact ⟨rfl,rfl⟩) ?_
 exact aJ (wp_ret (hR _ g1.df gh gh))
theorem yE (hC:cI t vn b L g P v w)(hO:cI t' vo b' M g' P' v' w)(heq:eqT t t'=false) :
  Calls Tryz.prog 28 #[.pointer (some ⟨g.c,0,none⟩),.pointer (some ⟨g'.c,0,none⟩)] w (cT (.tuple #[.int .i64 0,.int .i64 22]) w):=by
 refine calls_of_wp Tryz.func28 aFt (aD9 hC hO heq (by simp [Tryz.ntmps28]) ai ai ?_);intro a' w' h1 h2 h3 h4;refine bodyPost_ret (v:=.tuple #[.int .i64 0,.int .i64 22]) ?_ h1 ⟨rfl,h4⟩;have h5:a'.tmps[4]?.getD undef=.int .i64 0:=by rw [<- h2];simp [Ev,Act.eval]
 have h6:a'.tmps[5]?.getD undef=.int .i64 22:=ey
 simp [results,Tryz.results28,go_sem,h5,h6]
theorem aEd (u:Value):Calls Tryz.prog 28 #[u,.pointer none] w fun e w'=>e=.returned (.tuple #[.int .i64 0,.int .i64 1])∧w'=w:=by
 refine calls_of_wp Tryz.func28 aFt (aOw (by simp [Tryz.ntmps28]) ai ?_);intro a' h1 h2 h3;refine bodyPost_ret (v:=.tuple #[.int .i64 0,.int .i64 1]) ?_ h1 ⟨rfl,rfl⟩;have h5:a'.tmps[4]?.getD undef=.int .i64 0:=by rw [<- h2];simp [Ev,Act.eval]
 have h6:a'.tmps[5]?.getD undef=.int .i64 1:=ey
 simp [results,Tryz.results28,go_sem,h5,h6]
end
end Go.Proofs.YtkoeecdjijfjnaaGreat
