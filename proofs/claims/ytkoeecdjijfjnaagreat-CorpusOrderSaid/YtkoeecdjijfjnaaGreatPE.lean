/- CorpusOrder: for every input the law returns true, and each argument reads behind the call as it read before. Conditions: none besides the statement's own. Before it: The contract of the law's lives. Conditions: none. The contract of CorpusOrder. Conditions: none. (printed by gen/ld.py) -/
import Derived.Test.YtkoeecdjijfjnaaGreatRows
import Derived.WalkKit
import Derived.ProofKit
import Derived.OpenShut
import Derived.SizedLaws
import Derived.Test.YtkoeecdjijfjnaaGreatPC
import Derived.Test.YtkoeecdjijfjnaaGreatPA
namespace Go.Proofs.YtkoeecdjijfjnaaGreat
open Go.RowKit
def liveT:List GN:=[⟨1,⟨#[]⟩,0,9,[],[],[],[],.mk 0 0 ⟨#[]⟩ []⟩]
theorem live_w5:wholeB liveT [5]=true:=by kernel_rfl
theorem live_w3:wholeB liveT [3]=true:=by kernel_rfl
theorem live_w8:wholeB liveT [8]=true:=by kernel_rfl
theorem live_valid:validT liveT=0:=by kernel_rfl
theorem live_small:∀ x ∈ liveT,SmallN x:=by
 intro x hx
 simp only [liveT,List.mem_singleton] at hx
 subst hx
 refine ⟨by simp,by simp,by simp,by simp,by simp [gsz,gszs],by simp⟩
def ent (z:Int)(f:Bool):GE:=mkE [z] 0 0 0 f
def lc1:List GE:=addE (wholeB liveT) 7 [] (ent 5 false)
def lc2:List GE:=addE (wholeB liveT) 7 lc1 (ent 3 false)
def lc3:List GE:=addE (wholeB liveT) 7 lc2 (ent 8 false)
def ld3:List GE:=addE (wholeB liveT) 7 lc2 (ent 8 true)
def ld4:List GE:=addE (wholeB liveT) 7 ld3 (ent 3 false)
theorem lc1_eq:lc1=[ent 5 false]:=by kernel_rfl
theorem lc2_eq:lc2=[ent 3 false,ent 5 false]:=by kernel_rfl
theorem lc3_eq:lc3=[ent 3 false,ent 5 false]:=by kernel_rfl
theorem ld3_eq:ld3=[ent 3 false,ent 8 true]:=by kernel_rfl
theorem ld4_eq:ld4=[{ ent 3 false with hits:=2 },ent 8 true]:=by kernel_rfl
theorem ll1:lc1.length≤10:=by rw [lc1_eq];decide
theorem ll2:lc2.length≤10:=by rw [lc2_eq];decide
theorem ll3:lc3.length=2:=by rw [lc3_eq];rfl
theorem lld3:ld3.length≤10:=by rw [ld3_eq];decide
theorem lld4:ld4.length=2:=by rw [ld4_eq];rfl
theorem lb1:addB (wholeB liveT) 7 [] (ent 5 false)=true:=by kernel_rfl
theorem lb2:addB (wholeB liveT) 7 lc1 (ent 3 false)=true:=by kernel_rfl
theorem lb3:addB (wholeB liveT) 7 lc2 (ent 8 false)=false:=by kernel_rfl
theorem lbd3:addB (wholeB liveT) 7 lc2 (ent 8 true)=true:=by kernel_rfl
theorem lbd4:addB (wholeB liveT) 7 ld3 (ent 3 false)=false:=by kernel_rfl
theorem li (z:Int)(f:Bool)(h:wholeB liveT [z]=true):addI (wholeB liveT) (ent z f)=0:=by
 unfold addI
 rw [show (ent z f).path=[z] from rfl,h]
 rfl
theorem l_bytes:bytesE lc3=6:=by kernel_rfl
theorem l_h5:hasE [5] lc3=true:=by kernel_rfl
theorem l_h5d:hasE [5] ld4=false:=by kernel_rfl
theorem l_h8d:hasE [8] ld4=true:=by kernel_rfl
noncomputable def r23_5:Code:=((Tryz.f23.body.bind (regIn 5)).getD .skip)
noncomputable def r23_15:Code:=((Tryz.f23.body.bind (regIn 15)).getD .skip)
noncomputable abbrev code23:Code:=.seq r23_0 (.seq r23_1 (.seq r23_2 (.seq r23_3 (.seq (.seq r23_4 (.cond (.tmp 39) (.seq r23_5 .ret) .skip)) (.seq r23_6 (.seq r23_7 (.seq r23_8 (.seq r23_9 (.seq r23_10 (.seq r23_11 (.seq r23_12 (.seq r23_13 (.seq (.seq r23_14 (.cond (.tmp 87) (.seq r23_15 .ret) .skip)) (.seq r23_16 .ret))))))))))))))
theorem body23:Tryz.f23.body=some code23:=by kernel_rfl
theorem ints_new (w:World)(z:Int)(hz:I64 z):Ints (w.alloc (.cells #[.int .i64 z] 3)) (fun b=>b=w.heap.size) (.slice (some ⟨w.heap.size,0,none⟩) 1 1) [z] :=
 ⟨some ⟨w.heap.size,0,none⟩,1,rfl,Nat.le_refl _,by simp,by simpa using hz,by simp,fun _=>⟨w.heap.size,0,rfl,rfl,fun j u hu=>by rw [cell_new];simpa using hu⟩⟩
theorem live_add {n1 n2:Value}{L1 L2 L1':List GE}{g1 g2:CA}{B:Nat}{w:World}{r:Bool}(h:TwoAt liveT n1 n2 7 7 L1 L2 g1 g2 B w)(z:Int)(f:Bool)(hz:I64 z)(hw:wholeB liveT [z]=true)(hr:addB (wholeB liveT) 7 L1 (ent z f)=r)(hL:addE (wholeB liveT) 7 L1 (ent z f)=L1')(hfew:L1.length≤10) :
  Calls Tryz.prog 12 #[.pointer (some ⟨g1.c,0,none⟩),.slice (some ⟨w.heap.size,0,none⟩) 1 1,ragg 0 0 0,.bool f] (w.alloc (.cells #[.int .i64 z] 3)) fun e w'=>e=.returned (.tuple #[.bool r,.int .i64 0])∧(TwoAt liveT n1 n2 7 7 L1' L2 g1 g2 B w'∧Fr (fun k=>B≤k) w w'):=by
 refine (h.add ((Ext.refl w).alloc' _) (ints_new w z hz) (fun i hi=>.inr (by omega)) 0 0 0 f (by simp [I64]) (by simp [I64]) (by simp [I64]) (by omega) (by simp)).mono ?_
 rintro e w' ⟨rfl,h1,h2⟩
 subst hr hL
 refine ⟨?_,h1,(Fr.of_ext ((Ext.refl w).alloc' _)).trans h2⟩
 rw [show mkE [z] 0 0 0 f=ent z f from rfl,li z f hw]
structure F23 (a:Act)(g1 g2:CA):Prop where
 sz:a.tmps.size=125
 df:a.defers=[]
 e2:a.eval (.tmp 2)=.pointer (some ⟨g1.c,0,none⟩)
 e3:a.eval (.tmp 3)=.int .i64 0
 e4:a.eval (.tmp 4)=.pointer (some ⟨g2.c,0,none⟩)
 e5:a.eval (.tmp 5)=.int .i64 0
theorem F23.put {a:Act}{g1 g2:CA}(h:F23 a g1 g2){d:Nat}{v:Value}(hd:6≤d):F23 (a.put (some d) v) g1 g2 :=
 ⟨by rw [zp];exact h.sz,h.df,by rw [vp,if_neg (by omega)];exact h.e2,by rw [vp,if_neg (by omega)];exact h.e3,by rw [vp,if_neg (by omega)];exact h.e4,by rw [vp,if_neg (by omega)];exact h.e5⟩
theorem Ext.fr {M:Nat→Prop}{w w':World}(h:Ext w w'):Fr M w w':=Fr.of_ext h
section
variable {a:Act}{w ws:World}{g1 g2:CA}{n1 n2:Value}{B:Nat}{R:Exit→Act→World→Prop}
noncomputable abbrev c23_13:Code:=.seq r23_13 (.seq (.seq r23_14 (.cond (.tmp 87) (.seq r23_15 .ret) .skip)) (.seq r23_16 .ret))
set_option maxHeartbeats 1000000 in
theorem live13 (hG:F23 a g1 g2)(e6:a.eval (.tmp 6)=.bool false)(e8:a.eval (.tmp 8)=.bool true)(e10:a.eval (.tmp 10)=.bool false)(h:TwoAt liveT n1 n2 7 7 lc3 ld4 g1 g2 B w)(hF:Fr (fun k=>B≤k) ws w)(hB:ws.heap.size≤B)
  (hQ:∀ a' w',a'.defers=[]→a'.eval (.tmp 0)=.bool true→Ext ws w'→R .ret a' w'):Code.wp Tryz.prog c23_13 R a w:=by
 refine wp_seq (reg23_13 (L:=ld4) (m:=2) hG.e4 lld4 h.swap.entriesOf hG.sz ?_)
 intro A c w1 hE hx
 have h1:=h.ext hx
 rw [ld4_eq] at hE
 obtain ⟨b,off,A',d,rfl,-,-,hgc⟩:=hE.get (i:=0) (by decide)
 have hits:=hgc 5 (.int .i64 2) rfl
 refine wp_seq (wp_seq (reg23_14 (L:=lc3) (g1:=g1) (A12:=some ⟨b,off,none⟩) (c12:=c) (by simp [vp,hG.e2]) (by simp [vp,zp,hG.sz]) ll3 h1.entriesOf (by simp [zp,hG.sz]) ?_))
 intro A2 c2 w2 hx2
 have h2:=h1.ext hx2
 refine wp_cond_false (by simp [vp,zp,hG.sz]) (wp_skip ?_)
 refine wp_seq (reg23_16 (g1:=g1) (g2:=g2) (b12:=b) (o12:=off) (c12:=c) (by simp [vp,hG.e2]) (by simp [vp,hG.e4]) (by simp [vp,e6]) (by simp [vp,e8]) (by simp [vp,e10]) (by simp [vp,zp,hG.sz])
  (fun w3 hx3=>by have:=(h2.ext hx3).bytes;rw [l_bytes] at this;exact this)
  (fun w3 b hx3 hp=>by have:=(h2.ext hx3).has hp;rw [l_h5] at this;exact this)
  (fun w3 b hx3 hp=>by have:=(h2.ext hx3).swap.has hp;rw [l_h5d] at this;exact this)
  (fun w3 b hx3 hp=>by have:=(h2.ext hx3).swap.has hp;rw [l_h8d] at this;exact this)
  (cell_ext hx2 hits) (by simp [zp,hG.sz]) ?_)
 intro a' w' hd he hx3
 refine wp_ret (hQ a' w' (by rw [hd];simp only [put_df];exact hG.df) he ?_)
 exact (((hF.trans (Ext.fr hx)).trans (Ext.fr hx2)).trans (Ext.fr hx3)).new_ext (fun b hb=>by omega)
noncomputable abbrev c23_6:Code:=.seq r23_6 (.seq r23_7 (.seq r23_8 (.seq r23_9 (.seq r23_10 (.seq r23_11 (.seq r23_12 c23_13))))))
set_option maxHeartbeats 1000000 in
theorem live6 (hG:F23 a g1 g2)(h:TwoAt liveT n1 n2 7 7 [] [] g1 g2 B w)(hF:Fr (fun k=>B≤k) ws w)(hB:ws.heap.size≤B)
  (hQ:∀ a' w',a'.defers=[]→a'.eval (.tmp 0)=.bool true→Ext ws w'→R .ret a' w'):Code.wp Tryz.prog c23_6 R a w:=by
 have i5:I64 5:=by simp [I64]
 have i3:I64 3:=by simp [I64]
 have i8:I64 8:=by simp [I64]
 refine wp_seq (reg23_6 hG.e2 (live_add (L1':=lc1) h 5 false i5 live_w5 lb1 rfl (by simp)) hG.sz ?_)
 rintro w1 ⟨h1,f1⟩
 refine wp_seq (reg23_7 (g1:=g1) (by simp [vp,hG.e2]) (live_add (L1':=lc2) h1 3 false i3 live_w3 lb2 rfl ll1) (by simp [zp,hG.sz]) ?_)
 rintro w2 ⟨h2,f2⟩
 refine wp_seq (reg23_8 (g1:=g1) (by simp [vp,hG.e2]) (live_add (L1':=lc3) h2 8 false i8 live_w8 lb3 rfl ll2) (by simp [zp,hG.sz]) ?_)
 rintro w3 ⟨h3,f3⟩
 refine wp_seq (reg23_9 (g2:=g2) (by simp [vp,hG.e4]) (live_add (L1':=lc1) h3.swap 5 false i5 live_w5 lb1 rfl (by simp)) (by simp [zp,hG.sz]) ?_)
 rintro w4 ⟨h4,f4⟩
 refine wp_seq (reg23_10 (g2:=g2) (by simp [vp,hG.e4]) (live_add (L1':=lc2) h4 3 false i3 live_w3 lb2 rfl ll1) (by simp [zp,hG.sz]) ?_)
 rintro w5 ⟨h5,f5⟩
 refine wp_seq (reg23_11 (g2:=g2) (by simp [vp,hG.e4]) (live_add (L1':=ld3) h5 8 true i8 live_w8 lbd3 rfl ll2) (by simp [zp,hG.sz]) ?_)
 rintro w6 ⟨h6,f6⟩
 refine wp_seq (reg23_12 (g2:=g2) (by simp [vp,hG.e4]) (live_add (L1':=ld4) h6 3 false i3 live_w3 lbd4 rfl lld3) (by simp [zp,hG.sz]) ?_)
 rintro w7 ⟨h7,f7⟩
 exact live13 (((((((((((((((((((((((((((((((((((((((((((hG.put (by omega)).put (by omega)).put (by omega)).put (by omega)).put (by omega)).put (by omega)).put (by omega)).put (by omega)).put (by omega)).put (by omega)).put (by omega)).put (by omega)).put (by omega)).put (by omega)).put (by omega)).put (by omega)).put (by omega)).put (by omega)).put (by omega)).put (by omega)).put (by omega)).put (by omega)).put (by omega)).put (by omega)).put (by omega)).put (by omega)).put (by omega)).put (by omega)).put (by omega)).put (by omega)).put (by omega)).put (by omega)).put (by omega)).put (by omega)).put (by omega)).put (by omega)).put (by omega)).put (by omega)).put (by omega)).put (by omega)).put (by omega)).put (by omega)).put (by omega)) (by simp [vp,zp,hG.sz]) (by simp [vp,zp,hG.sz]) (by simp [vp,zp,hG.sz]) h7.swap (((((((hF.trans f1).trans f2).trans f3).trans f4).trans f5).trans f6).trans f7) hB hQ
end
set_option maxHeartbeats 1000000 in
theorem lives_wp {R:Exit→Act→World→Prop}(a:Act)(w:World)(hsz:a.tmps.size=125)(hdf:a.defers=[])(hQ:∀ a' w',a'.defers=[]→a'.eval (.tmp 0)=.bool true→Ext w w'→R .ret a' w'):Code.wp Tryz.prog code23 R a w:=by
 refine wp_seq (reg23_0 hsz ?_)
 refine wp_seq (reg23_1 (by simp [zp,hsz]) ?_)
 obtain ⟨W1,hW1⟩:∃ W1,W1=w.alloc (.cells (ncells (⟨1,⟨#[]⟩,0,9,[],[],[],[],.mk 0 0 ⟨#[]⟩ []⟩:GN) ⟨none,0,none,0,none,0,none,0,none,0⟩).toArray 87):=⟨_,rfl⟩
 have xs1:W1.heap.size=w.heap.size+1:=by rw [hW1];exact World.size_alloc _ _
 have x1:Ext w W1:=by rw [hW1];exact (Ext.refl w).alloc' _
 have nd1:Nds W1 (fun b=>b=w.heap.size) (.slice (some ⟨w.heap.size,0,none⟩) 1 1) liveT:=by
  refine ⟨some ⟨w.heap.size,0,none⟩,1,ncells (⟨1,⟨#[]⟩,0,9,[],[],[],[],.mk 0 0 ⟨#[]⟩ []⟩:GN) ⟨none,0,none,0,none,0,none,0,none,0⟩,rfl,Nat.le_refl _,by simp [liveT],⟨rfl,fun _=>⟨w.heap.size,0,rfl,rfl,fun j u hu=>by rw [hW1,cell_new];simpa using hu⟩⟩,?_⟩
  exact RL.one ⟨⟨none,0,none,0,none,0,none,0,none,0⟩,rfl,⟨by simp [I64],by show (0:Nat)≤_;omega,by simp [I64],by simp [I64],Ints.nil,Strs.nil,Vals.nil,Ints.nil,VAt.noKids (by simp [I64]) (by simp [I64]) (by decide)⟩⟩
 rw [← hW1]
 clear hW1
 have b2:=(Blk.new W1 25 #[.slice none 0 0]).set_ 0 (.slice (some ⟨w.heap.size,0,none⟩) 1 1)
 have x2:Ext W1 ((W1.alloc (.cells #[.slice none 0 0] 25)).setCell ⟨W1.heap.size,0,none⟩ (.slice (some ⟨w.heap.size,0,none⟩) 1 1)):=((Ext.refl W1).alloc' _).setCell' (p:=⟨W1.heap.size,0,none⟩) (Nat.le_refl _) _
 refine wp_seq ?_
 generalize (W1.alloc (.cells #[.slice none 0 0] 25)).setCell ⟨W1.heap.size,0,none⟩ (.slice (some ⟨w.heap.size,0,none⟩) 1 1)=W2 at *
 have hx2:=x2.size
 refine reg23_2 (t:=liveT) (gt:=W1.heap.size) (by simp [vp,zp,hsz]) b2 (newOK_any liveT (fun b=>b=w.heap.size) _ 7 W2 (fun k hk=>by omega) (nd1.ext x2) live_small live_valid (by omega)) (by simp [zp,hsz]) ?_
 intro g1 P1 n1 w3 hm1 hx3
 have hs3:=hx3.size
 refine wp_seq (reg23_3 (t:=liveT) (gt:=W1.heap.size) (by simp [vp,zp,hsz]) (b2.ext hx3) (newOK_any liveT (fun b=>b=w.heap.size) _ 7 w3 (fun k hk=>by omega) (nd1.ext (x2.trans' hx3)) live_small live_valid (by omega)) (by simp [zp,hsz]) ?_)
 intro g2 P2 n2 w4 hm2 hx4
 have hT:=TwoAt.two hm1 (Nat.le_refl _) hx4 hm2
 refine wp_seq (wp_seq (reg23_4 (g1:=g1) (g2:=g2) (by simp [vp,zp,hsz]) (by simp [vp,zp,hsz]) (by simp [vp,zp,hsz]) (by simp [vp,zp,hsz]) (by simp [zp,hsz]) ?_))
 refine wp_cond_false (by simp [vp,zp,hsz]) (wp_skip ?_)
 exact live6 (ws:=w) ⟨by simp [zp,hsz],by simp only [put_df];exact hdf,by simp [vp,zp,hsz],by simp [vp,zp,hsz],by simp [vp,zp,hsz],by simp [vp,zp,hsz]⟩ hT (Ext.fr (((x1.trans' x2).trans' hx3).trans' hx4)) (by omega) hQ
theorem lives_any (w:World):Calls Tryz.prog 23 #[] w (RetE (.bool true) w):=by
 refine calls_of_wp Tryz.func23 body23 (lives_wp _ w ?_ rfl ?_)
 ·simp [Tryz.ntmps23]
 ·intro a' w' h1 h2 h3
  refine bodyPost_ret (v:=.bool true) ?_ h1 ⟨rfl,h3⟩
  have h5:a'.tmps[0]?.getD undef=.bool true:=by rw [← h2];simp [Act.eval]
  simp [results,Tryz.results23,go_sem,h5]
end Go.Proofs.YtkoeecdjijfjnaaGreat
namespace Go.Proofs.YtkoeecdjijfjnaaGreat
open Go.RowKit
structure H4 (a:Act)(tu:Int)(fr:Bool)(b:Int)(vg:Value)(g1 g2:CA):Prop where
 sz:a.tmps.size=150
 df:a.defers=[]
 e3:a.eval (.tmp 3)=.int .i64 tu
 e4:a.eval (.tmp 4)=.bool fr
 e12:a.eval (.tmp 12)=.int .i64 b
 e13:a.eval (.tmp 13)=vg
 e14:a.eval (.tmp 14)=.pointer (some ⟨g1.c,0,none⟩)
 e16:a.eval (.tmp 16)=.pointer (some ⟨g2.c,0,none⟩)
theorem H4.put {a:Act}{tu:Int}{fr:Bool}{b:Int}{vg:Value}{g1 g2:CA}(h:H4 a tu fr b vg g1 g2){d:Nat}{v:Value}(hd:17≤d):H4 (a.put (some d) v) tu fr b vg g1 g2 :=
 ⟨by rw [zp];exact h.sz,h.df,by rw [vp,if_neg (by omega)];exact h.e3,by rw [vp,if_neg (by omega)];exact h.e4,by rw [vp,if_neg (by omega)];exact h.e12,by rw [vp,if_neg (by omega)];exact h.e13,by rw [vp,if_neg (by omega)];exact h.e14,by rw [vp,if_neg (by omega)];exact h.e16⟩
structure J4 (a:Act)(vx vy:Value):Prop where
 sz:a.tmps.size=150
 df:a.defers=[]
 e20:a.eval (.tmp 20)=vx
 e21:a.eval (.tmp 21)=vy
theorem J4.put {a:Act}{vx vy:Value}(h:J4 a vx vy){d:Nat}{v:Value}(hd:22≤d):J4 (a.put (some d) v) vx vy :=
 ⟨by rw [zp];exact h.sz,h.df,by rw [vp,if_neg (by omega)];exact h.e20,by rw [vp,if_neg (by omega)];exact h.e21⟩
theorem paths_at {gs:List GG}{i:Nat}(hi:i<gs.length):(gs.map GG.path).getD i []=(gs.getD i default).path:=by
 simp [List.getD,hi]
noncomputable abbrev bd1:Code:=.seq (.seq r4_9 (.cond (.tmp 59) .skip (.exit 0))) (.seq (.block 1 (.seq r4_11 (.seq r4_12 (.seq r4_13 (.seq r4_14 (.cond (.tmp 102) (.seq r4_15 .ret) .skip)))))) r4_10)
noncomputable abbrev bd2:Code:=.seq (.seq r4_21 (.cond (.tmp 115) .skip (.exit 2))) (.seq (.block 3 (.seq r4_23 (.cond (.tmp 148) (.seq r4_24 .ret) .skip))) r4_22)
noncomputable abbrev tl4:Code:=.seq r4_16 (.seq r4_17 (.seq (.seq r4_18 (.cond (.tmp 111) (.seq r4_19 .ret) .skip)) (.seq (.seq r4_20 (.block 2 (.loop bd2))) (.seq r4_25 .ret))))
noncomputable abbrev code4:Code:=.seq r4_0 (.seq r4_1 (.seq r4_2 (.seq r4_3 (.seq r4_4 (.seq r4_5 (.seq (.seq r4_6 (.cond (.tmp 55) (.seq r4_7 .ret) .skip)) (.seq (.seq r4_8 (.block 0 (.loop bd1))) tl4)))))))
theorem body4:Tryz.f4.body=some code4:=by kernel_rfl
theorem rot_cast {p:Int}{n i:Nat}(hp:0≤p∧p<(n:Int))(hi:i<n):(p+(n:Int) - 1 - (i:Int)) % (n:Int)=(((p.toNat+n - 1 - i) % n:Nat):Int):=by
 have e:p+(n:Int) - 1 - (i:Int)=((p.toNat+n - 1 - i:Nat):Int):=by omega
 rw [e]
 exact (Int.natCast_emod _ _).symm
section
variable {a:Act}{w ws:World}{t:List GN}{n1 n2:Value}{g1 g2:CA}{B:Nat}{R:Exit→Act→World→Prop}{tu b:Int}{fr:Bool}{gs:List GG}{Ag:Option Addr}{cg:Nat}
def I4 (t:List GN)(n1 n2:Value)(g1 g2:CA)(B:Nat)(tu b:Int)(fr:Bool)(gs:List GG)(vg:Value)(ws:World)(i:Nat)(a:Act)(w:World):Prop :=
 H4 a tu fr b vg g1 g2∧i≤gs.length∧a.eval (.tmp 18)=.int .i64 (i:Int)∧Fr (fun k=>B≤k) ws w ∧
  ∃ L1 L2,TwoAt t n1 n2 b b L1 L2 g1 g2 B w∧Kept (wholeB t) b fr ((gs.map GG.path).take i) L1∧Kept (wholeB t) b fr (rotL (gs.map GG.path) (around tu gs.length).toNat i) L2
set_option maxHeartbeats 2000000 in
theorem ord_round {i:Nat}(htu:I64 tu)(hb:0≤b)(hlen:gs.length≤16)(hgv:Gvs ws (fun k=>k<B) (.slice Ag gs.length cg) gs)(hI:I4 t n1 n2 g1 g2 B tu b fr gs (.slice Ag gs.length cg) ws i a w)(hi:i<gs.length)
  (hR:∀ a' w',I4 t n1 n2 g1 g2 B tu b fr gs (.slice Ag gs.length cg) ws (i+1) a' w'→R .normal a' w'):Code.wp Tryz.prog (.seq (.block 1 (.seq r4_11 (.seq r4_12 (.seq r4_13 (.seq r4_14 (.cond (.tmp 102) (.seq r4_15 .ret) .skip)))))) r4_10) R a w:=by
 obtain ⟨hG,-,e18,hF,L1,L2,hT,hk1,hk2⟩:=hI
 have hp:=around_pos (n:=tu) (m:=(gs.length:Int)) (by omega)
 have hpl:(gs.map GG.path).length=gs.length:=by simp
 have hj:((around tu gs.length).toNat+gs.length - 1 - i) % gs.length<gs.length:=Nat.mod_lt _ (by omega)
 have hgw:Gvs w (fun k=>k<B) (.slice Ag gs.length cg) gs:=hgv.carry (Keeps.of_fr hF (fun b hb=>by omega)) (fun _ _ h=>h)
 obtain ⟨bg,og,A1,d1,eA,-,ga1,gc1⟩:=hgw.get hi
 subst eA
 have c1:=gc1 0 _ rfl
 rw [Nat.add_zero] at c1
 refine wp_seq (wp_block (wp_seq (reg4_11 hG.e3 hG.e13 e18 hp hi (by omega) (around_any tu gs.length w htu (by omega) (by omega)) hG.sz ?_)))
 have hl1:L1.length≤16:=by have:=hk1.len;rw [List.length_take] at this;omega
 have hl2:L2.length≤16:=by have:=hk2.len;rw [rotL_len] at this;omega
 refine wp_seq (reg4_12 (fr:=fr) (g1:=g1) (i:=i) (bg:=bg) (og:=og) (cg:=cg) (ng:=gs.length) (by simp [vp,hG.e4]) (by simp [vp,hG.e13]) (by simp [vp,hG.e14]) (by simp [vp,e18]) hi c1 (hT.add (Ext.refl w) ga1.path (fun k hk=>.inl hk) 0 0 0 fr (by simp [I64]) (by simp [I64]) (by simp [I64]) (by omega) (by have:=ga1.short;omega)) (by simp [zp,hG.sz]) ?_)
 rintro w1 ⟨hT1,hF1⟩
 have k1:=hk1.add hb (by rw [List.length_take];omega) (x:=mkE (gs.getD i default).path 0 0 0 fr) rfl
 have hgw1:Gvs w1 (fun k=>k<B) (.slice (some ⟨bg,og,none⟩) gs.length cg) gs:=hgw.carry (Keeps.of_fr hF1 (fun b hb=>by omega)) (fun _ _ h=>h)
 obtain ⟨j,ej⟩:∃ j,j=((around tu gs.length).toNat+gs.length - 1 - i) % gs.length:=⟨_,rfl⟩
 rw [← ej] at hj
 obtain ⟨bg',og',A2,d2,eA,-,ga2,gc2⟩:=hgw1.get hj
 injection eA with eA
 injection eA with eb eo _
 subst eb eo
 have c2:=gc2 0 _ rfl
 rw [Nat.add_zero] at c2
 refine wp_seq (reg4_13 (fr:=fr) (g2:=g2) (j:=j) (bg:=bg) (og:=og) (cg:=cg) (ng:=gs.length) (by simp [vp,hG.e4]) (by simp [vp,hG.e13]) (by simp [vp,hG.e16]) (by simp [vp,zp,hG.sz,rot_cast hp hi,ej]) hj c2 (hT1.swap.add (Ext.refl w1) ga2.path (fun k hk=>.inl hk) 0 0 0 fr (by simp [I64]) (by simp [I64]) (by simp [I64]) (by omega) (by have:=ga2.short;omega)) (by simp [zp,hG.sz]) ?_)
 rintro w2 ⟨hT2,hF2⟩
 have k2:=hk2.add hb (by rw [rotL_len];omega) (x:=mkE (gs.getD j default).path 0 0 0 fr) rfl
 have s1:=k1.bytes hb
 have s2:=k2.bytes hb
 refine wp_seq (reg4_14 (b:=b) (g1:=g1) (g2:=g2) (by simp [vp,hG.e12]) (by simp [vp,hG.e14]) (by simp [vp,hG.e16]) (decide_eq_false (by omega)) (decide_eq_false (by omega)) hT2.swap.bytes (fun w3 hx=>(hT2.ext hx).bytes) (by simp [zp,hG.sz]) ?_)
 intro w3 hx3
 refine wp_cond_false (by simp [vp,zp,hG.sz]) (wp_skip ?_)
 refine reg4_10 (i:=i) (by simp [vp,e18]) (by omega) (by simp [zp,hG.sz]) ?_
 refine hR _ _ ⟨(((((((((((((((((((((((((((((((((((((((((((((hG.put (by omega)).put (by omega)).put (by omega)).put (by omega)).put (by omega)).put (by omega)).put (by omega)).put (by omega)).put (by omega)).put (by omega)).put (by omega)).put (by omega)).put (by omega)).put (by omega)).put (by omega)).put (by omega)).put (by omega)).put (by omega)).put (by omega)).put (by omega)).put (by omega)).put (by omega)).put (by omega)).put (by omega)).put (by omega)).put (by omega)).put (by omega)).put (by omega)).put (by omega)).put (by omega)).put (by omega)).put (by omega)).put (by omega)).put (by omega)).put (by omega)).put (by omega)).put (by omega)).put (by omega)).put (by omega)).put (by omega)).put (by omega)).put (by omega)).put (by omega)).put (by omega)).put (by omega)),by omega,by simp [vp,zp,hG.sz],((hF.trans hF1).trans hF2).trans (Ext.fr hx3),_,_,(hT2.swap.ext hx3),?_,?_⟩
 ·rw [take_succ_getD [] (by rw [hpl];exact hi),paths_at hi]
  exact k1
 ·rw [rotL_succ,hpl,← ej,paths_at hj]
  exact k2
set_option maxHeartbeats 2000000 in
theorem ord_loop (htu:I64 tu)(hb:0≤b)(hlen:gs.length≤16)(hgv:Gvs ws (fun k=>k<B) (.slice Ag gs.length cg) gs)(hI:I4 t n1 n2 g1 g2 B tu b fr gs (.slice Ag gs.length cg) ws 0 a w)
  (hR:∀ a' w',I4 t n1 n2 g1 g2 B tu b fr gs (.slice Ag gs.length cg) ws gs.length a' w'→R .normal a' w'):Code.wp Tryz.prog (.block 0 (.loop bd1)) R a w:=by
 refine wp_block (wp_loop (fun a' w'=>∃ i,I4 t n1 n2 g1 g2 B tu b fr gs (.slice Ag gs.length cg) ws i a' w') (fun a' _=>gs.length - (intOf (a'.eval (.tmp 18))).toNat) ⟨0,hI⟩ ?_)
 clear hI
 rintro a w ⟨i,hI⟩
 have hG:=hI.1
 have e18:=hI.2.2.1
 have hin:=hI.2.1
 refine wp_seq (wp_seq (reg4_9 hG.e13 e18 hG.sz ?_))
 have hI':I4 t n1 n2 g1 g2 B tu b fr gs (.slice Ag gs.length cg) ws i ((((a.put (some 56) (.int .i64 (i:Int))).put (some 57) (.slice Ag gs.length cg)).put (some 58) (.int .i64 (gs.length:Int))).put (some 59) (.bool (decide ((i:Int)<(gs.length:Int))))) w :=
  ⟨(((hG.put (by omega)).put (by omega)).put (by omega)).put (by omega),hin,by simp [vp,e18],hI.2.2.2⟩
 by_cases hlt:i<gs.length
 ·refine wp_cond_true (by simp [vp,zp,hG.sz];omega) (wp_skip ?_)
  refine ord_round htu hb hlen hgv hI' hlt ?_
  intro a' w' h
  refine ⟨⟨i+1,h⟩,?_⟩
  rw [h.2.2.1,e18]
  simp [intOf]
  omega
 ·obtain rfl:i=gs.length:=by omega
  refine wp_cond_false (by simp [vp,zp,hG.sz]) (wp_exit ?_)
  exact hR _ _ hI'
end
section
variable {a:Act}{w ws:World}{R:Exit→Act→World→Prop}{L1 L2:List GE}{P1 P2:Nat→Prop}{Ax Ay:Option Addr}{cx cy:Nat}
def K4 (L1:List GE)(vx vy:Value)(ws:World)(i:Nat)(a:Act)(w:World):Prop:=J4 a vx vy∧i≤L1.length∧a.eval (.tmp 22)=.int .i64 (i:Int)∧Ext ws w
set_option maxHeartbeats 2000000 in
theorem cmp_round {i:Nat}(hx:Ens ws P1 (.slice Ax L1.length cx) L1)(hy:Ens ws P2 (.slice Ay L2.length cy) L2)(hsame:L1.map GE.path=L2.map GE.path)(hinc:IncE L1)(hfew:L1.length≤100000)(hI:K4 L1 (.slice Ax L1.length cx) (.slice Ay L2.length cy) ws i a w)(hi:i<L1.length)
  (hR:∀ a' w',K4 L1 (.slice Ax L1.length cx) (.slice Ay L2.length cy) ws (i+1) a' w'→R .normal a' w'):Code.wp Tryz.prog (.seq (.block 3 (.seq r4_23 (.cond (.tmp 148) (.seq r4_24 .ret) .skip))) r4_22) R a w:=by
 obtain ⟨hG,-,e22,hE⟩:=hI
 have hl:=same_len hsame
 have hxw:=hx.ext hE
 have hyw:=hy.ext hE
 obtain ⟨bx,ox,A1,d1,eA,-,ea1,gc1⟩:=hxw.get hi
 obtain ⟨by_,oy,A2,d2,eB,-,ea2,gc2⟩:=hyw.get (i:=i) (by omega)
 subst eA eB
 have c1:=gc1 0 _ rfl
 have c2:=gc2 0 _ rfl
 rw [Nat.add_zero] at c1 c2
 have hs:=same_at hsame hi
 have hsm:∀ w1,Ext w w1→Calls Tryz.prog 24 #[.slice A1 (L1.getD i default).path.length d1,.slice A2 (L2.getD i default).path.length d2] w1 fun e w'=>e=.returned (.bool true)∧Ext w w':=by
  intro w1 hx1
  refine (sameInts_any _ _ _ _ _ _ w1 (ea1.ext hx1).path (ea2.ext hx1).path).mono ?_
  rintro e w' ⟨rfl,n,rfl⟩
  refine ⟨by rw [hs];simp,hx1.drewN' n⟩
 refine wp_seq (wp_block (wp_seq ?_))
 rcases i with _ | i0
 ·refine reg4_23z (i:=0) hG.e20 hG.e21 e22 hi (by omega) c1 c2 hsm (by decide) hG.sz ?_
  intro w2 hx2
  refine wp_cond_false (by simp [vp,zp,hG.sz]) (wp_skip ?_)
  refine reg4_22 (i:=0) (by simp [vp,e22]) (by omega) (by simp [zp,hG.sz]) ?_
  exact hR _ _ ⟨((((((((((((((((((((((((((((((((((hG.put (by omega)).put (by omega)).put (by omega)).put (by omega)).put (by omega)).put (by omega)).put (by omega)).put (by omega)).put (by omega)).put (by omega)).put (by omega)).put (by omega)).put (by omega)).put (by omega)).put (by omega)).put (by omega)).put (by omega)).put (by omega)).put (by omega)).put (by omega)).put (by omega)).put (by omega)).put (by omega)).put (by omega)).put (by omega)).put (by omega)).put (by omega)).put (by omega)).put (by omega)).put (by omega)).put (by omega)).put (by omega)).put (by omega)).put (by omega)),by omega,by simp [vp,zp,hG.sz],hE.trans' hx2⟩
 ·obtain ⟨bx',ox',A0,d0,eA,-,ea0,gc0⟩:=hxw.get (i:=i0) (by omega)
  injection eA with eA
  injection eA with eb eo _
  subst eb eo
  have c0:=gc0 0 _ rfl
  rw [Nat.add_zero] at c0
  have hlt:=inc_lt hinc (i:=i0) (j:=i0+1) (by omega) hi
  refine reg4_23s (i:=i0+1) (i0:=i0) (z:=cmpP (L1.getD i0 default).path (L1.getD (i0+1) default).path) hG.e20 hG.e21 e22 hi (by omega) c1 c2 hsm rfl (decide_eq_true (by omega)) c0 (decide_eq_false (by omega)) ?_ (by omega) hG.sz ?_
  ·intro w1 hx1
   refine (orderCompare_any _ _ _ _ _ _ w1 (ea0.ext hx1).path (ea1.ext hx1).path).mono ?_
   rintro e w' ⟨rfl,hx2⟩
   exact ⟨rfl,hx1.trans' hx2⟩
  intro w2 hx2
  refine wp_cond_false (by simp [vp,zp,hG.sz]) (wp_skip ?_)
  refine reg4_22 (i:=i0+1) (by simp [vp,e22]) (by omega) (by simp [zp,hG.sz]) ?_
  exact hR _ _ ⟨((((((((((((((((((((((((((((((((((hG.put (by omega)).put (by omega)).put (by omega)).put (by omega)).put (by omega)).put (by omega)).put (by omega)).put (by omega)).put (by omega)).put (by omega)).put (by omega)).put (by omega)).put (by omega)).put (by omega)).put (by omega)).put (by omega)).put (by omega)).put (by omega)).put (by omega)).put (by omega)).put (by omega)).put (by omega)).put (by omega)).put (by omega)).put (by omega)).put (by omega)).put (by omega)).put (by omega)).put (by omega)).put (by omega)).put (by omega)).put (by omega)).put (by omega)).put (by omega)),by omega,by simp [vp,zp,hG.sz],hE.trans' hx2⟩
set_option maxHeartbeats 2000000 in
theorem cmp_loop (hx:Ens ws P1 (.slice Ax L1.length cx) L1)(hy:Ens ws P2 (.slice Ay L2.length cy) L2)(hsame:L1.map GE.path=L2.map GE.path)(hinc:IncE L1)(hfew:L1.length≤100000)(hI:K4 L1 (.slice Ax L1.length cx) (.slice Ay L2.length cy) ws 0 a w)
  (hR:∀ a' w',a'.tmps.size=150→a'.defers=[]→Ext ws w'→R .normal a' w'):Code.wp Tryz.prog (.block 2 (.loop bd2)) R a w:=by
 refine wp_block (wp_loop (fun a' w'=>∃ i,K4 L1 (.slice Ax L1.length cx) (.slice Ay L2.length cy) ws i a' w') (fun a' _=>L1.length - (intOf (a'.eval (.tmp 22))).toNat) ⟨0,hI⟩ ?_)
 clear hI
 rintro a w ⟨i,hI⟩
 have hG:=hI.1
 have e22:=hI.2.2.1
 have hin:=hI.2.1
 refine wp_seq (wp_seq (reg4_21 hG.e20 e22 hG.sz ?_))
 have hI':K4 L1 (.slice Ax L1.length cx) (.slice Ay L2.length cy) ws i ((((a.put (some 112) (.int .i64 (i:Int))).put (some 113) (.slice Ax L1.length cx)).put (some 114) (.int .i64 (L1.length:Int))).put (some 115) (.bool (decide ((i:Int)<(L1.length:Int))))) w :=
  ⟨(((hG.put (by omega)).put (by omega)).put (by omega)).put (by omega),hin,by simp [vp,e22],hI.2.2.2⟩
 by_cases hlt:i<L1.length
 ·refine wp_cond_true (by simp [vp,zp,hG.sz];omega) (wp_skip ?_)
  refine cmp_round hx hy hsame hinc hfew hI' hlt ?_
  intro a' w' h
  refine ⟨⟨i+1,h⟩,?_⟩
  rw [h.2.2.1,e22]
  simp [intOf]
  omega
 ·refine wp_cond_false (by simp [vp,zp,hG.sz];omega) (wp_exit ?_)
  exact hR _ _ (by simp [zp,hG.sz]) hG.df hI.2.2.2
end
section
variable {a:Act}{w w0:World}{t:List GN}{n1 n2:Value}{g1 g2:CA}{B:Nat}{R:Exit→Act→World→Prop}{tu b:Int}{fr:Bool}{vg:Value}{L1 L2:List GE}
set_option maxHeartbeats 2000000 in
theorem tl4_wp (hG:H4 a tu fr b vg g1 g2)(hT:TwoAt t n1 n2 b b L1 L2 g1 g2 B w)(hsame:L1.map GE.path=L2.map GE.path)(hinc:IncE L1)(hF:Fr (fun k=>B≤k) w0 w)(hB:w0.heap.size≤B)
  (hQ:∀ a' w',a'.defers=[]→a'.eval (.tmp 10)=.bool true→Ext w0 w'→R .ret a' w'):Code.wp Tryz.prog tl4 R a w:=by
 refine wp_seq (reg4_16 hG.e14 hT.entries hG.sz ?_)
 intro A c w1 hE1 hx1
 refine wp_seq (reg4_17 (g2:=g2) (by simp [vp,hG.e16]) (hT.ext hx1).swap.entries (by simp [zp,hG.sz]) ?_)
 intro A2 c2 w2 hE2 hx2
 refine wp_seq (wp_seq (reg4_18 (Ax:=A) (nx:=L1.length) (cx:=c) (Ay:=A2) (ny:=L2.length) (cy:=c2) (by simp [vp,zp,hG.sz]) (by simp [vp,zp,hG.sz]) (by rw [same_len hsame];simp) (by simp [zp,hG.sz]) ?_))
 refine wp_cond_false (by simp [vp,zp,hG.sz]) (wp_skip ?_)
 refine wp_seq (wp_seq (reg4_20 (by simp [zp,hG.sz]) ?_))
 refine cmp_loop (Ax:=A) (cx:=c) (Ay:=A2) (cy:=c2) (hE1.ext hx2) hE2 hsame hinc hT.size.2.1 ⟨⟨by simp [zp,hG.sz],by simp only [put_df];exact hG.df,by simp [vp,zp,hG.sz],by simp [vp,zp,hG.sz]⟩,Nat.zero_le _,by simp [vp,zp,hG.sz],Ext.refl _⟩ ?_
 intro a' w' hsz hdf hx3
 refine wp_seq (reg4_25 (lives_any w') hsz ?_)
 intro w4 hx4
 refine wp_ret (hQ _ _ (by simp only [put_df];exact hdf) (by simp [vp,zp,hsz]) ?_)
 exact ((((hF.trans (Ext.fr hx1)).trans (Ext.fr hx2)).trans (Ext.fr hx3)).trans (Ext.fr hx4)).new_ext (fun b hb=>by omega)
end
set_option maxHeartbeats 2000000 in
theorem ord_mid {R:Exit→Act→World→Prop}{a:Act}{w w0:World}{t:List GN}{Pt:Nat→Prop}{b tu:Int}{fr:Bool}{gs:List GG}{Ag:Option Addr}{cg gt:Nat}{At:Option Addr}{nt ct:Nat}(hsz:a.tmps.size=150)(hdf:a.defers=[])(e3:a.eval (.tmp 3)=.int .i64 tu)(e4:a.eval (.tmp 4)=.bool fr)(e11:a.eval (.tmp 11)=.pointer (some ⟨gt,0,none⟩))(e12:a.eval (.tmp 12)=.int .i64 b)(e13:a.eval (.tmp 13)=.slice Ag gs.length cg)
  (htu:I64 tu)(hb:0≤b∧b<60)(hgen:GenOK t)(hbt:Blk w gt 25 #[.slice At nt ct])(hnd:Nds w Pt (.slice At nt ct) t)(hPt:∀ k,Pt k→k<w.heap.size)(hgv:Gvs w (fun k=>k<w.heap.size) (.slice Ag gs.length cg) gs)(hlen:gs.length≤16)(hx0:Ext w0 w)
  (hQ:∀ a' w',a'.defers=[]→a'.eval (.tmp 10)=.bool true→Ext w0 w'→R .ret a' w'):Code.wp Tryz.prog (.seq r4_4 (.seq r4_5 (.seq (.seq r4_6 (.cond (.tmp 55) (.seq r4_7 .ret) .skip)) (.seq (.seq r4_8 (.block 0 (.loop bd1))) tl4)))) R a w:=by
 refine wp_seq (reg4_4 (t:=t) e11 e12 hbt (newOK_any t Pt _ b w hPt hnd hgen.small hgen.good (by omega)) hsz ?_)
 intro g1 P1 n1 w1 hm1 hx1
 have hs1:=hx1.size
 refine wp_seq (reg4_5 (t:=t) (gt:=gt) (b:=b) (by simp [vp,e11]) (by simp [vp,e12]) (hbt.ext hx1) (newOK_any t Pt _ b w1 (fun k hk=>by have:=hPt k hk;omega) (hnd.ext hx1) hgen.small hgen.good (by omega)) (by simp [zp,hsz]) ?_)
 intro g2 P2 n2 w2 hm2 hx2
 have hT:=TwoAt.two hm1 (Nat.le_refl _) hx2 hm2
 refine wp_seq (wp_seq (reg4_6 (g1:=g1) (g2:=g2) (by simp [vp,zp,hsz]) (by simp [vp,zp,hsz]) (by simp [vp,zp,hsz]) (by simp [vp,zp,hsz]) (by simp [zp,hsz]) ?_))
 refine wp_cond_false (by simp [vp,zp,hsz]) (wp_skip ?_)
 refine wp_seq (wp_seq (reg4_8 (by simp [zp,hsz]) ?_))
 refine ord_loop (ws:=w) (B:=w.heap.size) (gs:=gs) (t:=t) (n1:=n1) (n2:=n2) (g1:=g1) (g2:=g2) (tu:=tu) (b:=b) (fr:=fr) (Ag:=Ag) (cg:=cg) htu hb.1 hlen hgv ⟨⟨by simp [zp,hsz],by simp only [put_df];exact hdf,by simp [vp,e3],by simp [vp,e4],by simp [vp,e12],by simp [vp,e13],by simp [vp,zp,hsz],by simp [vp,zp,hsz]⟩,Nat.zero_le _,by simp [vp,zp,hsz],Ext.fr (hx1.trans' hx2),[],[],hT,Kept.nil _ _ _,Kept.nil _ _ _⟩ ?_
 rintro a' w' ⟨hG,-,-,hF,L1,L2,hT',hk1,hk2⟩
 have hpl:(gs.map GG.path).length=gs.length:=by simp
 rw [List.take_of_length_le (by omega)] at hk1
 rw [← hpl] at hk2
 have hs0:=hx0.size
 exact tl4_wp hG hT' (kept_same hk1 hk2 (fun h0=>by have:=around_pos (n:=tu) (m:=(((gs.map GG.path).length:Nat):Int)) (by omega);omega)) hk1.inc ((Ext.fr hx0).trans hF) (by omega) hQ
set_option maxHeartbeats 2000000 in
theorem ord_wp {R:Exit→Act→World→Prop}{a:Act}{w:World}(l k:List Int)(Ql Qk:Nat→Prop)(Al Ak:Option Addr)(cl ck:Nat)(bu tu:Int)(fr:Bool)(hl:Ints w Ql (.slice Al l.length cl) l)(hk:Ints w Qk (.slice Ak k.length ck) k)(hQk:∀ b,Qk b→b<w.heap.size)(hbu:I64 bu)(htu:I64 tu)
  (hsz:a.tmps.size=150)(hdf:a.defers=[])(e0:a.eval (.tmp 0)=.slice Al l.length cl)(e1:a.eval (.tmp 1)=.slice Ak k.length ck)(e2:a.eval (.tmp 2)=.int .i64 bu)(e3:a.eval (.tmp 3)=.int .i64 tu)(e4:a.eval (.tmp 4)=.bool fr)
  (hQ:∀ a' w',a'.defers=[]→a'.eval (.tmp 10)=.bool true→Ext w w'→R .ret a' w'):Code.wp Tryz.prog code4 R a w:=by
 refine wp_seq (reg4_0 hsz ?_)
 refine wp_seq (reg4_1 (Al:=Al) (ll:=l.length) (cl:=cl) (by simp [vp,e0]) (tree_any l Ql _ w hl) (by simp [zp,hsz]) ?_)
 intro A c t w1 hnd hgen hlen hx1
 have b1:=(Blk.new w1 25 #[.slice none 0 0]).set_ 0 (.slice A t.length c)
 have x1:Ext w1 ((w1.alloc (.cells #[.slice none 0 0] 25)).setCell ⟨w1.heap.size,0,none⟩ (.slice A t.length c)):=((Ext.refl w1).alloc' _).setCell' (p:=⟨w1.heap.size,0,none⟩) (Nat.le_refl _) _
 refine wp_seq ?_
 generalize (w1.alloc (.cells #[.slice none 0 0] 25)).setCell ⟨w1.heap.size,0,none⟩ (.slice A t.length c)=W1 at *
 have hb:=around_pos (n:=bu) (m:=60) (by omega)
 refine reg4_2 (bu:=bu) (p:=around bu 60) (by simp [vp,e2]) (around_any bu 60 W1 hbu (by omega) (by omega)) (by simp [zp,hsz]) ?_
 generalize around bu 60=b at *
 have hs1:=hx1.size
 have hsW:=x1.size
 refine wp_seq (reg4_3 (Ak:=Ak) (lk:=k.length) (ck:=ck) (gt:=w1.heap.size) (by simp [vp,e1]) (by simp [vp,zp,hsz]) b1 (some_any t k 16 (fun b=>w.heap.size≤b∧b<w1.heap.size) Qk _ _ W1 hgen (by omega) (by omega) (fun b hb=>by omega) (fun b hb=>by have:=hQk b hb;omega) (hnd.ext x1) (hk.ext (hx1.trans' x1))) (by simp [zp,hsz]) ?_)
 intro Ag cg gs w2 hgv hgl hx2
 have hs2:=hx2.size
 exact ord_mid (gt:=w1.heap.size) (b:=b) (tu:=tu) (fr:=fr) (gs:=gs) (Ag:=Ag) (cg:=cg) (by simp [zp,hsz]) (by simp only [put_df];exact hdf) (by simp [vp,e3]) (by simp [vp,e4]) (by simp [vp,zp,hsz]) (by simp [vp,zp,hsz]) (by simp [vp,zp,hsz]) htu hb hgen (b1.ext hx2) (hnd.ext (x1.trans' hx2)) (fun k hk=>by omega) hgv hgl ((hx1.trans' x1).trans' hx2) hQ
theorem corpusOrder_any (l k:List Int)(Ql Qk:Nat→Prop)(vl vk:Value)(bu tu:Int)(fr:Bool)(w:World)(hl:Ints w Ql vl l)(hk:Ints w Qk vk k)(hQk:∀ b,Qk b→b<w.heap.size)(hbu:I64 bu)(htu:I64 tu) :
  Calls Tryz.prog 4 #[vl,vk,.int .i64 bu,.int .i64 tu,.bool fr] w (RetE (.bool true) w):=by
 obtain ⟨Al,cl,rfl,-,-⟩:=hl.form
 obtain ⟨Ak,ck,rfl,-,-⟩:=hk.form
 refine calls_of_wp Tryz.func4 body4 (ord_wp l k Ql Qk Al Ak cl ck bu tu fr hl hk hQk hbu htu ?_ rfl ?_ ?_ ?_ ?_ ?_ ?_)
 ·simp [Tryz.ntmps4]
 ·simp [Act.eval]
 ·simp [Act.eval]
 ·simp [Act.eval]
 ·simp [Act.eval]
 ·simp [Act.eval]
 ·intro a' w' h1 h2 h3
  refine bodyPost_ret (v:=.bool true) ?_ h1 ⟨rfl,h3⟩
  have h5:a'.tmps[10]?.getD undef=.bool true:=by rw [← h2];simp [Act.eval]
  simp [results,Tryz.results4,go_sem,h5]
end Go.Proofs.YtkoeecdjijfjnaaGreat
namespace Go.Proofs.YtkoeecdjijfjnaaGreat
open Go.ChangeShapes Go.WideShapes Go.ChangeAt Go.RowKit
theorem Tryz.own:ownKnob Tryz.prog.godebug=none:=by kernel_rfl
theorem Tryz.laidOut:laidOutB Tryz.prog=true:=by kernel_rfl
theorem Tryz.cells3:Tryz.prog.cellsOf 3=1:=by kernel_rfl
theorem Tryz.bytes3:Tryz.prog.bytesOf 3=8:=by kernel_rfl
theorem I64_of_wf {n:Int}(h:(Lit.int .i64 n).wf=true):I64 n:=by
 have h1:IntKind.i64.min=-9223372036854775808:=rfl
 have h2:IntKind.i64.max=9223372036854775807:=rfl
 simp only [Lit.wf,Bool.and_eq_true,decide_eq_true_eq] at h
 unfold I64
 omega
set_option maxRecDepth 100000 in
theorem arg_ints {H:Type}{enc:TypeId × Value→H}{W:World}{base:Nat}{v:Value}{d:DataW H}{p:List MemPlace}(hok:Value.okWide Tryz.prog W .any base 22 v)(h:DataW.Trod enc Tryz.prog W 0 (fun _=>true) true 22 v d p)(hlt:∀ x ∈ p,x.block<W.heap.size)
  (hw:∀ elems spare,d=.slice elems spare→(elems.length+spare.length)*8≤reachBytes):∃ l,Ints W (fun b=>b<W.heap.size) v l:=by
 obtain ⟨a0,len,cap,rfl⟩:=okWide_slice Tryz.underlying22 hok
 obtain ⟨fuel,hf⟩:=h
 rcases open_ints Tryz.underlying22 Tryz.underlying3 Tryz.cells3 hf with ⟨hcs,hx⟩ | ⟨a,len',cap',zs,hcs,_,hl,hm,hz,hx,hcell,hwz⟩
 ·simp [Value.cells] at hcs
  obtain ⟨rfl,rfl,rfl⟩:=hcs
  exact ⟨[],Ints.nil⟩
 ·simp [Value.cells] at hcs
  obtain ⟨rfl,rfl,rfl⟩:=hcs
  simp only [Prod.mk.injEq] at hx
  obtain ⟨rfl,rfl⟩:=hx
  simp only [if_true] at hz
  have hreach:cap*8≤140737488351232:=by
   have:=hw _ _ rfl
   simp only [lits,List.length_map,List.length_take,List.length_drop,reachBytes] at this
   omega
  have hlen:(zs.take len).length=len:=by rw [List.length_take];omega
  refine ⟨zs.take len,some a,cap,by rw [hlen],by rw [hlen];exact hl,⟨by rw [hlen];omega,by omega⟩,fun x hx=>I64_of_wf (hwz x (List.mem_of_mem_take hx)),by simp,?_⟩
  intro hpos
  rw [hlen] at hpos
  obtain ⟨b,off,spot⟩:=a
  have hspot:spot=none:=by simpa [Addr.add] using World.cell?_spot (hcell 0 (by omega))
  subst hspot
  refine ⟨b,off,rfl,hlt (.cell b off) (MemPlace.mem_row.2 ⟨0,by omega,by simp⟩),?_⟩
  intro j u hu
  have hj:j<len:=by
   have:=(List.getElem?_eq_some_iff.1 hu).1
   rw [List.length_map,hlen] at this
   exact this
  have hc:=hcell j (by omega)
  rw [add_plain] at hc
  rw [hc]
  rw [List.getElem?_map,List.getElem?_take_of_lt hj] at hu
  have hjz:j<zs.length:=by omega
  simp only [List.getElem?_eq_getElem hjz,Option.map_some,Option.some.injEq] at hu
  rw [← hu]
  simp [List.getD,hjz]
set_option maxRecDepth 100000 in
theorem corpusOrder_lifted (os:Os)(started:os.Started)(H:Type)(enc:TypeId × Value→H) :
  ReturnsInHanded {} Tryz.checked os 4 .any (Rows.corpusOrderSpec.pre6 enc Tryz.prog Tryz.f4 Rows.corpusOrderRow.domain false) (Rows.corpusOrderSpec.post enc Tryz.prog Tryz.f4 false true false false):=by
 refine returnsInHanded_of_change_sized (C:=Tryz.checked) Tryz.own started (by kernel_rfl) Tryz.func4
  (ChangeSpec.witness6 (enc:=enc) (C:=Tryz.checked) false ⟨#[],#[.slice none 0 0,.slice none 0 0,.int .i64 0,.int .i64 0,.bool false],[]⟩ 8 (by kernel_rfl) (by kernel_rfl) (by kernel_rfl) (by kernel_rfl)) ?_
 intro W base args ds gs before hval0 hW _ hsz0 _
 have hsz:(DataW.weightsEach Tryz.prog (Tryz.f4.params.toList ++ Rows.corpusOrderSpec.plain.varTypes Tryz.prog) (ds ++ gs)).all (·≤reachBytes)=true:=hsz0
 clear hsz0
 have hval:∀ (j:Nat) t v,Tryz.f4.params[j]?=some t→args[j]?=some v→Value.okWide Tryz.prog W .any base t v:=hval0
 have hW':=hW
 obtain ⟨p,q,hA0,hV,rfl,_,_⟩:=hW
 have hA:DataW.TrodAll enc Tryz.prog W 0 (fun _=>true) true Tryz.f4.params.toList args.toList ds p:=hA0
 rw [Tryz.params4] at hA hval hsz
 obtain ⟨v0,vs0,d0,ds0,p0,q0,hargs0,rfl,rfl,h0,r0⟩:=trodAll_cons hA
 obtain ⟨v1,vs1,d1,ds1,p1,q1,rfl,rfl,rfl,h1,r1⟩:=trodAll_cons r0
 obtain ⟨v2,vs2,d2,ds2,p2,q2,rfl,rfl,rfl,h2,r2⟩:=trodAll_cons r1
 obtain ⟨v3,vs3,d3,ds3,p3,q3,rfl,rfl,rfl,h3,r3⟩:=trodAll_cons r2
 obtain ⟨v4,vs4,d4,ds4,p4,q4,rfl,rfl,rfl,h4,r4⟩:=trodAll_cons r3
 obtain ⟨rfl,rfl,rfl⟩:=trodAll_nil r4
 obtain rfl:args=#[v0,v1,v2,v3,v4]:=by cases args;simp_all
 obtain ⟨rfl,rfl⟩:=trodVars_none hV
 obtain ⟨a2,rfl,rfl,rfl,w2⟩:=open_int Tryz.underlying3 (hval 2 3 v2 rfl rfl) h2
 obtain ⟨a3,rfl,rfl,rfl,w3⟩:=open_int Tryz.underlying3 (hval 3 3 v3 rfl rfl) h3
 obtain ⟨a4,rfl,rfl,rfl⟩:=open_bool Tryz.underlying4 (hval 4 4 v4 rfl rfl) h4
 have hlt:∀ x ∈ p0 ++ (p1 ++ ([] ++ ([] ++ ([] ++ [])))) ++ [],x.block<W.heap.size:=fun x hx=>by simpa using hW'.lt x hx
 have hlt0:∀ x ∈ p0,x.block<W.heap.size:=fun x hx=>hlt x (by simp [hx])
 have hlt1:∀ x ∈ p1,x.block<W.heap.size:=fun x hx=>hlt x (by simp [hx])
 obtain ⟨l,hl⟩:=arg_ints (hval 0 22 v0 rfl rfl) h0 hlt0 (fun elems spare he=>by
  have:=sized_slice hsz (j:=0) (t:=22) (e:=3) (elems:=elems) (spare:=spare) rfl (by simp [he]) Tryz.underlying22
  rw [Tryz.bytes3] at this
  exact this)
 obtain ⟨k,hk⟩:=arg_ints (hval 1 22 v1 rfl rfl) h1 hlt1 (fun elems spare he=>by
  have:=sized_slice hsz (j:=1) (t:=22) (e:=3) (elems:=elems) (spare:=spare) rfl (by simp [he]) Tryz.underlying22
  rw [Tryz.bytes3] at this
  exact this)
 refine (corpusOrder_any l k _ _ v0 v1 a2 a3 a4 W hl hk (fun _ h=>h) (I64_of_wf w2) (I64_of_wf w3)).mono ?_
 rintro e W' ⟨rfl,hx⟩
 have k0:=Below.trod Tryz.laidOut (by kernel_rfl) (of_decide_eq_true (by kernel_rfl)) h0 hx hlt0
 have k1:=Below.trod Tryz.laidOut (by kernel_rfl) (of_decide_eq_true (by kernel_rfl)) h1 hx hlt1
 exact ⟨_,rfl,_,_,_,[],_,[],hW',trodAll_cons_mk (shut_bool Tryz.underlying4 _) trodAll_mk0,trodAll_cons_mk k0 (trodAll_cons_mk k1 (trodAll_cons_mk (shut_int Tryz.underlying3 w2) (trodAll_cons_mk (shut_int Tryz.underlying3 w3) (trodAll_cons_mk (shut_bool Tryz.underlying4 _) trodAll_mk0)))),rfl,hx.frame _,fun h=>by cases h⟩
theorem corpusOrder_holds:Rows.CorpusOrderSaid :=
 OpenClaim.holds_of_wide 4 Tryz.f4 rfl rfl rfl rfl rfl rfl rfl ⟨rfl,rfl,rfl,rfl,rfl⟩ rfl rfl rfl rfl rfl (by kernel_rfl) Tryz.func4 (by kernel_rfl)
  (of_decide_eq_true (by kernel_rfl)) (by unfold Func.isWrapper;first | (rw [if_pos (by decide +kernel)];kernel_rfl) | (rw [if_neg (by decide +kernel)];exact ⟨rfl,rfl⟩))
  (fun os started H enc _=>corpusOrder_lifted os started H enc)
#print axioms corpusOrder_holds
end Go.Proofs.YtkoeecdjijfjnaaGreat
