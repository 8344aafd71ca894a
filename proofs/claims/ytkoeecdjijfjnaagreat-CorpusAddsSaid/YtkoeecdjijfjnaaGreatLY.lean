/- Contracts of functions, plain laws. Conditions: none. -/
import Derived.Test.YtkoeecdjijfjnaaGreatLW
set_option maxRecDepth 100000
set_option maxHeartbeats 8000000
namespace Go.Proofs.YtkoeecdjijfjnaaGreat
open Go.RowKit
structure F8 (a:Act)(vl:Value)(g2 g3 n i:Nat):Prop where
 sz:a.tmps.size=181
 df:a.defers=[]
 e0:a.eval (.tmp 0)=vl
 e2:a.eval (.tmp 2)=.pointer (some ⟨g2,0,none⟩)
 e3:a.eval (.tmp 3)=.pointer (some ⟨g3,0,none⟩)
 e4:a.eval (.tmp 4)=.int .i64 (n:Int)
 e5:a.eval (.tmp 5)=.int .i64 (i:Int)
theorem F8.put {a:Act}{vl:Value}{g2 g3 n i:Nat}(h:F8 a vl g2 g3 n i){d:Nat}{v:Value}(hd:6<=d):F8 (a.put (some d) v) vl g2 g3 n i :=
 ⟨by rw [zp];exact h.sz,h.df,by rw [vp,if_neg (by omega)];exact h.e0,by rw [vp,if_neg (by omega)];exact h.e2,by rw [vp,if_neg (by omega)];exact h.e3,by rw [vp,if_neg (by omega)];exact h.e4,by rw [vp,if_neg (by omega)];exact h.e5⟩
structure G8 (a:Act)(vl:Value)(g2 g3 n i:Nat)(k:Int)(gx:Nat):Prop where
 sz:a.tmps.size=181
 df:a.defers=[]
 e0:a.eval (.tmp 0)=vl
 e2:a.eval (.tmp 2)=.pointer (some ⟨g2,0,none⟩)
 e3:a.eval (.tmp 3)=.pointer (some ⟨g3,0,none⟩)
 e4:a.eval (.tmp 4)=.int .i64 (n:Int)
 e5:a.eval (.tmp 5)=.int .i64 (i:Int)
 e6:a.eval (.tmp 6)=.int .i64 k
 e7:a.eval (.tmp 7)=.pointer (some ⟨gx,0,none⟩)
theorem G8.put {a:Act}{vl:Value}{g2 g3 n i:Nat}{k:Int}{gx:Nat}(h:G8 a vl g2 g3 n i k gx){d:Nat}{v:Value}(hd:8<=d):G8 (a.put (some d) v) vl g2 g3 n i k gx :=
 ⟨by rw [zp];exact h.sz,h.df,by rw [vp,if_neg (by omega)];exact h.e0,by rw [vp,if_neg (by omega)];exact h.e2,by rw [vp,if_neg (by omega)];exact h.e3,by rw [vp,if_neg (by omega)];exact h.e4,by rw [vp,if_neg (by omega)];exact h.e5,by rw [vp,if_neg (by omega)];exact h.e6,by rw [vp,if_neg (by omega)];exact h.e7⟩
theorem G8.f {a:Act}{vl:Value}{g2 g3 n i:Nat}{k:Int}{gx:Nat}(h:G8 a vl g2 g3 n i k gx):F8 a vl g2 g3 n i:=⟨h.sz,h.df,h.e0,h.e2,h.e3,h.e4,h.e5⟩
def PN (vl:Value)(g2 g3 n i:Nat)(k:Int)(gx:Nat)(Pn:Nat->Prop)(w0:World):Exit->Act->World->Prop:=fun e a w=>e=.normal∧G8 a vl g2 g3 n i k gx∧xC gx Pn w0 w
noncomputable abbrev aC0:Code:=.seq (.seq aPi (.cond (.tmp 142) .skip (.exit 5))) (.seq (.block 6 aPg) aPh)
noncomputable abbrev aE4:Code:=.seq (.seq aPr (.cond (.tmp 89) .skip (.exit 3))) (.seq (.block 4 (.seq aPp (.seq aPo (.seq aPn (.cond (.tmp 115) aPm .skip))))) aPq)
section
variable {a:Act}{w:World}{l:List Int}{Ql:Nat->Prop}{Al:Option Addr}{cl g2 g3 n i gx:Nat}{k:Int}{w0:World}{name:ByteArray}{Pn:Nat->Prop}
theorem aVi (hG:G8 a (.slice Al l.length cl) g2 g3 n i k gx)(e9:a.eval (.tmp 9)=.int .i64 ((0:Nat):Int))(hk:0<=k∧k<1000000)(hi:1<=i)(hi2:i<=1000)(hl:bT w0 Ql (.slice Al l.length cl) l)(hnm:name.size<=100)
  (hst:nP gx w0.heap.size 3 name (.slice none 0 0) (.slice none 0 0) (.slice none 0 0) [] [] [] w0 w)(hgx:w0.heap.size<=gx)(hP:∀ b,w0.heap.size<=b->Pn b) :
  Code.wp Tryz.prog (.block 5 (.loop aC0)) (PN (.slice Al l.length cl) g2 g3 n i k gx Pn w0) a w:=by
 obtain ⟨m,hm⟩:∃ m:Nat,k / 24 % 4=(m:Int):=⟨(k / 24 % 4).toNat,by omega⟩;have hm3:m<=3:=by omega
 refine wp_block ?_;refine wp_loop (fun a' w'=>∃ (j:Nat) (kv:Value) (ks:List Int),G8 a' (.slice Al l.length cl) g2 g3 n i k gx∧j<=m∧a'.eval (.tmp 9)=.int .i64 (j:Int)∧ks.length=j∧nP gx w0.heap.size 3 name (.slice none 0 0) (.slice none 0 0) kv [] [] ks w0 w') (fun a' _=>m - (intOf (a'.eval (.tmp 9))).toNat) ⟨0,_,[],hG,Nat.zero_le _,e9,rfl,hst⟩ ?_;clear hG e9 hst;rintro a w ⟨j,kv,ks,hG,hj,e9,hkl,hst⟩;obtain ⟨A7,c7,e7,-,-,-⟩:=Sl.of_own hst.ko;subst e7;rw [hkl] at hst;have hsw:=hst.ext.size;refine wp_seq (wp_seq (aKp hG.e6 e9 hk hG.sz ?_))
 by_cases hjm:j<m
 ·refine wp_cond_true (by simp [vp,zp,hG.sz];omega) (wp_skip ?_)
  refine wp_seq (wp_block (aKn (gx:=gx) (B:=w0.heap.size) (ks:=ks) (j:=j) (i:=i) (R:=fun n=>0<=n∧n<(i:Int)) (by simp [zp,hG.sz]) ?_ (by simp [vp,hG.e0]) (by simp [vp,hG.e5]) (by simp [vp,hG.e7]) (by simp [vp,e9]) hst.box rfl hst.gk (hst.ko.len_cast hkl rfl) (by omega) (by omega) (tX l i j Ql _ w.drew (hl.ext (hst.ext.trans' (Ext.refl w).drew')) (by omega) (by omega) (by omega)) ?_))
  ·intro c a w d v h
   exact absurd h.1 (by simp)
  intro nk A5 c5 w5 hnk ho5 hf5 hb5;refine aKo (j:=j) (by simp [vp,e9]) (by omega) (by simp [zp,hG.sz]) ?_;refine ⟨⟨j+1,_,ks ++ [nk],(by (iterate 17 refine .put ?_ (by omega));exact hG),by omega,by simp [vp,zp,hG.sz],by rw [List.length_append,hkl];rfl,(hst.ext_ ((Ext.refl w).drew'.alloc' _)).kid (by unfold I64;omega) hgx (ho5.len_cast (by rw [hkl]) rfl) hf5 (hb5.elim .inl (fun h=>.inr ⟨_,h,Nat.le_refl _⟩))⟩,?_⟩;simp [vp,zp,hG.sz,e9,intOf];omega
 ·obtain rfl:j=m:=by omega
  refine wp_cond_false (by simp [vp,zp,hG.sz];omega) (wp_exit ?_);exact ⟨rfl,(by (iterate 5 refine .put ?_ (by omega));exact hG),hst.node hP (by simp [I64]) hnm (by simp) (by simp) (by rw [hkl];omega) (fun _=>by rw [hkl];omega)⟩
theorem aVw (hG:G8 a (.slice Al l.length cl) g2 g3 n i k gx)(e8:a.eval (.tmp 8)=.int .i64 ((0:Nat):Int))(hk:0<=k∧k<1000000)(hi:1<=i)(hi2:i<=1000)(hl:bT w0 Ql (.slice Al l.length cl) l)
  (hst:nP gx w0.heap.size 2 ⟨#[]⟩ (.slice none 0 0) (.slice none 0 0) (.slice none 0 0) [] [] [] w0 w)(hgx:w0.heap.size<=gx)(hP:∀ b,w0.heap.size<=b->Pn b) :
  Code.wp Tryz.prog (.block 3 (.loop aE4)) (PN (.slice Al l.length cl) g2 g3 n i k gx Pn w0) a w:=by
 obtain ⟨m,hm⟩:∃ m:Nat,k / 8 % 4=(m:Int):=⟨(k / 8 % 4).toNat,by omega⟩;have hm3:m<=3:=by omega
 refine wp_block ?_;refine wp_loop (fun a' w'=>∃ (j:Nat) (wv lv kv:Value) (ws:List Int) (ls:List ByteArray) (ks:List Int),G8 a' (.slice Al l.length cl) g2 g3 n i k gx∧j<=m+1∧a'.eval (.tmp 8)=.int .i64 (j:Int)∧ws.length=j∧ks.length=j∧ls.length<=j∧nP gx w0.heap.size 2 ⟨#[]⟩ wv lv kv ws ls ks w0 w') (fun a' _=>m+1 - (intOf (a'.eval (.tmp 8))).toNat) ⟨0,_,_,_,[],[],[],hG,Nat.zero_le _,e8,rfl,rfl,Nat.zero_le _,hst⟩ ?_;clear hG e8 hst;rintro a w ⟨j,wv,lv,kv,ws,ls,ks,hG,hj,e8,hwl,hkl,hll,hst⟩;obtain ⟨A4,c4,e4,-,-,-⟩:=Sl.of_own hst.wo;obtain ⟨A5,c5,e5,-,-,-⟩:=Sl.of_own hst.lo;obtain ⟨A7,c7,e7,-,-,-⟩:=Sl.of_own hst.ko;subst e4 e5 e7;rw [hwl,hkl] at hst;have hsw:=hst.ext.size;refine wp_seq (wp_seq (aKx hG.e6 e8 hk hG.sz ?_))
 by_cases hjm:j<=m
 ·refine wp_cond_true (by simp [vp,zp,hG.sz];omega) (wp_skip ?_)
  have hpp:=kJ (l:=l) (i:=(i:Int)+(j:Int)) (m:=5) (by omega);have hpk:=kK l ((i:Int)+(j:Int)) 5 Ql _ w.drew (hl.ext (hst.ext.trans' (Ext.refl w).drew')) (by unfold I64;omega) (by omega) (by omega);generalize pick l ((i:Int)+(j:Int)) 5=p at *;refine wp_seq (wp_block (wp_seq (aKw (gx:=gx) (B:=w0.heap.size) (ks:=ws) (p:=p) (j:=j) (i:=i) (by simp [zp,hG.sz]) ?_ (by simp [vp,hG.e0]) (by simp [vp,hG.e5]) (by simp [vp,hG.e7]) (by simp [vp,e8]) hst.box rfl hst.gw (hst.wo.len_cast hwl rfl) (by omega) (by omega) (by omega) hpp hpk ?_)))
  ·intro c a w d v h
   exact absurd h.1 (by simp)
  intro A8 c8 w8 ho8 hf8 hb8;have st1:=(hst.ext_ ((Ext.refl w).drew'.alloc' _)).weight (z:=1+p) (by unfold I64;omega) hgx (ho8.len_cast (by rw [hwl]) rfl) hf8 (hb8.elim .inl (fun h=>.inr ⟨_,h,Nat.le_refl _⟩));refine wp_seq ?_;generalize w8.setCell ⟨gx,4,none⟩ (.slice A8 (j+1) c8)=wy at *;have hs1:=st1.ext.size;refine aKv (gx:=gx) (B:=w0.heap.size) (ks:=ks) (j:=j) (i:=i) (R:=fun n=>0<=n∧n<(i:Int)) (by simp [zp,hG.sz]) ?_ (by simp [vp,hG.e0]) (by simp [vp,hG.e5]) (by simp [vp,hG.e7]) (by simp [vp,e8]) st1.box rfl st1.gk (st1.ko.len_cast hkl rfl) (by omega) (by omega) (tX l i j Ql _ wy.drew (hl.ext (st1.ext.trans' (Ext.refl wy).drew')) (by omega) (by omega) (by omega)) ?_
  ·intro c a w d v h
   exact absurd h.1 (by simp)
  intro nk A9 c9 w9 hnk ho9 hf9 hb9;have st2:=(st1.ext_ ((Ext.refl wy).drew'.alloc' _)).kid (z:=nk) (by unfold I64;omega) hgx (ho9.len_cast (by rw [hkl]) rfl) hf9 (hb9.elim .inl (fun h=>.inr ⟨_,h,Nat.le_refl _⟩));refine wp_seq ?_;generalize w9.setCell ⟨gx,7,none⟩ (.slice A9 (j+1) c9)=wz at *;have hs2:=st2.ext.size;refine aKu (k:=k) (by simp [vp,hG.e6]) hk (by simp [zp,hG.sz]) ?_
  by_cases hq:0<k / 32 % 3
  ·refine wp_cond_true (by simp [vp,zp,hG.sz];omega) ?_
   refine aKt (gx:=gx) (B:=w0.heap.size) (ls:=ls) (j:=j) (k:=k) (by simp [zp,hG.sz]) ?_ (by simp [vp,hG.e6]) (by simp [vp,hG.e7]) (by simp [vp,e8]) st2.box rfl st2.gl st2.lo (by omega) (by omega) (by omega) hk ?_
   ·intro c a w d v h
    exact absurd h.1 (by simp)
   intro z A6 c6 w6 hz ho6 hf6 hb6;have st3:=(st2.ext_ (((Ext.refl wz).drew'.alloc' _).alloc' _)).label (z:=z) hz hgx ho6 hf6 (hb6.elim .inl (fun h=>.inr ⟨_,h,Nat.le_refl _⟩));refine aC3 (j:=j) (by simp [vp,e8]) (by omega) (by simp [zp,hG.sz]) ?_;refine ⟨⟨j+1,_,_,_,ws ++ [1+p],ls ++ [z],ks ++ [nk],(by (iterate 45 refine .put ?_ (by omega));exact hG),by omega,by simp [vp,zp,hG.sz],by rw [List.length_append,hwl];rfl,by rw [List.length_append,hkl];rfl,by rw [List.length_append];simp;omega,st3⟩,?_⟩;simp [vp,zp,hG.sz,e8,intOf];omega
  ·refine wp_cond_false (by simp [vp,zp,hG.sz];omega) (wp_skip ?_)
   refine aC3 (j:=j) (by simp [vp,e8]) (by omega) (by simp [zp,hG.sz]) ?_;refine ⟨⟨j+1,_,_,_,ws ++ [1+p],ls,ks ++ [nk],(by (iterate 32 refine .put ?_ (by omega));exact hG),by omega,by simp [vp,zp,hG.sz],by rw [List.length_append,hwl];rfl,by rw [List.length_append,hkl];rfl,by omega,st2⟩,?_⟩;simp [vp,zp,hG.sz,e8,intOf];omega
 ·obtain rfl:j=m+1:=by omega
  refine wp_cond_false (by simp [vp,zp,hG.sz];omega) (wp_exit ?_);exact ⟨rfl,(by (iterate 5 refine .put ?_ (by omega));exact hG),hst.node hP (by simp [I64]) (by decide) (by rw [hwl];omega) (by omega) (by rw [hkl];omega) (fun h=>by omega)⟩
end
noncomputable abbrev aCp:Code:=.block 2 (.seq aP0 (.cond (.tmp 51) aPz (.seq aPy (.cond (.tmp 57) (.seq aPx (.seq aPw (.seq aPv (.cond (.tmp 74) aPu .skip)))) (.seq aPt (.cond (.tmp 83) (.seq aPs (.block 3 (.loop aE4))) (.seq aPl (.cond (.tmp 129) (.seq aPk (.seq aPj (.block 5 (.loop aC0)))) aP1))))))))
noncomputable abbrev aCo:Code:=.seq aPf (.seq aPe (.seq aPd (.seq aPc (.cond (.tmp 169) aPb aPa))))
noncomputable abbrev aDb:Code:=.seq (.seq aUz (.cond (.tmp 16) .skip (.exit 0))) (.seq (.block 1 (.seq aTl (.seq aTk (.seq (.seq aSy (.cond (.tmp 32) aTj .skip)) (.seq (.seq aMt (.cond (.tmp 39) aMs .skip)) (.seq (.seq aMr aCp) aCo)))))) aUy)
noncomputable abbrev aRw:Code:=.seq aU1 (.seq aU0 (.seq aTn (.seq (.seq aTm (.block 0 (.loop aDb))) (.seq aHf .ret))))
theorem aT8:Tryz.f8.body=some aRw:=by kernel_rfl
theorem nK {P:Program}{c:Code}{id:Nat}{R Q:Exit->Act->World->Prop}{a:Act}{w:World}(h:Code.wp P c R a w)(hR:∀ e a w,R e a w->e=.normal)(hq:∀ a w,R .normal a w->Q .normal a w):Code.wp P c (Exit.inBlock id Q) a w :=
 wp_mono h (fun e a w r=>by have:=hR e a w r;subst this;exact hq a w r)
section
variable {a:Act}{w:World}{l:List Int}{Ql:Nat->Prop}{Al:Option Addr}{cl g2 g3 n i gx:Nat}{k:Int}{w0:World}{Pn:Nat->Prop}
theorem PN.norm {vl:Value}:∀ e a w,PN vl g2 g3 n i k gx Pn w0 e a w->e=.normal:=fun _ _ _ h=>h.1
theorem rT {lo hi:Int}(h1:-10<=lo∧lo<=10)(h2:-10<=hi∧hi<=1000000000)(hb:Blk w gx 87 #[.int .i64 1,.string ⟨#[]⟩,.int .i64 lo,.int .i64 hi,.slice none 0 0,.slice none 0 0,.slice none 0 0,.slice none 0 0,.int .i64 0,.int .i64 0,.string ⟨#[]⟩,.slice none 0 0])(hE:Ext w0 w):xC gx Pn w0 w:=by
 refine ⟨⟨1,⟨#[]⟩,lo,hi,[],[],[],[],.mk 0 0 ⟨#[]⟩ []⟩,⟨none,0,none,0,none,0,none,0,none,0⟩,hb,⟨by simp [I64],by show (0:Nat)<=_;omega,?_,?_,bT.nil,qT.nil,cB.nil,bT.nil,VAt.noKids (by simp [I64]) (by simp [I64]) (by decide)⟩,⟨by simp,by simp,by simp,by simp,by simp [gsz,jO],by simp⟩,by simp,hE⟩
 ·simp only [I64];omega
 ·simp only [I64];omega
theorem sw8 {kk:Int}{W0 i3:Nat}{A3:Option Addr}{c3:Nat}{t:List GN}{xs:List Value}(hG:G8 a (.slice Al l.length cl) g2 g3 n i k gx)(e45:a.eval (.tmp 45)=.int .i64 kk)(hkk:0<=kk∧kk<=4)(hk2:2<=kk->2<=i)(hk:0<=k∧k<1000000)(hi2:i<=100)(hl:bT w0 Ql (.slice Al l.length cl) l)
  (hbx:Blk w gx 87 #[.int .i64 kk,.string ⟨#[]⟩,.int .i64 0,.int .i64 0,.slice none 0 0,.slice none 0 0,.slice none 0 0,.slice none 0 0,.int .i64 0,.int .i64 0,.string ⟨#[]⟩,.slice none 0 0])(hx0:Ext w0 w)(hgx:gx=w0.heap.size)(hs0:w.heap.size=w0.heap.size+1)(hW0:W0<=w0.heap.size)
  (htl:t.length=i)(hgen:fJ t)(hb3:Blk w0 g3 25 #[.slice A3 i c3])(hown:w0.ownsRow W0 87 12 (.slice A3 i c3) i xs)(hr:RL (RN w0 (aFf W0 w0 (.slice A3 i c3))) t xs) :
  Code.wp Tryz.prog aCp (PN (.slice Al l.length cl) g2 g3 n i k gx (fun b=>W0<=b) w0) a w:=by
 have hgl:w0.heap.size<=gx:=by omega
 refine wp_block ?_;refine wp_seq (aK6 e45 hG.sz ?_)
 by_cases h0:kk=0
 ·subst h0
  refine wp_cond_true (by simp [vp,zp,hG.sz]) ?_;refine aK5 (k:=k) (gx:=gx) (by simp [vp,hG.e6]) (by simp [vp,hG.e7]) hk hbx rfl (zP (k / 8) w (by omega) (by omega)) (by simp [zp,hG.sz]) ?_;intro y A c w2 hy hg2 hx2;have hfin:=aR [.int .i64 y.kind,.int .i64 y.n,.string y.s,.slice A y.kids.length c] 8 (hbx.ext hx2) (by simp);have hE:Ext w0 (w2.setCells gx 8 [.int .i64 y.kind,.int .i64 y.n,.string y.s,.slice A y.kids.length c]):=((Fr.of_ext (M:=fun _=>False) (hx0.trans' hx2)).setCells _ 8 (.inr hgl)).ext;have hz:w2.heap.size<=(w2.setCells gx 8 [.int .i64 y.kind,.int .i64 y.n,.string y.s,.slice A y.kids.length c]).heap.size:=by simp [World.setCells,World.setCell]
  have hV:=hy.carry (Q:=fun b=>W0<=b∧b<(w2.setCells gx 8 [.int .i64 y.kind,.int .i64 y.n,.string y.s,.slice A y.kids.length c]).heap.size∧b ≠ gx) (aD.setCells (Q:=fun b=>w.heap.size<=b) (by show ¬ w.heap.size<=gx;omega) [.int .i64 y.kind,.int .i64 y.n,.string y.s,.slice A y.kids.length c] 8 (fun _ _ _=>rfl)) (fun b hb h=>⟨by omega,by omega,by omega⟩);exact ⟨rfl,(by (iterate 6 refine .put ?_ (by omega));exact hG),aEe (B:=W0) hfin hE hg2 hW0 hV⟩
 refine wp_cond_false (by simp [vp,zp,hG.sz,h0]) ?_;refine wp_seq (aK4 (kk:=kk) (by simp [vp,e45]) (by simp [zp,hG.sz]) ?_)
 by_cases h1:kk=1
 ·subst h1
  refine wp_cond_true (by simp [vp,zp,hG.sz]) ?_;refine wp_seq (aK3 (k:=k) (gx:=gx) (by simp [vp,hG.e6]) (by simp [vp,hG.e7]) hbx rfl hk (by simp [zp,hG.sz]) ?_);have b1:=hbx.set_ 2 (.int .i64 (k / 8 % 7 - 3));have x1:=hx0.setCell' (p:=⟨gx,2,none⟩) hgl (.int .i64 (k / 8 % 7 - 3));generalize w.setCell ⟨gx,2,none⟩ (.int .i64 (k / 8 % 7 - 3))=w1 at *;refine wp_seq (aK2 (k:=k) (gx:=gx) (z:=k / 8 % 7 - 3) (by simp [vp,hG.e6]) (by simp [vp,hG.e7]) b1 rfl rfl (by omega) hk (by simp [zp,hG.sz]) ?_);have b2:=b1.set_ 3 (.int .i64 (k / 8 % 7 - 3+k / 56 % 5));have x2:=x1.setCell' (p:=⟨gx,3,none⟩) hgl (.int .i64 (k / 8 % 7 - 3+k / 56 % 5));generalize w1.setCell ⟨gx,3,none⟩ (.int .i64 (k / 8 % 7 - 3+k / 56 % 5))=w2 at *;refine wp_seq (aK1 (k:=k) (by simp [vp,hG.e6]) hk (by simp [zp,hG.sz]) ?_)
  by_cases hz:k / 280 % 19=0
  ·refine wp_cond_true (by simp [vp,zp,hG.sz,hz]) ?_
   refine aK0 (k:=k) (gx:=gx) (z:=k / 8 % 7 - 3) (by simp [vp,hG.e6]) (by simp [vp,hG.e7]) b2 rfl rfl (by omega) hk (by simp [zp,hG.sz]) ?_;have b3:=b2.set_ 3 (.int .i64 (k / 8 % 7 - 3+1000000*(k % 90+1)));have x3:=x2.setCell' (p:=⟨gx,3,none⟩) hgl (.int .i64 (k / 8 % 7 - 3+1000000*(k % 90+1)));exact ⟨rfl,(by (iterate 28 refine .put ?_ (by omega));exact hG),rT (by omega) (by omega) b3 x3⟩
  ·refine wp_cond_false (by simp [vp,zp,hG.sz,hz]) (wp_skip ?_)
   exact ⟨rfl,(by (iterate 20 refine .put ?_ (by omega));exact hG),rT (by omega) (by omega) b2 x2⟩
 refine wp_cond_false (by simp [vp,zp,hG.sz,h1]) ?_;refine wp_seq (aKz (kk:=kk) (by simp [vp,e45]) (by simp [zp,hG.sz]) ?_)
 by_cases h2:kk=2
 ·subst h2
  have hi:=hk2 (by omega);refine wp_cond_true (by simp [vp,zp,hG.sz]) ?_;refine wp_seq (aKy (by simp [zp,hG.sz]) ?_);exact nK (aVw (by (iterate 7 refine .put ?_ (by omega));exact hG) (by simp [vp,zp,hG.sz]) hk (by omega) (by omega) hl (nP.start hbx hx0 (Nat.le_refl _)) hgl (fun b hb=>by omega)) PN.norm (fun _ _ h=>h)
 refine wp_cond_false (by simp [vp,zp,hG.sz,h2]) ?_;refine wp_seq (aKs (kk:=kk) (by simp [vp,e45]) (by simp [zp,hG.sz]) ?_)
 by_cases h3:kk=3
 ·subst h3
  have hi:=hk2 (by omega);refine wp_cond_true (by simp [vp,zp,hG.sz]) ?_;refine wp_seq (aKr (k:=k) (gx:=gx) (by simp [vp,hG.e6]) (by simp [vp,hG.e7]) hk hbx rfl (by simp [zp,hG.sz]) ?_);intro z hz;have b1:=(hbx.alloc (.cells #[.string ⟨#[]⟩,.string ⟨#[80,97,105,114]⟩,.string ⟨#[]⟩] 9)).set_ 1 (.string z);have x1:=(hx0.alloc' (.cells #[.string ⟨#[]⟩,.string ⟨#[80,97,105,114]⟩,.string ⟨#[]⟩] 9)).setCell' (p:=⟨gx,1,none⟩) hgl (.string z);refine wp_seq (aKq (by simp [zp,hG.sz]) ?_);exact nK (aVi (by (iterate 16 refine .put ?_ (by omega));exact hG) (by simp [vp,zp,hG.sz]) hk (by omega) (by omega) hl hz (nP.start b1 x1 (Nat.le_refl _)) hgl (fun b hb=>by omega)) PN.norm (fun _ _ h=>h)
 refine wp_cond_false (by simp [vp,zp,hG.sz,h3]) ?_;obtain rfl:kk=4:=by omega
 have hi:=hk2 (by omega);have hnd:Nds w (fun b=>W0<=b∧b<w0.heap.size) (.slice A3 i c3) t:=Lst.of_own ((hown.ext_ hx0).len_cast htl.symm rfl) (hr.move qC (aD.of_ext hx0) (fun b hb h=>⟨h.1,h.2.1⟩)) (by rw [htl];omega) (fun b hb=>⟨hown.block_ge hb,hown.block_lt hb⟩);have hc:=aIi t l k (fun b=>W0<=b∧b<w0.heap.size) Ql (.slice A3 i c3) (.slice Al l.length cl) w hgen (by omega) (by omega) (by omega) (by omega) (fun b hb=>by omega) hnd (hl.ext hx0);rw [htl] at hc;refine aK7 (k:=k) (gx:=gx) (g3:=g3) (i:=i) (P:=fun b=>W0<=b∧b<w0.heap.size) (by simp [vp,hG.e0]) (by simp [vp,hG.e3]) (by simp [vp,hG.e5]) (by simp [vp,hG.e6]) (by simp [vp,hG.e7]) hbx rfl (hb3.ext hx0) hc (by simp [zp,hG.sz]) ?_;intro x na w2 hx1 hsm hk3 hx2;have hfin:=aR (aE x na) 0 (hbx.ext hx2) (by simp [aE]);have hE:Ext w0 (w2.setCells gx 0 (aE x na)):=((Fr.of_ext (M:=fun _=>False) (hx0.trans' hx2)).setCells _ 0 (.inr hgl)).ext;have hz:w2.heap.size<=(w2.setCells gx 0 (aE x na)).heap.size:=by simp [World.setCells,World.setCell]
 have hs2:=hx2.size;have hnew:¬ New (fun b=>W0<=b∧b<w0.heap.size) w.heap.size gx:=by rintro (h | h) <;> omega
 have hN:NAt (w2.setCells gx 0 (aE x na)) (fun b=>W0<=b∧b<(w2.setCells gx 0 (aE x na)).heap.size∧b ≠ gx) x na:=hx1.carry (aD.setCells hnew _ 0 (fun _ _ _=>rfl)) (fun b hb h=>by
  rcases h with h | h
  ·exact ⟨h.1,by omega,by omega⟩
  ·exact ⟨by omega,by omega,by omega⟩)
 exact ⟨rfl,(by (iterate 13 refine .put ?_ (by omega));exact hG),x,na,hfin,hN,hsm,fun h=>absurd h hk3,hE⟩
def PT (vl:Value)(g2 g3 n i:Nat)(W:World):Exit->Act->World->Prop:=fun e a w=>e=.normal∧F8 a vl g2 g3 n i∧lL n g3 W (.int .i64 ((i:Int)+1)) w
theorem aNd {base base':Nat}{e:TypeId}{size:Nat}{v:Value}{n:Nat}{xs:List Value}(h:w.ownsRow base e size v n xs)(hb:base'<=base):w.ownsRow base' e size v n xs:=by
 refine ⟨h.1,?_⟩;rcases h.2 with h3 | ⟨G,cap,cur,h4,h5,h6⟩
 ·exact .inl h3
 ·exact .inr ⟨G,cap,cur,h4,by omega,h6⟩
theorem tl8 {vl:Value}{W:World}{A3:Option Addr}{c3:Nat}{t:List GN}{xs:List Value}(hG:G8 a vl g2 g3 n i k gx)(hk:0<=k∧k<1000000)(hin:i<n)(hn:n<=14)(hg3:g3<W.heap.size)(hF:Fr (fun b=>b=g3) W w0)
  (htl:t.length=i)(hgen:fJ t)(hb3:Blk w0 g3 25 #[.slice A3 i c3])(hown:w0.ownsRow W.heap.size 87 12 (.slice A3 i c3) i xs)(hr:RL (RN w0 (aFf W.heap.size w0 (.slice A3 i c3))) t xs)(_:w0.heap.size<=gx)
  (hst:xC gx (fun b=>W.heap.size<=b) w0 w):Code.wp Tryz.prog aCo (PT vl g2 g3 n i W) a w:=by
 obtain ⟨x,na,hbx,hN,hsm,hk3,hE⟩:=hst;have hs0:=hE.size;have hsW:=hF.size;refine wp_seq (aKm hG.sz ?_);have b5:=(Blk.new w 25 #[.slice none 0 0]).set_ 0 (.slice none 0 0);have x5:Ext w ((w.alloc (.cells #[.slice none 0 0] 25)).setCell ⟨w.heap.size,0,none⟩ (.slice none 0 0)):=((Ext.refl w).alloc' _).setCell' (p:=⟨w.heap.size,0,none⟩) (Nat.le_refl _) _;have s5:((w.alloc (.cells #[.slice none 0 0] 25)).setCell ⟨w.heap.size,0,none⟩ (.slice none 0 0)).heap.size=w.heap.size+1:=by simp [World.setCell]
 refine wp_seq ?_;generalize (w.alloc (.cells #[.slice none 0 0] 25)).setCell ⟨w.heap.size,0,none⟩ (.slice none 0 0)=W5 at *
 have hsl:Sl W5 (fun _=>True) 12 A3 i xs:=by
  obtain ⟨A',c',e',-,-,h3⟩:=Sl.of_own (hown.ext_ (hE.trans' x5));injection e' with e1 e2 e3;subst e1;exact h3 _ (fun _ _=>trivial)
 refine aKl (g3:=g3) (g10:=w.heap.size) (B:=W5.heap.size) (i:=i) (T:=fun _=>True) (by simp [vp,hG.e3]) (by simp [vp,zp,hG.sz]) b5 (hb3.ext (hE.trans' x5)) hsl (RN.one hr) (by omega) (Nat.le_refl _) (by simp [zp,hG.sz]) ?_;intro A5 c5 w5 ho5 hx5;have ne5:some w.heap.size ≠ (Value.slice A5 i c5).ownBlock:=fun e=>by have:=ho5.block_ge e.symm;omega
 have b6:=(b5.ext hx5).set_ 0 (.slice A5 i c5);have x6:Ext w (w5.setCell ⟨w.heap.size,0,none⟩ (.slice A5 i c5)):=(x5.trans' hx5).setCell' (p:=⟨w.heap.size,0,none⟩) (Nat.le_refl _) _;have o6:=fB ho5 (p:=⟨w.heap.size,0,none⟩) ne5 (.slice A5 i c5);have s6:W5.heap.size<=(w5.setCell ⟨w.heap.size,0,none⟩ (.slice A5 i c5)).heap.size:=by have:=hx5.size;simp [World.setCell];omega
 refine wp_seq ?_;generalize w5.setCell ⟨w.heap.size,0,none⟩ (.slice A5 i c5)=W6 at *;refine aKk (gx:=gx) (g10:=w.heap.size) (B:=W5.heap.size) (i:=i) (x:=x) (na:=na) (by simp [vp,hG.e7]) (by simp [vp,zp,hG.sz]) b6 (hbx.ext x6) o6 (fun e=>ne5 e) (by omega) s6 (by simp [zp,hG.sz]) ?_;intro A6 c6 w6 ho6 hf6;have ne6:some w.heap.size ≠ (Value.slice A6 (i+1) c6).ownBlock:=fun e=>by have:=ho6.block_ge e.symm;omega
 have x7':Ext w w6:=Fr.new_ext ((Fr.of_ext (x6.alloc' _)).trans hf6) (fun b hb=>by have:=o6.block_ge hb.symm;omega);have b7:=((b6.alloc (.cells (aE x na).toArray 87)).fr hf6 (fun e=>ne5 e)).set_ 0 (.slice A6 (i+1) c6);have x7:Ext w (w6.setCell ⟨w.heap.size,0,none⟩ (.slice A6 (i+1) c6)):=x7'.setCell' (p:=⟨w.heap.size,0,none⟩) (Nat.le_refl _) _;have o7:=fB ho6 (p:=⟨w.heap.size,0,none⟩) ne6 (.slice A6 (i+1) c6);have s7:W5.heap.size<=(w6.setCell ⟨w.heap.size,0,none⟩ (.slice A6 (i+1) c6)).heap.size:=by have:=hf6.size;simp at this;simp [World.setCell];omega
 refine wp_seq ?_;generalize w6.setCell ⟨w.heap.size,0,none⟩ (.slice A6 (i+1) c6)=W7 at *;have E7:=hE.trans' x7;have r7:RL (RN W7 (fun _=>True)) (t ++ [x]) (xs ++ aE x na):=(hr.move qC (aD.of_ext E7) (fun _ _ _=>trivial)).append (RL.one ⟨na,rfl,hN.carry (aD.of_ext x7) (fun _ _ _=>trivial)⟩);have hlen:(t ++ [x]).length=i+1:=by rw [List.length_append,htl];rfl
 have nd7:Nds W7 (fun _=>True) (.slice A6 (i+1) c6) (t ++ [x]):=Lst.of_own (o7.len_cast hlen.symm rfl) r7 (by rw [hlen];omega) (fun _ _=>trivial)
 refine aKj (g10:=w.heap.size) (v:=bW (t ++ [x])) (by simp [vp,zp,hG.sz]) b7 (iA (t ++ [x]) (fun _=>True) _ W7 nd7 (fun y hy=>by
  rcases List.mem_append.1 hy with hy | hy
  ·exact (hgen.small y hy).2.2.1
  ·simp only [List.mem_singleton] at hy;subst hy;exact hsm.2.2.1)) (by simp [zp,hG.sz]) ?_
 intro w8 hx8;have E8:=E7.trans' hx8;have s8:=hx8.size
 by_cases hv:bW (t ++ [x])=0
 ·refine wp_cond_true (by simp [vp,zp,hG.sz,hv]) ?_
  refine aKi (g10:=w.heap.size) (g3:=g3) (by simp [vp,zp,hG.sz]) (by simp [vp,hG.e3]) (b7.ext hx8) (hb3.ext E8) (by simp [zp,hG.sz]) ?_;refine ⟨rfl,(((((((((((((((((((hG.put (by omega)).put (by omega)).put (by omega)).put (by omega)).put (by omega)).put (by omega)).put (by omega)).put (by omega)).put (by omega)).put (by omega)).put (by omega)).put (by omega)).put (by omega)).put (by omega)).put (by omega)).put (by omega)).put (by omega)).put (by omega))).f,?_⟩;exact aA1 (m:=W5.heap.size) hin htl hg3 hF E8 (hb3.ext E8) (aNd (o7.ext_ hx8) (by omega)) (fun b hb=>o7.block_ge hb) hr (by omega) (by omega) (hN.carry (aD.of_ext (x7.trans' hx8)) (fun b hb h=>⟨h.1,by omega⟩)) (hgen.add hv hk3 hsm)
 ·refine wp_cond_false (by simp [vp,zp,hG.sz,hv]) ?_
  refine aKh (g3:=g3) (k:=k) (B:=W.heap.size) (i:=i) (by simp [vp,hG.e3]) (by simp [vp,hG.e6]) hk (hb3.ext E8) (hown.ext_ E8) (fun e=>by have:=hown.block_ge e.symm;omega) (by omega) (by omega) (by simp [zp,hG.sz]) ?_;intro A9 c9 w9 ho9 hf9 hb9;refine ⟨rfl,(((((((((((((((((((((((((((hG.put (by omega)).put (by omega)).put (by omega)).put (by omega)).put (by omega)).put (by omega)).put (by omega)).put (by omega)).put (by omega)).put (by omega)).put (by omega)).put (by omega)).put (by omega)).put (by omega)).put (by omega)).put (by omega)).put (by omega)).put (by omega)).put (by omega)).put (by omega)).put (by omega)).put (by omega)).put (by omega)).put (by omega)).put (by omega)).put (by omega))).f,?_⟩;exact aCn (z:=k % 5) (w6:=w8.alloc (.cells (aE (bF (k % 5)) ⟨none,0,none,0,none,0,none,0,none,0⟩).toArray 87)) (by omega) hin hn htl hg3 hF (E8.alloc' _) ((hb3.ext E8).alloc _) hown ho9 hf9 (hb9.elim .inl (fun h=>.inr ⟨_,h,Nat.le_refl _⟩)) hr hgen
def PL (vl:Value)(g2 g3 n:Nat)(W:World):Act->World->Prop:=fun a w=>∃ i:Nat,F8 a vl g2 g3 n i∧i<=n∧lL n g3 W (.int .i64 (i:Int)) w
theorem zA {iv:Value}{W:World}(h:lL n g3 W iv w){j:Nat}(e:iv=.int .i64 (j:Int)):∃ (t:List GN)(v:Value)(xs:List Value),t.length=j∧fJ t∧Blk w g3 25 #[v]∧w.ownsRow W.heap.size 87 12 v j xs∧RL (RN w (aFf W.heap.size w v)) t xs∧Fr (fun b=>b=g3) W w:=by
 obtain ⟨i,t,v,xs,h1,h2,h3,h4,h5,h6,h7,h8⟩:=h;rw [e] at h2;injection h2 with _ h2;have:i=j:=by omega
 subst this;exact ⟨t,v,xs,h3,h4,h5,h6,h7,h8⟩
theorem F8.g {vl:Value}(h:F8 a vl g2 g3 n i)(e6:a.eval (.tmp 6)=.int .i64 k)(e7:a.eval (.tmp 7)=.pointer (some ⟨gx,0,none⟩)):G8 a vl g2 g3 n i k gx:=⟨h.sz,h.df,h.e0,h.e2,h.e3,h.e4,h.e5,e6,e7⟩
structure K8 (W0:Nat)(w0 w:World)(gx:Nat)(kk:Int):Prop where
 bx:Blk w gx 87 #[.int .i64 kk,.string ⟨#[]⟩,.int .i64 0,.int .i64 0,.slice none 0 0,.slice none 0 0,.slice none 0 0,.slice none 0 0,.int .i64 0,.int .i64 0,.string ⟨#[]⟩,.slice none 0 0]
 x0:Ext w0 w
 gx0:gx=w0.heap.size
 s0:w.heap.size=w0.heap.size+1
theorem K8.set {W0:Nat}{kk:Int}(h:K8 W0 w0 w gx kk)(z:Int):K8 W0 w0 (w.setCell ⟨gx,0,none⟩ (.int .i64 z)) gx z :=
 ⟨h.bx.set_ 0 (.int .i64 z),h.x0.setCell' (p:=⟨gx,0,none⟩) (by have:=h.gx0;show w0.heap.size<=gx;omega) _,h.gx0,by have:=h.s0;simp [World.setCell];omega⟩
theorem tC (w:World)(g o:Nat):∀ us:List Value,(w.setCells g o us).heap.size=w.heap.size:=by
 intro us
 induction us generalizing w o with
 | nil=>rfl
 | cons u us ih=>rw [World.setCells,ih];simp [World.setCell]
noncomputable abbrev c12:Code:=.seq (.seq aMr aCp) aCo
theorem r12 {W:World}{kk:Int}{A3:Option Addr}{c3:Nat}{t:List GN}{xs:List Value}(hG:G8 a (.slice Al l.length cl) g2 g3 n i k gx)(hkk:0<=kk∧kk<=4)(hk2:2<=kk->2<=i)(hk:0<=k∧k<1000000)(hin:i<n)(hn:n<=14)(hl:bT w0 Ql (.slice Al l.length cl) l)(hK:K8 W.heap.size w0 w gx kk)(hg3:g3<W.heap.size)(hF:Fr (fun b=>b=g3) W w0)
  (htl:t.length=i)(hgen:fJ t)(hb3:Blk w0 g3 25 #[.slice A3 i c3])(hown:w0.ownsRow W.heap.size 87 12 (.slice A3 i c3) i xs)(hr:RL (RN w0 (aFf W.heap.size w0 (.slice A3 i c3))) t xs) :
  Code.wp Tryz.prog c12 (PT (.slice Al l.length cl) g2 g3 n i W) a w:=by
 have hs:=hF.size;refine wp_seq (wp_seq (aK8 hG.e7 hK.bx rfl hG.sz ?_));refine wp_mono (sw8 (kk:=kk) (i3:=0) ((hG.put (by omega)).put (by omega)) (by simp [vp,zp,hG.sz]) hkk hk2 hk (by omega) hl hK.bx hK.x0 hK.gx0 hK.s0 (by omega) htl hgen hb3 hown hr) ?_;rintro e a' w' ⟨rfl,hG',hst⟩
 exact wp_mono (tl8 hG' hk hin hn hg3 hF htl hgen hb3 hown hr (by rw [hK.gx0];exact Nat.le_refl _) hst) (fun e a w h=>by
  obtain ⟨rfl,h⟩:=h;exact ⟨rfl,h⟩)
noncomputable abbrev c10:Code:=.seq (.seq aMt (.cond (.tmp 39) aMs .skip)) c12
theorem r10 {W:World}{kk:Int}{A3:Option Addr}{c3:Nat}{t:List GN}{xs:List Value}(hG:G8 a (.slice Al l.length cl) g2 g3 n i k gx)(hkk:0<=kk∧kk<8)(hk5:kk ≠ 5)(hk2:2<=kk->2<=i)(hk:0<=k∧k<1000000)(hin:i<n)(hn:n<=14)(hl:bT w0 Ql (.slice Al l.length cl) l)(hK:K8 W.heap.size w0 w gx kk)(hg3:g3<W.heap.size)(hF:Fr (fun b=>b=g3) W w0)
  (htl:t.length=i)(hgen:fJ t)(hb3:Blk w0 g3 25 #[.slice A3 i c3])(hown:w0.ownsRow W.heap.size 87 12 (.slice A3 i c3) i xs)(hr:RL (RN w0 (aFf W.heap.size w0 (.slice A3 i c3))) t xs) :
  Code.wp Tryz.prog c10 (PT (.slice Al l.length cl) g2 g3 n i W) a w:=by
 refine wp_seq (wp_seq (aLa hG.e7 hK.bx rfl hG.sz ?_))
 by_cases h5:5<kk
 ·refine wp_cond_true (by simp [vp,zp,hG.sz,h5]) ?_
  refine aK9 (gx:=gx) (z:=kk) (by simp [vp,hG.e7]) hK.bx rfl (by omega) (by simp [zp,hG.sz]) ?_;exact r12 (kk:=kk - 4) (hG.put (by omega) |>.put (by omega) |>.put (by omega) |>.put (by omega) |>.put (by omega) |>.put (by omega) |>.put (by omega)) (by omega) (fun h=>hk2 (by omega)) hk hin hn hl (hK.set (kk - 4)) hg3 hF htl hgen hb3 hown hr
 ·refine wp_cond_false (by simp [vp,zp,hG.sz];omega) (wp_skip ?_)
  exact r12 (kk:=kk) (hG.put (by omega) |>.put (by omega) |>.put (by omega)) (by omega) hk2 hk hin hn hl hK hg3 hF htl hgen hb3 hown hr
noncomputable abbrev c6:Code:=.seq aTl (.seq aTk (.seq (.seq aSy (.cond (.tmp 32) aTj .skip)) c10))
theorem r6 {W:World}{A3:Option Addr}{c3:Nat}{t:List GN}{xs:List Value}(hG:F8 a (.slice Al l.length cl) g2 g3 n i)(hin:i<n)(hn:n<=14)(hl:bT w Ql (.slice Al l.length cl) l)(hg3:g3<W.heap.size)(hF:Fr (fun b=>b=g3) W w)
  (htl:t.length=i)(hgen:fJ t)(hb3:Blk w g3 25 #[.slice A3 i c3])(hown:w.ownsRow W.heap.size 87 12 (.slice A3 i c3) i xs)(hr:RL (RN w (aFf W.heap.size w (.slice A3 i c3))) t xs) :
  Code.wp Tryz.prog c6 (PT (.slice Al l.length cl) g2 g3 n i W) a w:=by
 have hk:=kJ (l:=l) (i:=1+(i:Int)) (m:=1000000) (by omega);have hpk:=kK l (1+(i:Int)) 1000000 Ql _ w hl (by unfold I64;omega) (by omega) (by omega);generalize pick l (1+(i:Int)) 1000000=k at *;refine wp_seq (aOw hG.e0 hG.e5 (by omega) hpk hG.sz ?_);refine wp_seq (aOv (k:=k) (by simp [vp,zp,hG.sz]) hk (by simp [zp,hG.sz]) ?_);have b0:=aR [.int .i64 (k % 8),.string ⟨#[]⟩,.int .i64 0,.int .i64 0,.slice none 0 0,.slice none 0 0,.slice none 0 0,.slice none 0 0,.int .i64 0,.int .i64 0,.string ⟨#[]⟩,.slice none 0 0] 0 (Blk.new w 87 #[.int .i64 0,.string ⟨#[]⟩,.int .i64 0,.int .i64 0,.slice none 0 0,.slice none 0 0,.slice none 0 0,.slice none 0 0,.int .i64 0,.int .i64 0,.string ⟨#[]⟩,.slice none 0 0]) (by simp)
 have hK:K8 W.heap.size w ((w.alloc (.cells #[.int .i64 0,.string ⟨#[]⟩,.int .i64 0,.int .i64 0,.slice none 0 0,.slice none 0 0,.slice none 0 0,.slice none 0 0,.int .i64 0,.int .i64 0,.string ⟨#[]⟩,.slice none 0 0] 87)).setCells w.heap.size 0 [.int .i64 (k % 8),.string ⟨#[]⟩,.int .i64 0,.int .i64 0,.slice none 0 0,.slice none 0 0,.slice none 0 0,.slice none 0 0,.int .i64 0,.int .i64 0,.string ⟨#[]⟩,.slice none 0 0]) w.heap.size (k % 8) :=
  ⟨b0,((Fr.of_ext (M:=fun _=>False) ((Ext.refl w).alloc' _)).setCells _ 0 (.inr (Nat.le_refl _))).ext,rfl,by rw [tC];simp⟩
 refine wp_seq (wp_seq ?_);generalize (w.alloc (.cells #[.int .i64 0,.string ⟨#[]⟩,.int .i64 0,.int .i64 0,.slice none 0 0,.slice none 0 0,.slice none 0 0,.slice none 0 0,.int .i64 0,.int .i64 0,.string ⟨#[]⟩,.slice none 0 0] 87)).setCells w.heap.size 0 [.int .i64 (k % 8),.string ⟨#[]⟩,.int .i64 0,.int .i64 0,.slice none 0 0,.slice none 0 0,.slice none 0 0,.slice none 0 0,.int .i64 0,.int .i64 0,.string ⟨#[]⟩,.slice none 0 0]=w1 at *
 by_cases h2:(i:Int)<2
 ·refine aKf (i:=i) (gx:=w.heap.size) (by simp [vp,hG.e5]) (by simp [vp,zp,hG.sz]) hK.bx rfl (aV7 h2) (by simp [zp,hG.sz]) ?_
  refine wp_cond_true (by simp [vp,zp,hG.sz]) ?_;refine aIt (k:=k) (gx:=w.heap.size) (by simp [vp,zp,hG.sz]) (by simp [vp,zp,hG.sz]) hK.bx rfl hk (by simp [zp,hG.sz]) ?_;refine r10 (w0:=w) (gx:=w.heap.size) (k:=k) (kk:=k / 8 % 2) (F8.g ?_ (by simp [vp,zp,hG.sz]) (by simp [vp,zp,hG.sz])) (by omega) (by omega) (by omega) hk hin hn hl (hK.set _) hg3 hF htl hgen hb3 hown hr;exact (by (iterate 20 refine .put ?_ (by omega));exact hG)
 ·by_cases h5:k % 8=5
  ·refine aC2 (i:=i) (gx:=w.heap.size) (by simp [vp,hG.e5]) (by simp [vp,zp,hG.sz]) hK.bx rfl (aV8 h2) (by simp [zp,hG.sz]) ?_
   refine wp_cond_true (by simp [vp,zp,hG.sz,h5]) ?_;refine aIt (k:=k) (gx:=w.heap.size) (by simp [vp,zp,hG.sz]) (by simp [vp,zp,hG.sz]) hK.bx rfl hk (by simp [zp,hG.sz]) ?_;refine r10 (w0:=w) (gx:=w.heap.size) (k:=k) (kk:=k / 8 % 2) (F8.g ?_ (by simp [vp,zp,hG.sz]) (by simp [vp,zp,hG.sz])) (by omega) (by omega) (by omega) hk hin hn hl (hK.set _) hg3 hF htl hgen hb3 hown hr;exact (by (iterate 20 refine .put ?_ (by omega));exact hG)
  ·refine aC2 (i:=i) (gx:=w.heap.size) (by simp [vp,hG.e5]) (by simp [vp,zp,hG.sz]) hK.bx rfl (aV8 h2) (by simp [zp,hG.sz]) ?_
   refine wp_cond_false (by simp [vp,zp,hG.sz,h5]) (wp_skip ?_);refine r10 (w0:=w) (gx:=w.heap.size) (k:=k) (kk:=k % 8) (F8.g ?_ (by simp [vp,zp,hG.sz]) (by simp [vp,zp,hG.sz])) (by omega) h5 (fun _=>by omega) hk hin hn hl hK hg3 hF htl hgen hb3 hown hr;exact (by (iterate 16 refine .put ?_ (by omega));exact hG)
theorem aT1 {R:Exit->Act->World->Prop}{W ws:World}(hn:n<=14)(hl:bT ws Ql (.slice Al l.length cl) l)(hx:Ext ws W)(hg3:g3<W.heap.size)(hg3':ws.heap.size<=g3)(h0:PL (.slice Al l.length cl) g2 g3 n W a w)
  (hR:∀ a' w',F8 a' (.slice Al l.length cl) g2 g3 n n->lL n g3 W (.int .i64 (n:Int)) w'->R .normal a' w'):Code.wp Tryz.prog (.block 0 (.loop aDb)) R a w:=by
 refine wp_block (wp_loop (PL (.slice Al l.length cl) g2 g3 n W) (fun a' _=>n - (intOf (a'.eval (.tmp 5))).toNat) h0 ?_);clear h0;rintro a wr ⟨i,hG,hin,hinv⟩;obtain ⟨t,v,xs,htl,hgen,hB,hown,hr,hF⟩:=zA hinv rfl;obtain ⟨A3,c3,e3,-,-,-⟩:=Sl.of_own hown;subst e3;refine wp_seq (wp_seq (aOy hG.e4 hG.e5 hG.sz ?_));have hEW:Ext ws wr:=Fr.new_ext ((Fr.of_ext hx).trans hF) (fun b hb=>by omega)
 by_cases hlt:i<n
 ·refine wp_cond_true (by simp [vp,zp,hG.sz];omega) (wp_skip ?_)
  refine wp_seq (wp_block ?_);refine wp_mono (r6 (l:=l) (Ql:=Ql) (((hG.put (by omega)).put (by omega)).put (by omega)) hlt hn (hl.ext hEW) hg3 hF htl hgen hB hown hr) ?_;rintro e a' w' ⟨rfl,hF',hinv'⟩;refine aOx (i:=i) hF'.e5 (by omega) hF'.sz ?_;refine ⟨⟨i+1,⟨by simp [zp,hF'.sz],hF'.df,by simp [vp,hF'.e0],by simp [vp,hF'.e2],by simp [vp,hF'.e3],by simp [vp,hF'.e4],by simp [vp,zp,hF'.sz]⟩,by omega,by simpa using hinv'⟩,?_⟩;simp [vp,zp,hF'.sz,hG.e5,intOf];omega
 ·obtain rfl:i=n:=by omega
  refine wp_cond_false (by simp [vp,zp,hG.sz]) (wp_exit ?_);exact hR _ _ (((hG.put (by omega)).put (by omega)).put (by omega)) hinv
theorem aVv {R:Exit->Act->World->Prop}{W ws:World}{vl:Value}(hn:n<=14)(hx:Ext ws W)(hg3:g3<W.heap.size)(hg3':ws.heap.size<g3)(hb2:Blk W ws.heap.size 25 #[.slice none 0 0])(hG:F8 a vl ws.heap.size g3 n n)(hinv:lL n g3 W (.int .i64 (n:Int)) w)
  (hQ:∀ a' w' A m c,a'.defers=[]->a'.eval (.tmp 2)=.pointer (some ⟨ws.heap.size,0,none⟩)->w'.cell? ⟨ws.heap.size,0,none⟩=some (.slice A m c)->qP ws (.returned (.agg #[.slice A m c])) w'->R .ret a' w'):Code.wp Tryz.prog (.seq aHf .ret) R a w:=by
 obtain ⟨t,v,xs,htl,hgen,hB,hown,hr,hF⟩:=zA hinv rfl;obtain ⟨A3,c3,e3,-,-,-⟩:=Sl.of_own hown;subst e3;have hEW:Ext ws w:=Fr.new_ext ((Fr.of_ext hx).trans hF) (fun b hb=>by omega);have b2r:=hb2.fr hF (by omega);refine wp_seq (aKg (g3:=g3) (g2:=ws.heap.size) hG.e3 hG.e2 hB b2r hG.sz ?_);refine wp_ret ?_
 have hnd:Nds (w.setCell ⟨ws.heap.size,0,none⟩ (.slice A3 n c3)) (fun b=>ws.heap.size<=b∧b<(w.setCell ⟨ws.heap.size,0,none⟩ (.slice A3 n c3)).heap.size) (.slice A3 n c3) t:=by
  have hkp:aD (fun b=>W.heap.size<=b) w (w.setCell ⟨ws.heap.size,0,none⟩ (.slice A3 n c3)):=aD.set (p:=⟨ws.heap.size,0,none⟩) (fun _ _ _=>rfl) _ (by show ¬ W.heap.size<=ws.heap.size;omega);have hz:(w.setCell ⟨ws.heap.size,0,none⟩ (.slice A3 n c3)).heap.size=w.heap.size:=by simp [World.setCell]
  have h1:Nds w (fun b=>W.heap.size<=b) (.slice A3 n c3) t:=Lst.of_own (hown.len_cast htl.symm rfl) (hr.move qC (fun _ _ _=>rfl) (fun b hb h=>h.1)) (by rw [htl];omega) (fun b hb=>hown.block_ge hb);exact h1.carry hkp (fun b hb h=>⟨by omega,by omega⟩)
 have hE:Ext ws (w.setCell ⟨ws.heap.size,0,none⟩ (.slice A3 n c3)):=hEW.setCell' (p:=⟨ws.heap.size,0,none⟩) (Nat.le_refl _) _;have hcell:(w.setCell ⟨ws.heap.size,0,none⟩ (.slice A3 n c3)).cell? ⟨ws.heap.size,0,none⟩=some (.slice A3 n c3):=(b2r.set_ 0 (.slice A3 n c3)).cell' 0 rfl;exact hQ _ _ _ _ _ hG.df (by simp [vp,hG.e2]) hcell ⟨A3,c3,t,by rw [htl],by rw [htl];exact hnd,hgen,by omega,hE⟩
end
theorem aOt (w:World):Blk (((w.alloc (.cells #[.slice none 0 0] 25)).alloc (.cells #[.slice none 0 0] 25)).setCell ⟨(w.alloc (.cells #[.slice none 0 0] 25)).heap.size,0,none⟩ (.slice none 0 0)) w.heap.size 25 #[.slice none 0 0]∧Blk (((w.alloc (.cells #[.slice none 0 0] 25)).alloc (.cells #[.slice none 0 0] 25)).setCell ⟨(w.alloc (.cells #[.slice none 0 0] 25)).heap.size,0,none⟩ (.slice none 0 0)) (w.alloc (.cells #[.slice none 0 0] 25)).heap.size 25 #[.slice none 0 0]∧Ext w (((w.alloc (.cells #[.slice none 0 0] 25)).alloc (.cells #[.slice none 0 0] 25)).setCell ⟨(w.alloc (.cells #[.slice none 0 0] 25)).heap.size,0,none⟩ (.slice none 0 0))∧(((w.alloc (.cells #[.slice none 0 0] 25)).alloc (.cells #[.slice none 0 0] 25)).setCell ⟨(w.alloc (.cells #[.slice none 0 0] 25)).heap.size,0,none⟩ (.slice none 0 0)).heap.size=w.heap.size+2∧(w.alloc (.cells #[.slice none 0 0] 25)).heap.size=w.heap.size+1:=by
 have h1:(w.alloc (.cells #[.slice none 0 0] 25)).heap.size=w.heap.size+1:=World.size_alloc _ _;have h2:((w.alloc (.cells #[.slice none 0 0] 25)).alloc (.cells #[.slice none 0 0] 25)).heap.size=w.heap.size+2:=by rw [World.size_alloc,h1]
 refine ⟨((Blk.new w 25 #[.slice none 0 0]).alloc (.cells #[.slice none 0 0] 25)).far (p:=⟨(w.alloc (.cells #[.slice none 0 0] 25)).heap.size,0,none⟩) (by show w.heap.size ≠ (w.alloc (.cells #[.slice none 0 0] 25)).heap.size;omega) _,(Blk.new (w.alloc (.cells #[.slice none 0 0] 25)) 25 #[.slice none 0 0]).set_ 0 (.slice none 0 0),(((Ext.refl w).alloc' _).alloc' _).setCell' (p:=⟨(w.alloc (.cells #[.slice none 0 0] 25)).heap.size,0,none⟩) (by show w.heap.size<=(w.alloc (.cells #[.slice none 0 0] 25)).heap.size;omega) _,?_,h1⟩;rw [<- h2];simp [World.setCell]
theorem aTi {R:Exit->Act->World->Prop}{a:Act}{w W:World}{g3:Nat}(l:List Int)(Q:Nat->Prop)(Al:Option Addr)(cl:Nat)(hl:bT w Q (.slice Al l.length cl) l)(hsz:a.tmps.size=181)(e0:a.eval (.tmp 0)=.slice Al l.length cl)(e2:a.eval (.tmp 2)=.pointer (some ⟨w.heap.size,0,none⟩))(e3:a.eval (.tmp 3)=.pointer (some ⟨g3,0,none⟩))(hdf:a.defers=[])
  (b2:Blk W w.heap.size 25 #[.slice none 0 0])(b3:Blk W g3 25 #[.slice none 0 0])(x1:Ext w W)(s1:W.heap.size=w.heap.size+2)(hg3:g3=w.heap.size+1)
  (hQ:∀ a' w' A n c,a'.defers=[]->a'.eval (.tmp 2)=.pointer (some ⟨w.heap.size,0,none⟩)->w'.cell? ⟨w.heap.size,0,none⟩=some (.slice A n c)->qP w (.returned (.agg #[.slice A n c])) w'->R .ret a' w'):Code.wp Tryz.prog (.seq aTn (.seq (.seq aTm (.block 0 (.loop aDb))) (.seq aHf .ret))) R a W:=by
 have hn:=kJ (l:=l) (i:=0) (m:=15) (by omega);have hpk:=kK l 0 15 Q _ W (hl.ext x1) (by unfold I64;omega) (by omega) (by omega);obtain ⟨n,hnn⟩:∃ n:Nat,pick l 0 15=(n:Int):=⟨(pick l 0 15).toNat,by omega⟩;rw [hnn] at hpk hn;refine wp_seq (aO0 e0 hpk hsz ?_);refine wp_seq (wp_seq (aOz (by simp [zp,hsz]) ?_));refine aT1 (Ql:=Q) (g2:=w.heap.size) (g3:=g3) (n:=n) (W:=W) (ws:=w) (by omega) hl x1 (by omega) (by omega) ⟨0,⟨by simp [zp,hsz],hdf,by simp [vp,e0],by simp [vp,e2],by simp [vp,e3],by simp [vp,zp,hsz],by simp [vp,zp,hsz]⟩,Nat.zero_le _,⟨0,[],.slice none 0 0,[],Nat.zero_le _,rfl,rfl,fJ.nil,b3,aX _ _ _ _,by simp [RL],Fr.refl _ _⟩⟩ ?_;intro a' w' hF hinv;exact aVv (by omega) x1 (by omega) (by omega) b2 hF hinv hQ
theorem aKb {R:Exit->Act->World->Prop}(l:List Int)(Q:Nat->Prop)(Al:Option Addr)(cl:Nat)(a:Act)(w:World)(hl:bT w Q (.slice Al l.length cl) l)(hsz:a.tmps.size=181)(e0:a.eval (.tmp 0)=.slice Al l.length cl)(hdf:a.defers=[])
  (hQ:∀ a' w' A n c,a'.defers=[]->a'.eval (.tmp 2)=.pointer (some ⟨w.heap.size,0,none⟩)->w'.cell? ⟨w.heap.size,0,none⟩=some (.slice A n c)->qP w (.returned (.agg #[.slice A n c])) w'->R .ret a' w'):Code.wp Tryz.prog aRw R a w:=by
 obtain ⟨b2,b3,x1,s1,g3⟩:=aOt w;refine wp_seq (aO2 hsz ?_);refine wp_seq (aO1 (by simp [zp,hsz]) ?_);exact aTi l Q Al cl hl (by simp [zp,hsz]) (by simp [vp,e0]) (by simp [vp,hsz]) (by simp [vp,zp,hsz]) hdf b2 b3 x1 s1 g3 hQ
theorem aF3 (l:List Int)(Q:Nat->Prop)(vl:Value)(w:World)(hl:bT w Q vl l):Calls Tryz.prog 8 #[vl] w (qP w):=by
 obtain ⟨Al,cl,rfl,hl1,hl2⟩:=hl.form;refine calls_of_wp Tryz.func8 aT8 (aKb l Q Al cl _ w hl ?_ ?_ rfl ?_)
 ·simp [Tryz.ntmps8]
 ·simp [Act.eval]
 ·intro a' w' A n c h1 h2 h3 h4
  refine bodyPost_ret (v:=.agg #[.slice A n c]) ?_ h1 h4;have h5:a'.tmps[2]?.getD undef=.pointer (some ⟨w.heap.size,0,none⟩):=by rw [<- h2];simp [Act.eval]
  simp [results,Tryz.results8,go_sem,h5,h3]
end Go.Proofs.YtkoeecdjijfjnaaGreat
