/- The loops and the switch of the generator Tree. Conditions: none. (printed by gen/lx.py) -/
import Derived.Test.YtkoeecdjijfjnaaGreatLW
namespace Go.Proofs.YtkoeecdjijfjnaaGreat
open Go.RowKit
structure F8 (a:Act)(vl:Value)(g2 g3 n i:Nat):Prop where
 sz:a.tmps.size=181
 df:a.defers=[]
 e0:a.eval (.tmp 0)=vl
 e2:a.eval (.tmp 2)=.pointer (some ⟨g2,0,none⟩)
 e3:a.eval (.tmp 3)=.pointer (some ⟨g3,0,none⟩)
 e4:a.eval (.tmp 4)=.int .i64 (n:Int)
 e5:a.eval (.tmp 5)=.int .i64 (i:Int)
theorem F8.put {a:Act}{vl:Value}{g2 g3 n i:Nat}(h:F8 a vl g2 g3 n i){d:Nat}{v:Value}(hd:6≤d):F8 (a.put (some d) v) vl g2 g3 n i :=
 ⟨by rw [zp];exact h.sz,h.df,by rw [vp,if_neg (by omega)];exact h.e0,by rw [vp,if_neg (by omega)];exact h.e2,by rw [vp,if_neg (by omega)];exact h.e3,by rw [vp,if_neg (by omega)];exact h.e4,by rw [vp,if_neg (by omega)];exact h.e5⟩
structure G8 (a:Act)(vl:Value)(g2 g3 n i:Nat)(k:Int)(gx:Nat):Prop where
 sz:a.tmps.size=181
 df:a.defers=[]
 e0:a.eval (.tmp 0)=vl
 e2:a.eval (.tmp 2)=.pointer (some ⟨g2,0,none⟩)
 e3:a.eval (.tmp 3)=.pointer (some ⟨g3,0,none⟩)
 e4:a.eval (.tmp 4)=.int .i64 (n:Int)
 e5:a.eval (.tmp 5)=.int .i64 (i:Int)
 e6:a.eval (.tmp 6)=.int .i64 k
 e7:a.eval (.tmp 7)=.pointer (some ⟨gx,0,none⟩)
theorem G8.put {a:Act}{vl:Value}{g2 g3 n i:Nat}{k:Int}{gx:Nat}(h:G8 a vl g2 g3 n i k gx){d:Nat}{v:Value}(hd:8≤d):G8 (a.put (some d) v) vl g2 g3 n i k gx :=
 ⟨by rw [zp];exact h.sz,h.df,by rw [vp,if_neg (by omega)];exact h.e0,by rw [vp,if_neg (by omega)];exact h.e2,by rw [vp,if_neg (by omega)];exact h.e3,by rw [vp,if_neg (by omega)];exact h.e4,by rw [vp,if_neg (by omega)];exact h.e5,by rw [vp,if_neg (by omega)];exact h.e6,by rw [vp,if_neg (by omega)];exact h.e7⟩
theorem G8.f {a:Act}{vl:Value}{g2 g3 n i:Nat}{k:Int}{gx:Nat}(h:G8 a vl g2 g3 n i k gx):F8 a vl g2 g3 n i:=⟨h.sz,h.df,h.e0,h.e2,h.e3,h.e4,h.e5⟩
def PN (vl:Value)(g2 g3 n i:Nat)(k:Int)(gx:Nat)(Pn:Nat→Prop)(w0:World):Exit→Act→World→Prop:=fun e a w=>e=.normal∧G8 a vl g2 g3 n i k gx∧NodeSt gx Pn w0 w
noncomputable abbrev seqBody:Code:=.seq (.seq r8_32 (.cond (.tmp 142) .skip (.exit 5))) (.seq (.block 6 r8_34) r8_33)
noncomputable abbrev choBody:Code:=.seq (.seq r8_23 (.cond (.tmp 89) .skip (.exit 3))) (.seq (.block 4 (.seq r8_25 (.seq r8_26 (.seq r8_27 (.cond (.tmp 115) r8_28 .skip))))) r8_24)
section
variable {a:Act}{w:World}{l:List Int}{Ql:Nat→Prop}{Al:Option Addr}{cl g2 g3 n i gx:Nat}{k:Int}{w0:World}{name:ByteArray}{Pn:Nat→Prop}
set_option maxHeartbeats 2000000 in
theorem seq8 (hG:G8 a (.slice Al l.length cl) g2 g3 n i k gx)(e9:a.eval (.tmp 9)=.int .i64 ((0:Nat):Int))(hk:0≤k∧k<1000000)(hi:1≤i)(hi2:i≤1000)(hl:Ints w0 Ql (.slice Al l.length cl) l)(hnm:name.size≤100)
  (hst:ChSt gx w0.heap.size 3 name (.slice none 0 0) (.slice none 0 0) (.slice none 0 0) [] [] [] w0 w)(hgx:w0.heap.size≤gx)(hP:∀ b,w0.heap.size≤b→Pn b) :
  Code.wp Tryz.prog (.block 5 (.loop seqBody)) (PN (.slice Al l.length cl) g2 g3 n i k gx Pn w0) a w:=by
 obtain ⟨m,hm⟩:∃ m:Nat,k / 24 % 4=(m:Int):=⟨(k / 24 % 4).toNat,by omega⟩
 have hm3:m≤3:=by omega
 refine wp_block ?_
 refine wp_loop (fun a' w'=>∃ (j:Nat) (kv:Value) (ks:List Int),G8 a' (.slice Al l.length cl) g2 g3 n i k gx∧j≤m∧a'.eval (.tmp 9)=.int .i64 (j:Int)∧ks.length=j∧ChSt gx w0.heap.size 3 name (.slice none 0 0) (.slice none 0 0) kv [] [] ks w0 w') (fun a' _=>m - (intOf (a'.eval (.tmp 9))).toNat) ⟨0,_,[],hG,Nat.zero_le _,e9,rfl,hst⟩ ?_
 clear hG e9 hst
 rintro a w ⟨j,kv,ks,hG,hj,e9,hkl,hst⟩
 obtain ⟨A7,c7,e7,-,-,-⟩:=Sl.of_own hst.ko
 subst e7
 rw [hkl] at hst
 have hsw:=hst.ext.size
 refine wp_seq (wp_seq (reg8_32 hG.e6 e9 hk hG.sz ?_))
 by_cases hjm:j<m
 ·refine wp_cond_true (by simp [vp,zp,hG.sz];omega) (wp_skip ?_)
  refine wp_seq (wp_block (reg8_34 (gx:=gx) (B:=w0.heap.size) (ks:=ks) (j:=j) (i:=i) (R:=fun n=>0≤n∧n<(i:Int)) (by simp [zp,hG.sz]) ?_ (by simp [vp,hG.e0]) (by simp [vp,hG.e5]) (by simp [vp,hG.e7]) (by simp [vp,e9]) hst.box rfl hst.gk (hst.ko.len_cast hkl rfl) (by omega) (by omega) (kid_any l i j Ql _ w.drew (hl.ext (hst.ext.trans' (Ext.refl w).drew')) (by omega) (by omega) (by omega)) ?_))
  ·intro c a w d v h
   exact absurd h.1 (by simp)
  intro nk A5 c5 w5 hnk ho5 hf5 hb5
  refine reg8_33 (j:=j) (by simp [vp,e9]) (by omega) (by simp [zp,hG.sz]) ?_
  refine ⟨⟨j+1,_,ks ++ [nk],(((((((((((((((((hG.put (by omega)).put (by omega)).put (by omega)).put (by omega)).put (by omega)).put (by omega)).put (by omega)).put (by omega)).put (by omega)).put (by omega)).put (by omega)).put (by omega)).put (by omega)).put (by omega)).put (by omega)).put (by omega)).put (by omega)),by omega,by simp [vp,zp,hG.sz],by rw [List.length_append,hkl];rfl,(hst.ext_ ((Ext.refl w).drew'.alloc' _)).kid (by unfold I64;omega) hgx (ho5.len_cast (by rw [hkl]) rfl) hf5 (hb5.elim .inl (fun h=>.inr ⟨_,h,Nat.le_refl _⟩))⟩,?_⟩
  simp [vp,zp,hG.sz,e9,intOf]
  omega
 ·obtain rfl:j=m:=by omega
  refine wp_cond_false (by simp [vp,zp,hG.sz];omega) (wp_exit ?_)
  exact ⟨rfl,(((((hG.put (by omega)).put (by omega)).put (by omega)).put (by omega)).put (by omega)),hst.node hP (by simp [I64]) hnm (by simp) (by simp) (by rw [hkl];omega) (fun _=>by rw [hkl];omega)⟩
set_option maxHeartbeats 2000000 in
theorem cho8 (hG:G8 a (.slice Al l.length cl) g2 g3 n i k gx)(e8:a.eval (.tmp 8)=.int .i64 ((0:Nat):Int))(hk:0≤k∧k<1000000)(hi:1≤i)(hi2:i≤1000)(hl:Ints w0 Ql (.slice Al l.length cl) l)
  (hst:ChSt gx w0.heap.size 2 ⟨#[]⟩ (.slice none 0 0) (.slice none 0 0) (.slice none 0 0) [] [] [] w0 w)(hgx:w0.heap.size≤gx)(hP:∀ b,w0.heap.size≤b→Pn b) :
  Code.wp Tryz.prog (.block 3 (.loop choBody)) (PN (.slice Al l.length cl) g2 g3 n i k gx Pn w0) a w:=by
 obtain ⟨m,hm⟩:∃ m:Nat,k / 8 % 4=(m:Int):=⟨(k / 8 % 4).toNat,by omega⟩
 have hm3:m≤3:=by omega
 refine wp_block ?_
 refine wp_loop (fun a' w'=>∃ (j:Nat) (wv lv kv:Value) (ws:List Int) (ls:List ByteArray) (ks:List Int),G8 a' (.slice Al l.length cl) g2 g3 n i k gx∧j≤m+1∧a'.eval (.tmp 8)=.int .i64 (j:Int)∧ws.length=j∧ks.length=j∧ls.length≤j∧ChSt gx w0.heap.size 2 ⟨#[]⟩ wv lv kv ws ls ks w0 w') (fun a' _=>m+1 - (intOf (a'.eval (.tmp 8))).toNat) ⟨0,_,_,_,[],[],[],hG,Nat.zero_le _,e8,rfl,rfl,Nat.zero_le _,hst⟩ ?_
 clear hG e8 hst
 rintro a w ⟨j,wv,lv,kv,ws,ls,ks,hG,hj,e8,hwl,hkl,hll,hst⟩
 obtain ⟨A4,c4,e4,-,-,-⟩:=Sl.of_own hst.wo
 obtain ⟨A5,c5,e5,-,-,-⟩:=Sl.of_own hst.lo
 obtain ⟨A7,c7,e7,-,-,-⟩:=Sl.of_own hst.ko
 subst e4 e5 e7
 rw [hwl,hkl] at hst
 have hsw:=hst.ext.size
 refine wp_seq (wp_seq (reg8_23 hG.e6 e8 hk hG.sz ?_))
 by_cases hjm:j≤m
 ·refine wp_cond_true (by simp [vp,zp,hG.sz];omega) (wp_skip ?_)
  have hpp:=pick_pos (l:=l) (i:=(i:Int)+(j:Int)) (m:=5) (by omega)
  have hpk:=pick_any l ((i:Int)+(j:Int)) 5 Ql _ w.drew (hl.ext (hst.ext.trans' (Ext.refl w).drew')) (by unfold I64;omega) (by omega) (by omega)
  generalize pick l ((i:Int)+(j:Int)) 5=p at *
  refine wp_seq (wp_block (wp_seq (reg8_25 (gx:=gx) (B:=w0.heap.size) (ks:=ws) (p:=p) (j:=j) (i:=i) (by simp [zp,hG.sz]) ?_ (by simp [vp,hG.e0]) (by simp [vp,hG.e5]) (by simp [vp,hG.e7]) (by simp [vp,e8]) hst.box rfl hst.gw (hst.wo.len_cast hwl rfl) (by omega) (by omega) (by omega) hpp hpk ?_)))
  ·intro c a w d v h
   exact absurd h.1 (by simp)
  intro A8 c8 w8 ho8 hf8 hb8
  have st1:=(hst.ext_ ((Ext.refl w).drew'.alloc' _)).weight (z:=1+p) (by unfold I64;omega) hgx (ho8.len_cast (by rw [hwl]) rfl) hf8 (hb8.elim .inl (fun h=>.inr ⟨_,h,Nat.le_refl _⟩))
  refine wp_seq ?_
  generalize w8.setCell ⟨gx,4,none⟩ (.slice A8 (j+1) c8)=wy at *
  have hs1:=st1.ext.size
  refine reg8_26 (gx:=gx) (B:=w0.heap.size) (ks:=ks) (j:=j) (i:=i) (R:=fun n=>0≤n∧n<(i:Int)) (by simp [zp,hG.sz]) ?_ (by simp [vp,hG.e0]) (by simp [vp,hG.e5]) (by simp [vp,hG.e7]) (by simp [vp,e8]) st1.box rfl st1.gk (st1.ko.len_cast hkl rfl) (by omega) (by omega) (kid_any l i j Ql _ wy.drew (hl.ext (st1.ext.trans' (Ext.refl wy).drew')) (by omega) (by omega) (by omega)) ?_
  ·intro c a w d v h
   exact absurd h.1 (by simp)
  intro nk A9 c9 w9 hnk ho9 hf9 hb9
  have st2:=(st1.ext_ ((Ext.refl wy).drew'.alloc' _)).kid (z:=nk) (by unfold I64;omega) hgx (ho9.len_cast (by rw [hkl]) rfl) hf9 (hb9.elim .inl (fun h=>.inr ⟨_,h,Nat.le_refl _⟩))
  refine wp_seq ?_
  generalize w9.setCell ⟨gx,7,none⟩ (.slice A9 (j+1) c9)=wz at *
  have hs2:=st2.ext.size
  refine reg8_27 (k:=k) (by simp [vp,hG.e6]) hk (by simp [zp,hG.sz]) ?_
  by_cases hq:0<k / 32 % 3
  ·refine wp_cond_true (by simp [vp,zp,hG.sz];omega) ?_
   refine reg8_28 (gx:=gx) (B:=w0.heap.size) (ls:=ls) (j:=j) (k:=k) (by simp [zp,hG.sz]) ?_ (by simp [vp,hG.e6]) (by simp [vp,hG.e7]) (by simp [vp,e8]) st2.box rfl st2.gl st2.lo (by omega) (by omega) (by omega) hk ?_
   ·intro c a w d v h
    exact absurd h.1 (by simp)
   intro z A6 c6 w6 hz ho6 hf6 hb6
   have st3:=(st2.ext_ (((Ext.refl wz).drew'.alloc' _).alloc' _)).label (z:=z) hz hgx ho6 hf6 (hb6.elim .inl (fun h=>.inr ⟨_,h,Nat.le_refl _⟩))
   refine reg8_24 (j:=j) (by simp [vp,e8]) (by omega) (by simp [zp,hG.sz]) ?_
   refine ⟨⟨j+1,_,_,_,ws ++ [1+p],ls ++ [z],ks ++ [nk],(((((((((((((((((((((((((((((((((((((((((((((hG.put (by omega)).put (by omega)).put (by omega)).put (by omega)).put (by omega)).put (by omega)).put (by omega)).put (by omega)).put (by omega)).put (by omega)).put (by omega)).put (by omega)).put (by omega)).put (by omega)).put (by omega)).put (by omega)).put (by omega)).put (by omega)).put (by omega)).put (by omega)).put (by omega)).put (by omega)).put (by omega)).put (by omega)).put (by omega)).put (by omega)).put (by omega)).put (by omega)).put (by omega)).put (by omega)).put (by omega)).put (by omega)).put (by omega)).put (by omega)).put (by omega)).put (by omega)).put (by omega)).put (by omega)).put (by omega)).put (by omega)).put (by omega)).put (by omega)).put (by omega)).put (by omega)).put (by omega)),by omega,by simp [vp,zp,hG.sz],by rw [List.length_append,hwl];rfl,by rw [List.length_append,hkl];rfl,by rw [List.length_append];simp;omega,st3⟩,?_⟩
   simp [vp,zp,hG.sz,e8,intOf]
   omega
  ·refine wp_cond_false (by simp [vp,zp,hG.sz];omega) (wp_skip ?_)
   refine reg8_24 (j:=j) (by simp [vp,e8]) (by omega) (by simp [zp,hG.sz]) ?_
   refine ⟨⟨j+1,_,_,_,ws ++ [1+p],ls,ks ++ [nk],((((((((((((((((((((((((((((((((hG.put (by omega)).put (by omega)).put (by omega)).put (by omega)).put (by omega)).put (by omega)).put (by omega)).put (by omega)).put (by omega)).put (by omega)).put (by omega)).put (by omega)).put (by omega)).put (by omega)).put (by omega)).put (by omega)).put (by omega)).put (by omega)).put (by omega)).put (by omega)).put (by omega)).put (by omega)).put (by omega)).put (by omega)).put (by omega)).put (by omega)).put (by omega)).put (by omega)).put (by omega)).put (by omega)).put (by omega)).put (by omega)),by omega,by simp [vp,zp,hG.sz],by rw [List.length_append,hwl];rfl,by rw [List.length_append,hkl];rfl,by omega,st2⟩,?_⟩
   simp [vp,zp,hG.sz,e8,intOf]
   omega
 ·obtain rfl:j=m+1:=by omega
  refine wp_cond_false (by simp [vp,zp,hG.sz];omega) (wp_exit ?_)
  exact ⟨rfl,(((((hG.put (by omega)).put (by omega)).put (by omega)).put (by omega)).put (by omega)),hst.node hP (by simp [I64]) (by decide) (by rw [hwl];omega) (by omega) (by rw [hkl];omega) (fun h=>by omega)⟩
end
end Go.Proofs.YtkoeecdjijfjnaaGreat
