/- The state of the generator Tree. Conditions: none. Before it: The state of a node whose lists are being appended to. Conditions: none. -/
import Derived.Test.YtkoeecdjijfjnaaGreatQ3
import Derived.Test.YtkoeecdjijfjnaaGreatL3
namespace Go.Proofs.YtkoeecdjijfjnaaGreat
open Go.RowKit
def NodeSt (gx:Nat)(Pn:Nat→Prop)(w0 wx:World):Prop :=
 ∃ x a,Blk wx gx 87 (ncells x a).toArray∧NAt wx (fun b=>Pn b∧b<wx.heap.size∧b ≠ gx) x a∧SmallN x∧(x.kind=3→x.kids.length≤4)∧Ext w0 wx
structure ChSt (gx B:Nat)(kind:Int)(name:ByteArray)(wv lv kv:Value)(ws:List Int)(ls:List ByteArray)(ks:List Int)(w0 w:World):Prop where
 box:Blk w gx 87 #[.int .i64 kind,.string name,.int .i64 0,.int .i64 0,wv,lv,.slice none 0 0,kv,.int .i64 0,.int .i64 0,.string ⟨#[]⟩,.slice none 0 0]
 wo:w.ownsRow B 3 1 wv ws.length (ws.map (Value.int .i64))
 lo:w.ownsRow B 9 1 lv ls.length (ls.map Value.string)
 ko:w.ownsRow B 3 1 kv ks.length (ks.map (Value.int .i64))
 wl:wv.ownBlock=none∨wv.ownBlock ≠ lv.ownBlock
 wk:wv.ownBlock=none∨wv.ownBlock ≠ kv.ownBlock
 lk:lv.ownBlock=none∨lv.ownBlock ≠ kv.ownBlock
 gw:some gx ≠ wv.ownBlock
 gl:some gx ≠ lv.ownBlock
 gk:some gx ≠ kv.ownBlock
 w64:∀ z ∈ ws,I64 z
 k64:∀ z ∈ ks,I64 z
 l1:∀ s ∈ ls,s.size≤100
 ext:Ext w0 w
 B0:w0.heap.size≤B
theorem own_frame {M:Nat→Prop}{w w':World}{base:Nat}{e:TypeId}{size:Nat}{v:Value}{n:Nat}{xs:List Value}(h:w.ownsRow base e size v n xs)(hf:Fr M w w')(hn:∀ b,v.ownBlock=some b→¬ M b):w'.ownsRow base e size v n xs:=by
 refine ⟨h.1,?_⟩
 rcases h.2 with h3 | ⟨G,cap,cur,h4,h5,h6,h7⟩
 ·exact .inl h3
 ·exact .inr ⟨G,cap,cur,h4,h5,(hf.block G (Blk.lt (t:=e) h6) (hn G (by rw [h4];rfl))).trans h6,h7⟩
section
variable {gx B:Nat}{kind:Int}{name:ByteArray}{wv lv kv:Value}{ws:List Int}{ls:List ByteArray}{ks:List Int}{w0 w w1 w5:World}
theorem ChSt.ext_ (h:ChSt gx B kind name wv lv kv ws ls ks w0 w)(hx:Ext w w1):ChSt gx B kind name wv lv kv ws ls ks w0 w1 :=
 ⟨h.box.ext hx,h.wo.ext_ hx,h.lo.ext_ hx,h.ko.ext_ hx,h.wl,h.wk,h.lk,h.gw,h.gl,h.gk,h.w64,h.k64,h.l1,h.ext.trans' hx,h.B0⟩
theorem ChSt.gB (h:ChSt gx B kind name wv lv kv ws ls ks w0 w):∀ {b:Nat},wv.ownBlock=some b∨lv.ownBlock=some b∨kv.ownBlock=some b→B≤b∧b<w.heap.size:=by
 intro b hb
 rcases hb with hb | hb | hb
 ·exact ⟨h.wo.block_ge hb,h.wo.block_lt hb⟩
 ·exact ⟨h.lo.block_ge hb,h.lo.block_lt hb⟩
 ·exact ⟨h.ko.block_ge hb,h.ko.block_lt hb⟩
theorem ChSt.kid (h:ChSt gx B kind name wv lv kv ws ls ks w0 w){z:Int}(hz:I64 z){v5:Value}(hg:w0.heap.size≤gx)(ho:w5.ownsRow B 3 1 v5 (ks.length+1) (ks.map (Value.int .i64) ++ [.int .i64 z]))(hf:Fr (fun k=>some k=kv.ownBlock) w w5)(hb:v5.ownBlock=kv.ownBlock∨∃ b,v5.ownBlock=some b∧w.heap.size≤b) :
  ChSt gx B kind name wv lv v5 ws ls (ks ++ [z]) w0 (w5.setCell ⟨gx,7,none⟩ v5):=by
 have hgx:=h.box.lt
 have g5:some gx ≠ v5.ownBlock:=by
  rcases hb with e | ⟨b,e,hl⟩
  ·rw [e];exact h.gk
  ·rw [e];intro e';injection e' with e';omega
 have hne:∀ {v:Value},(v.ownBlock=none∨v.ownBlock ≠ kv.ownBlock)→(∀ b,v.ownBlock=some b→b<w.heap.size)→(v.ownBlock=none∨v.ownBlock ≠ v5.ownBlock):=by
  intro v h1 h2
  rcases h1 with h1 | h1
  ·exact .inl h1
  ·refine .inr (fun e=>?_)
   rcases hb with e5 | ⟨b,e5,hl⟩
   ·exact h1 (e.trans e5)
   ·have:=h2 b (e.trans e5);omega
 have hoth:∀ {v:Value},(v.ownBlock=none∨v.ownBlock ≠ kv.ownBlock)→∀ b,v.ownBlock=some b→¬ (some b=kv.ownBlock):=by
  intro v h1 b hb e
  rcases h1 with h1 | h1
  ·rw [h1] at hb;cases hb
  ·exact h1 (hb.trans e)
 refine ⟨(h.box.fr hf (fun e=>h.gk e)).set_ 7 v5,own_set (own_frame h.wo hf (hoth h.wk)) h.gw _,own_set (own_frame h.lo hf (hoth h.lk)) h.gl _,own_set (ho.len_cast (by simp) (by simp)) g5 _,h.wl,hne h.wk (fun b hb=>(h.gB (.inl hb)).2),hne h.lk (fun b hb=>(h.gB (.inr (.inl hb))).2),h.gw,h.gl,g5,h.w64,?_,h.l1,?_,h.B0⟩
 ·intro y hy
  rcases List.mem_append.1 hy with hy | hy
  ·exact h.k64 y hy
  ·simp only [List.mem_singleton] at hy;subst hy;exact hz
 ·have h1:Fr (fun k=>w0.heap.size≤k) w0 w5:=(Fr.of_ext h.ext).trans (hf.mono (fun b hb=>by have:=h.gB (.inr (.inr hb.symm));have:=h.B0;omega))
  exact (h1.setCell (p:=⟨gx,7,none⟩) (.inl hg) _).new_ext (fun _ h=>h)
theorem ChSt.weight (h:ChSt gx B kind name wv lv kv ws ls ks w0 w){z:Int}(hz:I64 z){v5:Value}(hg:w0.heap.size≤gx)(ho:w5.ownsRow B 3 1 v5 (ws.length+1) (ws.map (Value.int .i64) ++ [.int .i64 z]))(hf:Fr (fun k=>some k=wv.ownBlock) w w5)(hb:v5.ownBlock=wv.ownBlock∨∃ b,v5.ownBlock=some b∧w.heap.size≤b) :
  ChSt gx B kind name v5 lv kv (ws ++ [z]) ls ks w0 (w5.setCell ⟨gx,4,none⟩ v5):=by
 have hgx:=h.box.lt
 have g5:some gx ≠ v5.ownBlock:=by
  rcases hb with e | ⟨b,e,hl⟩
  ·rw [e];exact h.gw
  ·rw [e];intro e';injection e' with e';omega
 have hne:∀ {v:Value},(wv.ownBlock=none∨wv.ownBlock ≠ v.ownBlock)→(∀ b,v.ownBlock=some b→b<w.heap.size)→(v5.ownBlock=none∨v5.ownBlock ≠ v.ownBlock):=by
  intro v h1 h2
  rcases hb with e5 | ⟨b,e5,hl⟩
  ·rw [e5];exact h1
  ·refine .inr (fun e=>?_)
   have:=h2 b (e.symm.trans e5);omega
 have hoth:∀ {v:Value},(wv.ownBlock=none∨wv.ownBlock ≠ v.ownBlock)→∀ b,v.ownBlock=some b→¬ (some b=wv.ownBlock):=by
  intro v h1 b hb e
  rcases h1 with h1 | h1
  ·rw [h1] at e;cases e
  ·exact h1 (e.symm.trans hb.symm)
 refine ⟨(h.box.fr hf (fun e=>h.gw e)).set_ 4 v5,own_set (ho.len_cast (by simp) (by simp)) g5 _,own_set (own_frame h.lo hf (hoth h.wl)) h.gl _,own_set (own_frame h.ko hf (hoth h.wk)) h.gk _,hne h.wl (fun b hb=>(h.gB (.inr (.inl hb))).2),hne h.wk (fun b hb=>(h.gB (.inr (.inr hb))).2),h.lk,g5,h.gl,h.gk,?_,h.k64,h.l1,?_,h.B0⟩
 ·intro y hy
  rcases List.mem_append.1 hy with hy | hy
  ·exact h.w64 y hy
  ·simp only [List.mem_singleton] at hy;subst hy;exact hz
 ·have h1:Fr (fun k=>w0.heap.size≤k) w0 w5:=(Fr.of_ext h.ext).trans (hf.mono (fun b hb=>by have:=h.gB (.inl hb.symm);have:=h.B0;omega))
  exact (h1.setCell (p:=⟨gx,4,none⟩) (.inl hg) _).new_ext (fun _ h=>h)
theorem ChSt.label (h:ChSt gx B kind name wv lv kv ws ls ks w0 w){z:ByteArray}(hz:z.size≤100){v5:Value}(hg:w0.heap.size≤gx)(ho:w5.ownsRow B 9 1 v5 (ls.length+1) (ls.map Value.string ++ [.string z]))(hf:Fr (fun k=>some k=lv.ownBlock) w w5)(hb:v5.ownBlock=lv.ownBlock∨∃ b,v5.ownBlock=some b∧w.heap.size≤b) :
  ChSt gx B kind name wv v5 kv ws (ls ++ [z]) ks w0 (w5.setCell ⟨gx,5,none⟩ v5):=by
 have hgx:=h.box.lt
 have g5:some gx ≠ v5.ownBlock:=by
  rcases hb with e | ⟨b,e,hl⟩
  ·rw [e];exact h.gl
  ·rw [e];intro e';injection e' with e';omega
 have n1:wv.ownBlock=none∨wv.ownBlock ≠ v5.ownBlock:=by
  rcases hb with e5 | ⟨b,e5,hl⟩
  ·rw [e5];exact h.wl
  ·exact .inr (fun e=>by have:=(h.gB (.inl (e.trans e5))).2;omega)
 have n2:v5.ownBlock=none∨v5.ownBlock ≠ kv.ownBlock:=by
  rcases hb with e5 | ⟨b,e5,hl⟩
  ·rw [e5];exact h.lk
  ·exact .inr (fun e=>by have:=(h.gB (.inr (.inr (e.symm.trans e5)))).2;omega)
 have o1:∀ b,wv.ownBlock=some b→¬ (some b=lv.ownBlock):=fun b hb e=>by
  rcases h.wl with h1 | h1
  ·rw [h1] at hb;cases hb
  ·exact h1 (hb.trans e)
 have o2:∀ b,kv.ownBlock=some b→¬ (some b=lv.ownBlock):=fun b hb e=>by
  rcases h.lk with h1 | h1
  ·rw [h1] at e;cases e
  ·exact h1 (e.symm.trans hb.symm)
 refine ⟨(h.box.fr hf (fun e=>h.gl e)).set_ 5 v5,own_set (own_frame h.wo hf o1) h.gw _,own_set (ho.len_cast (by simp) (by simp)) g5 _,own_set (own_frame h.ko hf o2) h.gk _,n1,h.wk,n2,h.gw,g5,h.gk,h.w64,h.k64,?_,?_,h.B0⟩
 ·intro y hy
  rcases List.mem_append.1 hy with hy | hy
  ·exact h.l1 y hy
  ·simp only [List.mem_singleton] at hy;subst hy;exact hz
 ·have h1:Fr (fun k=>w0.heap.size≤k) w0 w5:=(Fr.of_ext h.ext).trans (hf.mono (fun b hb=>by have:=h.gB (.inr (.inl hb.symm));have:=h.B0;omega))
  exact (h1.setCell (p:=⟨gx,5,none⟩) (.inl hg) _).new_ext (fun _ h=>h)
theorem ChSt.node (h:ChSt gx B kind name wv lv kv ws ls ks w0 w){Pn:Nat→Prop}(hP:∀ b,B≤b→Pn b)(hk:I64 kind)(hn:name.size≤100)(h1:ws.length≤100)(h2:ls.length≤100)(h3:ks.length≤100)(h4:kind=3→ks.length≤4):NodeSt gx Pn w0 w:=by
 obtain ⟨Aw,cw,ew,-,-,-⟩:=Sl.of_own h.wo
 obtain ⟨Al,cl,el,-,-,-⟩:=Sl.of_own h.lo
 obtain ⟨Ak,ck,ek,-,-,-⟩:=Sl.of_own h.ko
 have hw:Ints w (fun b=>Pn b∧b<w.heap.size∧b ≠ gx) wv ws:=Ints.of_own h.wo h.w64 (by omega) (fun b hb=>⟨hP b (h.gB (.inl hb)).1,(h.gB (.inl hb)).2,fun e=>h.gw (by rw [hb,e])⟩)
 have hkk:Ints w (fun b=>Pn b∧b<w.heap.size∧b ≠ gx) kv ks:=Ints.of_own h.ko h.k64 (by omega) (fun b hb=>⟨hP b (h.gB (.inr (.inr hb))).1,(h.gB (.inr (.inr hb))).2,fun e=>h.gk (by rw [hb,e])⟩)
 have hl:Strs w (fun b=>Pn b∧b<w.heap.size∧b ≠ gx) lv ls:=Lst.of_own h.lo (by
  have:∀ (m:List ByteArray),(∀ s ∈ m,s.size≤100)→RL RStr m (m.map Value.string):=by
   intro m
   induction m with
   | nil=>intro _;simp [RL]
   | cons s m ih =>
    intro hm
    exact ⟨[.string s],m.map Value.string,rfl,⟨by have:=hm s (by simp);omega,rfl⟩,ih (fun y hy=>hm y (by simp [hy]))⟩
  exact this ls h.l1) (by omega) (fun b hb=>⟨hP b (h.gB (.inr (.inl hb))).1,(h.gB (.inr (.inl hb))).2,fun e=>h.gl (by rw [hb,e])⟩)
 have hbx:=h.box
 subst ew el ek
 refine ⟨⟨kind,name,0,0,ws,ls,[],ks,.mk 0 0 ⟨#[]⟩ []⟩,⟨Aw,cw,Al,cl,none,0,Ak,ck,none,0⟩,hbx,⟨hk,by show name.size≤_;omega,by simp [I64],by simp [I64],hw,hl,Vals.nil,hkk,VAt.noKids (by simp [I64]) (by simp [I64]) (by decide)⟩,⟨by show ws.length≤_;omega,by show ls.length≤_;omega,by simp,by show ks.length≤_;omega,by simp [gsz,gszs],by simp⟩,h4,h.ext⟩
end
def TOff (B:Nat)(w:World)(v:Value):Nat→Prop:=fun b=>B≤b∧b<w.heap.size∧some b ≠ v.ownBlock
def RetTree (w:World)(e:Ending)(w':World):Prop:=∃ A c t,e=.returned (.agg #[.slice A t.length c])∧Nds w' (fun b=>w.heap.size≤b∧b<w'.heap.size) (.slice A t.length c) t∧GenOK t∧t.length≤14∧Ext w w'
def TreeInv (n:Nat)(g3:Nat)(W:World)(iv:Value)(wr:World):Prop :=
 ∃ (i:Nat) (t:List GN) (v:Value) (xs:List Value),i≤n∧iv=.int .i64 i∧t.length=i∧GenOK t∧Blk wr g3 25 #[v]∧wr.ownsRow W.heap.size 87 12 v i xs∧RL (RN wr (TOff W.heap.size wr v)) t xs∧Fr (fun b=>b=g3) W wr
theorem leaf_node {gx B:Nat}{w0 wx:World}{y:GV}{Ay:Option Addr}{cy:Nat}(hb:Blk wx gx 87 #[.int .i64 0,.string ⟨#[]⟩,.int .i64 0,.int .i64 0,.slice none 0 0,.slice none 0 0,.slice none 0 0,.slice none 0 0,.int .i64 y.kind,.int .i64 y.n,.string y.s,.slice Ay y.kids.length cy])(hE:Ext w0 wx)(hg:gsz y≤2)(_:B≤w0.heap.size)(hy:VAt wx (fun b=>B≤b∧b<wx.heap.size∧b ≠ gx) y Ay cy):NodeSt gx (fun b=>B≤b) w0 wx :=
 ⟨⟨0,⟨#[]⟩,0,0,[],[],[],[],y⟩,⟨none,0,none,0,none,0,none,0,Ay,cy⟩,hb,⟨by simp [I64],by show (0:Nat)≤_;omega,by simp [I64],by simp [I64],Ints.nil,Strs.nil,Vals.nil,Ints.nil,hy⟩,⟨by simp,by simp,by simp,by simp,by show gsz y≤_;omega,by simp⟩,by simp,hE⟩
theorem RN.one {w:World}{P:Nat→Prop}:∀ {l:List GN}{xs:List Value},RL (RN w P) l xs→∀ u ∈ xs,u.oneCell'=true
 | [],xs,h,u,hu=>by simp only [RL] at h;subst h;simp at hu
 | x :: l,xs,h,u,hu=>by
  obtain ⟨c1,c2,rfl,⟨a,rfl,-⟩,h2⟩:=h
  rcases List.mem_append.1 hu with hu | hu
  ·simp only [ncells,List.mem_cons,List.not_mem_nil,or_false] at hu
   rcases hu with rfl | rfl | rfl | rfl | rfl | rfl | rfl | rfl | rfl | rfl | rfl | rfl <;> rfl
  ·exact RN.one h2 u hu
section
variable {n g3 i m:Nat}{W wo w6 w9:World}{t:List GN}{x:GN}{a:NA}{v v2:Value}{xs:List Value}
theorem tree_valid (hi:i<n)(htl:t.length=i)(hg3:g3<W.heap.size)(hF:Fr (fun b=>b=g3) W wo)(hE:Ext wo w6)(hB:Blk w6 g3 25 #[v])(ho:w6.ownsRow W.heap.size 87 12 v2 (i+1) (xs ++ ncells x a))(hv2:∀ b,v2.ownBlock=some b→m≤b)
  (hr:RL (RN wo (TOff W.heap.size wo v)) t xs)(hmo:wo.heap.size≤m)(_:m≤w6.heap.size)(hx:NAt w6 (fun b=>W.heap.size≤b∧b<m) x a)(hgen:GenOK (t ++ [x])):TreeInv n g3 W (.int .i64 ((i:Int)+1)) (w6.setCell ⟨g3,0,none⟩ v2):=by
 have hne:some g3 ≠ v2.ownBlock:=fun e=>by have:=ho.block_ge e.symm;omega
 have hks:∀ (Q:Nat→Prop) (w1:World),(¬ Q g3)→Keeps Q w1 w6→Keeps Q w1 (w6.setCell ⟨g3,0,none⟩ v2):=fun Q w1 hq hk=>hk.set (p:=⟨g3,0,none⟩) _ hq
 have hsz:(w6.setCell ⟨g3,0,none⟩ v2).heap.size=w6.heap.size:=by simp [World.setCell]
 refine ⟨i+1,t ++ [x],v2,xs ++ ncells x a,by omega,by go_num,by rw [List.length_append,htl];rfl,hgen,hB.set_ 0 v2,own_set ho hne _,?_,?_⟩
 ·refine (hr.move elemN (hks _ _ (fun h=>by have:=h.1;omega) (Keeps.of_ext hE)) (fun b hb h=>⟨h.1,by rw [hsz];have:=hE.size;omega,fun e=>by have:=hv2 b e.symm;omega⟩)).append (RL.one ⟨a,rfl,hx.carry (hks _ _ (fun h=>by omega) (fun _ _ _=>rfl)) (fun b hb h=>⟨h.1,by rw [hsz];omega,fun e=>by have:=hv2 b e.symm;omega⟩)⟩)
 ·exact (hF.trans (Fr.of_ext hE)).setCell (p:=⟨g3,0,none⟩) (.inl rfl) _
theorem tree_leaf {z:Int}(hz:0≤z∧z<5)(hi:i<n)(hn:n≤14)(htl:t.length=i)(hg3:g3<W.heap.size)(hF:Fr (fun b=>b=g3) W wo)(hE:Ext wo w6)(hB:Blk w6 g3 25 #[v])(ho:wo.ownsRow W.heap.size 87 12 v i xs)(ho9:w9.ownsRow W.heap.size 87 12 v2 (i+1) (xs ++ ncells (numLeaf z) ⟨none,0,none,0,none,0,none,0,none,0⟩))(hf9:Fr (fun k=>some k=v.ownBlock) w6 w9)(hv2:v2.ownBlock=v.ownBlock∨∃ b,v2.ownBlock=some b∧w6.heap.size≤b)
  (hr:RL (RN wo (TOff W.heap.size wo v)) t xs)(hgen:GenOK t):TreeInv n g3 W (.int .i64 ((i:Int)+1)) (w9.setCell ⟨g3,0,none⟩ v2):=by
 have hne:some g3 ≠ v2.ownBlock:=fun e=>by have:=ho9.block_ge e.symm;omega
 have hne0:¬ some g3=v.ownBlock:=fun e=>by have:=ho.block_ge e.symm;omega
 have hsz:(w9.setCell ⟨g3,0,none⟩ v2).heap.size=w9.heap.size:=by simp [World.setCell]
 have hs6:=hE.size
 have hs9:=hf9.size
 have hgen2:=hgen.leaf (by omega) z
 have hoff:∀ b,b<wo.heap.size→some b ≠ v.ownBlock→some b ≠ v2.ownBlock:=fun b hb h=>by
  rcases hv2 with e | ⟨b',e,hl⟩
  ·rw [e];exact h
  ·rw [e];intro e';injection e' with e';omega
 refine ⟨i+1,t ++ [numLeaf z],v2,_,by omega,by go_num,by rw [List.length_append,htl];rfl,hgen2,(hB.fr hf9 hne0).set_ 0 v2,own_set ho9 hne _,?_,?_⟩
 ·refine (hr.move elemN (w':=w9.setCell ⟨g3,0,none⟩ v2) ?_ (fun b hb h=>⟨h.1,by rw [hsz];omega,hoff b hb h.2.2⟩)).append (RL.one ⟨_,rfl,⟨by simp [numLeaf,I64],by simp [numLeaf],by simp [numLeaf,I64],by simp [numLeaf,I64],Ints.nil,Strs.nil,Vals.nil,Ints.nil,VAt.noKids (by simp [I64]) (by unfold I64;omega) (by decide)⟩⟩)
  have hk:Keeps (TOff W.heap.size wo v) wo w9:=fun b hb h=>(hf9.block b (by omega) (fun e=>h.2.2 e)).trans (hE.block b hb)
  exact hk.set (p:=⟨g3,0,none⟩) _ (fun (h:TOff W.heap.size wo v g3)=>by have:=h.1;omega)
 ·have h1:Fr (fun b=>b=g3) W w9:=by
   refine Fr.trans_new (hF.trans (Fr.of_ext hE)) (hf9.mono (fun b hb=>.inr ?_))
   exact ho.block_ge hb.symm
  exact h1.setCell (p:=⟨g3,0,none⟩) (.inl rfl) _
end
def SqInv (gx B:Nat)(name:ByteArray)(m:Nat)(w0:World)(jv:Value)(wr:World):Prop:=∃ (j:Nat)(kv:Value)(ks:List Int),j≤m∧jv=.int .i64 j∧ks.length=j∧ChSt gx B 3 name (.slice none 0 0) (.slice none 0 0) kv [] [] ks w0 wr
def ChoInv (gx B:Nat)(m:Nat)(w0:World)(jv:Value)(wr:World):Prop:=∃ (j:Nat)(wv lv kv:Value)(ws:List Int)(ls:List ByteArray)(ks:List Int),j≤m+1∧jv=.int .i64 j∧ws.length=j∧ks.length=j∧ls.length≤j∧ChSt gx B 2 ⟨#[]⟩ wv lv kv ws ls ks w0 wr
theorem ChSt.start {gx B:Nat}{kind:Int}{name:ByteArray}{w0 w:World}(hb:Blk w gx 87 #[.int .i64 kind,.string name,.int .i64 0,.int .i64 0,.slice none 0 0,.slice none 0 0,.slice none 0 0,.slice none 0 0,.int .i64 0,.int .i64 0,.string ⟨#[]⟩,.slice none 0 0])(hE:Ext w0 w)(hB:w0.heap.size≤B):ChSt gx B kind name (.slice none 0 0) (.slice none 0 0) (.slice none 0 0) [] [] [] w0 w :=
 ⟨hb,own_none _ _ _ _,own_none _ _ _ _,own_none _ _ _ _,.inl rfl,.inl rfl,.inl rfl,by simp [Value.ownBlock],by simp [Value.ownBlock],by simp [Value.ownBlock],by simp,by simp,by simp,hE,hB⟩
end Go.Proofs.YtkoeecdjijfjnaaGreat
