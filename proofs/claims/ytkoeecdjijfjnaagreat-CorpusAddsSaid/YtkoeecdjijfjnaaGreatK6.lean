/- Contracts of functions, plain laws. Conditions: none. -/
import Derived.Lib.Overlaps
import Derived.Lib.AppendZerosOnto
import Derived.Laws.Externs
import Derived.Test.YtkoeecdjijfjnaaGreatJ3
set_option maxRecDepth 100000
set_option maxHeartbeats 8000000
namespace Go.Proofs.YtkoeecdjijfjnaaGreat
open Go.RowKit
section
variable {P:Program}
theorem nF (w:World){o:Oper}{a:Act}{K:Act->World->Prop}{Q:Exit->Act->World->Prop}(d s:Operand)(t t':TypeId)
  (ho:o.op=.call { callee:=.builtin .copy,args:=#[d,s],argTypes:=#[t,t'] })(v u:Value)(hd:a.eval d=v)(hs:a.eval s=u){v':Value}{w':World}
  (hr:(Builtin.copy_ #[t,t'] o.type #[v,u]).run P w=.ok v' w')(h:K (a.put o.dst v') w'):o.wp P a w K Q:=by
 unfold Oper.wp execOp;simp only [ho,resolve,invoke,builtin,Sem.run_bind,Sem.run_pure,Result.andThen_ok,List.map_toArray,List.map_cons,List.map_nil,hd,hs,hr];exact h
theorem jF (w:World){ops:Array Oper}{rest:List Oper}{o:Oper}{a:Act}{Q:Exit->Act->World->Prop}(hgd:o.guard=none)(d s:Operand)(t t':TypeId)
  (ho:o.op=.call { callee:=.builtin .copy,args:=#[d,s],argTypes:=#[t,t'] })(v u:Value)(hd:a.eval d=v)(hs:a.eval s=u){v':Value}{w':World}
  (hr:(Builtin.copy_ #[t,t'] o.type #[v,u]).run P w=.ok v' w')(h:wpList P ops Q rest (a.put o.dst v') w'):wpList P ops Q (o :: rest) a w :=
 wpList_plain hgd fun _ hK=>nF w d s t t' ho v u hd hs hr (hK _ _ h)
theorem kZ {ops:Array Oper}{o:Oper}{a:Act}{w:World}{K:Act->World->Prop}{Q:Exit->Act->World->Prop}{E:Prop}
  (hg:o.guard=none)(d x:Operand)(dT sT:TypeId)(hop:o.op=Op.call { callee:=Callee.builtin Builtin.copy,args:=#[d,x],argTypes:=#[dT,sT] })
  (v u:Value)(hd:a.eval d=v)(hx:a.eval x=u){v':Value}{w':World}(hr:(Builtin.copy_ #[dT,sT] o.type #[v,u]).run P w=.ok v' w')(hK:K (a.put o.dst v') w') :
  if Region.wanted o (yielded ops a.tmps)=true then Oper.wp P o a w K Q else E:=by
 have hw:Region.wanted o (yielded ops a.tmps)=true:=by simp [Region.wanted,hg]
 rw [if_pos hw];exact nF w d x dT sT hop v u hd hx hr hK
end
theorem lT (w:World)(ty:TypeId)(b o dLen dCap:Nat)(a:Addr)(sLen sCap k:Nat)(cs cur:List Value)(hB:Blk w b 102 cur.toArray)(hn:k=Nat.min sLen dLen)(hl:cs.length=k*6)
  (hsrc:∀ j v,cs[j]?=some v->w.cell? (a.add j)=some v)(ho:o+k*6<=cur.length)(h1:∀ v ∈ cs,v.oneCell'=true) :
  (Builtin.copy_ #[93,93] ty #[.slice (some ⟨b,o,none⟩) dLen dCap,.slice (some a) sLen sCap]).run Tryz.prog w=.ok (goInt k) (w.setCells b o cs):=by
 obtain ⟨i0,hi,hz0,hz1,hz2⟩:=info_parts Tryz.info102;have hf:=run_firstCells_some (P:=Tryz.prog) w 6 k a sLen sCap cs hl hsrc;have hst:=run_storeCells_cells (P:=Tryz.prog) b o cs 0 w (fun j hj=>by rw [Nat.add_zero,hB.cell];simp;omega) (fun j hj=>by rw [Nat.add_zero];exact hB.frozen _) h1;rw [Nat.add_zero] at hst;simp [Builtin.copy_,run_underlying Tryz.underlying93,Builtin.lenOf,sizeOf,typeInfo,hi,hz1,<- hn,hf,hst]
def aSf (g n cap i:Nat)(cur us:List Value)(w:World)(e:Ending)(w':World):Prop:=e=.returned (.slice (some ⟨g,0,none⟩) (n+1) cap) ∧
 ∃ cur':List Value,Blk w' g 102 cur'.toArray∧cur'.length=cap*6∧cur'.take ((n+1)*6)=cur.take (i*6) ++ us ++ (cur.take (n*6)).drop (i*6)∧Fr (fun k=>k=g) w w'
theorem aA0 {cur us:List Value}{i n cap:Nat}(hu:us.length=6)(hi:i<n)(hn:n<cap)(hcl:cur.length=cap*6)(c1 c2:List Value)
  (h1:c1=cur.take ((i+1)*6) ++ (cur.take (n*6)).drop (i*6) ++ cur.drop ((i+1)*6+(n - i)*6))
  (h2:c2=c1.take (i*6) ++ us ++ c1.drop (i*6+6)) :
  c2.length=cap*6∧c2.take ((n+1)*6)=cur.take (i*6) ++ us ++ (cur.take (n*6)).drop (i*6):=by
 have hs:((cur.take (n*6)).drop (i*6)).length=(n - i)*6:=by simp only [List.length_drop,List.length_take];omega
 have hL:c1.length=cap*6:=by rw [h1];simp only [List.length_append,hs,List.length_take,List.length_drop];omega
 have ht:c1.take (i*6)=cur.take (i*6):=by
  rw [h1,List.append_assoc,List.take_append_of_le_length (by rw [List.length_take];omega),List.take_take,Nat.min_eq_left (by omega)]
 have hd:c1.drop (i*6+6)=(cur.take (n*6)).drop (i*6) ++ cur.drop ((i+1)*6+(n - i)*6):=by
  rw [h1,List.append_assoc,List.drop_left' (by rw [List.length_take];omega)]
 refine ⟨by rw [h2];simp only [List.length_append,List.length_take,List.length_drop,hu];omega,?_⟩;rw [h2,ht,hd,<- List.append_assoc,List.take_left' (by simp only [List.length_append,hs,List.length_take,hu];omega)]
theorem yF (g n cap i vb vc:Nat)(tv:TypeId)(cur us:List Value)(w:World)(hB:Blk w g 102 cur.toArray)(hV:Blk w vb tv us.toArray)(hne:vb ≠ g)(hu:us.length=6)(hcl:cur.length=cap*6)(hn:n<cap)(hi:i<n)(hnn:n<=100000)(_:cap<=9223372036854775807)
  (h1:∀ u ∈ cur.take (n*6),u.oneCell'=true)(h1u:∀ u ∈ us,u.oneCell'=true) :
  Calls Tryz.prog 102 #[.slice (some ⟨g,0,none⟩) n cap,.int .i64 i,.slice (some ⟨vb,0,none⟩) 1 vc] w (aSf g n cap i cur us w):=by
 obtain ⟨i0,hi0,hz0,hz1,hz2⟩:=info_parts Tryz.info102;have hz:∀ w,(Go.sizeOf 102).run Tryz.prog w=.ok 6 w:=fun w=>by simp [Go.sizeOf,typeInfo,hi0,hz1]
 have hov:∀ lb cb,(callFunc 148 #[.slice (some ⟨vb,0,none⟩) 1 vc,.slice (some ⟨g,(i+1)*6,none⟩) lb cb]).run Tryz.prog w=.ok (.value (.bool false)) w:=fun lb cb=>by
  rw [run_callFunc_extern Tryz.func148 (by kernel_rfl) (by kernel_rfl) (by kernel_rfl) (e:=Extern.SlicesOverlaps.overlaps #[93,93] #[4]) (by kernel_rfl),
   Lib.run_overlaps_apart w 93 4 102 Tryz.underlying93 6 hz ⟨vb,0,none⟩ ⟨g,(i+1)*6,none⟩ 1 vc lb cb hne tv 102 us.toArray.size cur.toArray.size (by unfold Blk at hV;simp [World.shape?,hV]) (by unfold Blk at hB;simp [World.shape?,hB]) (by simp only [List.size_toArray];omega) (hV.frozen _) (hV.frozen _)]
  rfl
 obtain ⟨cs,hcs⟩:∃ cs,cs=(cur.take (n*6)).drop (i*6):=⟨_,rfl⟩;have hsl:cs.length=(n - i)*6:=by rw [hcs];simp only [List.length_drop,List.length_take];omega
 have hcp1:∀ ty dc sc,(Builtin.copy_ #[93,93] ty #[.slice (some ⟨g,(i+1)*6,none⟩) (n+1 - (i+1)) dc,.slice (some ⟨g,i*6,none⟩) (n+1 - i) sc]).run Tryz.prog w.drew=.ok (goInt ((n - i:Nat):Int)) (w.drew.setCells g ((i+1)*6) cs):=fun ty dc sc =>
  lT w.drew ty g ((i+1)*6) _ dc ⟨g,i*6,none⟩ _ sc (n - i) cs cur hB.drew (by simp only [Nat.min_def];split <;> omega) hsl (fun j v hj=>by
   rw [dM,fN,hB.cell];rw [hcs,List.getElem?_drop,List.getElem?_take] at hj
   split at hj
   ·simpa using hj
   ·cases hj) (by omega) (fun v hv=>h1 v (by rw [hcs] at hv;exact List.mem_of_mem_drop hv))
 have hB1:=aR cs (w:=w.drew) ((i+1)*6) hB.drew (by omega);have hV1:Blk (w.drew.setCells g ((i+1)*6) cs) vb tv us.toArray:=Blk.farCells hne cs _ hV.drew;have hF1:Fr (fun k=>k=g) w (w.drew.setCells g ((i+1)*6) cs):=((Fr.refl _ w).drew).setCells cs _ (.inl rfl);rw [hsl] at hB1;obtain ⟨c1,hc1⟩:∃ c1,c1=cur.take ((i+1)*6) ++ cs ++ cur.drop ((i+1)*6+(n - i)*6):=⟨_,rfl⟩;rw [<- hc1] at hB1;have hl1:c1.length=cap*6:=by rw [hc1];simp only [List.length_append,List.length_take,List.length_drop];omega
 have hcp2:∀ ty dc,(Builtin.copy_ #[93,93] ty #[.slice (some ⟨g,i*6,none⟩) (n+1 - i) dc,.slice (some ⟨vb,0,none⟩) 1 vc]).run Tryz.prog (w.drew.setCells g ((i+1)*6) cs)=.ok (goInt ((1:Nat):Int)) ((w.drew.setCells g ((i+1)*6) cs).setCells g (i*6) us):=fun ty dc =>
  lT _ ty g (i*6) _ dc ⟨vb,0,none⟩ _ vc 1 us c1 hB1 (by simp only [Nat.min_def];split <;> omega) (by omega) (fun j v hj=>by
   rw [dM,Nat.zero_add];exact hV1.cell' j (by simpa using hj)) (by omega) h1u
 have hB2:=aR us (w:=w.drew.setCells g ((i+1)*6) cs) (i*6) hB1 (by omega);have hF2:=hF1.setCells us (i*6) (.inl rfl);have hfin:=aA0 hu hi hn hcl c1 _ (by rw [hc1,hcs]) rfl;have HB2:=aV4 hB2;have HF2:=aV4 hF2;have HFIN:=aV4 hfin;have HC1:=aV4 hcp1;have HC2:=aV4 hcp2;have HOV:=aV4 hov;have HU:=aV4 hu;clear hB hV hne hcl h1 h1u hi0 hz0 hz1 hz2 hz hov hcs hsl hcp1 hcp2 hB1 hV1 hF1 hc1 hl1 hB2 hF2 hfin hu;have t1:¬ ((i:Int)=(n:Int)):=by omega
 have hi1:(0:Int)<=(i:Int):=by omega
 have hi2:(i:Int)<=(n:Int):=by omega
 have hi3:((i:Int)+1).toNat=i+1:=by omega
 have hi4:((n:Int)+1).toNat=n+1:=by omega
 have hi5:(n:Int)+1<=(cap:Int):=by omega
 have hi6:(i:Int)<=(n:Int)+1:=by omega
 have hi7:¬ (cap=i):=by omega
 have hi8:¬ (cap=i+1):=by omega
 have hi9:(0:Int)<=(i:Int)+1:=by omega
 have hi10:(i:Int)+1<=(n:Int)+1:=by omega
 go_enter Tryz.func102,Tryz.ntmps102;go_wp2_with (simp only [HOV.out]);have hw1:IntKind.i64.wrap ((i:Int)+1)=(i:Int)+1:=by rw [IntKind.wrap_i64];omega
 go_region_law (refine kZ rfl (.tmp 73) (.tmp 76) 93 93 rfl (.slice (some ⟨g,(i+1)*6,none⟩) (n+1 - (i+1)) (cap - (i+1))) (.slice (some ⟨g,i*6,none⟩) (n+1 - i) (cap - i)) (by simp [Act.eval,Act.put]) (by simp [Act.eval,Act.put]) (HC1.out _ _ _) ?_);clear hw1;generalize w.drew.setCells g ((i+1)*6) cs=W1 at *;go_wp2_with (with_reducible refine jF _ rfl (.tmp 80) (.tmp 81) 93 93 rfl (.slice (some ⟨g,i*6,none⟩) (n+1 - i) (cap - i)) (.slice (some ⟨vb,0,none⟩) 1 vc) rfl rfl (HC2.out _ _) ?_);go_ret;have h:=HB2.out;rw [HU.out] at h;exact ⟨rfl,_,h,HFIN.out.1,HFIN.out.2,HF2.out⟩
def aFj (n i:Nat)(cur us:List Value)(w:World)(e:Ending)(w':World):Prop:=∃ cap,e=.returned (.slice (some ⟨w.heap.size,0,none⟩) (n+1) cap)∧n+1<=cap∧cap<=maxLen ∧
 ∃ cur':List Value,Blk w' w.heap.size 102 cur'.toArray∧cur'.length=cap*6∧cur'.take ((n+1)*6)=cur.take (i*6) ++ us ++ (cur.take (n*6)).drop (i*6)∧Ext w w'
theorem xQ {row us cs pre:List Value}{i n cap:Nat}(hu:us.length=6)(hi:i<n)(hn:n<cap)(hrl:row.length=cap*6)(hp:row.take (i*6)=pre)(hpl:pre.length=i*6)(hs:cs.length=(n - i)*6)(c1 c2:List Value)
  (h1:c1=row.take (i*6) ++ us ++ row.drop (i*6+6))
  (h2:c2=c1.take ((i+1)*6) ++ cs ++ c1.drop ((i+1)*6+(n - i)*6)) :
  c1.length=cap*6∧c2.length=cap*6∧c2.take ((n+1)*6)=pre ++ us ++ cs:=by
 have hL:c1.length=cap*6:=by rw [h1];simp only [List.length_append,hu,List.length_take,List.length_drop];omega
 have ht:c1.take ((i+1)*6)=pre ++ us:=by
  rw [h1,hp,List.take_left' (by rw [List.length_append];omega)]
 refine ⟨hL,by rw [h2];simp only [List.length_append,List.length_take,List.length_drop,hs];omega,?_⟩;rw [h2,ht,List.take_left' (by simp only [List.length_append,hs,hu];omega)]
theorem yG (g n cap i vb vc:Nat)(tv:TypeId)(cur us:List Value)(w:World)(hB:Blk w g 102 cur.toArray)(hV:Blk w vb tv us.toArray)(hu:us.length=6)(hcl:cur.length=cap*6)(hn:n=cap)(hi:i<n)(hnn:n<=100000)
  (h1:∀ u ∈ cur.take (n*6),u.oneCell'=true)(h1u:∀ u ∈ us,u.oneCell'=true) :
  Calls Tryz.prog 102 #[.slice (some ⟨g,0,none⟩) n cap,.int .i64 i,.slice (some ⟨vb,0,none⟩) 1 vc] w (aFj n i cur us w):=by
 subst hn;obtain ⟨i0,hi0,hz0,hz1,hz2⟩:=info_parts Tryz.info102
 have hold:(Builtin.firstCells i0.size i (.slice (some ⟨g,0,none⟩) i n)).run Tryz.prog w.drew=.ok (cur.take (i*6)).toArray w.drew:=by
  rw [hz1]
  exact run_firstCells_some w.drew 6 i ⟨g,0,none⟩ i n (cur.take (i*6)) (by rw [List.length_take];omega) (fun j v hj=>by
   rw [dM,Nat.zero_add,fN,hB.cell];rw [List.getElem?_take] at hj
   split at hj
   ·simpa using hj
   ·cases hj)
 have hkk:(n:Int)+1 - (i:Int)=((n+1 - i:Nat):Int):=by omega
 have hik:i+(n+1 - i)=n+1:=by omega
 have hrz:=fun ty=>Lib.run_append_grow_zeros w 93 3 ty 102 i0 _ .i64 .i64 Tryz.underlying93 Tryz.underlying3 hi0 hz0 (some ⟨g,0,none⟩) i n (cur.take (i*6)) hold (n+1 - i) (by omega) (by omega) (by omega) (by omega) (by rw [hz2];omega) (by rw [hz2,hik];exact growslice_fits (by omega) (by omega))
 simp only [hik] at hrz;simp only [<- hkk] at hrz;have hGn:n+1<=grownCap w (n+1) n 102:=grownCap_ge w _ _ _;have hGm:grownCap w (n+1) n 102<=maxLen:=grownCap_le_maxLen w (n+1) n 102 (by unfold maxLen;omega);generalize grownCap w (n+1) n 102=G at *;obtain ⟨row,hrow⟩:∃ row:List Value,row=((cur.take (i*6)).toArray ++ Builtin.zeroCells (Value.agg #[.slice none 0 0,.int .i64 0,.int .i64 0,.int .i64 0,.bool false,.int .i64 0]).cells (n+1 - i) ++ Builtin.zeroCells (Value.agg #[.slice none 0 0,.int .i64 0,.int .i64 0,.int .i64 0,.bool false,.int .i64 0]).cells (G - (n+1))).toList:=⟨_,rfl⟩;have hrow':((cur.take (i*6)).toArray ++ Builtin.zeroCells (Value.agg #[.slice none 0 0,.int .i64 0,.int .i64 0,.int .i64 0,.bool false,.int .i64 0]).cells (n+1 - i) ++ Builtin.zeroCells (Value.agg #[.slice none 0 0,.int .i64 0,.int .i64 0,.int .i64 0,.bool false,.int .i64 0]).cells (G - (n+1)))=row.toArray:=by rw [hrow]
 have hzl:∀ k,(Builtin.zeroCells (Value.agg #[.slice none 0 0,.int .i64 0,.int .i64 0,.int .i64 0,.bool false,.int .i64 0]).cells k).size=k*6:=fun k=>by
  have h6:(Value.agg #[.slice none 0 0,.int .i64 0,.int .i64 0,.int .i64 0,.bool false,.int .i64 0]).cells.size=6:=by kernel_rfl
  simp [Builtin.zeroCells,h6]
 have hrl:row.length=G*6:=by
  rw [hrow];simp only [Array.length_toList,Array.size_append,hzl,List.size_toArray,List.length_take];omega
 have hrp:row.take (i*6)=cur.take (i*6):=by
  rw [hrow,Array.toList_append,Array.toList_append,List.append_assoc,List.take_left' (by simp only [List.length_take];omega)]
 rw [hrow'] at hrz;obtain ⟨W1,hW1⟩:∃ W1,W1=w.drew.alloc (.cells row.toArray 102):=⟨_,rfl⟩;rw [<- hW1] at hrz;have hN:Blk W1 w.heap.size 102 row.toArray:=by rw [hW1];exact Blk.new w.drew 102 row.toArray
 have hE:Ext w W1:=by rw [hW1];exact ((Ext.refl w).drew').alloc' _
 clear hrow hrow' hW1 hzl hold hkk hik hi0 hz0 hz1 hz2;obtain ⟨cs,hcs⟩:∃ cs,cs=(cur.take (n*6)).drop (i*6):=⟨_,rfl⟩;have hsl:cs.length=(n - i)*6:=by rw [hcs];simp only [List.length_drop,List.length_take];omega
 have hgl:=hB.lt;have hvl:=hV.lt;have hBW:=hB.ext hE;have hVW:=hV.ext hE;obtain ⟨N,hNe⟩:∃ N,N=w.heap.size:=⟨_,rfl⟩;rw [<- hNe] at hN hrz hgl hvl
 have hcp1:∀ ty dc,(Builtin.copy_ #[93,93] ty #[.slice (some ⟨N,i*6,none⟩) (n+1 - i) dc,.slice (some ⟨vb,0,none⟩) 1 vc]).run Tryz.prog W1=.ok (goInt ((1:Nat):Int)) (W1.setCells N (i*6) us):=fun ty dc =>
  lT W1 ty N (i*6) _ dc ⟨vb,0,none⟩ _ vc 1 us row hN (by simp only [Nat.min_def];split <;> omega) (by omega) (fun j v hj=>by
   rw [dM,Nat.zero_add];exact hVW.cell' j (by simpa using hj)) (by omega) h1u
 have hB1:=aR us (w:=W1) (i*6) hN (by omega);rw [hu] at hB1;have hG1:Blk (W1.setCells N (i*6) us) g 102 cur.toArray:=Blk.farCells (by omega) us _ hBW;have hfin:=xQ hu hi (by omega) hrl hrp (by rw [List.length_take];omega) hsl _ _ rfl rfl;obtain ⟨c1,hc1⟩:∃ c1,c1=row.take (i*6) ++ us ++ row.drop (i*6+6):=⟨_,rfl⟩;rw [<- hc1] at hB1 hfin;obtain ⟨W2,hW2⟩:∃ W2,W2=W1.setCells N (i*6) us:=⟨_,rfl⟩;have hF2:Fr (fun k=>k=N) w W2:=by rw [hW2];exact (Fr.of_ext hE).setCells us _ (.inl rfl)
 rw [<- hW2] at hcp1 hB1 hG1
 have hcp2:∀ ty dc sc,(Builtin.copy_ #[93,93] ty #[.slice (some ⟨N,(i+1)*6,none⟩) (n+1 - (i+1)) dc,.slice (some ⟨g,i*6,none⟩) (n - i) sc]).run Tryz.prog W2.drew=.ok (goInt ((n - i:Nat):Int)) (W2.drew.setCells N ((i+1)*6) cs):=fun ty dc sc =>
  lT W2.drew ty N ((i+1)*6) _ dc ⟨g,i*6,none⟩ _ sc (n - i) cs c1 hB1.drew (by simp only [Nat.min_def];split <;> omega) hsl (fun j v hj=>by
   rw [dM,fN,hG1.cell];rw [hcs,List.getElem?_drop,List.getElem?_take] at hj
   split at hj
   ·simpa using hj
   ·cases hj) (by rw [hfin.1];omega) (fun v hv=>h1 v (by rw [hcs] at hv;exact List.mem_of_mem_drop hv))
 have hB2:=aR cs (w:=W2.drew) ((i+1)*6) hB1.drew (by rw [hfin.1];omega);rw [hsl] at hB2;have hF3:=(hF2.drew).setCells cs ((i+1)*6) (.inl rfl)
 have HRES:=aV4 (show aFj n i cur us w (.returned (.slice (some ⟨N,0,none⟩) (n+1) G)) (W2.drew.setCells N ((i+1)*6) cs) from
  ⟨G,by rw [hNe],hGn,hGm,_,by rw [<- hNe];exact hB2,hfin.2.1,by rw [hfin.2.2,hcs],hF3.new_ext (fun k hk=>by omega)⟩)
 have HC1:=aV4 hcp1;have HC2:=aV4 hcp2;have HRZ:=aV4 hrz;clear hB hV hu hcl h1 h1u hGm hrl hrp hrz hN hE hcs hsl hBW hVW hcp1 hcp2 hB1 hG1 hfin hc1 hW2 hF2 hB2 hF3 hNe;have t1:¬ ((i:Int)=(n:Int)):=by omega
 have hi1:(0:Int)<=(i:Int):=by omega
 have hi2:(i:Int)<=(n:Int):=by omega
 have hi3:((i:Int)+1).toNat=i+1:=by omega
 have hi5:(n:Int)<(n:Int)+1:=by omega
 have hi6:(i:Int)<=(n:Int)+1:=by omega
 have hi7:¬ (n=i):=by omega
 have hi8:¬ (G=i+1):=by omega
 have hi11:¬ (G=i):=by omega
 have hi9:(0:Int)<=(i:Int)+1:=by omega
 have hi10:(i:Int)+1<=(n:Int)+1:=by omega
 go_enter Tryz.func102,Tryz.ntmps102;go_wp2_with (first | (at_builtin;refine Lib.wpList_append_run _ rfl _ _ _ _ rfl _ _ rfl rfl _ _ (HRZ.out _) ?_) | (with_reducible refine jF _ rfl (.tmp 43) (.tmp 44) 93 93 rfl (.slice (some ⟨N,i*6,none⟩) (n+1 - i) (G - i)) (.slice (some ⟨vb,0,none⟩) 1 vc) rfl rfl (HC1.out _ _) ?_));have hw1:IntKind.i64.wrap ((i:Int)+1)=(i:Int)+1:=by rw [IntKind.wrap_i64];omega
 go_region_law (refine kZ rfl (.tmp 50) (.tmp 53) 93 93 rfl (.slice (some ⟨N,(i+1)*6,none⟩) (n+1 - (i+1)) (G - (i+1))) (.slice (some ⟨g,i*6,none⟩) (n - i) (n - i)) (by simp [Act.eval,Act.put]) (by simp [Act.eval,Act.put]) (HC2.out _ _ _) ?_);clear hw1;go_wp2_with fail;go_ret;exact HRES.out
def aUe (ve:Value)(n i:Nat)(xs us:List Value)(w:World)(e:Ending)(w':World):Prop:=∃ v',e=.returned v'∧w'.ownsRow 0 102 6 v' (n+1) (xs.take (i*6) ++ us ++ xs.drop (i*6)) ∧
 Fr (fun k=>some k=ve.ownBlock) w w'∧(v'.ownBlock=ve.ownBlock∨v'.ownBlock=some w.heap.size)
theorem aBp (ve:Value)(n vb vc:Nat)(tv:TypeId)(xs us:List Value)(w:World)(hO:w.ownsRow 0 102 6 ve n xs)(hV:Blk w vb tv us.toArray)(hu:us.length=6)(hnn:n<=100000)(h1u:∀ u ∈ us,u.oneCell'=true) :
  Calls Tryz.prog 102 #[ve,.int .i64 n,.slice (some ⟨vb,0,none⟩) 1 vc] w (aUe ve n n xs us w):=by
 obtain ⟨i0,hi0,hz0,hz1,hz2⟩:=info_parts Tryz.info102;have hS:Sl w (fun k=>k=vb) 6 (some ⟨vb,0,none⟩) 1 us:=⟨by omega,fun _=>⟨vb,0,rfl,rfl,fun j u hj=>by rw [Nat.zero_add];exact hV.cell' j (by simpa using hj)⟩⟩;have hxl:=hO.1;have hxt:xs.take (n*6)=xs:=List.take_of_length_le (by omega);have hxd:xs.drop (n*6)=[]:=List.drop_eq_nil_of_le (by omega);have HO:=aV4 hO;have HS:=aV4 hS;have HI:=aV4 hi0;have H1:=aV4 h1u;have HXT:=aV4 hxt;have HXD:=aV4 hxd;have hfin:∀ v' w',w'.ownsRow 0 102 6 v' (n+1) (xs ++ us)->Fr (fun k=>some k=ve.ownBlock) w w'->(v'.ownBlock=ve.ownBlock∨v'.ownBlock=some w.heap.size)->aUe ve n n xs us w (.returned v') w':=fun v' w' a b c=>⟨v',rfl,by rw [hxt,hxd,List.append_nil];exact a,b,c⟩
 have HF:=aV4 hfin
 obtain ⟨A,c,rfl,hA,hnc,hc63⟩:∃ A c,ve=.slice A n c∧(A=none->n=0∧c=0)∧n<=c∧c<=9223372036854775807:=by
  rcases hO.2 with ⟨h1,h2⟩ | ⟨g,cap,cur,h1,-,-,h4,h5,-⟩
  ·subst h2;exact ⟨none,0,h1,fun _=>⟨rfl,rfl⟩,Nat.le_refl _,by omega⟩
  ·exact ⟨_,cap,h1,fun h=>by simp at h,h4,by unfold maxLen at h5;omega⟩
 clear hO hV hu h1u hi0 hS hxl hxt hxd hfin;have t1:(0:Int)<=(n:Int):=by omega
 cases A with
 | none =>
  obtain ⟨rfl,rfl⟩:=hA rfl;go_enter Tryz.func102,Tryz.ntmps102;go_wp2_with (at_builtin;go_must (refine aK _ rfl (.tmp 23) (.tmp 24) 93 (by rfl) 0 102 i0 _ 6 64 Tryz.underlying93 HI.out hz0 hz1 hz2 (by kernel_rfl) (by omega) (.slice none 0 0) 0 xs rfl HO.out (fun k=>k=vb) (some ⟨vb,0,none⟩) 1 vc us rfl HS.out H1.out (by omega) (by omega) (by omega) ?_);intro v1 w1 ho1 hb1 hc1;have HR:=aV4 (HF.out v1 w1 ho1 hb1 hc1);clear ho1 hb1 hc1);go_ret;exact HR.out
 | some A =>
  by_cases hc:c=n
  ·subst hc
   go_enter Tryz.func102,Tryz.ntmps102;go_wp2_with (at_builtin;go_must (refine aK _ rfl (.tmp 23) (.tmp 24) 93 (by rfl) 0 102 i0 _ 6 64 Tryz.underlying93 HI.out hz0 hz1 hz2 (by kernel_rfl) (by omega) (.slice (some A) c c) c xs rfl HO.out (fun k=>k=vb) (some ⟨vb,0,none⟩) 1 vc us rfl HS.out H1.out (by omega) (by omega) (by omega) ?_);intro v1 w1 ho1 hb1 hc1;have HR:=aV4 (HF.out v1 w1 ho1 hb1 hc1);clear ho1 hb1 hc1);go_ret;exact HR.out
  ·go_enter Tryz.func102,Tryz.ntmps102
   go_wp2_with (at_builtin;go_must (refine aK _ rfl (.tmp 23) (.tmp 24) 93 (by rfl) 0 102 i0 _ 6 64 Tryz.underlying93 HI.out hz0 hz1 hz2 (by kernel_rfl) (by omega) (.slice (some A) n c) n xs rfl HO.out (fun k=>k=vb) (some ⟨vb,0,none⟩) 1 vc us rfl HS.out H1.out (by omega) (by omega) (by omega) ?_);intro v1 w1 ho1 hb1 hc1;have HR:=aV4 (HF.out v1 w1 ho1 hb1 hc1);clear ho1 hb1 hc1);go_ret;exact HR.out
theorem aBq (ve:Value)(n i vb vc:Nat)(tv:TypeId)(xs us:List Value)(w:World)(hO:w.ownsRow 0 102 6 ve n xs)(hV:Blk w vb tv us.toArray)(hne:some vb ≠ ve.ownBlock)(hu:us.length=6)(hi:i<=n)(hnn:n<=100000)
  (h1:∀ u ∈ xs,u.oneCell'=true)(h1u:∀ u ∈ us,u.oneCell'=true) :
  Calls Tryz.prog 102 #[ve,.int .i64 i,.slice (some ⟨vb,0,none⟩) 1 vc] w (aUe ve n i xs us w):=by
 by_cases hin:i=n
 ·subst hin;exact aBp ve i vb vc tv xs us w hO hV hu hnn h1u
 rcases hO with ⟨hxl,⟨h2,h3⟩ | ⟨g,cap,cur,rfl,-,h3,h4,h5,h6,h7⟩⟩
 ·omega
 have hB:Blk w g 102 cur.toList.toArray:=by unfold Blk;simpa using h3
 have hcl:cur.toList.length=cap*6:=by simpa using h6
 have hgv:vb ≠ g:=fun h=>hne (by simp [Value.ownBlock,h])
 have h63:cap<=9223372036854775807:=by unfold maxLen at h5;omega
 have h1':∀ u ∈ cur.toList.take (n*6),u.oneCell'=true:=by rw [h7];exact h1
 have ht:cur.toList.take (i*6)=xs.take (i*6):=by rw [<- h7,List.take_take,Nat.min_eq_left (by omega)]
 have hlen:(xs.take (i*6) ++ us ++ xs.drop (i*6)).length=(n+1)*6:=by simp only [List.length_append,List.length_take,List.length_drop];omega
 rcases Nat.lt_or_ge n cap with hc | hc
 ·refine (yF g n cap i vb vc tv cur.toList us w hB hV hgv hu hcl hc (by omega) hnn h63 h1' h1u).mono ?_
  rintro e w' ⟨rfl,cur',hB',hl',ht',hF⟩;refine ⟨_,rfl,⟨hlen,.inr ⟨g,cap,cur'.toArray,rfl,Nat.zero_le _,hB',by omega,h5,by simpa using hl',?_⟩⟩,?_,.inl rfl⟩
  ·show cur'.take ((n+1)*6)=_
   rw [ht',ht,h7]
  ·exact ⟨hF.os,hF.tape,hF.output,hF.size,fun k hk hm=>hF.block k hk (fun e=>hm (by simp [Value.ownBlock,e]))⟩
 ·refine (yG g n cap i vb vc tv cur.toList us w hB hV hu hcl (by omega) (by omega) hnn h1' h1u).mono ?_
  rintro e w' ⟨cap',rfl,hc1,hc2,cur',hB',hl',ht',hE⟩;refine ⟨_,rfl,⟨hlen,.inr ⟨_,cap',cur'.toArray,rfl,Nat.zero_le _,hB',hc1,hc2,by simpa using hl',?_⟩⟩,Fr.of_ext hE,.inr rfl⟩
  show cur'.take ((n+1)*6)=_
  rw [ht',ht,h7]
def aUj (x:GE)(w:World)(e:Ending)(w':World):Prop:=∃ A c,e=.returned (aEs x A c)∧EAt w' (fun b=>w.heap.size<=b) x A c∧Ext w w'
theorem sD (x:GE)(A:Option Addr)(c:Nat)(P:Nat->Prop)(w:World)(hx:EAt w P x A c)(hpl:x.path.length<=1000000):Calls Tryz.prog 103 #[aEs x A c] w (aUj x w):=by
 have HX:=aV4 hx;obtain ⟨hc1,hc2⟩:=hx.path.le;obtain ⟨A',c',ep,-,-,h3,h4⟩:=hx.path;injection ep with ep1 _ ep2;subst ep1 ep2;have H3:=aV4 h3;have H4:=aV4 h4;clear hx h3 h4;obtain ⟨i0,hi,hz0,hz1,hz2⟩:=info_parts Tryz.info3;have HI:=aV4 hi;clear hi;go_enter Tryz.func103,Tryz.ntmps103;go_upto_region 1 with fail;have HE:=aV4 (show Ext w ((w.alloc (.cells #[.slice A x.path.length c,.int .i64 x.kind,.int .i64 x.at_,.int .i64 x.code,.bool x.fresh,.int .i64 x.hits] 102)).alloc (.cells #[.slice none 0 0,.int .i64 0,.int .i64 0,.int .i64 0,.bool false,.int .i64 0] 102)) from ((Ext.refl w).alloc' _).alloc' _);have HB:=aV4 ((Blk.new w 102 #[.slice A x.path.length c,.int .i64 x.kind,.int .i64 x.at_,.int .i64 x.code,.bool x.fresh,.int .i64 x.hits]).alloc (.cells #[.slice none 0 0,.int .i64 0,.int .i64 0,.int .i64 0,.bool false,.int .i64 0] 102));have HR:=aV4 (Blk.new' (w.alloc (.cells #[.slice A x.path.length c,.int .i64 x.kind,.int .i64 x.at_,.int .i64 x.code,.bool x.fresh,.int .i64 x.hits] 102)) 102 #[.slice none 0 0,.int .i64 0,.int .i64 0,.int .i64 0,.bool false,.int .i64 0] (g:=w.heap.size+1) (by simp));generalize (w.alloc (.cells #[.slice A x.path.length c,.int .i64 x.kind,.int .i64 x.at_,.int .i64 x.code,.bool x.fresh,.int .i64 x.hits] 102)).alloc (.cells #[.slice none 0 0,.int .i64 0,.int .i64 0,.int .i64 0,.bool false,.int .i64 0] 102)=W at *
 obtain ⟨b0,b1,b2,b3,b4,b5⟩:=cH HB.out;have lb:=HB.out.lt;have lr:=HR.out.lt;go_wp2_with (at_builtin;go_must (refine aN _ rfl (.tmp 3) (.tmp 5) 22 (by rfl) W.heap.size 3 i0 _ 1 8 Tryz.underlying22 HI.out hz0 hz1 hz2 rfl (by omega) (.slice (some ⟨W.heap.size,0,none⟩) 0 0) 0 [] rfl (World.ownsRow_lit W #[] 0 (Nat.le_refl _) (by unfold maxLen;omega) rfl) P A x.path.length c (x.path.map (Value.int .i64)) rfl (H4.out.keep (aD.of_ext (HE.out.alloc' _)) (fun _ h=>h)) (fun u hu=>by obtain ⟨z,_,rfl⟩:=List.mem_map.1 hu;rfl) (by omega) (by omega) (by simp) ?_);intro v1 w1 ho1 hb1;simp only [Nat.zero_add,List.nil_append] at ho1;obtain ⟨A1,c1,e0,e1,e2,e3⟩:=Sl.of_own ho1;subst e0;have hx1:Ext W w1:=Below.trans ((Ext.refl W).alloc' _) hb1;have B1:=HB.out.ext hx1;have R1:=HR.out.ext hx1;obtain ⟨d0,d1,d2,d3,d4,d5⟩:=cH B1;obtain ⟨r0,r1,r2,r3,r4,r5⟩:=cH R1;have fb:=B1.frozen 0;have f0:=R1.frozen 0;have f1:=R1.frozen 1;have f2:=R1.frozen 2;have f3:=R1.frozen 3;have f4:=R1.frozen 4;have f5:=R1.frozen 5;clear b0 b1 b2 b3 b4 b5);unfold maxLen at e2;have HP1:=aV4 (show bT w1 (fun b=>W.heap.size<=b) (.slice A1 x.path.length c1) x.path from ⟨A1,c1,rfl,e1,⟨by omega,e2⟩,H3.out,e3 _ (fun b hb=>(ho1.lt b hb).1)⟩)
 have HR1:=aV4 R1;have HX1:=aV4 hx1;have hfin:=aR (cG x A1 c1) (w:=w1.setCell ⟨w.heap.size,0,none⟩ (.slice A1 x.path.length c1)) (cs:=[.slice none 0 0,.int .i64 0,.int .i64 0,.int .i64 0,.bool false,.int .i64 0]) (g:=w.heap.size+1) (t:=102) 0 (HR1.out.far (p:=⟨w.heap.size,0,none⟩) (by simp) _) (by simp [cG]);have z0:=hfin.cell' (u:=.slice A1 x.path.length c1) 0 rfl;have z1:=hfin.cell' (u:=.int .i64 x.kind) 1 rfl;have z2:=hfin.cell' (u:=.int .i64 x.at_) 2 rfl;have z3:=hfin.cell' (u:=.int .i64 x.code) 3 rfl;have z4:=hfin.cell' (u:=.bool x.fresh) 4 rfl;have z5:=hfin.cell' (u:=.int .i64 x.hits) 5 rfl
 have hE:Ext w ((w1.setCell ⟨w.heap.size,0,none⟩ (.slice A1 x.path.length c1)).setCells (w.heap.size+1) 0 (cG x A1 c1)) :=
  (((Fr.of_ext (M:=fun _=>False) (HE.out.trans' HX1.out)).setCell (p:=⟨w.heap.size,0,none⟩) (.inr (Nat.le_refl _)) _).setCells _ 0 (.inr (by omega))).ext
 have hk0:aD (fun b=>W.heap.size<=b) w1 w1:=fun _ _ _=>rfl
 have hP:bT ((w1.setCell ⟨w.heap.size,0,none⟩ (.slice A1 x.path.length c1)).setCells (w.heap.size+1) 0 (cG x A1 c1)) (fun b=>w.heap.size<=b) (.slice A1 x.path.length c1) x.path :=
  HP1.out.carry (aD.setCells (by simp <;> omega) _ 0 (hk0.set (p:=⟨w.heap.size,0,none⟩) _ (by simp <;> omega))) (fun b _ h=>by omega)
 have hgen:((((((w1.setCell ⟨w.heap.size,0,none⟩ (.slice A1 x.path.length c1)).setCell ⟨w.heap.size+1,0,none⟩ (.slice A1 x.path.length c1)).setCell ⟨w.heap.size+1,1,none⟩ (.int .i64 x.kind)).setCell ⟨w.heap.size+1,2,none⟩ (.int .i64 x.at_)).setCell ⟨w.heap.size+1,3,none⟩ (.int .i64 x.code)).setCell ⟨w.heap.size+1,4,none⟩ (.bool x.fresh)).setCell ⟨w.heap.size+1,5,none⟩ (.int .i64 x.hits)=(w1.setCell ⟨w.heap.size,0,none⟩ (.slice A1 x.path.length c1)).setCells (w.heap.size+1) 0 (cG x A1 c1):=rfl;rw [hgen];generalize (w1.setCell ⟨w.heap.size,0,none⟩ (.slice A1 x.path.length c1)).setCells (w.heap.size+1) 0 (cG x A1 c1)=WF at *;exact bodyPost_ret (v:=aEs x A1 c1) (by simp [results,Tryz.results103,go_sem,z0,z1,z2,z3,z4,z5]) rfl ⟨A1,c1,rfl,⟨hP,HX.out.kind,HX.out.at_,HX.out.code,HX.out.hits⟩,hE⟩
section
variable {α:Type}{R:α->List Value->Prop}
theorem RL.ins (hR:∀ x cs,R x cs->cs.length=6){l:List α}{xs us:List Value}(h:RL R l xs){y:α}(hy:R y us)(i:Nat):RL R (l.take i ++ y :: l.drop i) (xs.take (i*6) ++ us ++ xs.drop (i*6)):=by
 rw [List.append_assoc];refine (h.take hR i).append ?_;exact ⟨us,_,rfl,hy,h.drop hR i⟩
theorem RL.set (hR:∀ x cs,R x cs->cs.length=6){l:List α}{xs us:List Value}(h:RL R l xs){y:α}(hy:R y us){i:Nat}(hi:i<l.length):RL R (l.set i y) (xs.take (i*6) ++ us ++ xs.drop ((i+1)*6)):=by
 rw [List.set_eq_take_append_cons_drop,if_pos hi,List.append_assoc];refine (h.take hR i).append ?_;exact ⟨us,_,rfl,hy,h.drop hR (i+1)⟩
end
theorem tB (xs:List Value)(f k:Nat)(us:List Value)(v:Value)(hk:k<us.length)(hf:f<=xs.length)(zs:List Value):(xs.take f ++ us ++ zs).set (f+k) v=xs.take f ++ us.set k v ++ zs:=by
 rw [List.append_assoc,List.set_append_right _ _ (by rw [List.length_take];omega),List.length_take,show f+k - min f xs.length=k by omega,List.set_append_left _ _ hk,List.append_assoc]
section
variable {t:List GN}{vn:Value}{b:Int}{L:List GE}{g:CA}{P Q:Nat->Prop}{ve:Value}{w w':World}
theorem dU.one (h:dU t vn b L g P ve w):∃ xs,w.ownsRow 0 102 6 ve L.length xs∧RL (REn w P) L xs∧∀ u ∈ xs,u.oneCell'=true:=by
 obtain ⟨xs,h1,h2⟩:=h.own;refine ⟨xs,h1,h2,?_⟩;clear h1
 have:∀ (l:List GE) (xs:List Value),RL (REn w P) l xs->∀ u ∈ xs,u.oneCell'=true:=by
  intro l
  induction l with
  | nil=>intro xs h u hu;simp only [RL] at h;subst h;simp at hu
  | cons e es ih =>
   intro xs h u hu;obtain ⟨c1,c2,rfl,⟨A,c,rfl,-⟩,h2⟩:=h;rcases List.mem_append.1 hu with hu | hu
   ·simp only [cG,List.mem_cons,List.not_mem_nil,or_false] at hu
    rcases hu with rfl | rfl | rfl | rfl | rfl | rfl <;> rfl
   ·exact ih _ h2 u hu
 exact this L xs h2
theorem dU.touch (x:GE)(hh:gX x.path L=true)(h:dU t vn b L g P ve w)(hx:I64 (bB (L.getD (bK x.path L) default) x).hits) :
  ∃ G cap,ve=.slice (some ⟨G,0,none⟩) L.length cap∧L.length<=cap∧cap<=9223372036854775807∧bK x.path L<L.length∧∃ A c,EAt w P (L.getD (bK x.path L) default) A c ∧
   (∀ j u,(cG (L.getD (bK x.path L) default) A c)[j]?=some u->w.cell? ⟨G,bK x.path L*6+j,none⟩=some u)∧(∀ j,w.frozen? ⟨G,j,none⟩=false) ∧
   dU t vn b (dX L x) g P ve ((w.setCell ⟨G,bK x.path L*6+5,none⟩ (.int .i64 (bB (L.getD (bK x.path L) default) x).hits)).setCell ⟨G,bK x.path L*6+4,none⟩ (.bool (bB (L.getD (bK x.path L) default) x).fresh)):=by
 obtain ⟨xs,h1,h2⟩:=h.own;have hJ:dX L x=L.set (bK x.path L) (bB (L.getD (bK x.path L) default) x):=by unfold dX;rw [if_pos hh]
 have hf:bK x.path L<L.length:=by
  unfold gX at hh;simp only [Bool.and_eq_true,decide_eq_true_eq] at hh;exact hh.1
 have hinc:=h.inc.join x;rw [hJ] at hinc ⊢;generalize bK x.path L=f at *;rcases h1 with ⟨hxl,⟨rfl,h4⟩ | ⟨G,cap,cur,rfl,-,hB,h4,h5,h6,h7⟩⟩
 ·omega
 have hBb:Blk w G 102 cur:=hB;obtain ⟨A,c,hec,hE⟩:=RL.get (fM.len w P) h2 default hf
 have hcell:∀ j u,(cG (L.getD f default) A c)[j]?=some u->w.cell? ⟨G,f*6+j,none⟩=some u:=fun j u hu=>by
  rw [<- hec,List.getElem?_take,List.getElem?_drop,<- h7,List.getElem?_take] at hu
  split at hu
  ·split at hu
   ·exact hBb.cell' _ (by simpa using hu)
   ·cases hu
  ·cases hu
 refine ⟨G,cap,rfl,h4,by unfold maxLen at h5;omega,hf,A,c,hE,hcell,hBb.frozen,?_⟩;have hmem:L.getD f default ∈ L:=aG hf;generalize L.getD f default=y at *;have hB2:=(hBb.set_ (f*6+5) (.int .i64 (bB y x).hits)).set_ (f*6+4) (.bool (bB y x).fresh)
 have hfr:∀ k,k ≠ G->((w.setCell ⟨G,f*6+5,none⟩ (.int .i64 (bB y x).hits)).setCell ⟨G,f*6+4,none⟩ (.bool (bB y x).fresh)).heap[k]?=w.heap[k]?:=fun k hk=>by
  rw [Below.heap_setCell _ _ _ _ (fun e=>hk e),Below.heap_setCell _ _ _ _ (fun e=>hk e)]
 generalize (w.setCell ⟨G,f*6+5,none⟩ (.int .i64 (bB y x).hits)).setCell ⟨G,f*6+4,none⟩ (.bool (bB y x).fresh)=W at *;have hkP:aD P w W:=fun k _ hp=>hfr k (fun e=>(h.excl k hp).2 (by rw [e];rfl))
 have hgc:g.c ≠ G:=fun e=>h.ne (by rw [e];rfl)
 have hxs:xs=xs.take (f*6) ++ cG y A c ++ xs.drop ((f+1)*6):=by
  rw [<- hec,show (f+1)*6=f*6+6 by omega,<- List.drop_drop,List.append_assoc,List.take_append_drop,List.take_append_drop]
 have hset:(xs.set (f*6+5) (.int .i64 (bB y x).hits)).set (f*6+4) (.bool (bB y x).fresh)=xs.take (f*6) ++ cG (bB y x) A c ++ xs.drop ((f+1)*6):=by
  rw [show xs.set (f*6+5) (.int .i64 (bB y x).hits)=(xs.take (f*6) ++ cG y A c ++ xs.drop ((f+1)*6)).set (f*6+5) (.int .i64 (bB y x).hits) by rw [<- hxs]];rw [tB _ _ _ _ _ (by simp [cG]) (by omega),tB _ _ _ _ _ (by simp [cG]) (by omega)]
  rfl
 refine ⟨(hfr _ hgc).trans h.box,h.walk.carry hkP (fun _ _ h=>h),⟨_,⟨?_,.inr ⟨G,cap,_,by rw [List.length_set],Nat.zero_le _,hB2,by rw [List.length_set];exact h4,h5,by simpa using h6,rfl⟩⟩,?_⟩,h.excl,h.ne,hinc,h.bI,by rw [List.length_set];exact h.few,?_,h.good⟩
 ·simp only [List.length_take,Array.length_toList,Array.size_setIfInBounds,List.length_set]
  have:=Nat.mul_le_mul_right 6 h4;omega
 ·have e1:((cur.setIfInBounds (f*6+5) (.int .i64 (bB y x).hits)).setIfInBounds (f*6+4) (.bool (bB y x).fresh)).toList.take ((L.set f (bB y x)).length*6)=xs.take (f*6) ++ cG (bB y x) A c ++ xs.drop ((f+1)*6):=by
   rw [List.length_set,Array.toList_setIfInBounds,Array.toList_setIfInBounds,List.take_set,List.take_set,h7,hset]
  rw [e1];exact RL.set (fM.len W P) (h2.move fM hkP (fun _ _ h=>h)) (show REn W P (bB y x) (cG (bB y x) A c) from ⟨A,c,rfl,⟨(hE.carry hkP (fun _ _ h=>h)).path,hE.kind,hE.at_,hE.code,hx⟩⟩) hf
 ·intro e he
  rcases List.mem_or_eq_of_mem_set he with he | rfl
  ·exact h.short e he
  ·exact h.short y hmem
end
theorem aHi {w:World}{ve:Value}{n:Nat}{xs:List Value}(h:w.ownsRow 0 102 6 ve n xs){k:Nat}(hk:ve.ownBlock=some k):k<w.heap.size:=by
 rcases h.2 with ⟨rfl,_⟩ | ⟨G,cap,cur,rfl,_,hG,_⟩
 ·simp [Value.ownBlock] at hk
 ·simp [Value.ownBlock] at hk
  subst hk;exact Blk.lt (t:=102) hG
def jN (t:List GN)(vn:Value)(b:Int)(L':List GE)(g:CA)(P:Nat->Prop)(ve:Value)(w w':World):Prop :=
 ∃ P' v',dU t vn b L' g P' v' w'∧(∀ k,P' k->P k∨w.heap.size<=k)∧Fr (g.M ve) w w'∧(v'.ownBlock=ve.ownBlock∨∃ k,v'.ownBlock=some k∧w.heap.size<=k)
section
variable {t:List GN}{vn:Value}{b:Int}{L:List GE}{g:CA}{P:Nat->Prop}{ve:Value}{w W1 w2:World}
theorem dU.inserted (x:GE)(h:dU t vn b L g P ve w)(hno:gX x.path L=false)(hE:Ext w W1)(A:Option Addr)(c:Nat)(hx:EAt W1 (fun k=>w.heap.size<=k) x A c)(xs:List Value)(h0:w.ownsRow 0 102 6 ve L.length xs)(hr:RL (REn w P) L xs)(v':Value)
  (ho:w2.ownsRow 0 102 6 v' (L.length+1) (xs.take (bK x.path L*6) ++ cG x A c ++ xs.drop (bK x.path L*6)))(hF:Fr (fun k=>some k=ve.ownBlock) W1 w2)(hb:v'.ownBlock=ve.ownBlock∨v'.ownBlock=some W1.heap.size)
  (hfew:L.length+1<=100000)(hpl:x.path.length<=1000):jN t vn b (dX L x) g P ve w (w2.setCell ⟨g.c,3,none⟩ v'):=by
 have hJ:dX L x=L.take (bK x.path L) ++ x :: L.drop (bK x.path L):=by unfold dX;rw [if_neg (by rw [hno];simp)]
 have hinc:=h.inc.join x;have hle:=kR x.path L;rw [hJ] at hinc ⊢;generalize bK x.path L=f at *;have hgc:=h.box.lt;have hown:∀ k,ve.ownBlock=some k->k<w.heap.size:=fun k hk=>aHi h0 hk
 have hbox:Blk w2 g.c 95 #[vn,.pointer (some ⟨g.w,0,none⟩),.int .i64 b,ve]:=(hF.block _ (Nat.lt_of_lt_of_le hgc hE.size) h.ne).trans ((hE.block _ hgc).trans h.box);have hB3:=hbox.set_ 3 v';have hfr:∀ k,k ≠ g.c->(w2.setCell ⟨g.c,3,none⟩ v').heap[k]?=w2.heap[k]?:=fun k hk=>Below.heap_setCell _ _ _ _ (fun e=>hk e)
 have hFF:Fr (g.M ve) W1 (w2.setCell ⟨g.c,3,none⟩ v'):=by
  have h1:Fr (g.M ve) W1 w2:=⟨hF.os,hF.tape,hF.output,hF.size,fun k hk hm=>hF.block k hk (fun e=>hm (.inr e))⟩;exact h1.setCell (p:=⟨g.c,3,none⟩) (.inl (.inl rfl)) v'
 have hne':some g.c ≠ v'.ownBlock:=by
  rcases hb with hb | hb
  ·rw [hb];exact h.ne
  ·rw [hb];intro e;injection e with e;have:=hE.size;omega
 have ho':(w2.setCell ⟨g.c,3,none⟩ v').ownsRow 0 102 6 v' (L.length+1) (xs.take (f*6) ++ cG x A c ++ xs.drop (f*6)):=by
  refine ⟨ho.1,?_⟩;rcases ho.2 with h3 | ⟨G,cap,cur,h4,h5,h6,h7⟩
  ·exact .inl h3
  ·exact .inr ⟨G,cap,cur,h4,h5,(hfr G (fun e=>hne' (by rw [h4,<- e];rfl))).trans h6,h7⟩
 generalize w2.setCell ⟨g.c,3,none⟩ v'=W3 at *
 have hkP:aD P w W3:=fun k hk hp=>(hFF.block k (Nat.lt_of_lt_of_le hk hE.size) (fun hm=>by
  rcases hm with hm | hm
  ·exact (h.excl k hp).1 hm
  ·exact (h.excl k hp).2 hm)).trans (hE.block k hk)
 have hkN:aD (fun k=>w.heap.size<=k) W1 W3:=fun k hk hp=>hFF.block k hk (fun hm=>by
  rcases hm with hm | hm
  ·omega
  ·have:=hown k hm.symm;omega)
 have hlen:(L.take f ++ x :: L.drop f).length=L.length+1:=by simp only [List.length_append,List.length_take,List.length_cons,List.length_drop];omega
 refine ⟨fun k=>(k<w.heap.size∧P k)∨(w.heap.size<=k∧k<W1.heap.size),v',⟨hB3,h.walk.carry hkP (fun k hk hp=>.inl ⟨hk,hp⟩),⟨_,by rw [hlen];exact ho',?_⟩,?_,hne',hinc,h.bI,by omega,?_,h.good⟩,?_,(Fr.of_ext hE).trans hFF,?_⟩
 ·exact RL.ins (fM.len W3 _) (hr.move fM hkP (fun k hk hp=>.inl ⟨hk,hp⟩)) ⟨A,c,rfl,hx.carry hkN (fun k hk hp=>.inr ⟨hp,hk⟩)⟩ f
 ·intro k hk
  rcases hk with ⟨h1,h2⟩ | ⟨h1,h2⟩
  ·refine ⟨(h.excl k h2).1,?_⟩
   rcases hb with hb | hb
   ·rw [hb];exact (h.excl k h2).2
   ·rw [hb];intro e;injection e with e;have:=hE.size;omega
  ·refine ⟨by omega,?_⟩
   rcases hb with hb | hb
   ·rw [hb];intro e;have:=hown k e.symm;omega
   ·rw [hb];intro e;injection e with e;omega
 ·intro e he
  rcases List.mem_append.1 he with he | he
  ·exact h.short e (List.mem_of_mem_take he)
  ·rcases List.mem_cons.1 he with rfl | he
   ·exact hpl
   ·exact h.short e (List.mem_of_mem_drop he)
 ·intro k hk
  rcases hk with ⟨_,h2⟩ | ⟨h1,_⟩
  ·exact .inl h2
  ·exact .inr h1
 ·rcases hb with hb | hb
  ·exact .inl hb
  ·exact .inr ⟨_,hb,hE.size⟩
end
end Go.Proofs.YtkoeecdjijfjnaaGreat
