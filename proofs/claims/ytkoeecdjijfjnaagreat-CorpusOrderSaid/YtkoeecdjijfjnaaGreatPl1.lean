/- Plain laws on lists of integers and their comparison. Conditions: none. -/
namespace Go.Proofs.YtkoeecdjijfjnaaGreat
def around (n m:Int):Int:=if n<0 then (-(n+1)) % m else n % m
theorem around_pos {n m:Int}(hm:1≤m):0≤around n m∧around n m<m:=by
 unfold around
 split
 ·exact ⟨Int.emod_nonneg _ (by omega),Int.emod_lt_of_pos _ (by omega)⟩
 ·exact ⟨Int.emod_nonneg _ (by omega),Int.emod_lt_of_pos _ (by omega)⟩
def cmpI (a b:Int):Int:=if a<b then -1 else if b<a then 1 else 0
def cmpL:List Int→List Int→Int
 | [],[]=>0
 | [],_ :: _=>-1
 | _ :: _,[]=>1
 | a :: as,b :: bs=>if cmpI a b=0 then cmpL as bs else cmpI a b
def cmpP (a b:List Int):Int:=if cmpI a.length b.length=0 then cmpL a b else cmpI a.length b.length
theorem drop_getD {α:Type}{l:List α}{k:Nat}(d:α)(h:k<l.length):l.drop k=l.getD k d :: l.drop (k+1):=by
 rw [List.drop_eq_getElem_cons h];simp [h]
theorem drop_nil {α:Type}{l:List α}{k:Nat}(h:l.length≤k):l.drop k=[]:=List.drop_eq_nil_of_le h
theorem take_succ_getD {α:Type}{l:List α}{k:Nat}(d:α)(h:k<l.length):l.take (k+1)=l.take k ++ [l.getD k d]:=by
 rw [List.take_succ_eq_append_getElem h];simp [h]
end Go.Proofs.YtkoeecdjijfjnaaGreat
