/- Lists: splicing, flat cells. -/
import Derived.Test.YtffjmkhjhchnmaaGreatOps6
set_option linter.unusedVariables false
set_option linter.unusedSimpArgs false
namespace Go.Proofs.YtffjmkhjhchnmaaGreat
open Go Go.RowKit
theorem Da {β:Type}{cs ds:List β}{off:Nat}(h:off+ds.length≤cs.length):(splice cs off ds).length=cs.length:=by
 simp[splice];omega
theorem em {β:Type}{cs ds:List β}{off j:Nat}(h:off+ds.length≤cs.length)(h1:off≤j)(h2:j<off+ds.length):(splice cs off ds)[j]? =ds[j-off]? :=by
 unfold splice
 have hl:(cs.take off).length=off:=by simp;omega
 rw[List.append_assoc,List.getElem?_append_right (by omega),hl,List.getElem?_append_left (by omega)]
theorem cD {β:Type}{cs ds:List β}{off j:Nat}(h:off+ds.length≤cs.length)(h1:j<off∨off+ds.length≤j):(splice cs off ds)[j]? =cs[j]? :=by
 unfold splice
 have hl:(cs.take off).length=off:=by simp;omega
 rcases h1 with h1|h1
 ·rw[List.append_assoc,List.getElem?_append_left (by omega),List.getElem?_take_of_lt h1]
 ·rw[List.append_assoc,List.getElem?_append_right (by omega),hl,List.getElem?_append_right (by omega),List.getElem?_drop]
  congr 1;omega
theorem ar.splice {β γ:Type}{R:β→γ→Prop}{as:List β}{bs:List γ}{cs:List β}{ds:List γ}(h:ar R as bs)(k:ar R cs ds)(off:Nat):ar R (splice as off cs) (splice bs off ds):=by
 unfold Go.Proofs.YtffjmkhjhchnmaaGreat.splice
 have:=k.length
 rw[←this]
 exact((h.take off).append k).append (h.drop _)
theorem xv {β:Type}(xs:List β)(b:β):∀i,(bA xs i b).length=xs.length:=by
 induction xs with
 |nil=>intro i;cases i<;>rfl
 |cons x xs ih=>intro i;cases i with
  |zero=>rfl
  |succ i=>simp[bA,ih]
section
variable (ty:Ty)
def flat (xs:List ty.T):List Cell:=xs.flatMap ty.cells
theorem pV (x:ty.T)(xs:List ty.T):flat ty (x::xs)=ty.cells x++flat ty xs:=rfl
theorem lV (xs:List ty.T):(flat ty xs).length=xs.length*ty.size:=by
 induction xs with
 |nil=>simp[flat]
 |cons x xs ih=>rw[pV,List.length_append,ih,Ty.cells_length];simp[Nat.add_mul];omega
theorem E6:∀(xs:List ty.T) (i j:Nat),j<ty.size→(flat ty xs)[i*ty.size+j]? =(xs[i]?).bind λx=>(ty.cells x)[j]?
 |[],i,j,_=>by simp[flat]
 |x::xs,0,j,h=>by
  rw[pV,List.getElem?_append_left (by rw[Ty.cells_length];omega)]
  simp
 |x::xs,i+1,j,h=>by
  rw[pV,List.getElem?_append_right (by rw[Ty.cells_length];simp[Nat.add_mul];omega),Ty.cells_length]
  have:(i+1)*ty.size+j-ty.size=i*ty.size+j:=by simp[Nat.add_mul];omega
  rw[this,E6 xs i j h]
  simp
theorem uj {xs:List ty.T}{i j:Nat}{x:ty.T}{c:Cell}(hx:xs[i]? =some x)(hc:(ty.cells x)[j]? =some c):(flat ty xs)[i*ty.size+j]? =some c:=by
 have hj:j<ty.size:=by
  have:=(List.getElem?_eq_some_iff.1 hc).1
  rwa [Ty.cells_length]at this
 rw[E6 ty xs i j hj,hx]
 exact hc
theorem ND (xs:List ty.T)(e:ty.T):∀i,i<xs.length→flat ty (bA xs i e)=splice (flat ty xs) (i*ty.size) (ty.cells e):=by
 induction xs with
 |nil=>intro i h;simp at h
 |cons x xs ih=>
  intro i h
  cases i with
  |zero=>
   simp only[bA,pV,splice,Nat.zero_mul,List.take_zero,List.nil_append,Nat.zero_add]
   congr 1
   rw[List.drop_append_of_le_length (by rw[Ty.cells_length,Ty.cells_length];omega)]
   rw[List.drop_eq_nil_of_le (by rw[Ty.cells_length,Ty.cells_length];omega)]
   rfl
  |succ i=>
   simp only[bA,pV]
   rw[ih i (by simpa using h)]
   have hs:(i+1)*ty.size=ty.size+i*ty.size:=by rw[Nat.add_mul];omega
   unfold splice
   rw[hs,List.take_append,List.drop_append,Ty.cells_length,Ty.cells_length]
   have e1:(ty.cells x).take (ty.size+i*ty.size)=ty.cells x:=List.take_of_length_le (by rw[Ty.cells_length];omega)
   have e2:(ty.cells x).drop (ty.size+i*ty.size+ty.size)=[]:=List.drop_eq_nil_of_le (by rw[Ty.cells_length];omega)
   have e3:ty.size+i*ty.size-ty.size=i*ty.size:=by omega
   have e4:ty.size+i*ty.size+ty.size-ty.size=i*ty.size+ty.size:=by omega
   rw[e1,e2,e3,e4]
   simp
theorem JU:ty.cells ty.zero=cM ty.fl (A0 ty.fl):=by
 simp[Ty.cells,Ty.zero,Ty.toH_ofH]
theorem ld {J:Nat→Prop}{w:World}:∀{fs:List Fl} {vs:List Value},bX fs vs=true→ar (RepC J w) (cM fs (A0 fs)) vs
 |[],[],_=>trivial
 |[],_::_,h=>by simp[bX]at h
 |_::_,[],h=>by simp[bX]at h
 |f::fs,v::vs,h=>by
  simp only[bX,Bool.and_eq_true]at h
  refine⟨?_,ld h.2⟩
  have h1:=h.1
  try simp only[A0]
  cases f<;>cases v<;>simp only[pg,Bool.and_eq_true,decide_eq_true_eq,beq_iff_eq,Bool.not_eq_true',Bool.false_eq_true]at h1
  ·obtain⟨rfl,rfl⟩:=h1
   exact .int _ _ (B9 _)
  ·subst h1;exact .bool _
  ·rename_i s
   have h0:s.data.toList=[]:=List.eq_nil_of_length_eq_zero (Nat.eq_of_beq_eq_true h1)
   have:=RepC.str (J:=J) (w:=w) s (by rw[h0];simp)
   rw[h0]at this
   exact this
  ·rename_i a l c
   cases a with
   |some a=>simp at h1
   |none=>
    cases l with
    |succ l=>simp at h1
    |zero=>
     cases c with
     |succ c=>simp at h1
     |zero=>exact .nil _
  ·rename_i a l c
   cases a with
   |some a=>simp at h1
   |none=>
    cases l with
    |succ l=>simp at h1
    |zero=>
     cases c with
     |succ c=>simp at h1
     |zero=>exact .raw _ ⟨none,0,0,rfl⟩
end
theorem JA (vs:List Value):∀(off k:Nat) (cs:Array Value),off+k+vs.length≤cs.size→
  ((vs.zipIdx k).foldl (λcs (p:Value×Nat)=>cs.setIfInBounds (off+p.2) p.1) cs).toList=splice cs.toList (off+k) vs:=by
 induction vs with
 |nil=>intro off k cs h;simp[splice]
 |cons v vs ih=>
  intro off k cs h
  simp only[List.length_cons]at h
  rw[List.zipIdx_cons,List.foldl_cons,ih off (k+1) _ (by simp;omega)]
  apply List.ext_getElem?
  intro j
  have hl1:off+(k+1)+vs.length≤(cs.setIfInBounds (off+k) v).toList.length:=by simp;omega
  have hl2:off+k+(v::vs).length≤cs.toList.length:=by simp;omega
  have hset:∀j,(cs.setIfInBounds (off+k) v).toList[j]? =if off+k=j then some v else cs.toList[j]? :=by
   intro j
   rw[Array.getElem?_toList,Array.getElem?_setIfInBounds]
   by_cases e:off+k=j
   ·subst e
    have:off+k<cs.size:=by omega
    simp[this]
   ·simp[e]
  by_cases c1:j<off+k
  ·rw[cD hl1 (.inl (by omega)),cD hl2 (.inl c1),hset,if_neg (by omega)]
  ·by_cases c2:j=off+k
   ·subst c2
    rw[cD hl1 (.inl (by omega)),em hl2 (Nat.le_refl _) (by simp),hset,if_pos rfl]
    simp
   ·by_cases c3:j<off+(k+1)+vs.length
    ·rw[em hl1 (by omega) c3,em hl2 (by omega) (by simp;omega)]
     have:j-(off+k)=(j-(off+(k+1)))+1:=by omega
     rw[this,List.getElem?_cons_succ]
    ·rw[cD hl1 (.inr (by omega)),cD hl2 (.inr (by simp;omega)),hset,if_neg (by omega)]
theorem yq (vs cs:Array Value)(off:Nat)(h:off+vs.size≤cs.size):
  (vs.zipIdx.foldl (λcs (p:Value×Nat)=>cs.setIfInBounds (off+p.2) p.1) cs).toList=splice cs.toList off vs.toList:=by
 have:=JA vs.toList off 0 cs (by simpa using h)
 rw[Nat.add_zero]at this
 rw[←this,←Array.foldl_toList,Array.toList_zipIdx]
end Go.Proofs.YtffjmkhjhchnmaaGreat
