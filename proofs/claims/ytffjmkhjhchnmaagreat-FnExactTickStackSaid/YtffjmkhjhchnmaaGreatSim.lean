/- The relation between the executor's states and the model's, and how it is kept when the memory turns. -/
import Derived.Test.YtffjmkhjhchnmaaGreatReg2
import Derived.Deep.MidRow
import Derived.Deep.AppendSrc
import Derived.Deep.Upon
import Derived.Laws.Closers25b
set_option linter.unusedVariables false
set_option linter.unusedSimpArgs false
namespace Go.Proofs.YtffjmkhjhchnmaaGreat
open Go Go.RowKit
def ar {α β:Type}(R:α→β→Prop):List α→List β→Prop
 |[],[]=>True
 |a::as,b::bs=>R a b∧ar R as bs
 |_,_=>False
section
variable {α β:Type} {R R':α→β→Prop}
theorem ar.mono (h:∀a b,R a b→R' a b):∀{as:List α} {bs:List β},ar R as bs→ar R' as bs
 |[],[],_=>trivial
 |_::_,_::_,⟨h1,h2⟩=>⟨h _ _ h1,ar.mono h h2⟩
 |[],_::_,h=>h.elim
 |_::_,[],h=>h.elim
theorem ar.length:∀{as:List α} {bs:List β},ar R as bs→as.length=bs.length
 |[],[],_=>rfl
 |_::_,_::_,⟨_,h2⟩=>by simp[ar.length h2]
 |[],_::_,h=>h.elim
 |_::_,[],h=>h.elim
theorem ar.at:∀{as:List α} {bs:List β},ar R as bs→∀{j:Nat} {a:α},as[j]? =some a→∃b,bs[j]? =some b∧R a b
 |[],[],_,_,_,h=>by simp at h
 |a::as,b::bs,⟨h1,h2⟩,j,x,h=>by
  cases j with
  |zero=>simp at h;subst h;exact⟨b,rfl,h1⟩
  |succ j=>simp at h;obtain⟨y,hy,hr⟩:=ar.at h2 h;exact⟨y,by simpa using hy,hr⟩
 |[],_::_,h,_,_,_=>h.elim
 |_::_,[],h,_,_,_=>h.elim
theorem ar.of (n:Nat):∀{as:List α} {bs:List β},as.length=n→bs.length=n→(∀(j:Nat) (a:α) (b:β),as[j]? =some a→bs[j]? =some b→R a b)→ar R as bs:=by
 induction n with
 |zero=>intro as bs h1 h2 _;rw[List.eq_nil_of_length_eq_zero h1,List.eq_nil_of_length_eq_zero h2];trivial
 |succ n ih=>
  intro as bs h1 h2 h
  cases as with
  |nil=>simp at h1
  |cons a as=>
   cases bs with
   |nil=>simp at h2
   |cons b bs=>exact⟨h 0 a b rfl rfl,ih (by simpa using h1) (by simpa using h2) λj x y hx hy=>h (j+1) x y (by simpa using hx) (by simpa using hy)⟩
theorem ar.append:∀{as:List α} {bs:List β} {cs:List α} {ds:List β},ar R as bs→ar R cs ds→ar R (as++cs) (bs++ds)
 |[],[],_,_,_,h=>h
 |_::_,_::_,_,_,⟨h1,h2⟩,h=>⟨h1,ar.append h2 h⟩
 |[],_::_,_,_,h,_=>h.elim
 |_::_,[],_,_,h,_=>h.elim
theorem ar.take:∀{as:List α} {bs:List β},ar R as bs→∀n,ar R (as.take n) (bs.take n)
 |[],[],_,n=>by simp[ar]
 |_::_,_::_,⟨h1,h2⟩,n=>by
  cases n with
  |zero=>simp[ar]
  |succ n=>simpa [ar]using⟨h1,ar.take h2 n⟩
 |[],_::_,h,_=>h.elim
 |_::_,[],h,_=>h.elim
theorem ar.drop:∀{as:List α} {bs:List β},ar R as bs→∀n,ar R (as.drop n) (bs.drop n)
 |[],[],_,n=>by simp[ar]
 |_::_,_::_,⟨h1,h2⟩,n=>by
  cases n with
  |zero=>exact⟨h1,h2⟩
  |succ n=>simpa using ar.drop h2 n
 |[],_::_,h,_=>h.elim
 |_::_,[],h,_=>h.elim
end
def Ag (k:IntKind)(n:Int):Prop:=k.min≤n∧n≤k.max
inductive RepC (J:Nat→Prop)(w:World):Cell→Value→Prop
 |bool (b:Bool):RepC J w (.bool b) (.bool b)
 |int (k:IntKind) (n:Int) (h:Ag k n):RepC J w (.int k n) (.int k n)
 |str (b:ByteArray) (hl:b.data.toList.length≤ak):RepC J w (.str b.data.toList) (.string b)
 |raw (v:Value) (h:∃a n c,v= .slice a n c):RepC J w (.raw v) v
 |nil (t:Ty):RepC J w (.sl t []) (.slice none 0 0)
 |emp (t:Ty) (a:Addr) (cap:Nat):RepC J w (.sl t []) (.slice (some a) 0 cap)
 |sl (t:Ty) (xs:List t.T) (b off cap:Nat) (vs:Nat→Nat→Value) (hJ:xs≠[]→J b) (hl:xs.length≤aD) (hc:xs.length≤cap)
   (hcell:∀i x j c,xs[i]? =some x→(t.cells x)[j]? =some c→w.cell? ⟨b,off+i*t.size+j,none⟩=some (vs i j))
   (hrep:∀i x j c,xs[i]? =some x→(t.cells x)[j]? =some c→RepC J w c (vs i j)):RepC J w (.sl t xs) (.slice (some ⟨b,off,none⟩) xs.length cap)
theorem RepC.mono {J J':Nat→Prop}{w w':World}{c:Cell}{v:Value}(h:RepC J w c v)(hw:∀b,J b→w'.heap[b]? =w.heap[b]?)(hJ:∀b,J b→J' b):RepC J' w' c v:=by
 induction h with
 |bool b=>exact .bool b
 |int k n h=>exact .int k n h
 |str b h=>exact .str b h
 |raw b h=>exact .raw b h
 |nil t=>exact .nil t
 |emp t a cap=>exact .emp t a cap
 |sl t xs b off cap vs hJb hl hc hcell _ ih=>
  refine .sl t xs b off cap vs (λhne=>hJ _ (hJb hne)) hl hc (λi x j c hx hcj=> ?_) ih
  rw[←hcell i x j c hx hcj]
  exact World.cell?_of_block (w:=w) (hw b (hJb (by rintro rfl;simp at hx)))
theorem RepC.empty {J:Nat→Prop}{w:World}(t:Ty)(a:Option Addr):RepC J w (.sl t []) (.slice a 0 0):=by
 cases a with
 |none=>exact .nil t
 |some a=>exact .emp t a 0
theorem RepC.one {J:Nat→Prop}{w:World}{c:Cell}{v:Value}(h:RepC J w c v):v.oneCell'=true:=by
 cases h with
 |raw _ h=>obtain⟨_,_,_,rfl⟩:=h;rfl
 |_=>rfl
def B6 (J:Nat→Prop)(w:World)(ag:Bool)(cs:List Cell)(v:Value):Prop:=
 match ag with
 |true=>∃us:Array Value,v= .agg us∧ar (RepC J w) cs us.toList
 |false=>∃c,cs=[c]∧RepC J w c v
structure MF where
 m:Nat→Option (Nat×Nat)
 n:Nat→Nat→Nat→Option (Nat×Nat)
instance:CoeFun MF λ_=>Nat→Option (Nat×Nat):=⟨MF.m⟩
structure Mt where
 fst:Option (Nat×Nat)
 snd:Nat
 inn:Nat→Nat→Option (Nat×Nat)
 ln:Nat→Nat→Nat
abbrev gj:=List Mt
def gj.X (mo:gj)(b:Nat):Prop:=∃m∈mo,(∃c,m.1=some (b,c))∨∃i j c,m.inn i j=some (b,c)
def gj.AtV (mo:gj)(id b:Nat):Prop:=∃m i j c,mo[id]? =some m∧m.inn i j=some (b,c)
def gj.At (mo:gj)(id b:Nat):Prop:=∃m c,mo[id]? =some m∧m.1=some (b,c)
theorem gj.At.x {mo:gj}{id b:Nat}(h:mo.At id b):mo.X b:=by
 obtain⟨m,c,h1,h2⟩:=h
 exact⟨m,List.mem_of_getElem? h1,.inl ⟨c,h2⟩⟩
theorem gj.AtV.x {mo:gj}{id b:Nat}(h:mo.AtV id b):mo.X b:=by
 obtain⟨m,i,j,c,h1,h2⟩:=h
 exact⟨m,List.mem_of_getElem? h1,.inr ⟨i,j,c,h2⟩⟩
def aM (m:Option (Nat×Nat))(len:Nat)(v:Value):Prop:=
 match m with
 |none=>∃a,v= .slice a 0 0
 |some (b,cap)=>v= .slice (some ⟨b,0,none⟩) len cap
def jH (mo:gj)(J:Nat→Prop)(w:World):MC→Value→Prop
 | .c x,v=>RepC J w x v
 | .own k,v=>∃m,mo[k]? =some m∧aM m.1 m.2 v
 | .ptr k,v=>∃m b,mo[k]? =some m∧m.1=some (b,0)∧v= .pointer (some ⟨b,0,none⟩)
 | .down k,v=>∃m,mo[k]? =some m∧aM m.1 m.2 v
def ia (mo:gj)(J:Nat→Prop)(w:World):PV→Value→Prop
 | .val ag cs,v=>B6 J w ag cs v
 | .fn f ks,v=>∃us:Array Value,v= .func (.func f) #[] us∧ar (λk u=>jH mo J w (.ptr k) u) ks us.toList
 | .wr true cs,v=>∃us:Array Value,v= .agg us∧ar (λc u=>jH mo J w c u∧u.oneCell'=true) cs us.toList
 | .wr false cs,v=>∃c,cs=[c]∧jH mo J w c v
 | .nils,v=>v= .slice none 0 0
 | .slx t xs,v=>RepC J w (.sl t xs) v∧∃p n c,v= .slice (some p) n c
abbrev PB (J:Nat→Prop)(w:World):PV→Value→Prop:=ia [] J w
structure BelowX (N:Nat)(X:Nat→Prop)(w w':World):Prop where
 os:w'.os=w.os
 tape:w'.tape=w.tape
 output:w'.output=w.output
 size:w.heap.size≤w'.heap.size
 block:∀b,b<N→¬X b→w'.heap[b]? =w.heap[b]?
theorem BelowX.refl (N:Nat)(X:Nat→Prop)(w:World):BelowX N X w w:=⟨rfl,rfl,rfl,Nat.le_refl _,λ_ _ _=>rfl⟩
theorem BelowX.trans {N:Nat}{X:Nat→Prop}{a b c:World}(h:BelowX N X a b)(k:BelowX N X b c):BelowX N X a c:=
 ⟨k.os.trans h.os,k.tape.trans h.tape,k.output.trans h.output,Nat.le_trans h.size k.size,λx hx hn=>(k.block x hx hn).trans (h.block x hx hn)⟩
def KN:List (Nat×List Int):=[]
def gB (b:Nat):Prop:=∃p∈KN,p.1=b
def GW (w:World):Prop:=∀p∈KN,∃t z,w.heap[p.1]? =some (.cells (p.2.map λn=>Value.int .u64 n).toArray t z)
theorem GW.nil (h:KN=[])(w:World):GW w:=λp hp=>by rw[h]at hp;cases hp
theorem GW.lt {w:World}(h:GW w){b:Nat}(hb:gB b):b<w.heap.size:=by
 obtain⟨p,hp,rfl⟩:=hb
 obtain⟨t,z,h1⟩:=h p hp
 exact(Array.getElem?_eq_some_iff.1 h1).1
theorem GW.keep {w w':World}(h:GW w)(hb:∀b,gB b→w'.heap[b]? =w.heap[b]?):GW w':=λp hp=>by
 obtain⟨t,z,h1⟩:=h p hp
 exact⟨t,z,by rw[hb p.1 ⟨p,hp,rfl⟩];exact h1⟩
structure Cx where
 N:Nat
 I0:Nat→Prop
 I:Nat→Prop
 M:MF
 obj:Nat→Option Ob
 w:World
def Cx.J (c:Cx):Pv→Nat→Prop
 | .arg=>c.I0
 | .new=>λb=>c.I b∧c.N≤b
 | .any=>c.I
def iZ (w:World)(m:Option (Nat×Nat))(t:Ty)(ys:List t.T)(u:Value):Prop:=
 aM m ys.length u∧((m=none∧ys=[])∨∃b cap,m=some (b,cap)∧ys.length≤cap∧ys.length≤aD∧
  (∀j,j<cap*t.size→(w.cell? ⟨b,j,none⟩).isSome=true∧w.frozen? ⟨b,j,none⟩=false)∧
  ∀i e j c,ys[i]? =some e→(t.cells e)[j]? =some c→∃u,w.cell? ⟨b,i*t.size+j,none⟩=some u∧RepC (λ_=>False) w c u)
def d9 (n:Nat→Nat→Option (Nat×Nat))(w:World)(i j:Nat)(c:Cell)(u:Value):Prop:=
 match c with
 | .sl t ys=>iZ w (n i j) t ys u
 |c=>RepC (λ_=>False) w c u
def QS (m:Option (Nat×Nat))(ver:Nat)(v:Value):Ob→Prop
 | .dar _ xs ver' _=>ver≤ver'∧(ver=ver'→aM m xs.length v)
 | .arr _ _ ver' _ _=>ver<ver'
 | .box _=>False
def QV (m:Option (Nat×Nat))(ver i off:Nat)(v:Value):Ob→Prop
 | .dar t xs ver' _=>ver≤ver'∧(ver=ver'→∃b cap,m=some (b,cap)∧i<xs.length∧v= .pointer (some ⟨b,i*t.size+off,none⟩))
 | .arr _ _ ver' _ _=>ver<ver'
 | .box _=>False
def Q4 (n:Nat→Nat→Option (Nat×Nat))(iv i off:Nat)(v:Value):Ob→Prop
 | .dar t xs _ iv'=>iv≤iv'∧(iv=iv'→∃(e:t.T) (t':Ty) (ys:List t'.T),xs[i]? =some e∧(t.cells e)[off]? =some (.sl t' ys)∧aM (n i off) ys.length v)
 | .arr _ _ _ _ _=>True
 | .box _=>False
def QE (n:Nat→Nat→Option (Nat×Nat))(iv i off m o:Nat)(v:Value):Ob→Prop
 | .dar t xs _ iv'=>iv≤iv'∧(iv=iv'→∃(e:t.T) (t':Ty) (ys:List t'.T) (b cap:Nat),xs[i]? =some e∧(t.cells e)[off]? =some (.sl t' ys)∧m<ys.length∧n i off=some (b,cap)∧v= .pointer (some ⟨b,m*t'.size+o,none⟩))
 | .arr _ _ _ _ _=>True
 | .box _=>False
def aA (x:Cx):DC→Value→Prop
 | .bool b,v=>v= .bool b
 | .int k n,v=>v= .int k n∧Ag k n
 | .str s,v=>∃b:ByteArray,v= .string b∧b.data.toList=s∧s.length≤ak
 | .raw r,v=>v=r∧∃a n c,r= .slice a n c
 | .sl p t xs,v=>RepC (x.J p) x.w (.sl t xs) v
 | .nil,v=>v= .slice none 0 0
 | .own id ver,v=>∃t xs ver' frz d,x.obj id=some (.arr t xs ver' frz d)∧ver≤ver'∧(ver=ver'→aM (x.M id) xs.length v)∧v.oneCell'=true
 | .ptr id off,v=>∃cs b,x.obj id=some (.box cs)∧x.M id=some (b,0)∧v= .pointer (some ⟨b,off,none⟩)
 | .eptr id ver i off,v=>∃t xs ver' frz d,x.obj id=some (.arr t xs ver' frz d)∧ver≤ver'∧(ver=ver'→∃b cap,x.M id=some (b,cap)∧i<xs.length∧v= .pointer (some ⟨b,i*t.size+off,none⟩))∧v.oneCell'=true
 | .vw id ver lo hi,v=>∃t xs ver' frz d,x.obj id=some (.arr t xs ver' frz d)∧ver≤ver'∧(ver=ver'→(lo≤hi∧hi≤xs.length)∧∃p cap,aM (x.M id) xs.length (.slice p xs.length cap)∧v= .slice (if cap=lo then p else p.map (·.add (lo*t.size))) (hi-lo) (cap-lo))∧v.oneCell'=true
 | .ref p cs,v=>∃b off,v= .pointer (some ⟨b,off,none⟩)∧x.J p b∧∀j c,cs[j]? =some c→∃u,x.w.cell? ⟨b,off+j,none⟩=some u∧RepC (x.J p) x.w c u
 | .fn f ids,v=>∃us:Array Value,v= .func (.func f) #[] us∧ar (λid u=>∃cs b,x.obj id=some (.box cs)∧x.M id=some (b,0)∧u= .pointer (some ⟨b,0,none⟩)) ids us.toList
 | .slx t xs,v=>RepC x.I0 x.w (.sl t xs) v∧∃p n c,v= .slice (some p) n c
 | .down id ver,v=>v.oneCell'=true∧∃o,x.obj id=some o∧QS (x.M id) ver v o
 | .dptr id ver i off,v=>v.oneCell'=true∧∃o,x.obj id=some o∧QV (x.M id) ver i off v o
 | .inn id iv i off,v=>v.oneCell'=true∧∃o,x.obj id=some o∧Q4 (x.M.n id) iv i off v o
 | .iptr id iv i off m p,v=>v.oneCell'=true∧∃o,x.obj id=some o∧QE (x.M.n id) iv i off m p v o
 | .bsl id,v=>∃cs b,x.obj id=some (.box cs)∧x.M id=some (b,0)∧v= .slice (some ⟨b,0,none⟩) 1 1
 | .undef,_=>True
 | .skipped,v=>v=Go.undef
def iQ (x:Cx)(ag:Bool)(cs:List DC)(v:Value):Prop:=
 match ag with
 |true=>∃us:Array Value,v= .agg us∧ar (λc u=>aA x c u∧u.oneCell'=true) cs us.toList
 |false=>∃c,cs=[c]∧aA x c v
def hU (x:Cx):DV→Value→Prop
 | .v ag cs,v=>iQ x ag cs v
 | .tup vs,v=>∃us:Array Value,v= .tuple us∧ar (λp u=>iQ x p.1 p.2 u) vs us.toList
def xS (x:Cx)(id:Nat):Ob→Prop
 | .box cs=>∃b,x.M id=some (b,0)∧True∧b<x.w.heap.size∧¬x.I b∧(∀j c,cs[j]? =some c→∃u,x.w.cell? ⟨b,j,none⟩=some u∧aA x c u∧u.oneCell'=true)∧
   ∀j,j<cs.length→x.w.frozen? ⟨b,j,none⟩=false
 | .arr t xs _ frz d=>(x.M id=none∧xs=[])∨∃b cap,x.M id=some (b,cap)∧(d=true→x.N≤b)∧b<x.w.heap.size∧(x.I b↔frz=true)∧xs.length≤cap∧xs.length≤aD∧
   (∀j,j<cap*t.size→(x.w.cell? ⟨b,j,none⟩).isSome=true∧x.w.frozen? ⟨b,j,none⟩=false)∧
   ∀i e j c,xs[i]? =some e→(t.cells e)[j]? =some c→∃u,x.w.cell? ⟨b,i*t.size+j,none⟩=some u∧RepC (x.J (if d then .new else .any)) x.w c u
 | .dar t xs _ _=>(x.M id=none∧xs=[])∨∃b cap,x.M id=some (b,cap)∧b<x.w.heap.size∧¬x.I b∧xs.length≤cap∧xs.length≤aD∧
   (∀j,j<cap*t.size→(x.w.cell? ⟨b,j,none⟩).isSome=true∧x.w.frozen? ⟨b,j,none⟩=false)∧
   ∀i e j c,xs[i]? =some e→(t.cells e)[j]? =some c→∃u,x.w.cell? ⟨b,i*t.size+j,none⟩=some u∧d9 (x.M.n id) x.w i j c u
def jA {t t':Ty}(xs:List t.T)(xs':List t'.T):Prop:=
 ∀(i off:Nat) (e:t.T) (t1:Ty) (ys:List t1.T),xs[i]? =some e→(t.cells e)[off]? =some (.sl t1 ys)→∃(e':t'.T) (ys':List t1.T),xs'[i]? =some e'∧(t'.cells e')[off]? =some (.sl t1 ys')∧ys'.length=ys.length
def Kl (c c':Cx)(id:Nat){t:Ty}(xs:List t.T)(v k:Nat):Ob→Prop
 | .dar t' xs' v' k'=>v≤v'∧k≤k'∧(v=v'→t'=t∧xs'.length=xs.length∧c'.M id=c.M id)∧(k=k'→v=v'∧c'.M.n id=c.M.n id∧jA xs xs')
 | .arr _ _ v' _ _=>v<v'
 | .box _=>False
structure Ext (c c':Cx):Prop where
 n:c'.N=c.N
 i0:c'.I0=c.I0
 i00:∀b,c.I0 b→c.I b
 i:∀b,c.I b→c'.I b
 w:∀b,c.I b→c'.w.heap[b]? =c.w.heap[b]?
 box:∀id cs,c.obj id=some (.box cs)→(∃cs',c'.obj id=some (.box cs'))∧c'.M id=c.M id
 arr:∀id t xs v f d,c.obj id=some (.arr t xs v f d)→∃t' xs' v' f' d',c'.obj id=some (.arr t' xs' v' f' d')∧v≤v'∧(v=v'→t'=t∧xs'.length=xs.length∧c'.M id=c.M id)
 dar:∀id t (xs:List t.T) v k,c.obj id=some (.dar t xs v k)→∃o,c'.obj id=some o∧Kl c c' id xs v k o
theorem jA.refl {t:Ty}(xs:List t.T):jA xs xs:=λ_ _ e _ ys h1 h2=>⟨e,ys,h1,h2,rfl⟩
theorem Kl.same {c c':Cx}{id:Nat}{t:Ty}{xs:List t.T}{v k:Nat}(h1:c'.M id=c.M id)(h2:c'.M.n id=c.M.n id):Kl c c' id xs v k (.dar t xs v k):=
 ⟨Nat.le_refl _,Nat.le_refl _,λ_=>⟨rfl,rfl,h1⟩,λ_=>⟨rfl,h2,.refl xs⟩⟩
theorem Ext.j {c c':Cx}(h:Ext c c')(p:Pv)(b:Nat)(hb:c.J p b):c'.J p b:=by
 cases p with
 |arg=>simp only[Cx.J]at*;rw[h.i0];exact hb
 |new=>simp only[Cx.J]at*;exact⟨h.i b hb.1,by rw[h.n];exact hb.2⟩
 |any=>exact h.i b hb
theorem Ext.jw {c c':Cx}(h:Ext c c')(p:Pv)(b:Nat)(hb:c.J p b):c'.w.heap[b]? =c.w.heap[b]? :=by
 cases p with
 |arg=>exact h.w b (h.i00 b hb)
 |new=>exact h.w b hb.1
 |any=>exact h.w b hb
theorem RepC.ext {c c':Cx}(h:Ext c c'){p:Pv}{x:Cell}{v:Value}(hr:RepC (c.J p) c.w x v):RepC (c'.J p) c'.w x v:=hr.mono (h.jw p) (h.j p)
theorem B6.mono {J J':Nat→Prop}{w w':World}{ag:Bool}{cs:List Cell}{v:Value}(h:B6 J w ag cs v)(hw:∀b,J b→w'.heap[b]? =w.heap[b]?)(hJ:∀b,J b→J' b):B6 J' w' ag cs v:=by
 cases ag with
 |true=>obtain⟨us,rfl,hu⟩:=h;exact⟨us,rfl,hu.mono λ_ _ h=>h.mono hw hJ⟩
 |false=>obtain⟨c,rfl,hc⟩:=h;exact⟨c,rfl,hc.mono hw hJ⟩
theorem jH.mono {mo:gj}{J J':Nat→Prop}{w w':World}{c:MC}{v:Value}(h:jH mo J w c v)(hw:∀b,J b→w'.heap[b]? =w.heap[b]?)(hJ:∀b,J b→J' b):jH mo J' w' c v:=by
 cases c with
 |c x=>exact RepC.mono h hw hJ
 |own k=>exact h
 |ptr k=>exact h
 |down k=>exact h
theorem ia.mono {mo:gj}{J J':Nat→Prop}{w w':World}{a:PV}{v:Value}(h:ia mo J w a v)(hw:∀b,J b→w'.heap[b]? =w.heap[b]?)(hJ:∀b,J b→J' b):ia mo J' w' a v:=by
 cases a with
 |val ag cs=>exact B6.mono h hw hJ
 |fn f ks=>exact h
 |nils=>exact h
 |slx t xs=>exact⟨RepC.mono h.1 hw hJ,h.2⟩
 |wr ag cs=>
  cases ag with
  |true=>obtain⟨us,rfl,hu⟩:=h;exact⟨us,rfl,hu.mono λ_ _ hh=>⟨hh.1.mono hw hJ,hh.2⟩⟩
  |false=>obtain⟨c,rfl,hc⟩:=h;exact⟨c,rfl,hc.mono hw hJ⟩
theorem aA.ext {c c':Cx}(h:Ext c c'){x:DC}{v:Value}(hr:aA c x v):aA c' x v:=by
 cases x with
 |bool b=>exact hr
 |int k n=>exact hr
 |str s=>exact hr
 |raw s=>exact hr
 |sl p t xs=>exact RepC.ext h hr
 |nil=>exact hr
 |own id ver=>
  obtain⟨t,xs,v1,f,d,ho,hv,hval,h1⟩:=hr
  obtain⟨t',xs',v',f',d',ho',hv',hsame⟩:=h.arr id t xs v1 f d ho
  refine⟨t',xs',v',f',d',ho',Nat.le_trans hv hv',λe=> ?_,h1⟩
  have e1:v1=v':=Nat.le_antisymm hv' (e▸hv)
  obtain⟨rfl,hl,hm⟩:=hsame e1
  rw[hl,hm];exact hval (by omega)
 |ptr id off=>
  obtain⟨cs,b,ho,hm,hval⟩:=hr
  obtain⟨⟨cs',ho'⟩,hm'⟩:=h.box id cs ho
  exact⟨cs',b,ho',by rw[hm'];exact hm,hval⟩
 |eptr id ver i off=>
  obtain⟨t,xs,v1,f,d,ho,hv,hval,h1⟩:=hr
  obtain⟨t',xs',v',f',d',ho',hv',hsame⟩:=h.arr id t xs v1 f d ho
  refine⟨t',xs',v',f',d',ho',Nat.le_trans hv hv',λe=> ?_,h1⟩
  have e1:v1=v':=Nat.le_antisymm hv' (e▸hv)
  obtain⟨rfl,hl,hm⟩:=hsame e1
  obtain⟨b,cap,hb,hi,hvv⟩:=hval (by omega)
  exact⟨b,cap,by rw[hm];exact hb,by omega,hvv⟩
 |vw id ver lo hi=>
  obtain⟨t,xs,v1,f,d,ho,hv,hval,h1⟩:=hr
  obtain⟨t',xs',v',f',d',ho',hv',hsame⟩:=h.arr id t xs v1 f d ho
  refine⟨t',xs',v',f',d',ho',Nat.le_trans hv hv',λe=> ?_,h1⟩
  have e1:v1=v':=Nat.le_antisymm hv' (e▸hv)
  obtain⟨rfl,hl,hm⟩:=hsame e1
  obtain⟨hi',p,cap,hb,hvv⟩:=hval (by omega)
  exact⟨⟨hi'.1,by omega⟩,p,cap,by rw[hm,hl];exact hb,hvv⟩
 |ref p cs=>
  obtain⟨b,off,hv,hJ,hc⟩:=hr
  refine⟨b,off,hv,h.j p b hJ,λj x hx=> ?_⟩
  obtain⟨u,hu,hru⟩:=hc j x hx
  exact⟨u,by rw[←hu];exact World.cell?_of_block (w:=c.w) (h.jw p b hJ),RepC.ext h hru⟩
 |fn f ids=>
  obtain⟨us,hv,hu⟩:=hr
  refine⟨us,hv,hu.mono λid u hx=> ?_⟩
  obtain⟨cs,b,h1,h2,h3⟩:=hx
  obtain⟨⟨cs',h4⟩,h5⟩:=h.box id cs h1
  exact⟨cs',b,h4,h5.trans h2,h3⟩
 |slx t xs=>exact⟨RepC.ext (p:= .arg) h hr.1,hr.2⟩
 |bsl id=>
  obtain⟨cs,b,ho,hm,hval⟩:=hr
  obtain⟨⟨cs',ho'⟩,hm'⟩:=h.box id cs ho
  exact⟨cs',b,ho',by rw[hm'];exact hm,hval⟩
 |down id ver=>
  obtain⟨h1,o,ho,hd⟩:=hr
  refine⟨h1, ?_⟩
  cases o with
  |box _=>exact hd.elim
  |arr t xs v f d=>
   obtain⟨t',xs',v',f',d',ho',hv,_⟩:=h.arr id t xs v f d ho
   exact⟨_,ho',Nat.lt_of_lt_of_le hd hv⟩
  |dar t xs v k=>
   obtain⟨o',ho',he⟩:=h.dar id t xs v k ho
   refine⟨o',ho', ?_⟩
   obtain⟨hd1,hd2⟩:=hd
   cases o' with
   |box _=>exact he.elim
   |arr t' xs' v' f' d'=>exact Nat.lt_of_le_of_lt hd1 he
   |dar t' xs' v' k'=>
    obtain⟨e1,_,e3,_⟩:=he
    refine⟨Nat.le_trans hd1 e1,λe=> ?_⟩
    have e4:v=v':=Nat.le_antisymm e1 (e▸hd1)
    obtain⟨_,hl,hm⟩:=e3 e4
    rw[hl,hm];exact hd2 (by omega)
 |dptr id ver i off=>
  obtain⟨h1,o,ho,hd⟩:=hr
  refine⟨h1, ?_⟩
  cases o with
  |box _=>exact hd.elim
  |arr t xs v f d=>
   obtain⟨t',xs',v',f',d',ho',hv,_⟩:=h.arr id t xs v f d ho
   exact⟨_,ho',Nat.lt_of_lt_of_le hd hv⟩
  |dar t xs v k=>
   obtain⟨o',ho',he⟩:=h.dar id t xs v k ho
   refine⟨o',ho', ?_⟩
   obtain⟨hd1,hd2⟩:=hd
   cases o' with
   |box _=>exact he.elim
   |arr t' xs' v' f' d'=>exact Nat.lt_of_le_of_lt hd1 he
   |dar t' xs' v' k'=>
    obtain⟨e1,_,e3,_⟩:=he
    refine⟨Nat.le_trans hd1 e1,λe=> ?_⟩
    have e4:v=v':=Nat.le_antisymm e1 (e▸hd1)
    obtain⟨rfl,hl,hm⟩:=e3 e4
    rw[hl,hm];exact hd2 (by omega)
 |inn id iv i off=>
  obtain⟨h1,o,ho,hd⟩:=hr
  refine⟨h1, ?_⟩
  cases o with
  |box _=>exact hd.elim
  |arr t xs v f d=>
   obtain⟨t',xs',v',f',d',ho',_⟩:=h.arr id t xs v f d ho
   exact⟨_,ho',trivial⟩
  |dar t xs v k=>
   obtain⟨o',ho',he⟩:=h.dar id t xs v k ho
   refine⟨o',ho', ?_⟩
   obtain⟨hd1,hd2⟩:=hd
   cases o' with
   |box _=>exact he.elim
   |arr t' xs' v' f' d'=>trivial
   |dar t' xs' v' k'=>
    obtain⟨_,e1,_,e3⟩:=he
    refine⟨Nat.le_trans hd1 e1,λe=> ?_⟩
    have e4:k=k':=Nat.le_antisymm e1 (e▸hd1)
    obtain⟨_,hm,hl⟩:=e3 e4
    obtain⟨e0,t1,ys,g1,g2,g3⟩:=hd2 (by omega)
    obtain⟨e5,ys',g4,g5,g6⟩:=hl i off e0 t1 ys g1 g2
    exact⟨e5,t1,ys',g4,g5,by rw[hm,g6];exact g3⟩
 |iptr id iv i off m p=>
  obtain⟨h1,o,ho,hd⟩:=hr
  refine⟨h1, ?_⟩
  cases o with
  |box _=>exact hd.elim
  |arr t xs v f d=>
   obtain⟨t',xs',v',f',d',ho',_⟩:=h.arr id t xs v f d ho
   exact⟨_,ho',trivial⟩
  |dar t xs v k=>
   obtain⟨o',ho',he⟩:=h.dar id t xs v k ho
   refine⟨o',ho', ?_⟩
   obtain⟨hd1,hd2⟩:=hd
   cases o' with
   |box _=>exact he.elim
   |arr t' xs' v' f' d'=>trivial
   |dar t' xs' v' k'=>
    obtain⟨_,e1,_,e3⟩:=he
    refine⟨Nat.le_trans hd1 e1,λe=> ?_⟩
    have e4:k=k':=Nat.le_antisymm e1 (e▸hd1)
    obtain⟨_,hm,hl⟩:=e3 e4
    obtain⟨e0,t1,ys,b,cap,g1,g2,g3,g7,g8⟩:=hd2 (by omega)
    obtain⟨e5,ys',g4,g5,g6⟩:=hl i off e0 t1 ys g1 g2
    exact⟨e5,t1,ys',b,cap,g4,g5,by rw[g6];exact g3,by rw[hm];exact g7,g8⟩
 |undef=>trivial
 |skipped=>exact hr
theorem RepC.noJ {J J':Nat→Prop}{w w':World}{c:Cell}{v:Value}(h:RepC J w c v)(hc:∀t xs,c≠ .sl t xs):RepC J' w' c v:=by
 cases h with
 |bool b=>exact .bool b
 |int k n h=>exact .int k n h
 |str b h=>exact .str b h
 |raw _ h=>exact .raw _ h
 |nil t=>exact absurd rfl (hc _ _)
 |emp t a cap=>exact absurd rfl (hc _ _)
 |sl=>exact absurd rfl (hc _ _)
theorem iZ.mono {w w':World}{m:Option (Nat×Nat)}{t:Ty}{ys:List t.T}{u:Value}(h:iZ w m t ys u)(hw:∀b c,m=some (b,c)→w'.heap[b]? =w.heap[b]?):iZ w' m t ys u:=by
 refine⟨h.1, ?_⟩
 rcases h.2 with h2|⟨b,cap,h1,h2,h3,h4,h5⟩
 ·exact .inl h2
 ·have hb:=hw b cap h1
  refine .inr ⟨b,cap,h1,h2,h3,λj hj=> ?_,λi e j c he hc=> ?_⟩
  ·rw[World.cell?_of_block (w:=w) hb,World.frozen?_of_block (w:=w) hb];exact h4 j hj
  ·obtain⟨u,hu,hr⟩:=h5 i e j c he hc
   exact⟨u,by rw[World.cell?_of_block (w:=w) hb];exact hu,hr.mono (λ_ h=>h.elim) λ_ h=>h⟩
theorem iZ.rep {J:Nat→Prop}{w:World}{m:Option (Nat×Nat)}{t:Ty}{ys:List t.T}{u:Value}(h:iZ w m t ys u)(hJ:∀b c,m=some (b,c)→J b):RepC J w (.sl t ys) u:=by
 obtain⟨hv,h⟩:=h
 rcases h with⟨rfl,rfl⟩|⟨b,cap,rfl,h2,h3,h4,h5⟩
 ·obtain⟨_,rfl⟩:=hv
  exact RepC.empty t _
 ·simp only[aM]at hv
  rw[hv]
  refine .sl t ys b 0 cap (λi j=>(w.cell? ⟨b,i*t.size+j,none⟩).getD undef) (λ_=>hJ b cap rfl) h3 h2 (λi x j c hx hc=> ?_) (λi x j c hx hc=> ?_)
  ·obtain⟨u,hu,_⟩:=h5 i x j c hx hc
   rw[Nat.zero_add,hu];rfl
  ·obtain⟨u,hu,hr⟩:=h5 i x j c hx hc
   rw[hu]
   exact hr.mono (λ_ h=>h.elim) λ_ h=>h.elim
theorem d9.rep {J:Nat→Prop}{n:Nat→Nat→Option (Nat×Nat)}{w:World}{i j:Nat}{c:Cell}{u:Value}(h:d9 n w i j c u)(hJ:∀b k,n i j=some (b,k)→J b):RepC J w c u:=by
 cases c with
 |sl t ys=>exact iZ.rep h hJ
 |bool b=>exact RepC.mono h (λ_ h=>h.elim) λ_ h=>h.elim
 |int k m=>exact RepC.mono h (λ_ h=>h.elim) λ_ h=>h.elim
 |str s=>exact RepC.mono h (λ_ h=>h.elim) λ_ h=>h.elim
 |raw s=>exact RepC.mono h (λ_ h=>h.elim) λ_ h=>h.elim
theorem d9.mono {n:Nat→Nat→Option (Nat×Nat)}{w w':World}{i j:Nat}{c:Cell}{u:Value}(h:d9 n w i j c u)(hw:∀b k,n i j=some (b,k)→w'.heap[b]? =w.heap[b]?):d9 n w' i j c u:=by
 cases c with
 |sl t ys=>exact iZ.mono h hw
 |bool b=>exact RepC.mono h (λ_ h=>h.elim) λ_ h=>h
 |int k m=>exact RepC.mono h (λ_ h=>h.elim) λ_ h=>h
 |str s=>exact RepC.mono h (λ_ h=>h.elim) λ_ h=>h
 |raw s=>exact RepC.mono h (λ_ h=>h.elim) λ_ h=>h
theorem iQ.ext {c c':Cx}(h:Ext c c'){ag:Bool}{cs:List DC}{v:Value}(hr:iQ c ag cs v):iQ c' ag cs v:=by
 cases ag with
 |true=>obtain⟨us,rfl,hu⟩:=hr;exact⟨us,rfl,hu.mono λ_ _ hx=>⟨hx.1.ext h,hx.2⟩⟩
 |false=>obtain⟨x,rfl,hx⟩:=hr;exact⟨x,rfl,hx.ext h⟩
theorem hU.ext {c c':Cx}(h:Ext c c'){d:DV}{v:Value}(hr:hU c d v):hU c' d v:=by
 cases d with
 |v ag cs=>exact iQ.ext h hr
 |tup vs=>obtain⟨us,rfl,hu⟩:=hr;exact⟨us,rfl,hu.mono λ_ _ hx=>hx.ext h⟩
def isDar:Option Ob→Bool
 |some (.dar _ _ _ _)=>true
 |_=>false
theorem CV {o:Option Ob}(h:isDar o=true):o≠none:=by rintro rfl;cases h
theorem xS.ext {c c':Cx}(h:Ext c c'){id:Nat}{o:Ob}(hr:xS c id o)(hm:c'.M id=c.M id)(hsz:c.w.heap.size≤c'.w.heap.size)
  (hb:∀b cap,c.M id=some (b,cap)→c'.w.heap[b]? =c.w.heap[b]? ∧(c'.I b→c.I b))(hn:c'.M.n id=c.M.n id)(hv:isDar (some o)=true→∀i j b k,c.M.n id i j=some (b,k)→c'.w.heap[b]? =c.w.heap[b]?):xS c' id o:=by
 cases o with
 |dar t xs ver iv=>
  rcases hr with⟨h1,h2⟩|⟨b,cap,hM,hlt,hI,hl1,hl2,hc,he⟩
  ·exact .inl ⟨by rw[hm];exact h1,h2⟩
  ·obtain⟨hw,hi⟩:=hb b cap hM
   refine .inr ⟨b,cap,by rw[hm];exact hM,Nat.lt_of_lt_of_le hlt hsz,λhx=>hI (hi hx),hl1,hl2,λj hj=> ?_,λi e j x hx hxj=> ?_⟩
   ·obtain⟨h1,h2⟩:=hc j hj
    exact⟨by rw[World.cell?_of_block (w:=c.w) hw];exact h1,by rw[World.frozen?_of_block (w:=c.w) hw];exact h2⟩
   ·obtain⟨u,hu,hru⟩:=he i e j x hx hxj
    exact⟨u,by rw[←hu];exact World.cell?_of_block (w:=c.w) hw,by rw[hn];exact hru.mono (hv rfl i j)⟩
 |box cs=>
  obtain⟨b,hM,hN,hlt,hI,hc,hf⟩:=hr
  obtain⟨hw,hi⟩:=hb b 0 hM
  refine⟨b,by rw[hm];exact hM,hN,Nat.lt_of_lt_of_le hlt hsz,λhx=>hI (hi hx),λj x hx=> ?_,λj hj=> ?_⟩
  ·obtain⟨u,hu,hru,h1⟩:=hc j x hx
   exact⟨u,by rw[←hu];exact World.cell?_of_block (w:=c.w) hw,hru.ext h,h1⟩
  ·rw[←hf j hj];exact World.frozen?_of_block (w:=c.w) hw
 |arr t xs ver frz d=>
  rcases hr with⟨h1,h2⟩|⟨b,cap,hM,hN,hlt,hI,hl1,hl2,hc,he⟩
  ·exact .inl ⟨by rw[hm];exact h1,h2⟩
  ·obtain⟨hw,hi⟩:=hb b cap hM
   refine .inr ⟨b,cap,by rw[hm];exact hM,by rw[h.n];exact hN,Nat.lt_of_lt_of_le hlt hsz,⟨λhx=>hI.1 (hi hx),λhx=>h.i b (hI.2 hx)⟩,hl1,hl2,λj hj=> ?_,λi e j x hx hxj=> ?_⟩
   ·obtain⟨h1,h2⟩:=hc j hj
    exact⟨by rw[World.cell?_of_block (w:=c.w) hw];exact h1,by rw[World.frozen?_of_block (w:=c.w) hw];exact h2⟩
   ·obtain⟨u,hu,hru⟩:=he i e j x hx hxj
    exact⟨u,by rw[←hu];exact World.cell?_of_block (w:=c.w) hw,RepC.ext h hru⟩
def GG {t:Ty}(xs:List t.T)(ln:Nat→Nat→Nat):Prop:=∀(i j:Nat) (e:t.T) (t1:Ty) (ys:List t1.T),xs[i]? =some e→(t.cells e)[j]? =some (.sl t1 ys)→ys.length=ln i j
theorem qS:∀{fs:List Fl} {h:HL fs} {j:Nat} {c:Cell},(cM fs h)[j]? =some c→∃(f:Fl) (x:f.T),fs[j]? =some f∧c=f.cell x
 |[],_,j,c,h=>by simp[cM]at h
 |f::fs,hh,j,c,h=>by
  cases j with
  |zero=>simp only[cM,List.getElem?_cons_zero,Option.some.injEq]at h;exact⟨f,_,rfl,h.symm⟩
  |succ j=>
   simp only[cM,List.getElem?_cons_succ]at h
   obtain⟨f',x,h1,h2⟩:=qS h
   exact⟨f',x,by simpa using h1,h2⟩
theorem Bv {t:Ty}{e e':t.T}{j:Nat}{t1:Ty}{ys:List t1.T}{c:Cell}(h:(t.cells e)[j]? =some (.sl t1 ys))(h':(t.cells e')[j]? =some c):∃ys',c= .sl t1 ys':=by
 obtain⟨f,x,h1,h2⟩:=qS h
 obtain⟨f',x',h3,h4⟩:=qS h'
 rw[h1]at h3;cases h3
 cases f<;>simp only[Fl.cell]at h2<;>cases h2
 exact⟨x',h4⟩
theorem GG.inn {t:Ty}{xs ys:List t.T}{ln:Nat→Nat→Nat}(h:GG xs ln)(k:GG ys ln)(hl:ys.length=xs.length):jA xs ys:=by
 intro i off e t1 zs he hc
 have hi:i<ys.length:=by rw[hl];exact(List.getElem?_eq_some_iff.1 he).1
 have hk:off<(t.cells ys[i]).length:=by
  have:=(List.getElem?_eq_some_iff.1 hc).1
  rw[Ty.cells_length]at this⊢;exact this
 obtain⟨zs',hz⟩:=Bv hc (List.getElem?_eq_getElem hk)
 have hz':(t.cells ys[i])[off]? =some (.sl t1 zs'):=by rw[List.getElem?_eq_getElem hk,hz]
 exact⟨_,zs',List.getElem?_eq_getElem hi,hz',by rw[k i off _ t1 zs' (List.getElem?_eq_getElem hi) hz',h i off e t1 zs he hc]⟩
theorem GG.of {t:Ty}{xs ys:List t.T}{ln:Nat→Nat→Nat}(h:GG xs ln)(k:jA xs ys)(hl:ys.length=xs.length):GG ys ln:=by
 intro i j e t1 zs he hc
 have hi:i<xs.length:=by rw[←hl];exact(List.getElem?_eq_some_iff.1 he).1
 have hk:j<(t.cells xs[i]).length:=by
  have:=(List.getElem?_eq_some_iff.1 hc).1
  rw[Ty.cells_length]at this⊢;exact this
 obtain⟨zs',hz⟩:=Bv hc (List.getElem?_eq_getElem hk)
 have hz':(t.cells xs[i])[j]? =some (.sl t1 zs'):=by rw[List.getElem?_eq_getElem hk,hz]
 obtain⟨e',ws,h1,h2,h3⟩:=k i j _ t1 zs' (List.getElem?_eq_getElem hi) hz'
 rw[he]at h1;cases h1
 rw[hc]at h2;cases h2
 rw[h3];exact h i j _ t1 zs' (List.getElem?_eq_getElem hi) hz'
def Ky (mk:Option (Nat×Nat))(nk:Nat→Nat→Option (Nat×Nat))(m:Mt):Ob→Prop
 | .box _=>mk=m.1
 | .arr _ xs ver _ _=>ver=0→mk=m.1∧xs.length=m.2
 | .dar _ xs ver iv=>(ver=0→mk=m.1∧xs.length=m.2)∧(iv=0→nk=m.inn∧GG xs m.ln)
structure VirOk (w0:World)(mo:gj)(I:Nat→Prop)(M:MF)(obj:Nat→Option Ob)(w:World):Prop where
 lt:∀id i j b c,isDar (obj id)=true→M.n id i j=some (b,c)→(w0.heap.size≤b∨mo.AtV id b)∧b<w.heap.size∧¬I b
 inj:∀id id' i i' j j' b c c',isDar (obj id)=true→isDar (obj id')=true→M.n id i j=some (b,c)→M.n id' i' j'=some (b,c')→id=id'∧i=i'∧j=j'
 dis:∀id id' i j b c c',isDar (obj id)=true→obj id'≠none→M.n id i j=some (b,c)→M id'=some (b,c')→False
theorem VirOk.keep {w0:World}{mo:gj}{I I':Nat→Prop}{M M':MF}{obj obj':Nat→Option Ob}{w w':World}(h:VirOk w0 mo I M obj w)
  (hn:∀id,isDar (obj' id)=true→isDar (obj id)=true∧M'.n id=M.n id)
  (hI:∀b,I' b→I b∨∀id i j c,isDar (obj' id)=true→M.n id i j≠some (b,c))
  (hM:∀id b c,obj' id≠none→M' id=some (b,c)→∀id' i j c',isDar (obj' id')=true→M.n id' i j≠some (b,c'))
  (hsz:w.heap.size≤w'.heap.size):VirOk w0 mo I' M' obj' w':=by
 have hold:∀id i j b c,isDar (obj' id)=true→M'.n id i j=some (b,c)→isDar (obj id)=true∧M.n id i j=some (b,c):=by
  intro id i j b c hi hb
  obtain⟨h1,h2⟩:=hn id hi
  exact⟨h1,by rw[←h2];exact hb⟩
 refine⟨λid i j b c hi hb=> ?_,λid id' i i' j j' b c c' hi hi' hb hb'=> ?_,λid id' i j b c c' hi hi' hb hb'=> ?_⟩
 ·obtain⟨h1,h2⟩:=hold id i j b c hi hb
  obtain⟨h3,h4,h5⟩:=h.lt id i j b c h1 h2
  refine⟨h3,Nat.lt_of_lt_of_le h4 hsz,λhb=> ?_⟩
  rcases hI b hb with h6|h6
  ·exact h5 h6
  ·exact h6 id i j c hi h2
 ·obtain⟨h1,h2⟩:=hold id i j b c hi hb
  obtain⟨h3,h4⟩:=hold id' i' j' b c' hi' hb'
  exact h.inj id id' i i' j j' b c c' h1 h3 h2 h4
 ·obtain⟨h1,h2⟩:=hold id i j b c hi hb
  exact hM id' b c' hi' hb' id i j c hi h2
structure SimX (w0:World)(mo:gj)(n:Nat)(I0 I:Nat→Prop)(M:MF)(s:FSt)(a:Act)(w:World):Prop where
 below:BelowX w0.heap.size mo.X w0 w
 i00:∀b,I0 b→I b
 i0lt:∀b,I0 b→b<w0.heap.size
 ilt:∀b,I b→b<w.heap.size
 idiv:∀b,I b→I0 b∨w0.heap.size≤b∨mo.X b
 own:∀id b c,s.obj id≠none→M id=some (b,c)→w0.heap.size≤b∨mo.At id b
 rts:∀k m,mo[k]? =some m→∃o,s.obj k=some o∧Ky (M k) (M.n k) m o
 size:a.tmps.size=n
 defers:a.defers=[]
 tmps:∀t,hU ⟨w0.heap.size,I0,I,M,s.obj,w⟩ (s.tmp t) (a.tmps.getD t undef)
 objs:∀id o,s.obj id=some o→xS ⟨w0.heap.size,I0,I,M,s.obj,w⟩ id o
 inj:∀id id' b c c',s.obj id≠none→s.obj id'≠none→M id=some (b,c)→M id'=some (b,c')→id=id'
 gw:GW w0
 gx:∀b,mo.X b→¬gB b
 vir:VirOk w0 mo I M s.obj w
theorem SimX.gww {w0:World}{mo:gj}{n:Nat}{I0 I:Nat→Prop}{M:MF}{s:FSt}{a:Act}{w:World}(h:SimX w0 mo n I0 I M s a w):GW w:=
 h.gw.keep λb hb=>h.below.block b (h.gw.lt hb) λhx=>h.gx b hx hb
def ui (w0:World)(mo:gj)(n:Nat)(I0:Nat→Prop)(s:FSt)(a:Act)(w:World):Prop:=∃I M,SimX w0 mo n I0 I M s a w
theorem B2 {w0:World}{mo:gj}{n:Nat}{I0:Nat→Prop}{s m:FSt}{a:Act}{w:World}(h:ui w0 mo n I0 s a w)(ho:∀id,m.obj id=s.obj id)(ht:∀t,m.tmp t=s.tmp t∨m.tmp t=cA):ui w0 mo n I0 m a w:=by
 obtain⟨I,M,h⟩:=h
 have he:m.obj=s.obj:=funext ho
 refine⟨I,M,h.below,h.i00,h.i0lt,h.ilt,h.idiv,by rw[he];exact h.own,by rw[he];exact h.rts,h.size,h.defers,λt=> ?_,by rw[he];exact h.objs,by rw[he];exact h.inj,h.gw,h.gx,by rw[he];exact h.vir⟩
 rw[he]
 rcases ht t with h1|h1
 ·rw[h1];exact h.tmps t
 ·rw[h1];exact⟨.undef,rfl,trivial⟩
abbrev ax (w0:World)(I0 I:Nat→Prop)(M:MF)(s:FSt)(w:World):Cx:=⟨w0.heap.size,I0,I,M,s.obj,w⟩
section
variable {w0:World} {mo:gj} {n:Nat} {I0 I:Nat→Prop} {M:MF} {s:FSt} {a:Act} {w:World}
theorem SimX.put (h:SimX w0 mo n I0 I M s a w){dst:Option Nat}(hd:∀d,dst=some d→d<n){d:DV}{v:Value}(hv:hU (ax w0 I0 I M s w) d v):
  SimX w0 mo n I0 I M (s.wr dst d []) (a.put dst v) w:=by
 have hobj:(s.wr dst d []).obj=s.obj:=rfl
 refine⟨h.below,h.i00,h.i0lt,h.ilt,h.idiv,by rw[hobj];exact h.own,by rw[hobj];exact h.rts, ?_, ?_, ?_,by rw[hobj];exact h.objs,by rw[hobj];exact h.inj,h.gw,h.gx,by rw[hobj];exact h.vir⟩
 ·cases dst<;>simp[Act.put,h.size]
 ·cases dst<;>exact h.defers
 ·intro t
  rw[hobj]
  cases dst with
  |none=>exact h.tmps t
  |some i=>
   have hi:=hd i rfl
   simp only[FSt.wr,Option.some.injEq,Act.put]
   by_cases e:i=t
   ·subst e
    rw[if_pos rfl]
    have:(a.tmps.setIfInBounds i v).getD i undef=v:=by
     simp[h.size,hi]
    rw[this];exact hv
   ·rw[if_neg e]
    have:(a.tmps.setIfInBounds i v).getD t undef=a.tmps.getD t undef:=by
     simp[Array.getElem?_setIfInBounds_ne e]
    rw[this];exact h.tmps t
theorem SimX.turn (h:SimX w0 mo n I0 I M s a w){I':Nat→Prop}{M':MF}{obj':Nat→Option Ob}{w':World}
  (hext:Ext (ax w0 I0 I M s w) ⟨w0.heap.size,I0,I',M',obj',w'⟩)(hbelow:BelowX w0.heap.size mo.X w w')(hilt:∀b,I' b→b<w'.heap.size)(hdiv:∀b,I' b→I0 b∨w0.heap.size≤b∨mo.X b)
  (hown:∀id b c,obj' id≠none→M' id=some (b,c)→w0.heap.size≤b∨mo.At id b)
  (hobjs:∀id o,obj' id=some o→xS ⟨w0.heap.size,I0,I',M',obj',w'⟩ id o)
  (hinj:∀id id' b c c',obj' id≠none→obj' id'≠none→M' id=some (b,c)→M' id'=some (b,c')→id=id')(hvir:VirOk w0 mo I' M' obj' w'):
  SimX w0 mo n I0 I' M' ⟨s.tmp,obj'⟩ a w':=
 ⟨h.below.trans hbelow,λb hb=>hext.i b (h.i00 b hb),h.i0lt,hilt,hdiv,hown,λk m hk=>by
  obtain⟨o,ho,hr⟩:=h.rts k m hk
  cases o with
  |box cs=>
   obtain⟨⟨cs',h1⟩,h2⟩:=hext.box k cs ho
   exact⟨_,h1,by show M' k=m.1;rw[show M' k=M k from h2];exact hr⟩
  |arr t xs v f d=>
   obtain⟨t',xs',v',f',d',h1,h2,h3⟩:=hext.arr k t xs v f d ho
   refine⟨_,h1,λhv=> ?_⟩
   have hv0:v=0:=by omega
   obtain⟨_,h4,h5⟩:=h3 (by omega)
   obtain⟨h6,h7⟩:=hr hv0
   exact⟨by rw[show M' k=M k from h5];exact h6,by rw[h4];exact h7⟩
  |dar t xs v iv=>
   obtain⟨o',ho',he⟩:=hext.dar k t xs v iv ho
   refine⟨o',ho', ?_⟩
   cases o' with
   |box _=>exact he.elim
   |arr t' xs' v' f' d'=>exact λh0=>absurd (show v<v' from he) (by omega)
   |dar t' xs' v' iv'=>
    obtain⟨e1,e2,e3,e4⟩:=he
    refine⟨λh0=> ?_,λh0=> ?_⟩
    ·obtain⟨_,h4,h5⟩:=e3 (by omega)
     obtain⟨h6,h7⟩:=hr.1 (by omega)
     exact⟨by rw[show M' k=M k from h5];exact h6,by rw[h4];exact h7⟩
    ·obtain⟨hv,h5,h6⟩:=e4 (by omega)
     obtain⟨rfl,hl,_⟩:=e3 hv
     obtain⟨h7,h8⟩:=hr.2 (by omega)
     exact⟨by rw[show M'.n k=M.n k from h5];exact h7,h8.of h6 hl⟩,h.size,h.defers,λt=>(h.tmps t).ext hext,hobjs,hinj,h.gw,h.gx,hvir⟩
theorem SimX.blk (h:SimX w0 mo n I0 I M s a w){id:Nat}(ho:s.obj id≠none){b c:Nat}(hm:M id=some (b,c)):(w0.heap.size≤b∨mo.X b)∧b<w.heap.size:=by
 refine⟨(h.own id b c ho hm).imp_right gj.At.x, ?_⟩
 cases hob:s.obj id with
 |none=>exact absurd hob ho
 |some o=>
  have hr:=h.objs id o hob
  cases o with
  |box cs=>
   obtain⟨b',hM,hN,hlt,_⟩:=hr
   simp only[]at hM hN hlt
   rw[hm]at hM;cases hM;exact hlt
  |arr t xs ver frz d=>
   rcases hr with⟨h1,_⟩|⟨b',cap,hM,hN,hlt,_⟩
   ·simp only[]at h1;rw[hm]at h1;cases h1
   ·simp only[]at hM hN hlt
    rw[hm]at hM;cases hM;exact hlt
  |dar t xs ver iv=>
   rcases hr with⟨h1,_⟩|⟨b',cap,hM,hlt,_⟩
   ·simp only[]at h1;rw[hm]at h1;cases h1
   ·simp only[]at hM hlt
    rw[hm]at hM;cases hM;exact hlt
def af (obj:Nat→Option Ob)(id:Nat)(o:Ob):Nat→Option Ob:=λi=>if i=id then some o else obj i
def bp (M:MF)(id:Nat)(m:Option (Nat×Nat)):MF:=⟨λi=>if i=id then m else M i,M.n⟩
theorem SimX.drew (h:SimX w0 mo n I0 I M s a w):SimX w0 mo n I0 I M s a w.drew:=by
 have hext:Ext (ax w0 I0 I M s w) (ax w0 I0 I M s w.drew):=
  ⟨rfl,rfl,h.i00,λ_ hb=>hb,λ_ _=>rfl,λid cs ho=>⟨⟨cs,ho⟩,rfl⟩,λid t xs v f d ho=>⟨t,xs,v,f,d,ho,Nat.le_refl _,λ_=>⟨rfl,rfl,rfl⟩⟩,λid t xs v k ho=>⟨_,ho,.same rfl rfl⟩⟩
 exact h.turn hext ⟨rfl,rfl,rfl,Nat.le_refl _,λ_ _ _=>rfl⟩ h.ilt h.idiv h.own (λid o ho=>(h.objs id o ho).ext hext rfl (Nat.le_refl _) (λb cap hb=>⟨rfl,λx=>x⟩) rfl λ_ _ _ _ _ _=>rfl) h.inj
  (h.vir.keep (λid hi=>⟨hi,rfl⟩) (λ_ hb=> .inl hb) (λid b c hi hM id' i j c' hi' hn=>h.vir.dis id' id i j b c' c hi' hi hn hM) (Nat.le_refl _))
theorem SimX.new (h:SimX w0 mo n I0 I M s a w){id:Nat}(hid:s.obj id=none){o:Ob}{m:Option (Nat×Nat)}{w':World}(hw:∀b,b<w.heap.size→w'.heap[b]? =w.heap[b]?)
  (hsz:w.heap.size≤w'.heap.size)(hos:w'.os=w.os)(htape:w'.tape=w.tape)(hout:w'.output=w.output)(hm:∀b c,m=some (b,c)→w.heap.size≤b)
  (ho:∀(_:Ext (ax w0 I0 I M s w) ⟨w0.heap.size,I0,I,bp M id m,af s.obj id o,w'⟩),xS ⟨w0.heap.size,I0,I,bp M id m,af s.obj id o,w'⟩ id o)(hnd:isDar (some o)=false:=by rfl):
  Ext (ax w0 I0 I M s w) ⟨w0.heap.size,I0,I,bp M id m,af s.obj id o,w'⟩∧SimX w0 mo n I0 I (bp M id m) ⟨s.tmp,af s.obj id o⟩ a w':=by
 have hne:∀i,s.obj i≠none→i≠id:=by rintro i hi rfl;exact hi hid
 have hext:Ext (ax w0 I0 I M s w) ⟨w0.heap.size,I0,I,bp M id m,af s.obj id o,w'⟩:=by
  refine⟨rfl,rfl,h.i00,λ_ hb=>hb,λb hb=>hw b (h.ilt b hb),λi cs hi=> ?_,λi t xs v f d hi=> ?_,λi t xs v k hi=> ?_⟩
  ·have hi':i≠id:=hne i (by simp only[]at hi;rw[hi];simp)
   exact⟨⟨cs,by simp only[af,if_neg hi'];exact hi⟩,by simp only[bp,if_neg hi']⟩
  ·have hi':i≠id:=hne i (by simp only[]at hi;rw[hi];simp)
   exact⟨t,xs,v,f,d,by simp only[af,if_neg hi'];exact hi,Nat.le_refl _,λ_=>⟨rfl,rfl,by simp only[bp,if_neg hi']⟩⟩
  ·have hi':i≠id:=hne i (by simp only[]at hi;rw[hi];simp)
   exact⟨_,by simp only[af,if_neg hi'];exact hi,.same (by simp only[bp,if_neg hi']) rfl⟩
 have hdar:∀i,isDar (af s.obj id o i)=true→isDar (s.obj i)=true∧(bp M id m).n i=M.n i:=by
  intro i hi
  by_cases e:i=id
  ·simp only[af,if_pos e]at hi;rw[hnd]at hi;cases hi
  ·simp only[af,if_neg e]at hi;exact⟨hi,rfl⟩
 refine⟨hext,h.turn hext ⟨hos,htape,hout,hsz,λb hb _=>hw b (Nat.lt_of_lt_of_le hb h.below.size)⟩ (λb hb=>Nat.lt_of_lt_of_le (h.ilt b hb) hsz) h.idiv (λi b c hi hM=>by
   by_cases e:i=id
   ·simp only[bp,if_pos e]at hM
    exact .inl (Nat.le_trans h.below.size (hm b c hM))
   ·simp only[bp,if_neg e]at hM
    simp only[af,if_neg e]at hi
    exact h.own i b c hi hM) ?_ ?_ (h.vir.keep (λi hi=>hdar i hi) (λ_ hb=> .inl hb) (λi b c hi hM i' k j c' hi' hn=>by
   have hi':=(hdar i' hi').1
   have hlt:=(h.vir.lt i' k j b c' hi' hn).2.1
   by_cases e:i=id
   ·simp only[bp,if_pos e]at hM
    have:=hm b c hM;omega
   ·simp only[bp,if_neg e]at hM
    simp only[af,if_neg e]at hi
    exact h.vir.dis i' i k j b c' c hi' hi hn hM) hsz)⟩
 ·intro i x hx
  by_cases e:i=id
  ·subst e
   simp only[af,if_pos]at hx
   cases hx
   exact ho hext
  ·simp only[af,if_neg e]at hx
   refine(h.objs i x hx).ext hext (by simp only[bp,if_neg e]) hsz (λb cap hb=>⟨hw b (h.blk (by rw[hx];simp) hb).2,λy=>y⟩) rfl λhd k j b c hb=>hw b (h.vir.lt i k j b c (by rw[hx];exact hd) hb).2.1
 ·intro i j b c c' hi hj hb hb'
  by_cases ei:i=id<;>by_cases ej:j=id
  ·rw[ei,ej]
  ·exfalso
   simp only[bp,if_pos ei,if_neg ej]at hb hb'
   simp only[af,if_neg ej]at hj
   have:=hm b c hb;have:=(h.blk hj hb').2;omega
  ·exfalso
   simp only[bp,if_pos ej,if_neg ei]at hb hb'
   simp only[af,if_neg ei]at hi
   have:=hm b c' hb';have:=(h.blk hi hb).2;omega
  ·simp only[bp,if_neg ei,if_neg ej]at hb hb'
   simp only[af,if_neg ei]at hi
   simp only[af,if_neg ej]at hj
   exact h.inj i j b c c' hi hj hb hb'
theorem SimX.freeze (h:SimX w0 mo n I0 I M s a w){id:Nat}{t:Ty}{xs:List t.T}{ver:Nat}{f d:Bool}(ho:s.obj id=some (.arr t xs ver f d)):
  ∃I',(∀b,I b→I' b)∧(∀b c,M id=some (b,c)→I' b)∧Ext (ax w0 I0 I M s w) ⟨w0.heap.size,I0,I',M,af s.obj id (.arr t xs ver true d),w⟩∧
   SimX w0 mo n I0 I' M ⟨s.tmp,af s.obj id (.arr t xs ver true d)⟩ a w:=by
 let I':Nat→Prop:=λb=>I b∨∃c,M id=some (b,c)
 have hext:Ext (ax w0 I0 I M s w) ⟨w0.heap.size,I0,I',M,af s.obj id (.arr t xs ver true d),w⟩:=by
  refine⟨rfl,rfl,h.i00,λ_ hb=> .inl hb,λb hb=>rfl,λi cs hi=> ?_,λi t' xs' v' f' d' hi=> ?_,λi t' xs' v' k hi=> ?_⟩
  ·have hi':i≠id:=by rintro rfl;simp only[]at hi;rw[ho]at hi;cases hi
   exact⟨⟨cs,by simp only[af,if_neg hi'];exact hi⟩,rfl⟩
  ·by_cases e:i=id
   ·subst e
    simp only[]at hi
    rw[ho]at hi;cases hi
    exact⟨t,xs,ver,true,d,by simp only[af,if_pos],Nat.le_refl _,λ_=>⟨rfl,rfl,rfl⟩⟩
   ·exact⟨t',xs',v',f',d',by simp only[af,if_neg e];exact hi,Nat.le_refl _,λ_=>⟨rfl,rfl,rfl⟩⟩
  ·have hi':i≠id:=by rintro rfl;simp only[]at hi;rw[ho]at hi;cases hi
   exact⟨_,by simp only[af,if_neg hi'];exact hi,.same rfl rfl⟩
 have hlive:∀i,af s.obj id (.arr t xs ver true d) i≠none→s.obj i≠none:=by
  intro i hi
  by_cases e:i=id
  ·rw[e,ho];simp
  ·simpa only[af,if_neg e]using hi
 have hdar:∀i,isDar (af s.obj id (.arr t xs ver true d) i)=true→isDar (s.obj i)=true:=by
  intro i hi
  by_cases e:i=id
  ·simp only[af,if_pos e]at hi;cases hi
  ·simpa only[af,if_neg e]using hi
 refine⟨I',λ_ hb=> .inl hb,λb c hb=> .inr ⟨c,hb⟩,hext,h.turn hext (BelowX.refl _ _ _) ?_ (by
  rintro b (hb|⟨c,hb⟩)
  ·exact h.idiv b hb
  ·exact .inr (h.blk (by rw[ho];simp) hb).1) (λi b c hi hM=>h.own i b c (hlive i hi) hM) ?_ ?_ (h.vir.keep (λi hi=>⟨hdar i hi,rfl⟩) (by
   rintro b (hb|⟨c,hb⟩)
   ·exact .inl hb
   ·exact .inr λi k j c' hi hn=>h.vir.dis i id k j b c' c (hdar i hi) (by rw[ho];simp) hn hb) (λi b c hi hM i' k j c' hi' hn=>h.vir.dis i' i k j b c' c (hdar i' hi') (hlive i hi) hn hM) (Nat.le_refl _))⟩
 ·rintro b (hb|⟨c,hb⟩)
  ·exact h.ilt b hb
  ·exact(h.blk (by rw[ho];simp) hb).2
 ·intro i x hx
  by_cases e:i=id
  ·subst e
   simp only[af,if_pos]at hx
   cases hx
   rcases h.objs i _ ho with⟨h1,h2⟩|⟨b,cap,hM,hN,hlt,hI,hl1,hl2,hc,he⟩
   ·exact .inl ⟨h1,h2⟩
   ·refine .inr ⟨b,cap,hM,hN,hlt,⟨λ_=>rfl,λ_=> .inr ⟨cap,hM⟩⟩,hl1,hl2,hc,λk e' j y hy hyj=> ?_⟩
    obtain⟨u,hu,hru⟩:=he k e' j y hy hyj
    exact⟨u,hu,RepC.ext hext hru⟩
  ·simp only[af,if_neg e]at hx
   refine(h.objs i x hx).ext hext rfl (Nat.le_refl _) (λb cap hb=>⟨rfl, ?_⟩) rfl λ_ _ _ _ _ _=>rfl
   rintro(hy|⟨c,hy⟩)
   ·exact hy
   ·exact absurd (h.inj i id b cap c (by rw[hx];simp) (by rw[ho];simp) hb hy) e
 ·intro i j b c c' hi hj hb hb'
  refine h.inj i j b c c' ?_ ?_ hb hb'
  ·by_cases e:i=id
   ·rw[e,ho];simp
   ·simpa only[af,if_neg e]using hi
  ·by_cases e:j=id
   ·rw[e,ho];simp
   ·simpa only[af,if_neg e]using hj
theorem SimX.freezeD (h:SimX w0 mo n I0 I M s a w){id:Nat}{t:Ty}{xs:List t.T}{ver iv:Nat}(ho:s.obj id=some (.dar t xs ver iv)):
  ∃I',(∀b,I b→I' b)∧(∀b c,M id=some (b,c)→I' b)∧(∀i j b c,M.n id i j=some (b,c)→I' b)∧Ext (ax w0 I0 I M s w) ⟨w0.heap.size,I0,I',M,af s.obj id (.arr t xs (ver+1) true false),w⟩∧
   SimX w0 mo n I0 I' M ⟨s.tmp,af s.obj id (.arr t xs (ver+1) true false)⟩ a w:=by
 let I':Nat→Prop:=λb=>I b∨(∃c,M id=some (b,c))∨∃i j c,M.n id i j=some (b,c)
 have hidl:s.obj id≠none:=by rw[ho];simp
 have hidd:isDar (s.obj id)=true:=by rw[ho];rfl
 have hlive:∀i,af s.obj id (.arr t xs (ver+1) true false) i≠none→s.obj i≠none:=by
  intro i hi
  by_cases e:i=id
  ·rw[e,ho];simp
  ·simpa only[af,if_neg e]using hi
 have hdar:∀i,isDar (af s.obj id (.arr t xs (ver+1) true false) i)=true→i≠id∧isDar (s.obj i)=true:=by
  intro i hi
  by_cases e:i=id
  ·simp only[af,if_pos e]at hi;cases hi
  ·exact⟨e,by simpa only[af,if_neg e]using hi⟩
 have hext:Ext (ax w0 I0 I M s w) ⟨w0.heap.size,I0,I',M,af s.obj id (.arr t xs (ver+1) true false),w⟩:=by
  refine⟨rfl,rfl,h.i00,λ_ hb=> .inl hb,λb hb=>rfl,λi cs hi=> ?_,λi t' xs' v' f' d' hi=> ?_,λi t' xs' v' k hi=> ?_⟩
  ·have hi':i≠id:=by rintro rfl;simp only[]at hi;rw[ho]at hi;cases hi
   exact⟨⟨cs,by simp only[af,if_neg hi'];exact hi⟩,rfl⟩
  ·have hi':i≠id:=by rintro rfl;simp only[]at hi;rw[ho]at hi;cases hi
   exact⟨t',xs',v',f',d',by simp only[af,if_neg hi'];exact hi,Nat.le_refl _,λ_=>⟨rfl,rfl,rfl⟩⟩
  ·by_cases e:i=id
   ·subst e
    simp only[]at hi
    rw[ho]at hi;cases hi
    exact⟨.arr t xs (ver+1) true false,by simp only[af,if_pos],Nat.lt_succ_self _⟩
   ·exact⟨_,by simp only[af,if_neg e];exact hi,.same rfl rfl⟩
 have hnew:∀b,(∃c,M id=some (b,c))∨(∃i j c,M.n id i j=some (b,c))→b<w.heap.size∧(w0.heap.size≤b∨mo.X b):=by
  rintro b (⟨c,hb⟩|⟨i,j,c,hb⟩)
  ·exact⟨(h.blk hidl hb).2,(h.blk hidl hb).1⟩
  ·obtain⟨h1,h2,_⟩:=h.vir.lt id i j b c hidd hb
   exact⟨h2,h1.imp_right gj.AtV.x⟩
 refine⟨I',λ_ hb=> .inl hb,λb c hb=> .inr (.inl ⟨c,hb⟩),λi j b c hb=> .inr (.inr ⟨i,j,c,hb⟩),hext,h.turn hext (BelowX.refl _ _ _) ?_ ?_ (λi b c hi hM=>h.own i b c (hlive i hi) hM) ?_ (λi j b c c' hi hj hb hb'=>h.inj i j b c c' (hlive i hi) (hlive j hj) hb hb')
  (h.vir.keep (λi hi=>⟨(hdar i hi).2,rfl⟩) ?_ (λi b c hi hM i' k j c' hi' hn=>h.vir.dis i' i k j b c' c (hdar i' hi').2 (hlive i hi) hn hM) (Nat.le_refl _))⟩
 ·rintro b (hb|hb)
  ·exact h.ilt b hb
  ·exact(hnew b hb).1
 ·rintro b (hb|hb)
  ·exact h.idiv b hb
  ·exact .inr (hnew b hb).2
 ·intro i x hx
  by_cases e:i=id
  ·subst e
   simp only[af,if_pos]at hx
   cases hx
   rcases h.objs i _ ho with⟨h1,h2⟩|⟨b,cap,hM,hlt,hI,hl1,hl2,hc,he⟩
   ·exact .inl ⟨h1,h2⟩
   ·refine .inr ⟨b,cap,hM,(λh=>by cases h),hlt,⟨λ_=>rfl,λ_=> .inr (.inl ⟨cap,hM⟩)⟩,hl1,hl2,hc,λk e' j y hy hyj=> ?_⟩
    obtain⟨u,hu,hru⟩:=he k e' j y hy hyj
    exact⟨u,hu,hru.rep λb' c' hb'=> .inr (.inr ⟨k,j,c',hb'⟩)⟩
  ·simp only[af,if_neg e]at hx
   have hxl:s.obj i≠none:=by rw[hx];simp
   refine(h.objs i x hx).ext hext rfl (Nat.le_refl _) (λb cap hb=>⟨rfl, ?_⟩) rfl λ_ _ _ _ _ _=>rfl
   rintro(hy|⟨c,hy⟩|⟨k,j,c,hy⟩)
   ·exact hy
   ·exact absurd (h.inj i id b cap c hxl hidl hb hy) e
   ·exact(h.vir.dis id i k j b c cap hidd hxl hy hb).elim
 ·rintro b (hb|⟨c,hb⟩|⟨i,j,c,hb⟩)
  ·exact .inl hb
  ·exact .inr λi k j c' hi hn=>h.vir.dis i id k j b c' c (hdar i hi).2 hidl hn hb
  ·exact .inr λi' k j' c' hi hn=>(hdar i' hi).1 (h.vir.inj i' id k i j' j b c' c (hdar i' hi).2 hidd hn hb).1
theorem SimX.write (h:SimX w0 mo n I0 I M s a w){id:Nat}{o o':Ob}(ho:s.obj id=some o)
  (hsame:match o,o' with| .box _,.box _=>True| .arr t xs v f _,.arr t' xs' v' f' _=>t=t'∧xs.length=xs'.length∧v=v'∧f=f'| .dar t xs v k,.dar t' xs' v' k'=>t'=t∧xs'.length=xs.length∧v=v'∧k=k'∧jA xs xs'|_,_=>False)
  {b cap:Nat}(hm:M id=some (b,cap))(hb:¬I b){w':World}(hw:∀b',b'≠b→b'<w.heap.size→w'.heap[b']? =w.heap[b']?)(hbelow:BelowX w0.heap.size mo.X w w')(hsz:w'.heap.size=w.heap.size)
  (hO:∀(_:Ext (ax w0 I0 I M s w) ⟨w0.heap.size,I0,I,M,af s.obj id o',w'⟩),xS ⟨w0.heap.size,I0,I,M,af s.obj id o',w'⟩ id o'):
  Ext (ax w0 I0 I M s w) ⟨w0.heap.size,I0,I,M,af s.obj id o',w'⟩∧SimX w0 mo n I0 I M ⟨s.tmp,af s.obj id o'⟩ a w':=by
 have hext:Ext (ax w0 I0 I M s w) ⟨w0.heap.size,I0,I,M,af s.obj id o',w'⟩:=by
  refine⟨rfl,rfl,h.i00,λ_ hb=>hb,λb' hb'=>hw b' (by rintro rfl;exact hb hb') (h.ilt b' hb'),λi cs hi=> ?_,λi t xs v f d hi=> ?_,λi t xs v k hi=> ?_⟩
  ·by_cases e:i=id
   ·subst e
    simp only[]at hi
    rw[ho]at hi;cases hi
    cases o' with
    |box cs'=>exact⟨⟨cs',by simp only[af,if_pos]⟩,rfl⟩
    |arr=>exact hsame.elim
    |dar=>exact hsame.elim
   ·exact⟨⟨cs,by simp only[af,if_neg e];exact hi⟩,rfl⟩
  ·by_cases e:i=id
   ·subst e
    simp only[]at hi
    rw[ho]at hi;cases hi
    cases o' with
    |box cs'=>exact hsame.elim
    |dar=>exact hsame.elim
    |arr t' xs' v' f' d'=>
     obtain⟨rfl,hl,rfl,rfl⟩:=hsame
     exact⟨t,xs',v,f,d',by simp only[af,if_pos],Nat.le_refl _,λ_=>⟨rfl,hl.symm,rfl⟩⟩
   ·exact⟨t,xs,v,f,d,by simp only[af,if_neg e];exact hi,Nat.le_refl _,λ_=>⟨rfl,rfl,rfl⟩⟩
  ·by_cases e:i=id
   ·subst e
    simp only[]at hi
    rw[ho]at hi;cases hi
    cases o' with
    |box cs'=>exact hsame.elim
    |arr=>exact hsame.elim
    |dar t' xs' v' k'=>
     obtain⟨ht,hl,rfl,rfl,hn⟩:=hsame
     exact⟨.dar t' xs' v k,by simp only[af,if_pos],Nat.le_refl _,Nat.le_refl _,λ_=>⟨ht,hl,rfl⟩,λ_=>⟨rfl,rfl,hn⟩⟩
   ·exact⟨_,by simp only[af,if_neg e];exact hi,.same rfl rfl⟩
 have hlive:∀i,af s.obj id o' i≠none→s.obj i≠none:=by
  intro i hi
  by_cases e:i=id
  ·rw[e,ho];simp
  ·simpa only[af,if_neg e]using hi
 have hdar:∀i,isDar (af s.obj id o' i)=true→isDar (s.obj i)=true:=by
  intro i hi
  by_cases e:i=id
  ·subst e
   simp only[af,if_pos]at hi
   rw[ho]
   cases o' with
   |box _=>cases hi
   |arr _ _ _ _ _=>cases hi
   |dar _ _ _ _=>cases o with
    |dar _ _ _ _=>rfl
    |box _=>exact hsame.elim
    |arr _ _ _ _ _=>exact hsame.elim
  ·simpa only[af,if_neg e]using hi
 refine⟨hext,h.turn hext hbelow (λb' hb'=>by rw[hsz];exact h.ilt b' hb') h.idiv (λi b c hi hM=>h.own i b c (hlive i hi) hM) ?_ ?_ (h.vir.keep (λi hi=>⟨hdar i hi,rfl⟩) (λ_ hb=> .inl hb) (λi b c hi hM i' k j c' hi' hn=>h.vir.dis i' i k j b c' c (hdar i' hi') (hlive i hi) hn hM) (by rw[hsz];exact Nat.le_refl _))⟩
 ·intro i x hx
  by_cases e:i=id
  ·subst e
   simp only[af,if_pos]at hx
   cases hx
   exact hO hext
  ·simp only[af,if_neg e]at hx
   refine(h.objs i x hx).ext hext rfl (by rw[hsz];exact Nat.le_refl _) (λb' cap' hb'=>⟨hw b' ?_ (h.blk (by rw[hx];simp) hb').2,λy=>y⟩) rfl λhd k j b' c' hb'=>hw b' ?_ (h.vir.lt i k j b' c' (by rw[hx];exact hd) hb').2.1
   ·rintro rfl
    exact e (h.inj i id b' cap' cap (by rw[hx];simp) (by rw[ho];simp) hb' hm)
   ·rintro rfl
    exact h.vir.dis i id k j b' c' cap (by rw[hx];exact hd) (by rw[ho];simp) hb' hm
 ·intro i j b c c' hi hj hb hb'
  refine h.inj i j b c c' ?_ ?_ hb hb'
  ·by_cases e:i=id
   ·rw[e,ho];simp
   ·simpa only[af,if_neg e]using hi
  ·by_cases e:j=id
   ·rw[e,ho];simp
   ·simpa only[af,if_neg e]using hj
end
end Go.Proofs.YtffjmkhjhchnmaaGreat
