/- The relation between the executor's states and the model's, and how it is kept when the memory turns. -/
import Derived.Test.YtfpdenjmlnhnnaaGreatReg2
import Derived.Deep.MidRow
import Derived.Deep.AppendSrc
import Derived.Deep.Upon
import Derived.Laws.Closers25b
set_option linter.unusedVariables false
set_option linter.unusedSimpArgs false
namespace Go.Proofs.YtfpdenjmlnhnnaaGreat
open Go Go.RowKit
def aL {α β:Type}(R:α→β→Prop):List α→List β→Prop
 |[],[]=>True
 |a::as,b::bs=>R a b∧aL R as bs
 |_,_=>False
section
variable {α β:Type} {R R':α→β→Prop}
theorem aL.mono (h:∀a b,R a b→R' a b):∀{as:List α} {bs:List β},aL R as bs→aL R' as bs
 |[],[],_=>trivial
 |_::_,_::_,⟨h1,h2⟩=>⟨h _ _ h1,aL.mono h h2⟩
 |[],_::_,h=>h.elim
 |_::_,[],h=>h.elim
theorem aL.length:∀{as:List α} {bs:List β},aL R as bs→as.length=bs.length
 |[],[],_=>rfl
 |_::_,_::_,⟨_,h2⟩=>by simp[aL.length h2]
 |[],_::_,h=>h.elim
 |_::_,[],h=>h.elim
theorem aL.at:∀{as:List α} {bs:List β},aL R as bs→∀{j:Nat} {a:α},as[j]? =some a→∃b,bs[j]? =some b∧R a b
 |[],[],_,_,_,h=>by simp at h
 |a::as,b::bs,⟨h1,h2⟩,j,x,h=>by
  cases j with
  |zero=>simp at h;subst h;exact⟨b,rfl,h1⟩
  |succ j=>simp at h;obtain⟨y,hy,hr⟩:=aL.at h2 h;exact⟨y,by simpa using hy,hr⟩
 |[],_::_,h,_,_,_=>h.elim
 |_::_,[],h,_,_,_=>h.elim
theorem aL.of (n:Nat):∀{as:List α} {bs:List β},as.length=n→bs.length=n→(∀(j:Nat) (a:α) (b:β),as[j]? =some a→bs[j]? =some b→R a b)→aL R as bs:=by
 induction n with
 |zero=>intro as bs h1 h2 _;rw[List.eq_nil_of_length_eq_zero h1,List.eq_nil_of_length_eq_zero h2];trivial
 |succ n ih=>
  intro as bs h1 h2 h
  cases as with
  |nil=>simp at h1
  |cons a as=>
   cases bs with
   |nil=>simp at h2
   |cons b bs=>exact⟨h 0 a b rfl rfl,ih (by simpa using h1) (by simpa using h2) λj x y hx hy=>h (j+1) x y (by simpa using hx) (by simpa using hy)⟩
theorem aL.append:∀{as:List α} {bs:List β} {cs:List α} {ds:List β},aL R as bs→aL R cs ds→aL R (as++cs) (bs++ds)
 |[],[],_,_,_,h=>h
 |_::_,_::_,_,_,⟨h1,h2⟩,h=>⟨h1,aL.append h2 h⟩
 |[],_::_,_,_,h,_=>h.elim
 |_::_,[],_,_,h,_=>h.elim
theorem aL.take:∀{as:List α} {bs:List β},aL R as bs→∀n,aL R (as.take n) (bs.take n)
 |[],[],_,n=>by simp[aL]
 |_::_,_::_,⟨h1,h2⟩,n=>by
  cases n with
  |zero=>simp[aL]
  |succ n=>simpa [aL]using⟨h1,aL.take h2 n⟩
 |[],_::_,h,_=>h.elim
 |_::_,[],h,_=>h.elim
theorem aL.drop:∀{as:List α} {bs:List β},aL R as bs→∀n,aL R (as.drop n) (bs.drop n)
 |[],[],_,n=>by simp[aL]
 |_::_,_::_,⟨h1,h2⟩,n=>by
  cases n with
  |zero=>exact⟨h1,h2⟩
  |succ n=>simpa using aL.drop h2 n
 |[],_::_,h,_=>h.elim
 |_::_,[],h,_=>h.elim
end
def Hi (k:IntKind)(n:Int):Prop:=k.min≤n∧n≤k.max
inductive RepC (J:Nat→Prop)(w:World):Cell→Value→Prop
 |bool (b:Bool):RepC J w (.bool b) (.bool b)
 |int (k:IntKind) (n:Int) (h:Hi k n):RepC J w (.int k n) (.int k n)
 |str (b:ByteArray) (hl:b.data.toList.length≤ak):RepC J w (.str b.data.toList) (.string b)
 |nil (t:Ty):RepC J w (.sl t []) (.slice none 0 0)
 |emp (t:Ty) (a:Addr) (cap:Nat):RepC J w (.sl t []) (.slice (some a) 0 cap)
 |sl (t:Ty) (xs:List t.T) (b off cap:Nat) (vs:Nat→Nat→Value) (hJ:xs≠[]→J b) (hl:xs.length≤aU) (hc:xs.length≤cap)
   (hcell:∀i x j c,xs[i]? =some x→(t.cells x)[j]? =some c→w.cell? ⟨b,off+i*t.size+j,none⟩=some (vs i j))
   (hrep:∀i x j c,xs[i]? =some x→(t.cells x)[j]? =some c→RepC J w c (vs i j)):RepC J w (.sl t xs) (.slice (some ⟨b,off,none⟩) xs.length cap)
theorem RepC.mono {J J':Nat→Prop}{w w':World}{c:Cell}{v:Value}(h:RepC J w c v)(hw:∀b,J b→w'.heap[b]? =w.heap[b]?)(hJ:∀b,J b→J' b):RepC J' w' c v:=by
 induction h with
 |bool b=>exact .bool b
 |int k n h=>exact .int k n h
 |str b h=>exact .str b h
 |nil t=>exact .nil t
 |emp t a cap=>exact .emp t a cap
 |sl t xs b off cap vs hJb hl hc hcell _ ih=>
  refine .sl t xs b off cap vs (λhne=>hJ _ (hJb hne)) hl hc (λi x j c hx hcj=> ?_) ih
  rw[←hcell i x j c hx hcj]
  exact World.cell?_of_block (w:=w) (hw b (hJb (by rintro rfl;simp at hx)))
theorem RepC.empty {J:Nat→Prop}{w:World}(t:Ty)(a:Option Addr):RepC J w (.sl t []) (.slice a 0 0):=by
 cases a with
 |none=>exact .nil t
 |some a=>exact .emp t a 0
theorem RepC.one {J:Nat→Prop}{w:World}{c:Cell}{v:Value}(h:RepC J w c v):v.oneCell'=true:=by cases h<;>rfl
def Jg (J:Nat→Prop)(w:World)(ag:Bool)(cs:List Cell)(v:Value):Prop:=
 match ag with
 |true=>∃us:Array Value,v= .agg us∧aL (RepC J w) cs us.toList
 |false=>∃c,cs=[c]∧RepC J w c v
abbrev o8:=List (Option (Nat×Nat)×Nat)
def o8.X (mo:o8)(b:Nat):Prop:=∃m∈mo,∃c,m.1=some (b,c)
def o8.At (mo:o8)(id b:Nat):Prop:=∃m c,mo[id]? =some m∧m.1=some (b,c)
theorem o8.At.x {mo:o8}{id b:Nat}(h:mo.At id b):mo.X b:=by
 obtain⟨m,c,h1,h2⟩:=h
 exact⟨m,List.mem_of_getElem? h1,c,h2⟩
def dk (m:Option (Nat×Nat))(len:Nat)(v:Value):Prop:=
 match m with
 |none=>∃a,v= .slice a 0 0
 |some (b,cap)=>v= .slice (some ⟨b,0,none⟩) len cap
def pK (mo:o8)(J:Nat→Prop)(w:World):MC→Value→Prop
 | .c x,v=>RepC J w x v
 | .own k,v=>∃m,mo[k]? =some m∧dk m.1 m.2 v
 | .ptr k,v=>∃m b,mo[k]? =some m∧m.1=some (b,0)∧v= .pointer (some ⟨b,0,none⟩)
def pF (mo:o8)(J:Nat→Prop)(w:World):PV→Value→Prop
 | .val ag cs,v=>Jg J w ag cs v
 | .fn f ks,v=>∃us:Array Value,v= .func (.func f) #[] us∧aL (λk u=>pK mo J w (.ptr k) u) ks us.toList
 | .wr true cs,v=>∃us:Array Value,v= .agg us∧aL (λc u=>pK mo J w c u∧u.oneCell'=true) cs us.toList
 | .wr false cs,v=>∃c,cs=[c]∧pK mo J w c v
 | .nils,v=>v= .slice none 0 0
 | .slx t xs,v=>RepC J w (.sl t xs) v∧∃p n c,v= .slice (some p) n c
abbrev acL (J:Nat→Prop)(w:World):PV→Value→Prop:=pF [] J w
structure BelowX (N:Nat)(X:Nat→Prop)(w w':World):Prop where
 os:w'.os=w.os
 tape:w'.tape=w.tape
 output:w'.output=w.output
 size:w.heap.size≤w'.heap.size
 block:∀b,b<N→¬X b→w'.heap[b]? =w.heap[b]?
theorem BelowX.refl (N:Nat)(X:Nat→Prop)(w:World):BelowX N X w w:=⟨rfl,rfl,rfl,Nat.le_refl _,λ_ _ _=>rfl⟩
theorem BelowX.trans {N:Nat}{X:Nat→Prop}{a b c:World}(h:BelowX N X a b)(k:BelowX N X b c):BelowX N X a c:=
 ⟨k.os.trans h.os,k.tape.trans h.tape,k.output.trans h.output,Nat.le_trans h.size k.size,λx hx hn=>(k.block x hx hn).trans (h.block x hx hn)⟩
def WD:List (Nat×List Int):=[]
def gB (b:Nat):Prop:=∃p∈WD,p.1=b
def GW (w:World):Prop:=∀p∈WD,∃t z,w.heap[p.1]? =some (.cells (p.2.map λn=>Value.int .u64 n).toArray t z)
theorem GW.nil (h:WD=[])(w:World):GW w:=λp hp=>by rw[h]at hp;cases hp
theorem GW.lt {w:World}(h:GW w){b:Nat}(hb:gB b):b<w.heap.size:=by
 obtain⟨p,hp,rfl⟩:=hb
 obtain⟨t,z,h1⟩:=h p hp
 exact(Array.getElem?_eq_some_iff.1 h1).1
theorem GW.keep {w w':World}(h:GW w)(hb:∀b,gB b→w'.heap[b]? =w.heap[b]?):GW w':=λp hp=>by
 obtain⟨t,z,h1⟩:=h p hp
 exact⟨t,z,by rw[hb p.1 ⟨p,hp,rfl⟩];exact h1⟩
structure Cx where
 N:Nat
 I0:Nat→Prop
 I:Nat→Prop
 M:Nat→Option (Nat×Nat)
 obj:Nat→Option Ob
 w:World
def Cx.J (c:Cx):Pv→Nat→Prop
 | .arg=>c.I0
 | .new=>λb=>c.I b∧c.N≤b
 | .any=>c.I
def be (x:Cx):DC→Value→Prop
 | .bool b,v=>v= .bool b
 | .int k n,v=>v= .int k n∧Hi k n
 | .str s,v=>∃b:ByteArray,v= .string b∧b.data.toList=s∧s.length≤ak
 | .sl p t xs,v=>RepC (x.J p) x.w (.sl t xs) v
 | .nil,v=>v= .slice none 0 0
 | .own id ver,v=>∃t xs ver' frz d,x.obj id=some (.arr t xs ver' frz d)∧ver≤ver'∧(ver=ver'→dk (x.M id) xs.length v)∧v.oneCell'=true
 | .ptr id off,v=>∃cs b,x.obj id=some (.box cs)∧x.M id=some (b,0)∧v= .pointer (some ⟨b,off,none⟩)
 | .eptr id ver i off,v=>∃t xs ver' frz d,x.obj id=some (.arr t xs ver' frz d)∧ver≤ver'∧(ver=ver'→∃b cap,x.M id=some (b,cap)∧i<xs.length∧v= .pointer (some ⟨b,i*t.size+off,none⟩))∧v.oneCell'=true
 | .vw id ver lo hi,v=>∃t xs ver' frz d,x.obj id=some (.arr t xs ver' frz d)∧ver≤ver'∧(ver=ver'→(lo≤hi∧hi≤xs.length)∧∃p cap,dk (x.M id) xs.length (.slice p xs.length cap)∧v= .slice (if cap=lo then p else p.map (·.add (lo*t.size))) (hi-lo) (cap-lo))∧v.oneCell'=true
 | .ref p cs,v=>∃b off,v= .pointer (some ⟨b,off,none⟩)∧x.J p b∧∀j c,cs[j]? =some c→∃u,x.w.cell? ⟨b,off+j,none⟩=some u∧RepC (x.J p) x.w c u
 | .fn f ids,v=>∃us:Array Value,v= .func (.func f) #[] us∧aL (λid u=>∃cs b,x.obj id=some (.box cs)∧x.M id=some (b,0)∧u= .pointer (some ⟨b,0,none⟩)) ids us.toList
 | .slx t xs,v=>RepC x.I0 x.w (.sl t xs) v∧∃p n c,v= .slice (some p) n c
 | .undef,_=>True
 | .skipped,v=>v=Go.undef
def kP (x:Cx)(ag:Bool)(cs:List DC)(v:Value):Prop:=
 match ag with
 |true=>∃us:Array Value,v= .agg us∧aL (λc u=>be x c u∧u.oneCell'=true) cs us.toList
 |false=>∃c,cs=[c]∧be x c v
def lw (x:Cx):DV→Value→Prop
 | .v ag cs,v=>kP x ag cs v
 | .tup vs,v=>∃us:Array Value,v= .tuple us∧aL (λp u=>kP x p.1 p.2 u) vs us.toList
def Em (x:Cx)(id:Nat):Ob→Prop
 | .box cs=>∃b,x.M id=some (b,0)∧True∧b<x.w.heap.size∧¬x.I b∧(∀j c,cs[j]? =some c→∃u,x.w.cell? ⟨b,j,none⟩=some u∧be x c u∧u.oneCell'=true)∧
   ∀j,j<cs.length→x.w.frozen? ⟨b,j,none⟩=false
 | .arr t xs _ frz d=>(x.M id=none∧xs=[])∨∃b cap,x.M id=some (b,cap)∧(d=true→x.N≤b)∧b<x.w.heap.size∧(x.I b↔frz=true)∧xs.length≤cap∧xs.length≤aU∧
   (∀j,j<cap*t.size→(x.w.cell? ⟨b,j,none⟩).isSome=true∧x.w.frozen? ⟨b,j,none⟩=false)∧
   ∀i e j c,xs[i]? =some e→(t.cells e)[j]? =some c→∃u,x.w.cell? ⟨b,i*t.size+j,none⟩=some u∧RepC (x.J (if d then .new else .any)) x.w c u
structure Ext (c c':Cx):Prop where
 n:c'.N=c.N
 i0:c'.I0=c.I0
 i00:∀b,c.I0 b→c.I b
 i:∀b,c.I b→c'.I b
 w:∀b,c.I b→c'.w.heap[b]? =c.w.heap[b]?
 box:∀id cs,c.obj id=some (.box cs)→(∃cs',c'.obj id=some (.box cs'))∧c'.M id=c.M id
 arr:∀id t xs v f d,c.obj id=some (.arr t xs v f d)→∃t' xs' v' f' d',c'.obj id=some (.arr t' xs' v' f' d')∧v≤v'∧(v=v'→t'=t∧xs'.length=xs.length∧c'.M id=c.M id)
theorem Ext.j {c c':Cx}(h:Ext c c')(p:Pv)(b:Nat)(hb:c.J p b):c'.J p b:=by
 cases p with
 |arg=>simp only[Cx.J]at*;rw[h.i0];exact hb
 |new=>simp only[Cx.J]at*;exact⟨h.i b hb.1,by rw[h.n];exact hb.2⟩
 |any=>exact h.i b hb
theorem Ext.jw {c c':Cx}(h:Ext c c')(p:Pv)(b:Nat)(hb:c.J p b):c'.w.heap[b]? =c.w.heap[b]? :=by
 cases p with
 |arg=>exact h.w b (h.i00 b hb)
 |new=>exact h.w b hb.1
 |any=>exact h.w b hb
theorem RepC.ext {c c':Cx}(h:Ext c c'){p:Pv}{x:Cell}{v:Value}(hr:RepC (c.J p) c.w x v):RepC (c'.J p) c'.w x v:=hr.mono (h.jw p) (h.j p)
theorem Jg.mono {J J':Nat→Prop}{w w':World}{ag:Bool}{cs:List Cell}{v:Value}(h:Jg J w ag cs v)(hw:∀b,J b→w'.heap[b]? =w.heap[b]?)(hJ:∀b,J b→J' b):Jg J' w' ag cs v:=by
 cases ag with
 |true=>obtain⟨us,rfl,hu⟩:=h;exact⟨us,rfl,hu.mono λ_ _ h=>h.mono hw hJ⟩
 |false=>obtain⟨c,rfl,hc⟩:=h;exact⟨c,rfl,hc.mono hw hJ⟩
theorem pK.mono {mo:o8}{J J':Nat→Prop}{w w':World}{c:MC}{v:Value}(h:pK mo J w c v)(hw:∀b,J b→w'.heap[b]? =w.heap[b]?)(hJ:∀b,J b→J' b):pK mo J' w' c v:=by
 cases c with
 |c x=>exact RepC.mono h hw hJ
 |own k=>exact h
 |ptr k=>exact h
theorem pF.mono {mo:o8}{J J':Nat→Prop}{w w':World}{a:PV}{v:Value}(h:pF mo J w a v)(hw:∀b,J b→w'.heap[b]? =w.heap[b]?)(hJ:∀b,J b→J' b):pF mo J' w' a v:=by
 cases a with
 |val ag cs=>exact Jg.mono h hw hJ
 |fn f ks=>exact h
 |nils=>exact h
 |slx t xs=>exact⟨RepC.mono h.1 hw hJ,h.2⟩
 |wr ag cs=>
  cases ag with
  |true=>obtain⟨us,rfl,hu⟩:=h;exact⟨us,rfl,hu.mono λ_ _ hh=>⟨hh.1.mono hw hJ,hh.2⟩⟩
  |false=>obtain⟨c,rfl,hc⟩:=h;exact⟨c,rfl,hc.mono hw hJ⟩
theorem be.ext {c c':Cx}(h:Ext c c'){x:DC}{v:Value}(hr:be c x v):be c' x v:=by
 cases x with
 |bool b=>exact hr
 |int k n=>exact hr
 |str s=>exact hr
 |sl p t xs=>exact RepC.ext h hr
 |nil=>exact hr
 |own id ver=>
  obtain⟨t,xs,v1,f,d,ho,hv,hval,h1⟩:=hr
  obtain⟨t',xs',v',f',d',ho',hv',hsame⟩:=h.arr id t xs v1 f d ho
  refine⟨t',xs',v',f',d',ho',Nat.le_trans hv hv',λe=> ?_,h1⟩
  have e1:v1=v':=Nat.le_antisymm hv' (e▸hv)
  obtain⟨rfl,hl,hm⟩:=hsame e1
  rw[hl,hm];exact hval (by omega)
 |ptr id off=>
  obtain⟨cs,b,ho,hm,hval⟩:=hr
  obtain⟨⟨cs',ho'⟩,hm'⟩:=h.box id cs ho
  exact⟨cs',b,ho',by rw[hm'];exact hm,hval⟩
 |eptr id ver i off=>
  obtain⟨t,xs,v1,f,d,ho,hv,hval,h1⟩:=hr
  obtain⟨t',xs',v',f',d',ho',hv',hsame⟩:=h.arr id t xs v1 f d ho
  refine⟨t',xs',v',f',d',ho',Nat.le_trans hv hv',λe=> ?_,h1⟩
  have e1:v1=v':=Nat.le_antisymm hv' (e▸hv)
  obtain⟨rfl,hl,hm⟩:=hsame e1
  obtain⟨b,cap,hb,hi,hvv⟩:=hval (by omega)
  exact⟨b,cap,by rw[hm];exact hb,by omega,hvv⟩
 |vw id ver lo hi=>
  obtain⟨t,xs,v1,f,d,ho,hv,hval,h1⟩:=hr
  obtain⟨t',xs',v',f',d',ho',hv',hsame⟩:=h.arr id t xs v1 f d ho
  refine⟨t',xs',v',f',d',ho',Nat.le_trans hv hv',λe=> ?_,h1⟩
  have e1:v1=v':=Nat.le_antisymm hv' (e▸hv)
  obtain⟨rfl,hl,hm⟩:=hsame e1
  obtain⟨hi',p,cap,hb,hvv⟩:=hval (by omega)
  exact⟨⟨hi'.1,by omega⟩,p,cap,by rw[hm,hl];exact hb,hvv⟩
 |ref p cs=>
  obtain⟨b,off,hv,hJ,hc⟩:=hr
  refine⟨b,off,hv,h.j p b hJ,λj x hx=> ?_⟩
  obtain⟨u,hu,hru⟩:=hc j x hx
  exact⟨u,by rw[←hu];exact World.cell?_of_block (w:=c.w) (h.jw p b hJ),RepC.ext h hru⟩
 |fn f ids=>
  obtain⟨us,hv,hu⟩:=hr
  refine⟨us,hv,hu.mono λid u hx=> ?_⟩
  obtain⟨cs,b,h1,h2,h3⟩:=hx
  obtain⟨⟨cs',h4⟩,h5⟩:=h.box id cs h1
  exact⟨cs',b,h4,h5.trans h2,h3⟩
 |slx t xs=>exact⟨RepC.ext (p:= .arg) h hr.1,hr.2⟩
 |undef=>trivial
 |skipped=>exact hr
theorem kP.ext {c c':Cx}(h:Ext c c'){ag:Bool}{cs:List DC}{v:Value}(hr:kP c ag cs v):kP c' ag cs v:=by
 cases ag with
 |true=>obtain⟨us,rfl,hu⟩:=hr;exact⟨us,rfl,hu.mono λ_ _ hx=>⟨hx.1.ext h,hx.2⟩⟩
 |false=>obtain⟨x,rfl,hx⟩:=hr;exact⟨x,rfl,hx.ext h⟩
theorem lw.ext {c c':Cx}(h:Ext c c'){d:DV}{v:Value}(hr:lw c d v):lw c' d v:=by
 cases d with
 |v ag cs=>exact kP.ext h hr
 |tup vs=>obtain⟨us,rfl,hu⟩:=hr;exact⟨us,rfl,hu.mono λ_ _ hx=>hx.ext h⟩
theorem Em.ext {c c':Cx}(h:Ext c c'){id:Nat}{o:Ob}(hr:Em c id o)(hm:c'.M id=c.M id)(hsz:c.w.heap.size≤c'.w.heap.size)
  (hb:∀b cap,c.M id=some (b,cap)→c'.w.heap[b]? =c.w.heap[b]? ∧(c'.I b→c.I b)):Em c' id o:=by
 cases o with
 |box cs=>
  obtain⟨b,hM,hN,hlt,hI,hc,hf⟩:=hr
  obtain⟨hw,hi⟩:=hb b 0 hM
  refine⟨b,by rw[hm];exact hM,hN,Nat.lt_of_lt_of_le hlt hsz,λhx=>hI (hi hx),λj x hx=> ?_,λj hj=> ?_⟩
  ·obtain⟨u,hu,hru,h1⟩:=hc j x hx
   exact⟨u,by rw[←hu];exact World.cell?_of_block (w:=c.w) hw,hru.ext h,h1⟩
  ·rw[←hf j hj];exact World.frozen?_of_block (w:=c.w) hw
 |arr t xs ver frz d=>
  rcases hr with⟨h1,h2⟩|⟨b,cap,hM,hN,hlt,hI,hl1,hl2,hc,he⟩
  ·exact .inl ⟨by rw[hm];exact h1,h2⟩
  ·obtain⟨hw,hi⟩:=hb b cap hM
   refine .inr ⟨b,cap,by rw[hm];exact hM,by rw[h.n];exact hN,Nat.lt_of_lt_of_le hlt hsz,⟨λhx=>hI.1 (hi hx),λhx=>h.i b (hI.2 hx)⟩,hl1,hl2,λj hj=> ?_,λi e j x hx hxj=> ?_⟩
   ·obtain⟨h1,h2⟩:=hc j hj
    exact⟨by rw[World.cell?_of_block (w:=c.w) hw];exact h1,by rw[World.frozen?_of_block (w:=c.w) hw];exact h2⟩
   ·obtain⟨u,hu,hru⟩:=he i e j x hx hxj
    exact⟨u,by rw[←hu];exact World.cell?_of_block (w:=c.w) hw,RepC.ext h hru⟩
def aal (mk:Option (Nat×Nat))(m:Option (Nat×Nat)×Nat):Ob→Prop
 | .box _=>mk=m.1
 | .arr _ xs ver _ _=>ver=0→mk=m.1∧xs.length=m.2
structure SimX (w0:World)(mo:o8)(n:Nat)(I0 I:Nat→Prop)(M:Nat→Option (Nat×Nat))(s:FSt)(a:Act)(w:World):Prop where
 below:BelowX w0.heap.size mo.X w0 w
 i00:∀b,I0 b→I b
 i0lt:∀b,I0 b→b<w0.heap.size
 ilt:∀b,I b→b<w.heap.size
 idiv:∀b,I b→I0 b∨w0.heap.size≤b∨mo.X b
 own:∀id b c,s.obj id≠none→M id=some (b,c)→w0.heap.size≤b∨mo.At id b
 rts:∀k m,mo[k]? =some m→∃o,s.obj k=some o∧aal (M k) m o
 size:a.tmps.size=n
 defers:a.defers=[]
 tmps:∀t,lw ⟨w0.heap.size,I0,I,M,s.obj,w⟩ (s.tmp t) (a.tmps.getD t undef)
 objs:∀id o,s.obj id=some o→Em ⟨w0.heap.size,I0,I,M,s.obj,w⟩ id o
 inj:∀id id' b c c',s.obj id≠none→s.obj id'≠none→M id=some (b,c)→M id'=some (b,c')→id=id'
 gw:GW w0
 gx:∀b,mo.X b→¬gB b
theorem SimX.gww {w0:World}{mo:o8}{n:Nat}{I0 I:Nat→Prop}{M:Nat→Option (Nat×Nat)}{s:FSt}{a:Act}{w:World}(h:SimX w0 mo n I0 I M s a w):GW w:=
 h.gw.keep λb hb=>h.below.block b (h.gw.lt hb) λhx=>h.gx b hx hb
def C0 (w0:World)(mo:o8)(n:Nat)(I0:Nat→Prop)(s:FSt)(a:Act)(w:World):Prop:=∃I M,SimX w0 mo n I0 I M s a w
theorem Rx {w0:World}{mo:o8}{n:Nat}{I0:Nat→Prop}{s m:FSt}{a:Act}{w:World}(h:C0 w0 mo n I0 s a w)(ho:∀id,m.obj id=s.obj id)(ht:∀t,m.tmp t=s.tmp t∨m.tmp t=eA):C0 w0 mo n I0 m a w:=by
 obtain⟨I,M,h⟩:=h
 have he:m.obj=s.obj:=funext ho
 refine⟨I,M,h.below,h.i00,h.i0lt,h.ilt,h.idiv,by rw[he];exact h.own,by rw[he];exact h.rts,h.size,h.defers,λt=> ?_,by rw[he];exact h.objs,by rw[he];exact h.inj,h.gw,h.gx⟩
 rw[he]
 rcases ht t with h1|h1
 ·rw[h1];exact h.tmps t
 ·rw[h1];exact⟨.undef,rfl,trivial⟩
abbrev aY (w0:World)(I0 I:Nat→Prop)(M:Nat→Option (Nat×Nat))(s:FSt)(w:World):Cx:=⟨w0.heap.size,I0,I,M,s.obj,w⟩
section
variable {w0:World} {mo:o8} {n:Nat} {I0 I:Nat→Prop} {M:Nat→Option (Nat×Nat)} {s:FSt} {a:Act} {w:World}
theorem SimX.put (h:SimX w0 mo n I0 I M s a w){dst:Option Nat}(hd:∀d,dst=some d→d<n){d:DV}{v:Value}(hv:lw (aY w0 I0 I M s w) d v):
  SimX w0 mo n I0 I M (s.wr dst d []) (a.put dst v) w:=by
 have hobj:(s.wr dst d []).obj=s.obj:=rfl
 refine⟨h.below,h.i00,h.i0lt,h.ilt,h.idiv,by rw[hobj];exact h.own,by rw[hobj];exact h.rts, ?_, ?_, ?_,by rw[hobj];exact h.objs,by rw[hobj];exact h.inj,h.gw,h.gx⟩
 ·cases dst<;>simp[Act.put,h.size]
 ·cases dst<;>exact h.defers
 ·intro t
  rw[hobj]
  cases dst with
  |none=>exact h.tmps t
  |some i=>
   have hi:=hd i rfl
   simp only[FSt.wr,Option.some.injEq,Act.put]
   by_cases e:i=t
   ·subst e
    rw[if_pos rfl]
    have:(a.tmps.setIfInBounds i v).getD i undef=v:=by
     simp[h.size,hi]
    rw[this];exact hv
   ·rw[if_neg e]
    have:(a.tmps.setIfInBounds i v).getD t undef=a.tmps.getD t undef:=by
     simp[Array.getElem?_setIfInBounds_ne e]
    rw[this];exact h.tmps t
theorem SimX.turn (h:SimX w0 mo n I0 I M s a w){I':Nat→Prop}{M':Nat→Option (Nat×Nat)}{obj':Nat→Option Ob}{w':World}
  (hext:Ext (aY w0 I0 I M s w) ⟨w0.heap.size,I0,I',M',obj',w'⟩)(hbelow:BelowX w0.heap.size mo.X w w')(hilt:∀b,I' b→b<w'.heap.size)(hdiv:∀b,I' b→I0 b∨w0.heap.size≤b∨mo.X b)
  (hown:∀id b c,obj' id≠none→M' id=some (b,c)→w0.heap.size≤b∨mo.At id b)
  (hobjs:∀id o,obj' id=some o→Em ⟨w0.heap.size,I0,I',M',obj',w'⟩ id o)
  (hinj:∀id id' b c c',obj' id≠none→obj' id'≠none→M' id=some (b,c)→M' id'=some (b,c')→id=id'):
  SimX w0 mo n I0 I' M' ⟨s.tmp,obj'⟩ a w':=
 ⟨h.below.trans hbelow,λb hb=>hext.i b (h.i00 b hb),h.i0lt,hilt,hdiv,hown,λk m hk=>by
  obtain⟨o,ho,hr⟩:=h.rts k m hk
  cases o with
  |box cs=>
   obtain⟨⟨cs',h1⟩,h2⟩:=hext.box k cs ho
   exact⟨_,h1,by show M' k=m.1;rw[show M' k=M k from h2];exact hr⟩
  |arr t xs v f d=>
   obtain⟨t',xs',v',f',d',h1,h2,h3⟩:=hext.arr k t xs v f d ho
   refine⟨_,h1,λhv=> ?_⟩
   have hv0:v=0:=by omega
   obtain⟨_,h4,h5⟩:=h3 (by omega)
   obtain⟨h6,h7⟩:=hr hv0
   exact⟨by rw[show M' k=M k from h5];exact h6,by rw[h4];exact h7⟩,h.size,h.defers,λt=>(h.tmps t).ext hext,hobjs,hinj,h.gw,h.gx⟩
theorem SimX.blk (h:SimX w0 mo n I0 I M s a w){id:Nat}(ho:s.obj id≠none){b c:Nat}(hm:M id=some (b,c)):(w0.heap.size≤b∨mo.X b)∧b<w.heap.size:=by
 refine⟨(h.own id b c ho hm).imp_right o8.At.x, ?_⟩
 cases hob:s.obj id with
 |none=>exact absurd hob ho
 |some o=>
  have hr:=h.objs id o hob
  cases o with
  |box cs=>
   obtain⟨b',hM,hN,hlt,_⟩:=hr
   simp only[]at hM hN hlt
   rw[hm]at hM;cases hM;exact hlt
  |arr t xs ver frz d=>
   rcases hr with⟨h1,_⟩|⟨b',cap,hM,hN,hlt,_⟩
   ·simp only[]at h1;rw[hm]at h1;cases h1
   ·simp only[]at hM hN hlt
    rw[hm]at hM;cases hM;exact hlt
def aJ (obj:Nat→Option Ob)(id:Nat)(o:Ob):Nat→Option Ob:=λi=>if i=id then some o else obj i
def bR (M:Nat→Option (Nat×Nat))(id:Nat)(m:Option (Nat×Nat)):Nat→Option (Nat×Nat):=λi=>if i=id then m else M i
theorem SimX.drew (h:SimX w0 mo n I0 I M s a w):SimX w0 mo n I0 I M s a w.drew:=by
 have hext:Ext (aY w0 I0 I M s w) (aY w0 I0 I M s w.drew):=
  ⟨rfl,rfl,h.i00,λ_ hb=>hb,λ_ _=>rfl,λid cs ho=>⟨⟨cs,ho⟩,rfl⟩,λid t xs v f d ho=>⟨t,xs,v,f,d,ho,Nat.le_refl _,λ_=>⟨rfl,rfl,rfl⟩⟩⟩
 exact h.turn hext ⟨rfl,rfl,rfl,Nat.le_refl _,λ_ _ _=>rfl⟩ h.ilt h.idiv h.own (λid o ho=>(h.objs id o ho).ext hext rfl (Nat.le_refl _) λb cap hb=>⟨rfl,λx=>x⟩) h.inj
theorem SimX.new (h:SimX w0 mo n I0 I M s a w){id:Nat}(hid:s.obj id=none){o:Ob}{m:Option (Nat×Nat)}{w':World}(hw:∀b,b<w.heap.size→w'.heap[b]? =w.heap[b]?)
  (hsz:w.heap.size≤w'.heap.size)(hos:w'.os=w.os)(htape:w'.tape=w.tape)(hout:w'.output=w.output)(hm:∀b c,m=some (b,c)→w.heap.size≤b)
  (ho:∀(_:Ext (aY w0 I0 I M s w) ⟨w0.heap.size,I0,I,bR M id m,aJ s.obj id o,w'⟩),Em ⟨w0.heap.size,I0,I,bR M id m,aJ s.obj id o,w'⟩ id o):
  Ext (aY w0 I0 I M s w) ⟨w0.heap.size,I0,I,bR M id m,aJ s.obj id o,w'⟩∧SimX w0 mo n I0 I (bR M id m) ⟨s.tmp,aJ s.obj id o⟩ a w':=by
 have hne:∀i,s.obj i≠none→i≠id:=by rintro i hi rfl;exact hi hid
 have hext:Ext (aY w0 I0 I M s w) ⟨w0.heap.size,I0,I,bR M id m,aJ s.obj id o,w'⟩:=by
  refine⟨rfl,rfl,h.i00,λ_ hb=>hb,λb hb=>hw b (h.ilt b hb),λi cs hi=> ?_,λi t xs v f d hi=> ?_⟩
  ·have hi':i≠id:=hne i (by simp only[]at hi;rw[hi];simp)
   exact⟨⟨cs,by simp only[aJ,if_neg hi'];exact hi⟩,by simp only[bR,if_neg hi']⟩
  ·have hi':i≠id:=hne i (by simp only[]at hi;rw[hi];simp)
   exact⟨t,xs,v,f,d,by simp only[aJ,if_neg hi'];exact hi,Nat.le_refl _,λ_=>⟨rfl,rfl,by simp only[bR,if_neg hi']⟩⟩
 refine⟨hext,h.turn hext ⟨hos,htape,hout,hsz,λb hb _=>hw b (Nat.lt_of_lt_of_le hb h.below.size)⟩ (λb hb=>Nat.lt_of_lt_of_le (h.ilt b hb) hsz) h.idiv (λi b c hi hM=>by
   by_cases e:i=id
   ·simp only[bR,if_pos e]at hM
    exact .inl (Nat.le_trans h.below.size (hm b c hM))
   ·simp only[bR,if_neg e]at hM
    simp only[aJ,if_neg e]at hi
    exact h.own i b c hi hM) ?_ ?_⟩
 ·intro i x hx
  by_cases e:i=id
  ·subst e
   simp only[aJ,if_pos]at hx
   cases hx
   exact ho hext
  ·simp only[aJ,if_neg e]at hx
   refine(h.objs i x hx).ext hext (by simp only[bR,if_neg e]) hsz λb cap hb=>⟨hw b (h.blk (by rw[hx];simp) hb).2,λy=>y⟩
 ·intro i j b c c' hi hj hb hb'
  by_cases ei:i=id<;>by_cases ej:j=id
  ·rw[ei,ej]
  ·exfalso
   simp only[bR,if_pos ei,if_neg ej]at hb hb'
   simp only[aJ,if_neg ej]at hj
   have:=hm b c hb;have:=(h.blk hj hb').2;omega
  ·exfalso
   simp only[bR,if_pos ej,if_neg ei]at hb hb'
   simp only[aJ,if_neg ei]at hi
   have:=hm b c' hb';have:=(h.blk hi hb).2;omega
  ·simp only[bR,if_neg ei,if_neg ej]at hb hb'
   simp only[aJ,if_neg ei]at hi
   simp only[aJ,if_neg ej]at hj
   exact h.inj i j b c c' hi hj hb hb'
theorem SimX.freeze (h:SimX w0 mo n I0 I M s a w){id:Nat}{t:Ty}{xs:List t.T}{ver:Nat}{f d:Bool}(ho:s.obj id=some (.arr t xs ver f d)):
  ∃I',(∀b,I b→I' b)∧(∀b c,M id=some (b,c)→I' b)∧Ext (aY w0 I0 I M s w) ⟨w0.heap.size,I0,I',M,aJ s.obj id (.arr t xs ver true d),w⟩∧
   SimX w0 mo n I0 I' M ⟨s.tmp,aJ s.obj id (.arr t xs ver true d)⟩ a w:=by
 let I':Nat→Prop:=λb=>I b∨∃c,M id=some (b,c)
 have hext:Ext (aY w0 I0 I M s w) ⟨w0.heap.size,I0,I',M,aJ s.obj id (.arr t xs ver true d),w⟩:=by
  refine⟨rfl,rfl,h.i00,λ_ hb=> .inl hb,λb hb=>rfl,λi cs hi=> ?_,λi t' xs' v' f' d' hi=> ?_⟩
  ·have hi':i≠id:=by rintro rfl;simp only[]at hi;rw[ho]at hi;cases hi
   exact⟨⟨cs,by simp only[aJ,if_neg hi'];exact hi⟩,rfl⟩
  ·by_cases e:i=id
   ·subst e
    simp only[]at hi
    rw[ho]at hi;cases hi
    exact⟨t,xs,ver,true,d,by simp only[aJ,if_pos],Nat.le_refl _,λ_=>⟨rfl,rfl,rfl⟩⟩
   ·exact⟨t',xs',v',f',d',by simp only[aJ,if_neg e];exact hi,Nat.le_refl _,λ_=>⟨rfl,rfl,rfl⟩⟩
 refine⟨I',λ_ hb=> .inl hb,λb c hb=> .inr ⟨c,hb⟩,hext,h.turn hext (BelowX.refl _ _ _) ?_ (by
  rintro b (hb|⟨c,hb⟩)
  ·exact h.idiv b hb
  ·exact .inr (h.blk (by rw[ho];simp) hb).1) (λi b c hi hM=>h.own i b c (by
   by_cases e:i=id
   ·rw[e,ho];simp
   ·simpa only[aJ,if_neg e]using hi) hM) ?_ ?_⟩
 ·rintro b (hb|⟨c,hb⟩)
  ·exact h.ilt b hb
  ·exact(h.blk (by rw[ho];simp) hb).2
 ·intro i x hx
  by_cases e:i=id
  ·subst e
   simp only[aJ,if_pos]at hx
   cases hx
   rcases h.objs i _ ho with⟨h1,h2⟩|⟨b,cap,hM,hN,hlt,hI,hl1,hl2,hc,he⟩
   ·exact .inl ⟨h1,h2⟩
   ·refine .inr ⟨b,cap,hM,hN,hlt,⟨λ_=>rfl,λ_=> .inr ⟨cap,hM⟩⟩,hl1,hl2,hc,λk e' j y hy hyj=> ?_⟩
    obtain⟨u,hu,hru⟩:=he k e' j y hy hyj
    exact⟨u,hu,RepC.ext hext hru⟩
  ·simp only[aJ,if_neg e]at hx
   refine(h.objs i x hx).ext hext rfl (Nat.le_refl _) λb cap hb=>⟨rfl, ?_⟩
   rintro(hy|⟨c,hy⟩)
   ·exact hy
   ·exact absurd (h.inj i id b cap c (by rw[hx];simp) (by rw[ho];simp) hb hy) e
 ·intro i j b c c' hi hj hb hb'
  refine h.inj i j b c c' ?_ ?_ hb hb'
  ·by_cases e:i=id
   ·rw[e,ho];simp
   ·simpa only[aJ,if_neg e]using hi
  ·by_cases e:j=id
   ·rw[e,ho];simp
   ·simpa only[aJ,if_neg e]using hj
theorem SimX.write (h:SimX w0 mo n I0 I M s a w){id:Nat}{o o':Ob}(ho:s.obj id=some o)
  (hsame:match o,o' with| .box _,.box _=>True| .arr t xs v f _,.arr t' xs' v' f' _=>t=t'∧xs.length=xs'.length∧v=v'∧f=f'|_,_=>False)
  {b cap:Nat}(hm:M id=some (b,cap))(hb:¬I b){w':World}(hw:∀b',b'≠b→b'<w.heap.size→w'.heap[b']? =w.heap[b']?)(hbelow:BelowX w0.heap.size mo.X w w')(hsz:w'.heap.size=w.heap.size)
  (hO:∀(_:Ext (aY w0 I0 I M s w) ⟨w0.heap.size,I0,I,M,aJ s.obj id o',w'⟩),Em ⟨w0.heap.size,I0,I,M,aJ s.obj id o',w'⟩ id o'):
  Ext (aY w0 I0 I M s w) ⟨w0.heap.size,I0,I,M,aJ s.obj id o',w'⟩∧SimX w0 mo n I0 I M ⟨s.tmp,aJ s.obj id o'⟩ a w':=by
 have hext:Ext (aY w0 I0 I M s w) ⟨w0.heap.size,I0,I,M,aJ s.obj id o',w'⟩:=by
  refine⟨rfl,rfl,h.i00,λ_ hb=>hb,λb' hb'=>hw b' (by rintro rfl;exact hb hb') (h.ilt b' hb'),λi cs hi=> ?_,λi t xs v f d hi=> ?_⟩
  ·by_cases e:i=id
   ·subst e
    simp only[]at hi
    rw[ho]at hi;cases hi
    cases o' with
    |box cs'=>exact⟨⟨cs',by simp only[aJ,if_pos]⟩,rfl⟩
    |arr=>exact hsame.elim
   ·exact⟨⟨cs,by simp only[aJ,if_neg e];exact hi⟩,rfl⟩
  ·by_cases e:i=id
   ·subst e
    simp only[]at hi
    rw[ho]at hi;cases hi
    cases o' with
    |box cs'=>exact hsame.elim
    |arr t' xs' v' f' d'=>
     obtain⟨rfl,hl,rfl,rfl⟩:=hsame
     exact⟨t,xs',v,f,d',by simp only[aJ,if_pos],Nat.le_refl _,λ_=>⟨rfl,hl.symm,rfl⟩⟩
   ·exact⟨t,xs,v,f,d,by simp only[aJ,if_neg e];exact hi,Nat.le_refl _,λ_=>⟨rfl,rfl,rfl⟩⟩
 refine⟨hext,h.turn hext hbelow (λb' hb'=>by rw[hsz];exact h.ilt b' hb') h.idiv (λi b c hi hM=>h.own i b c (by
   by_cases e:i=id
   ·rw[e,ho];simp
   ·simpa only[aJ,if_neg e]using hi) hM) ?_ ?_⟩
 ·intro i x hx
  by_cases e:i=id
  ·subst e
   simp only[aJ,if_pos]at hx
   cases hx
   exact hO hext
  ·simp only[aJ,if_neg e]at hx
   refine(h.objs i x hx).ext hext rfl (by rw[hsz];exact Nat.le_refl _) λb' cap' hb'=>⟨hw b' ?_ (h.blk (by rw[hx];simp) hb').2,λy=>y⟩
   rintro rfl
   exact e (h.inj i id b' cap' cap (by rw[hx];simp) (by rw[ho];simp) hb' hm)
 ·intro i j b c c' hi hj hb hb'
  refine h.inj i j b c c' ?_ ?_ hb hb'
  ·by_cases e:i=id
   ·rw[e,ho];simp
   ·simpa only[aJ,if_neg e]using hi
  ·by_cases e:j=id
   ·rw[e,ho];simp
   ·simpa only[aJ,if_neg e]using hj
end
end Go.Proofs.YtfpdenjmlnhnnaaGreat
