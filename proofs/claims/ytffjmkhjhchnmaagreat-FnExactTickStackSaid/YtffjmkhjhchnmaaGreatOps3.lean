/- Operators, conversions of numbers, lengths. -/
import Derived.Test.YtffjmkhjhchnmaaGreatOps2
set_option linter.unusedVariables false
set_option linter.unusedSimpArgs false
namespace Go.Proofs.YtffjmkhjhchnmaaGreat
open Go Go.RowKit
theorem lZ (k:IntKind)(m:Int):Ag k (k.wrap m):=wrap_within k m
theorem B9 (k:IntKind):Ag k 0:=by cases k<;>exact⟨by decide,by decide⟩
theorem GA (a b:Int):(0≤a→0≤a.tmod b∧a.tmod b≤a)∧(a≤0→a≤a.tmod b∧a.tmod b≤0):=by
 have key:∀m:Nat,(m:Int).tmod b=((m%b.natAbs:Nat):Int):=by intro m;cases b<;>rfl
 constructor
 ·intro h
  obtain⟨m,rfl⟩:=Int.eq_ofNat_of_zero_le h
  rw[key]
  have:=Nat.mod_le m b.natAbs
  omega
 ·intro h
  obtain⟨m,hm⟩:=Int.eq_ofNat_of_zero_le (show 0≤-a by omega)
  have e:a= -(m:Int):=by omega
  rw[e,Int.neg_tmod,key]
  have:=Nat.mod_le m b.natAbs
  omega
theorem MS {k:IntKind}{a:Int}(h:Ag k a)(b:Int):Ag k (a.tmod b):=by
 obtain⟨h1,h2⟩:=GA a b
 obtain⟨z1,z2⟩:=B9 k
 obtain⟨g1,g2⟩:=h
 rcases Int.le_total 0 a with ha|ha
 ·have:=h1 ha;exact⟨by omega,by omega⟩
 ·have:=h2 ha;exact⟨by omega,by omega⟩
theorem NQ {k:IntKind}{a:Int}(h:Ag k a)(m:Nat):Ag k (a.fdiv (2 ^ m)):=by
 have hp:(1:Int)≤2 ^ m:=by
  have:0<(2:Int) ^ m:=Int.pow_pos (by decide)
  omega
 generalize(2:Int) ^ m=c at hp
 rw[Int.fdiv_eq_ediv_of_nonneg _ (by omega)]
 obtain⟨z1,z2⟩:=B9 k
 obtain⟨g1,g2⟩:=h
 rcases Int.le_total 0 a with ha|ha
 ·have h1:0≤a/c:=Int.ediv_nonneg ha (by omega)
  have h2:a/c≤a:=Int.ediv_le_self _ ha
  exact⟨by omega,by omega⟩
 ·have h1:a/c≤0:=by
   by_cases h0:a=0
   ·subst h0;simp
   ·exact Int.le_of_lt (Int.ediv_neg_of_neg_of_pos (by omega) (by omega))
  have h2:a≤a/c:=by
   rw[Int.le_ediv_iff_mul_le (by omega)]
   have:0≤(-a)*(c-1):=Int.mul_nonneg (by omega) (by omega)
   rw[Int.mul_sub,Int.neg_mul]at this
   omega
  exact⟨by omega,by omega⟩
theorem Ax (op:BinOp)(k:IntKind)(a b:Int)(hop:op= .and∨op= .or∨op= .xor∨op= .andNot):Ag k (bits op k a b):=by
 rcases hop with rfl|rfl|rfl|rfl<;>exact lZ _ _
section
variable {C:Nat→List PV→List MO→cS→List MO→Prop} {w0:World} {mo:gj} {n:Nat} {I0 I:Nat→Prop} {M:MF} {s:FSt} {a:Act} {w:World} {te:TE} {P:Program} {base:Nat} {e:Eff} {o:Oper}
theorem KJ {x:Cx}{op:BinOp}{k:IntKind}{p q:Int}(hp:Ag k p)(hr:aU C s (Oa op k p q) e)(hop:op≠ .shl∧op≠ .shr)(t:Nat):
  ∃c v,e=⟨one c,[],[]⟩∧aA x c v∧(binOp op t (.int k p) (.int k q)).run P w= .ok v w:=by
 have hb:∀op',(op'= .and∨op'= .or∨op'= .xor∨op'= .andNot)→Ag k (bits op' k p q):=λop' h'=>Ax op' k p q h'
 cases op with
 |add=>cases hr.ret;exact⟨_,_,rfl,⟨rfl,lZ _ _⟩,by simp[binOp_add,Op.intArith]⟩
 |sub=>cases hr.ret;exact⟨_,_,rfl,⟨rfl,lZ _ _⟩,by simp[binOp_sub,Op.intArith]⟩
 |mul=>cases hr.ret;exact⟨_,_,rfl,⟨rfl,lZ _ _⟩,by simp[binOp_mul,Op.intArith]⟩
 |quo=>
  obtain⟨hg,hr⟩:=hr.guard;cases hr.ret
  have hq:q≠0:=by simpa using hg
  exact⟨_,_,rfl,⟨rfl,lZ _ _⟩,by simp[binOp_quo,Op.intDiv,hq]⟩
 |rem=>
  obtain⟨hg,hr⟩:=hr.guard;cases hr.ret
  have hq:q≠0:=by simpa using hg
  exact⟨_,_,rfl,⟨rfl,MS hp _⟩,by simp[binOp_rem,Op.intDiv,hq]⟩
 |and=>cases hr.ret;exact⟨_,_,rfl,⟨rfl,hb _ (by simp)⟩,by rw[binOp_and,intBits_and];rfl⟩
 |or=>cases hr.ret;exact⟨_,_,rfl,⟨rfl,hb _ (by simp)⟩,by rw[binOp_or,intBits_or];rfl⟩
 |xor=>cases hr.ret;exact⟨_,_,rfl,⟨rfl,hb _ (by simp)⟩,by rw[binOp_xor,intBits_xor];rfl⟩
 |andNot=>cases hr.ret;exact⟨_,_,rfl,⟨rfl,hb _ (by simp)⟩,by rw[binOp_andNot,intBits_andNot];rfl⟩
 |eql=>cases hr.ret;exact⟨_,_,rfl,rfl,by rw[binOp_eql];rfl⟩
 |neq=>cases hr.ret;exact⟨_,_,rfl,rfl,by rw[binOp_neq];rfl⟩
 |lss=>cases hr.ret;exact⟨_,_,rfl,rfl,by rw[binOp_lss];rfl⟩
 |leq=>cases hr.ret;exact⟨_,_,rfl,rfl,by rw[binOp_leq];rfl⟩
 |gtr=>cases hr.ret;exact⟨_,_,rfl,rfl,by rw[binOp_gtr];rfl⟩
 |geq=>cases hr.ret;exact⟨_,_,rfl,rfl,by rw[binOp_geq];rfl⟩
 |shl=>exact absurd rfl hop.1
 |shr=>exact absurd rfl hop.2
theorem xA {x:Cx}{op:BinOp}{k k':IntKind}{p q:Int}(hp:Ag k p)(hr:aU C s (Iv op k p q) e)(t:Nat):
  ∃c v,e=⟨one c,[],[]⟩∧aA x c v∧(binOp op t (.int k p) (.int k' q)).run P w= .ok v w:=by
 cases op with
 |shl=>
  obtain⟨hg,hr⟩:=hr.guard;cases hr.ret
  have hq:¬q<0:=by simpa using hg
  exact⟨_,_,rfl,⟨rfl,lZ _ _⟩,by simp[binOp_shl,Op.shift,hq]⟩
 |shr=>
  obtain⟨hg,hr⟩:=hr.guard;cases hr.ret
  have hq:¬q<0:=by simpa using hg
  exact⟨_,_,rfl,⟨rfl,NQ hp _⟩,by simp[binOp_shr,Op.shift,hq]⟩
 |_=>exact hr.fail.elim
theorem LZ (b c:ByteArray):(b++c).data.toList=b.data.toList++c.data.toList:=by
 rw[ByteArray.data_append,Array.toList_append]
theorem Jc {x:Cx}{op:BinOp}{b c:ByteArray}(hr:aU C s (MK op b.data.toList c.data.toList) e)(t:Nat):
  ∃d v,e=⟨one d,[],[]⟩∧aA x d v∧(binOp op t (.string b) (.string c)).run P w= .ok v w:=by
 have hb:b.toList=b.data.toList:=ByteArray.toList_eq b
 have hc:c.toList=c.data.toList:=ByteArray.toList_eq c
 cases op with
 |add=>
  obtain⟨hg,hr⟩:=hr.guard;cases hr.ret
  have hle:=Nat.le_of_ble_eq_true hg
  have h1:b.size=b.data.toList.length:=by show b.data.size=_;rw[Array.length_toList]
  have h2:c.size=c.data.toList.length:=by show c.data.size=_;rw[Array.length_toList]
  have h3:¬(((b.size+c.size:Nat):Int)>IntKind.i64.max):=by
   rw[h1,h2,IntKind.max_i64]
   unfold ak at hle
   omega
  refine⟨_,.string (b++c),rfl,⟨b++c,rfl,LZ b c,by simpa using hle⟩, ?_⟩
  simp only[binOp,Op.stringOp]
  rw[if_neg h3];rfl
 |eql=>cases hr.ret;exact⟨_,.bool (b.data.toList==c.data.toList),rfl,rfl,by show(Op.stringOp .eql b c).run P w=_;simp only[Op.stringOp];rw[hb,hc];rfl⟩
 |neq=>cases hr.ret;exact⟨_,.bool (!(b.data.toList==c.data.toList)),rfl,rfl,by show(Op.stringOp .neq b c).run P w=_;simp only[Op.stringOp];rw[hb,hc];rfl⟩
 |_=>exact hr.fail.elim
theorem JL {β:Type}{us:Array β}{cs:List β}(off m:Nat)(hc:us.toList=cs):(us.extract off (off+m)).toList=(cs.drop off).take m:=by
 subst hc
 simp[Array.toList_extract,List.extract_eq_take_drop]
theorem Io (hte:fQ te P=true){t:Nat}{ti:TI}(hl:ac te t=some ti)(hp:1≤ti.fl.length){x:Cx}{cs:List DC}{us:Array Value}(hall:ar (λc u=>aA x c u∧u.oneCell'=true) cs us.toList){off:Nat}
  (hlen:((cs.drop off).take ti.fl.length).length=ti.fl.length):∃v,(part t us off).run P w= .ok v w∧iQ x ti.agg ((cs.drop off).take ti.fl.length) v:=by
 obtain⟨i,z,hi,hs,hz,hz0,hsz,hagg,hz1,hone⟩:=sK hte hl hp
 have hsub:=(hall.drop off).take ti.fl.length
 cases ha:ti.agg with
 |true=>
  exact⟨.agg (us.extract off (off+ti.fl.length)),by simp[part,hagg,ha,hsz],_,rfl,by rw[JL off _ rfl];exact hsub⟩
 |false=>
  have h1:=hone ha
  rw[h1]at hlen hsub⊢
  cases hc:cs.drop off with
  |nil=>rw[hc]at hlen;simp at hlen
  |cons c r=>
   rw[hc]at hsub
   cases hu:us.toList.drop off with
   |nil=>rw[hu]at hsub;exact hsub.elim
   |cons u q=>
    rw[hu]at hsub
    have hget:us[off]? =some u:=by
     have:=congrArg (λl=>l[0]?) hu
     simpa using this
    exact⟨u,by simp[part,hagg,ha,hget],c,by simp,hsub.1.1⟩
theorem Nr (hte:fQ te P=true){x:Cx}:∀(m:Nat) (t:Nat) (ti:TI) (xs ys:List DC) (r:Bool) (u v:Value) (d:Nat),ac te t=some ti→Ck te m t xs ys=some r→xs.length=ti.fl.length→ys.length=ti.fl.length→
  iQ x ti.agg xs u→iQ x ti.agg ys v→m≤d→(Op.equalIn d t u v).run P w= .ok r w:=by
 intro m
 induction m with
 |zero=>intro t ti xs ys r u v d _ he;simp[Ck]at he
 |succ m ih=>
  intro t ti xs ys r u v d hl he hx hy hu hv hd
  obtain⟨d,rfl⟩:∃d',d=d'+1:=⟨d-1,by omega⟩
  simp only[Ck,hl]at he
  cases ti with
  |sc f=>
   obtain⟨i,z,hi,hs,hz,hz0,hun⟩:=oh hte hl
   obtain⟨c,rfl,hc⟩:=hu
   obtain⟨c',rfl,hc'⟩:=hv
   cases f with
   |int k=>
    simp only at he hun
    cases c<;>cases c'<;>simp only[reduceCtorEq]at he
    split at he
    ·rename_i hk
     subst hk
     cases he
     obtain⟨rfl,_⟩:=hc
     obtain⟨rfl,_⟩:=hc'
     exact run_equalIn_int w d t _ _ _ _ hun
    ·cases he
   |bool=>
    simp only at he hun
    cases c<;>cases c'<;>simp only[reduceCtorEq]at he
    cases he
    simp only[aA]at hc hc'
    rw[hc,hc']
    exact run_equalIn_bool' w d t _ _ hun
   |str=>
    simp only at he hun
    cases c<;>cases c'<;>simp only[reduceCtorEq]at he
    cases he
    obtain⟨b,rfl,rfl,_⟩:=hc
    obtain⟨b',rfl,rfl,_⟩:=hc'
    rw[run_equalIn_string w d t _ _ hun,ByteArray.toList_eq,ByteArray.toList_eq]
   |raw=>simp at he
   |sl _=>exact hun.elim
  |sl _ _=>simp at he
  |ptr=>simp at he
  |wr _=>simp at he
  |st ty fields=>
   simp only at he
   obtain⟨fs,i,vs,hun,hi,hs,hz,hz0,hsame,hall,_,hst⟩:=AM hte hl
   obtain⟨us,rfl,hus⟩:=hu
   obtain⟨vs',rfl,hvs⟩:=hv
   have hfo:P.fieldsOf t=fs:=by simp[Program.fieldsOf,hun]
   rw[run_equalIn_struct w d t us vs' (by rw[hfo];exact hun) hst,hfo]
   have key:∀(fl:List Field) (r':List (Nat×Nat)) (b:Bool),bQ fl r'=true→(∀f∈r',∃tf,ac te f.2=some tf∧1≤tf.fl.length)→NP te (Ck te m) r' xs ys=some b→
     (∀f∈r',∀tf,ac te f.2=some tf→f.1+tf.fl.length≤ty.fl.length)→(Op.eqFields d us vs' fl).run P w= .ok b w:=by
    intro fl
    induction fl with
    |nil=>
     intro r' b hsf _ hb _
     cases r' with
     |nil=>simp[NP]at hb;subst hb;simp[Op.eqFields]
     |cons y r'=>obtain⟨_,_⟩:=y;simp[bQ]at hsf
    |cons f fl ihf=>
     intro r' b hsf hal hb hin
     cases r' with
     |nil=>simp[bQ]at hsf
     |cons y r'=>
      obtain⟨o',ft⟩:=y
      simp only[bQ,Bool.and_eq_true,decide_eq_true_eq]at hsf
      obtain⟨⟨⟨h1,h2⟩,h3⟩,h4⟩:=hsf
      have h1:=Nat.eq_of_beq_eq_true h1
      have h2:=Nat.eq_of_beq_eq_true h2
      obtain⟨tf,htf,hlen⟩:=hal (o',ft) (by simp)
      simp only[]at htf
      have hfit:=hin (o',ft) (by simp) tf htf
      simp only[]at hfit
      simp only[TI.fl]at hx hy
      simp only[NP,htf]at hb
      split at hb
      ·rename_i p q hp hq
       cases hb
       have hl1:((xs.drop o').take tf.fl.length).length=tf.fl.length:=by simp;omega
       have hl2:((ys.drop o').take tf.fl.length).length=tf.fl.length:=by simp;omega
       obtain⟨u',hu',hru⟩:=Io (w:=w) hte htf hlen hus hl1
       obtain⟨v',hv',hrv⟩:=Io (w:=w) hte htf hlen hvs hl2
       have heq:=ih ft tf _ _ p u' v' d htf hp hl1 hl2 hru hrv (by omega)
       have hrest:=ihf r' q h4 (λg hg=>hal g (List.mem_cons_of_mem _ hg)) hq (λg hg=>hin g (List.mem_cons_of_mem _ hg))
       simp only[Op.eqFields,if_pos h3,h1,h2,Sem.run_bind,hu',hv',heq,Result.andThen_ok,Sem.run_ite]
       cases p<;>simp[hrest]
      ·cases hb
   refine key fs.toList fields r hsame (λf hf=>let⟨tf,h1,h2,_⟩:=hall f hf;⟨tf,h1,h2⟩) he λf hf tf htf=> ?_
   obtain⟨tf',h1,_,h3⟩:=hall f hf
   rw[htf]at h1;cases h1
   exact h3
theorem tD {P:Program}{w:World}{t el:TypeId}(hu:P.underlying t=some (.slice el))(a:Option Addr)(n m:Nat):(binOp .eql t (.slice a n m) (.slice none 0 0)).run P w= .ok (.bool a.isNone) w∧(binOp .neq t (.slice a n m) (.slice none 0 0)).run P w= .ok (.bool (!a.isNone)) w:=by
 have h0:∀d,(Op.equalIn (d+1) t (.slice a n m) (.slice none 0 0)).run P w= .ok a.isNone w:=by
  intro d
  cases a<;>simp[Op.equalIn,run_underlying hu]
 have h:(Op.equal t (.slice a n m) (.slice none 0 0)).run P w= .ok a.isNone w:=h0 9999
 constructor
 ·show(Op.equal t (.slice a n m) (.slice none 0 0)>>= λb=>pure (Value.bool b)).run P w=_
  rw[Sem.run_bind,h];rfl
 ·show(Op.equal t (.slice a n m) (.slice none 0 0)>>= λb=>pure (Value.bool (!b))).run P w=_
  rw[Sem.run_bind,h];rfl
theorem L3 (hte:fQ te P=true)(h:SimX w0 mo n I0 I M s a w){op:BinOp}{t t':Nat}{x y:Operand}(ho:o.op= .binOp op t x y t')(hr:aU C s (dJ te base (.binOp op t x y t')) e):ga w0 mo n I0 s a base e ((execOp a.eval o).run P w):=by
 simp only[dJ]at hr
 obtain⟨dx,hx,hr⟩:=eV h hr
 obtain⟨dy,hy,hr⟩:=eV h hr
 have hrun:∀v,((eqGuard op t x y (a.eval x) (a.eval y):Sem Unit)>>= λ_=>binOp op t (a.eval x) (a.eval y)).run P w= .ok v w→(execOp a.eval o).run P w= .ok (.value v) w:=by
  intro v hv
  simp only[execOp,ho]
  rw[Sem.run_bind,hv]
  rfl
 have fin0:∀c v,e=⟨one c,[],[]⟩→aA (ax w0 I0 I M s w) c v→((eqGuard op t x y (a.eval x) (a.eval y):Sem Unit)>>= λ_=>binOp op t (a.eval x) (a.eval y)).run P w= .ok v w→ga w0 mo n I0 s a base e ((execOp a.eval o).run P w):=by
  intro c v he hc hb
  subst he
  exact ga.quiet h (hrun v hb) (ay hc)
 have fin:∀c v,e=⟨one c,[],[]⟩→aA (ax w0 I0 I M s w) c v→(eqGuard op t x y (a.eval x) (a.eval y)=pure ())→(binOp op t (a.eval x) (a.eval y)).run P w= .ok v w→ga w0 mo n I0 s a base e ((execOp a.eval o).run P w):=by
  intro c v he hc hg hb
  subst he
  refine ga.quiet h (hrun v ?_) (ay hc)
  rw[hg,Sem.run_bind];simpa using hb
 unfold Px at hr
 split at hr
 ·
  obtain⟨_,e1,hx⟩:=hx
  obtain⟨_,e2,hy⟩:=hy
  cases e1;cases e2
  obtain⟨hx,hkx⟩:=hx
  obtain⟨hy,hky⟩:=hy
  have hg:eqGuard op t x y (a.eval x) (a.eval y)=pure ():=by rw[hx];exact eqGuard_at_int ..
  split at hr
  ·obtain⟨c,v,he,hc,hb⟩:=xA (w:=w) (P:=P) hkx hr t
   exact fin c v he hc hg (by rw[hx,hy];exact hb)
  ·obtain⟨c,v,he,hc,hb⟩:=xA (w:=w) (P:=P) hkx hr t
   exact fin c v he hc hg (by rw[hx,hy];exact hb)
  ·rename_i h1 h2
   split at hr
   ·rename_i hk
    subst hk
    obtain⟨c,v,he,hc,hb⟩:=KJ (w:=w) (P:=P) hkx hr ⟨λe=>h1 e,λe=>h2 e⟩ t
    exact fin c v he hc hg (by rw[hx,hy];exact hb)
   ·exact hr.fail.elim
 ·obtain⟨_,e1,hx⟩:=hx
  obtain⟨_,e2,hy⟩:=hy
  cases e1;cases e2
  obtain⟨b,hx,rfl,_⟩:=hx
  obtain⟨c,hy,rfl,_⟩:=hy
  have hg:eqGuard op t x y (a.eval x) (a.eval y)=pure ():=by rw[hx];exact eqGuard_at_string ..
  obtain⟨d,v,he,hc,hb⟩:=Jc (w:=w) (P:=P) hr t
  exact fin d v he hc hg (by rw[hx,hy];exact hb)
 ·obtain⟨_,e1,hx⟩:=hx
  obtain⟨_,e2,hy⟩:=hy
  cases e1;cases e2
  obtain⟨_,p,n1,c1,hx⟩:=hx
  simp only[aA]at hy
  have hg:eqGuard op t x y (a.eval x) (a.eval y)=pure ():=by rw[hx];exact eqGuard_at_slice ..
  split at hr
  ·rename_i hl _ _
   obtain⟨el,_,_,_,hu,_⟩:=iM hte hl
   refine fin (.bool false) (.bool false) hr.ret rfl hg ?_
   rw[hx,hy]
   exact(tD hu _ _ _).1
  ·rename_i hl _ _
   obtain⟨el,_,_,_,hu,_⟩:=iM hte hl
   refine fin (.bool true) (.bool true) hr.ret rfl hg ?_
   rw[hx,hy]
   exact(tD hu _ _ _).2
  ·exact hr.fail.elim
 ·obtain⟨_,e1,hx⟩:=hx
  obtain⟨_,e2,hy⟩:=hy
  cases e1;cases e2
  simp only[aA]at hx hy
  have hg:eqGuard op t x y (a.eval x) (a.eval y)=pure ():=by rw[hx];exact eqGuard_at_slice ..
  split at hr
  ·rename_i hl _ _
   obtain⟨el,_,_,_,hu,_⟩:=iM hte hl
   refine fin (.bool true) (.bool true) hr.ret rfl hg ?_
   rw[hx,hy]
   exact(tD hu _ _ _).1
  ·rename_i hl _ _
   obtain⟨el,_,_,_,hu,_⟩:=iM hte hl
   refine fin (.bool false) (.bool false) hr.ret rfl hg ?_
   rw[hx,hy]
   exact(tD hu _ _ _).2
  ·exact hr.fail.elim
 ·rename_i ag cs ag' ds hn1 hn2 hn3 hn4 hr0
  split at hr
  ·rename_i ti hl
   have key:∀b,Ck te 5 t cs ds=some b→(ag==ti.agg&&ag'==ti.agg&&Nat.beq cs.length ti.fl.length&&Nat.beq ds.length ti.fl.length)=true→
     (((eqGuard .eql t x y (a.eval x) (a.eval y):Sem Unit)>>= λ_=>binOp .eql t (a.eval x) (a.eval y)).run P w= .ok (.bool b) w)∧
     (((eqGuard .neq t x y (a.eval x) (a.eval y):Sem Unit)>>= λ_=>binOp .neq t (a.eval x) (a.eval y)).run P w= .ok (.bool (!b)) w):=by
    intro b hb hc
    simp only[Bool.and_eq_true,beq_iff_eq]at hc
    obtain⟨⟨⟨rfl,rfl⟩,hl1⟩,hl2⟩:=hc
    have hl1:=Nat.eq_of_beq_eq_true hl1
    have hl2:=Nat.eq_of_beq_eq_true hl2
    simp only[hU]at hx hy
    have heq:=Nr (w:=w) hte 5 t ti cs ds b (a.eval x) (a.eval y) Op.maxDepth hl hb hl1 hl2 hx hy (by decide)
    cases ti with
    |sc f=>
     obtain⟨c,rfl,hc⟩:=hx
     obtain⟨c',rfl,hc'⟩:=hy
     simp only[Ck,hl]at hb
     cases f with
     |int k=>cases c<;>cases c'<;>simp only[reduceCtorEq]at hb;exact(hn1 _ _ _ _ rfl rfl rfl rfl).elim
     |str=>cases c<;>cases c'<;>simp only[reduceCtorEq]at hb;exact(hn2 _ _ rfl rfl rfl rfl).elim
     |raw=>simp at hb
     |sl _=>simp at hb
     |bool=>
      cases c<;>cases c'<;>simp only[reduceCtorEq]at hb
      simp only[aA]at hc hc'
      rw[hc,hc']at heq⊢
      constructor<;>simp[eqGuard_at_bool,binOp,Op.equal,heq]
    |sl _ _=>simp[Ck,hl]at hb
    |ptr=>simp[Ck,hl]at hb
    |wr _=>simp[Ck,hl]at hb
    |st ty fields=>
     obtain⟨fs,i,vs,hun,hi,hs,hz,hz0,hsame,hall,hgt,hst⟩:=AM hte hl
     obtain⟨us,hu,_⟩:=hx
     obtain⟨vs',hv,_⟩:=hy
     rw[hu,hv]at heq⊢
     constructor<;>simp[binOp,Op.equal,heq,eqGuard,hgt]
   split at hr
   ·rename_i hc hb _
    cases hr.ret
    exact fin0 _ _ rfl rfl (key _ hb hc).1
   ·rename_i hc hb _
    cases hr.ret
    exact fin0 _ _ rfl rfl (key _ hb hc).2
   ·exact hr.fail.elim
  ·exact hr.fail.elim
 ·exact hr.fail.elim
theorem MM (h:SimX w0 mo n I0 I M s a w){op:UnOp}{t:Nat}{x:Operand}(ho:o.op= .unOp op t x)(hr:aU C s (dJ te base (.unOp op t x)) e):ga w0 mo n I0 s a base e ((execOp a.eval o).run P w):=by
 simp only[dJ]at hr
 obtain⟨d,hd,hr⟩:=eV h hr
 unfold QP at hr
 split at hr
 ·obtain⟨_,e1,hx⟩:=hd
  cases e1
  cases hr.ret
  simp only[aA]at hx
  exact ga.quiet h (v:= .bool _) (by simp[execOp,ho,hx,Op.unary]) (ay rfl)
 ·obtain⟨_,e1,hx⟩:=hd
  cases e1
  cases hr.ret
  exact ga.quiet h (v:= .int _ _) (by simp[execOp,ho,hx.1,Op.unary,Op.intArith]) (ay ⟨rfl,lZ _ _⟩)
 ·obtain⟨_,e1,hx⟩:=hd
  cases e1
  cases hr.ret
  exact ga.quiet h (v:= .int _ _) (by simp only[execOp,ho,hx.1,Op.unary,intBits_xor];rfl) (ay ⟨rfl,Ax _ _ _ _ (by simp)⟩)
 ·exact hr.fail.elim
theorem OK (h:SimX w0 mo n I0 I M s a w){args:Array Operand}{tys:Array TypeId}(ho:o.op= .call {callee:= .builtin .min,args,argTypes:=tys}) (hr:aU C s (dJ te base (.call {callee:= .builtin .min,args,argTypes:=tys})) e):
  ga w0 mo n I0 s a base e ((execOp a.eval o).run P w):=by
 simp only[dJ]at hr
 split at hr
 ·rename_i x y hargs
  obtain⟨k,p,hx,hkx,hr⟩:=cg h hr
  obtain⟨k',q,hy,hky,hr⟩:=cg h hr
  obtain⟨hg,hr2⟩:=hr.guard
  have hkk:k=k':=by simpa using hg
  cases hr2.ret
  subst hkk
  refine ga.quiet h (v:= .int k (if q<p then q else p)) ?_ (ay ⟨rfl, ?_⟩)
  ·have ha:args= #[x,y]:=by apply Array.ext';simpa using hargs
   subst ha
   simp[execOp,ho,resolve,invoke,builtin,Builtin.min_,Builtin.min2,hx,hy]
  ·split
   ·exact hky
   ·exact hkx
 ·rename_i x y z hargs
  obtain⟨k,p,hx,hkx,hr⟩:=cg h hr
  obtain⟨k',q,hy,hky,hr⟩:=cg h hr
  obtain⟨k'',r,hz,hkz,hr⟩:=cg h hr
  obtain⟨hg,hr2⟩:=hr.guard
  simp only[Bool.and_eq_true,decide_eq_true_eq]at hg
  obtain⟨hk1,hk2⟩:=hg
  cases hr2.ret
  subst hk1
  subst hk2
  refine ga.quiet h (v:= .int k (if r<(if q<p then q else p)then r else(if q<p then q else p))) ?_ (ay ⟨rfl, ?_⟩)
  ·have ha:args= #[x,y,z]:=by apply Array.ext';simpa using hargs
   subst ha
   by_cases hqp:q<p<;>by_cases hrq:r<(if q<p then q else p)<;>simp_all [execOp,ho,resolve,invoke,builtin,Builtin.min_,Builtin.min2]
  ·have h1:Ag k (if q<p then q else p):=by
    split
    ·exact hky
    ·exact hkx
   by_cases hr:r<(if q<p then q else p)
   ·rw[if_pos hr];exact hkz
   ·rw[if_neg hr];exact h1
 ·exact hr.fail.elim
theorem OE (h:SimX w0 mo n I0 I M s a w){args:Array Operand}{tys:Array TypeId}(ho:o.op= .call {callee:= .builtin .max,args,argTypes:=tys}) (hr:aU C s (dJ te base (.call {callee:= .builtin .max,args,argTypes:=tys})) e):
  ga w0 mo n I0 s a base e ((execOp a.eval o).run P w):=by
 simp only[dJ]at hr
 split at hr
 ·rename_i x y hargs
  obtain⟨k,p,hx,hkx,hr⟩:=cg h hr
  obtain⟨k',q,hy,hky,hr⟩:=cg h hr
  obtain⟨hg,hr2⟩:=hr.guard
  have hkk:k=k':=by simpa using hg
  cases hr2.ret
  subst hkk
  refine ga.quiet h (v:= .int k (if p<q then q else p)) ?_ (ay ⟨rfl, ?_⟩)
  ·have ha:args= #[x,y]:=by apply Array.ext';simpa using hargs
   subst ha
   simp[execOp,ho,resolve,invoke,builtin,Builtin.max_,Builtin.max2,hx,hy]
  ·split
   ·exact hky
   ·exact hkx
 ·exact hr.fail.elim
end
end Go.Proofs.YtffjmkhjhchnmaaGreat
