/- Every operation that the executor runs. -/
import Derived.Test.YtbkjnlihfgkkaaaGreatCall2
set_option linter.unusedVariables false
set_option linter.unusedSimpArgs false
namespace Go.Proofs.YtbkjnlihfgkkaaaGreat
open Go Go.RowKit
section
variable {w0:World} {mo:kB} {n:Nat} {I0:Nat->Prop} {te:TE} {P:Program}
theorem abc (hte:iR te P=true)(o:Oper)(base:Nat)(s:FSt)(a:Act)(w:World)(e:Eff)(K:Act->World->Prop)(Q:Exit->Act->World->Prop)
  (hr:bi (ry P) s (eU te base o.op) e)(hid:∀id∈(aI base e.new).map (·.1),s.obj id=none)(hS:yi w0 mo n I0 s a w)(hd:∀d,o.dst=some d->d<n)
  (hK:∀a' w',yi w0 mo n I0 (s.wr o.dst e.val (e.upd++aI base e.new)) a' w'->K a' w'):o.wp P a w K Q:=by
 obtain⟨I,M,h⟩:=hS
 cases hop:o.op with
 |move x=>rw[hop]at hr;exact(PT h (.inl hop) hr).wp hd hK
 |assign x=>rw[hop]at hr;exact(PT h (.inr hop) hr).wp hd hK
 |pick c x y=>rw[hop]at hr;exact(YQ h hop hr).wp hd hK
 |alloc t=>rw[hop]at hr;exact(Xp hte h hop hr hid).wp hd hK
 |box t x=>rw[hop]at hr;exact(Z6 h hop hr hid).wp hd hK
 |build t parts=>rw[hop]at hr;exact(Wo hte h hop hr).wp hd hK
 |buildSlice t len parts=>rw[hop]at hr;exact(GO hte h hop hr hid).wp hd hK
 |load t x=>rw[hop]at hr;exact(Yo hte h hop hr).wp hd hK
 |store t x y=>rw[hop]at hr;exact(WC hte h hop hr).wp hd hK
 |binOp op t x y t'=>rw[hop]at hr;exact(V4 hte h hop hr).wp hd hK
 |unOp op t x=>rw[hop]at hr;exact(YT h hop hr).wp hd hK
 |convert t u x=>rw[hop]at hr;exact(R2 hte h hop hr hid).wp hd hK
 |makeSlice t x y=>rw[hop]at hr;exact(Lc hte h hop hr hid).wp hd hK
 |slice t x lo hi mx=>rw[hop]at hr;exact(Wz hte h hop hr hid).wp hd hK
 |fieldAddr t x f=>rw[hop]at hr;exact(Lj hte h hop hr).wp hd hK
 |indexAddr t x y=>rw[hop]at hr;exact(K9 hte h hop hr).wp hd hK
 |index t x y=>rw[hop]at hr;exact(Ws hte h hop hr).wp hd hK
 |extract x i=>rw[hop]at hr;exact(Pb h hop hr).wp hd hK
 |nilCheck x=>rw[hop]at hr;exact(MH h hop hr).wp hd hK
 |makeFunc f first captured=>
  rw[hop]at hr
  cases f with
  |func f=>exact(N1 h hop hr).wp hd hK
  |_=>exact hr.fail.elim
 |call c=>
  rw[hop]at hr
  obtain⟨callee,args,tys⟩:=c
  cases callee with
  |builtin b=>
   cases b with
   |len=>exact(ZZ hte h hop hr).wp hd hK
   |min=>exact(ZP h hop hr).wp hd hK
   |max=>exact(ZT h hop hr).wp hd hK
   |append=>exact(UP hte h hop hr hid).wp hd hK
   |copy=>exact(Zr hte h hop hr).wp hd hK
   |clear=>exact(V8 hte h hop hr).wp hd hK
   |_=>exact hr.fail.elim
  |invoke _ _=>exact hr.fail.elim
  |value x=>
   cases x with
   |func f=>
    refine Py (us:=[]) h (ids:=[]) trivial hr hid (args.map a.eval) (by simp) ?_ hd hK
    have:callFunc f (args.map a.eval)=callFunc f (#[]++args.map a.eval++ #[]):=by simp
    rw[this]
    simp only[execOp,hop]
    rfl
   |tmp t=>
    obtain⟨c,hc,hr⟩:=cr h hr
    cases c with
    |fn f ids=>
     obtain⟨us,hv,hu⟩:=hc
     refine Py (us:=us.toList) h (ids:=ids) hu hr hid (args.map a.eval++us) (by simp) ?_ hd hK
     have:callFunc f (args.map a.eval++us)=callFunc f (#[]++args.map a.eval++us):=by simp
     rw[this]
     simp only[execOp,hop,resolve,hv]
     rfl
    |_=>exact hr.fail.elim
   |_=>exact hr.fail.elim
 |_=>rw[hop]at hr;exact hr.fail.elim
theorem X5 (hte:iR te P=true)(w0:World)(mo:kB)(n:Nat)(I0:Nat->Prop):SimOk P (ry P) te n (yi w0 mo n I0) where
 op o base s a w tr ir e K Q hr hid _ hS hd hK:=abc hte o base s a w e K Q ⟨tr,ir,hr⟩ hid hS hd hK
 skip dst s a w:=by
  rintro⟨I,M,h⟩ hd
  exact⟨I,M,h.put hd ⟨.skipped,rfl,rfl⟩⟩
 skp s a w t:=by
  rintro⟨I,M,h⟩ ht
  have:=h.tmps t
  rw[ht]at this
  obtain⟨c,hc,hv⟩:=this
  cases hc
  exact hv
 bool s a w t b:=by
  rintro⟨I,M,h⟩ ht
  have:=h.tmps t
  rw[ht]at this
  obtain⟨c,hc,hv⟩:=this
  cases hc
  simp only[aP]at hv
  cases hx:a.tmps[t]? with
  |none=>
   have:a.tmps.getD t undef=undef:=by simp[Array.getD_eq_getD_getElem?,hx]
   rw[this]at hv;cases hv
  |some v=>
   have:a.tmps.getD t undef=v:=by simp[Array.getD_eq_getD_getElem?,hx]
   rw[<-this,hv]
 drew s a w:=by
  rintro⟨I,M,h⟩
  exact⟨I,M,h.drew⟩
end
end Go.Proofs.YtbkjnlihfgkkaaaGreat
