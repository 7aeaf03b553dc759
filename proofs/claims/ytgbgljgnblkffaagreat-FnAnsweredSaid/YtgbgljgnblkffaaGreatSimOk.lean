/- Every operation that the executor runs. -/
import Derived.Test.YtgbgljgnblkffaaGreatCall2
set_option linter.unusedVariables false
set_option linter.unusedSimpArgs false
namespace Go.Proofs.YtgbgljgnblkffaaGreat
open Go Go.RowKit
section
variable {w0:World} {mo:pr} {n:Nat} {I0:Nat→Prop} {te:TE} {P:Program}
theorem acQ (hte:j4 te P=true)(o:Oper)(base:Nat)(s:FSt)(a:Act)(w:World)(e:Eff)(K:Act→World→Prop)(Q:Exit→Act→World→Prop)
  (hr:bC (ta P) s (fL te base o.op) e)(hid:∀id∈(aX base e.new).map (·.1),s.obj id=none)(hS:C3 w0 mo n I0 s a w)(hd:∀d,o.dst=some d→d<n)
  (hK:∀a' w',C3 w0 mo n I0 (s.wr o.dst e.val (e.upd++aX base e.new)) a' w'→K a' w'):o.wp P a w K Q:=by
 obtain⟨I,M,h⟩:=hS
 cases hop:o.op with
 |move x=>rw[hop]at hr;exact(Uj h (.inl hop) hr).wp hd hK
 |assign x=>rw[hop]at hr;exact(Uj h (.inr hop) hr).wp hd hK
 |pick c x y=>rw[hop]at hr;exact(Zx h hop hr).wp hd hK
 |alloc t=>rw[hop]at hr;exact(YM hte h hop hr hid).wp hd hK
 |box t x=>rw[hop]at hr;exact(abo h hop hr hid).wp hd hK
 |build t parts=>rw[hop]at hr;exact(XW hte h hop hr).wp hd hK
 |buildSlice t len parts=>rw[hop]at hr;exact(JL hte h hop hr hid).wp hd hK
 |load t x=>rw[hop]at hr;exact(Zs hte h hop hr).wp hd hK
 |store t x y=>rw[hop]at hr;exact(Yn hte h hop hr).wp hd hK
 |binOp op t x y t'=>rw[hop]at hr;exact(Y2 hte h hop hr).wp hd hK
 |unOp op t x=>rw[hop]at hr;exact(aat h hop hr).wp hd hK
 |convert t u x=>rw[hop]at hr;exact(TY hte h hop hr hid).wp hd hK
 |makeSlice t x y=>rw[hop]at hr;exact(M0 hte h hop hr hid).wp hd hK
 |slice t x lo hi mx=>rw[hop]at hr;exact(Y3 hte h hop hr hid).wp hd hK
 |fieldAddr t x f=>rw[hop]at hr;exact(Nv hte h hop hr).wp hd hK
 |indexAddr t x y=>rw[hop]at hr;exact(MI hte h hop hr).wp hd hK
 |index t x y=>rw[hop]at hr;exact(XL hte h hop hr).wp hd hK
 |extract x i=>rw[hop]at hr;exact(UT h hop hr).wp hd hK
 |nilCheck x=>rw[hop]at hr;exact(QQ h hop hr).wp hd hK
 |makeFunc f first captured=>
  rw[hop]at hr
  cases f with
  |func f=>exact(Qn h hop hr).wp hd hK
  |_=>exact hr.fail.elim
 |call c=>
  rw[hop]at hr
  obtain⟨callee,args,tys⟩:=c
  cases callee with
  |builtin b=>
   cases b with
   |len=>exact(abB hte h hop hr).wp hd hK
   |min=>exact(aaY h hop hr).wp hd hK
   |max=>exact(abg h hop hr).wp hd hK
   |append=>exact(Wy hte h hop hr hid).wp hd hK
   |copy=>exact(ZN hte h hop hr).wp hd hK
   |clear=>exact(Yh hte h hop hr).wp hd hK
   |_=>exact hr.fail.elim
  |invoke _ _=>exact hr.fail.elim
  |value x=>
   cases x with
   |func f=>
    refine TT (us:=[]) h (ids:=[]) trivial hr hid (args.map a.eval) (by simp) ?_ hd hK
    have:callFunc f (args.map a.eval)=callFunc f (#[]++args.map a.eval++ #[]):=by simp
    rw[this]
    simp only[execOp,hop]
    rfl
   |tmp t=>
    obtain⟨c,hc,hr⟩:=cy h hr
    cases c with
    |fn f ids=>
     obtain⟨us,hv,hu⟩:=hc
     refine TT (us:=us.toList) h (ids:=ids) hu hr hid (args.map a.eval++us) (by simp) ?_ hd hK
     have:callFunc f (args.map a.eval++us)=callFunc f (#[]++args.map a.eval++us):=by simp
     rw[this]
     simp only[execOp,hop,resolve,hv]
     rfl
    |_=>exact hr.fail.elim
   |_=>exact hr.fail.elim
 |_=>rw[hop]at hr;exact hr.fail.elim
theorem Z7 (hte:j4 te P=true)(w0:World)(mo:pr)(n:Nat)(I0:Nat→Prop):SimOk P (ta P) te n (C3 w0 mo n I0) where
 op o base s a w tr ir e K Q hr hid _ hS hd hK:=acQ hte o base s a w e K Q ⟨tr,ir,hr⟩ hid hS hd hK
 skip dst s a w:=by
  rintro⟨I,M,h⟩ hd
  exact⟨I,M,h.put hd ⟨.skipped,rfl,rfl⟩⟩
 skp s a w t:=by
  rintro⟨I,M,h⟩ ht
  have:=h.tmps t
  rw[ht]at this
  obtain⟨c,hc,hv⟩:=this
  cases hc
  exact hv
 bool s a w t b:=by
  rintro⟨I,M,h⟩ ht
  have:=h.tmps t
  rw[ht]at this
  obtain⟨c,hc,hv⟩:=this
  cases hc
  simp only[bm]at hv
  cases hx:a.tmps[t]? with
  |none=>
   have:a.tmps.getD t undef=undef:=by simp[Array.getD_eq_getD_getElem?,hx]
   rw[this]at hv;cases hv
  |some v=>
   have:a.tmps.getD t undef=v:=by simp[Array.getD_eq_getD_getElem?,hx]
   rw[←this,hv]
 drew s a w:=by
  rintro⟨I,M,h⟩
  exact⟨I,M,h.drew⟩
end
end Go.Proofs.YtgbgljgnblkffaaGreat
