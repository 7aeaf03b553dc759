/-
  Contracts of functions without loops, printed by gen2.py.
-/
import Derived.Test.YtjioppmfnejlnaaBase
namespace Go.Proofs.Ytjioppmfnejlnaa
open Go Go.RowKit

/-- laws.toLimits -/
def n18 (x0 : Limi) : Limi :=
  x0
theorem l18 (x0 : Limi) : evalFn te (orcOf (P := Try.prog) []) lorc0 [] Try.f18 [(Pk.st .limi).pv x0] =
  some [(true, [.c (.int .i64 x0.halves), .c (.int .i64 x0.waiting), .c (.int .i64 x0.conns), .c (.int .i64 x0.chal)])] := by kernel_rfl
def r18 (v : Limi) : Option Res := some [(true, [.c (.int .i64 v.halves), .c (.int .i64 v.waiting), .c (.int .i64 v.conns), .c (.int .i64 v.chal)])]
theorem c18 (x0 : Limi) : Con Try.prog 18 [(Pk.st .limi).pv x0] [(true, [.c (.int .i64 ((n18 x0).halves)), .c (.int .i64 ((n18 x0).waiting)), .c (.int .i64 ((n18 x0).conns)), .c (.int .i64 ((n18 x0).chal))])] :=
  evalFn_con0 teFact mixFact (orcOf_ok _) Try.func18 (by kernel_rfl) ((l18 x0).trans (show _ = r18 (n18 x0) from rfl))
noncomputable def e18 : Ent1 Try.prog := ent1 18 (.st .limi) (fun x0 => [(true, [.c (.int .i64 ((n18 x0).halves)), .c (.int .i64 ((n18 x0).waiting)), .c (.int .i64 ((n18 x0).conns)), .c (.int .i64 ((n18 x0).chal))])]) c18

/-- spec.Knock -/
def n23 (x0 : Clie) : Segm :=
  (⟨x0.tuple.port, x0.tuple.my, x0.isn, 0, 2, x0.window, ⟨x0.opts.mss, x0.opts.scale, x0.opts.sack, x0.opts.stamp, x0.opts.val, x0.opts.echo⟩, []⟩ : Segm)
theorem l23 (x0 : Clie) : evalFn te (orcOf (P := Try.prog) []) lorc0 [] Try.f23 [(Pk.st .clie).pv x0] =
  some [(true, [.c (.int .i64 x0.tuple.port), .c (.int .i64 x0.tuple.my), .c (.int .i64 x0.isn), .c (.int .i64 0), .c (.int .i64 2), .c (.int .i64 x0.window), .c (.int .i64 x0.opts.mss), .c (.int .i64 x0.opts.scale), .c (.bool x0.opts.sack), .c (.bool x0.opts.stamp), .c (.int .i64 x0.opts.val), .c (.int .i64 x0.opts.echo), .c (.str [])])] := by kernel_rfl
def r23 (v : Segm) : Option Res := some [(true, [.c (.int .i64 v.from_), .c (.int .i64 v.to), .c (.int .i64 v.seq), .c (.int .i64 v.ack), .c (.int .i64 v.flags), .c (.int .i64 v.window), .c (.int .i64 v.opts.mss), .c (.int .i64 v.opts.scale), .c (.bool v.opts.sack), .c (.bool v.opts.stamp), .c (.int .i64 v.opts.val), .c (.int .i64 v.opts.echo), .c (.str v.body)])]
theorem c23 (x0 : Clie) : Con Try.prog 23 [(Pk.st .clie).pv x0] [(true, [.c (.int .i64 ((n23 x0).from_)), .c (.int .i64 ((n23 x0).to)), .c (.int .i64 ((n23 x0).seq)), .c (.int .i64 ((n23 x0).ack)), .c (.int .i64 ((n23 x0).flags)), .c (.int .i64 ((n23 x0).window)), .c (.int .i64 ((n23 x0).opts.mss)), .c (.int .i64 ((n23 x0).opts.scale)), .c (.bool ((n23 x0).opts.sack)), .c (.bool ((n23 x0).opts.stamp)), .c (.int .i64 ((n23 x0).opts.val)), .c (.int .i64 ((n23 x0).opts.echo)), .c (.str ((n23 x0).body))])] :=
  evalFn_con0 teFact mixFact (orcOf_ok _) Try.func23 (by kernel_rfl) ((l23 x0).trans (show _ = r23 (n23 x0) from rfl))
noncomputable def e23 : Ent1 Try.prog := ent1 23 (.st .clie) (fun x0 => [(true, [.c (.int .i64 ((n23 x0).from_)), .c (.int .i64 ((n23 x0).to)), .c (.int .i64 ((n23 x0).seq)), .c (.int .i64 ((n23 x0).ack)), .c (.int .i64 ((n23 x0).flags)), .c (.int .i64 ((n23 x0).window)), .c (.int .i64 ((n23 x0).opts.mss)), .c (.int .i64 ((n23 x0).opts.scale)), .c (.bool ((n23 x0).opts.sack)), .c (.bool ((n23 x0).opts.stamp)), .c (.int .i64 ((n23 x0).opts.val)), .c (.int .i64 ((n23 x0).opts.echo)), .c (.str ((n23 x0).body))])]) c23

/-- impl.Knock -/
def n24 (x0 : Clie) : Segm :=
  (⟨x0.tuple.port, x0.tuple.my, x0.isn, 0, 2, x0.window, ⟨x0.opts.mss, x0.opts.scale, x0.opts.sack, x0.opts.stamp, x0.opts.val, x0.opts.echo⟩, []⟩ : Segm)
theorem l24 (x0 : Clie) : evalFn te (orcOf (P := Try.prog) []) lorc0 [] Try.f24 [(Pk.st .clie).pv x0] =
  some [(true, [.c (.int .i64 x0.tuple.port), .c (.int .i64 x0.tuple.my), .c (.int .i64 x0.isn), .c (.int .i64 0), .c (.int .i64 2), .c (.int .i64 x0.window), .c (.int .i64 x0.opts.mss), .c (.int .i64 x0.opts.scale), .c (.bool x0.opts.sack), .c (.bool x0.opts.stamp), .c (.int .i64 x0.opts.val), .c (.int .i64 x0.opts.echo), .c (.str [])])] := by kernel_rfl
def r24 (v : Segm) : Option Res := some [(true, [.c (.int .i64 v.from_), .c (.int .i64 v.to), .c (.int .i64 v.seq), .c (.int .i64 v.ack), .c (.int .i64 v.flags), .c (.int .i64 v.window), .c (.int .i64 v.opts.mss), .c (.int .i64 v.opts.scale), .c (.bool v.opts.sack), .c (.bool v.opts.stamp), .c (.int .i64 v.opts.val), .c (.int .i64 v.opts.echo), .c (.str v.body)])]
theorem c24 (x0 : Clie) : Con Try.prog 24 [(Pk.st .clie).pv x0] [(true, [.c (.int .i64 ((n24 x0).from_)), .c (.int .i64 ((n24 x0).to)), .c (.int .i64 ((n24 x0).seq)), .c (.int .i64 ((n24 x0).ack)), .c (.int .i64 ((n24 x0).flags)), .c (.int .i64 ((n24 x0).window)), .c (.int .i64 ((n24 x0).opts.mss)), .c (.int .i64 ((n24 x0).opts.scale)), .c (.bool ((n24 x0).opts.sack)), .c (.bool ((n24 x0).opts.stamp)), .c (.int .i64 ((n24 x0).opts.val)), .c (.int .i64 ((n24 x0).opts.echo)), .c (.str ((n24 x0).body))])] :=
  evalFn_con0 teFact mixFact (orcOf_ok _) Try.func24 (by kernel_rfl) ((l24 x0).trans (show _ = r24 (n24 x0) from rfl))
noncomputable def e24 : Ent1 Try.prog := ent1 24 (.st .clie) (fun x0 => [(true, [.c (.int .i64 ((n24 x0).from_)), .c (.int .i64 ((n24 x0).to)), .c (.int .i64 ((n24 x0).seq)), .c (.int .i64 ((n24 x0).ack)), .c (.int .i64 ((n24 x0).flags)), .c (.int .i64 ((n24 x0).window)), .c (.int .i64 ((n24 x0).opts.mss)), .c (.int .i64 ((n24 x0).opts.scale)), .c (.bool ((n24 x0).opts.sack)), .c (.bool ((n24 x0).opts.stamp)), .c (.int .i64 ((n24 x0).opts.val)), .c (.int .i64 ((n24 x0).opts.echo)), .c (.str ((n24 x0).body))])]) c24

/-- laws.szIssueS -/
def n26 (x0 : List Issu) (x1 : Int) : Int :=
  bif (decide ((IntKind.wrap .i64 (x1 - (x0.length : Int))) < 0)) then
    (-1)
  else
  (IntKind.wrap .i64 (x1 - (x0.length : Int)))
theorem l26 (x0 : List Issu) (x1 : Int) : evalFn te (orcOf (P := Try.prog) []) lorc0 [] Try.f26 [(Pk.sc (.sl .issu)).pv x0, (Pk.sc (.int .i64)).pv x1] =
  bif (decide ((IntKind.wrap .i64 (x1 - (x0.length : Int))) < 0)) then
    some [(false, [.c (.int .i64 (-1))])]
  else
  some [(false, [.c (.int .i64 (IntKind.wrap .i64 (x1 - (x0.length : Int))))])] := by kernel_rfl
def r26 (v : Int) : Option Res := some [(false, [.c (.int .i64 v)])]
theorem c26 (x0 : List Issu) (x1 : Int) : Con Try.prog 26 [(Pk.sc (.sl .issu)).pv x0, (Pk.sc (.int .i64)).pv x1] [(false, [.c (.int .i64 (n26 x0 x1))])] :=
  evalFn_con0 teFact mixFact (orcOf_ok _) Try.func26 (by kernel_rfl) ((l26 x0 x1).trans (show _ = r26 (n26 x0 x1) from by
    unfold n26
    exact bifT (f := r26) (fun h0 => rfl)
      (fun h0 => rfl)))
noncomputable def e26 : Ent1 Try.prog := ent2 26 (.sc (.sl .issu)) (.sc (.int .i64)) (fun x0 x1 => [(false, [.c (.int .i64 (n26 x0 x1))])]) c26

/-- laws.toOptions -/
def n33 (x0 : Opti) : Opti :=
  x0
theorem l33 (x0 : Opti) : evalFn te (orcOf (P := Try.prog) []) lorc0 [] Try.f33 [(Pk.st .opti).pv x0] =
  some [(true, [.c (.int .i64 x0.mss), .c (.int .i64 x0.scale), .c (.bool x0.sack), .c (.bool x0.stamp), .c (.int .i64 x0.val), .c (.int .i64 x0.echo)])] := by kernel_rfl
def r33 (v : Opti) : Option Res := some [(true, [.c (.int .i64 v.mss), .c (.int .i64 v.scale), .c (.bool v.sack), .c (.bool v.stamp), .c (.int .i64 v.val), .c (.int .i64 v.echo)])]
theorem c33 (x0 : Opti) : Con Try.prog 33 [(Pk.st .opti).pv x0] [(true, [.c (.int .i64 ((n33 x0).mss)), .c (.int .i64 ((n33 x0).scale)), .c (.bool ((n33 x0).sack)), .c (.bool ((n33 x0).stamp)), .c (.int .i64 ((n33 x0).val)), .c (.int .i64 ((n33 x0).echo))])] :=
  evalFn_con0 teFact mixFact (orcOf_ok _) Try.func33 (by kernel_rfl) ((l33 x0).trans (show _ = r33 (n33 x0) from rfl))
noncomputable def e33 : Ent1 Try.prog := ent1 33 (.st .opti) (fun x0 => [(true, [.c (.int .i64 ((n33 x0).mss)), .c (.int .i64 ((n33 x0).scale)), .c (.bool ((n33 x0).sack)), .c (.bool ((n33 x0).stamp)), .c (.int .i64 ((n33 x0).val)), .c (.int .i64 ((n33 x0).echo))])]) c33

/-- laws.eqOptions -/
def n35 (x0 : Opti) (x1 : Opti) : Bool :=
  bif (x0.mss != x1.mss) then
    false
  else
  bif (x0.scale != x1.scale) then
    false
  else
  bif (!(x0.sack == x1.sack)) then
    false
  else
  bif (!(x0.stamp == x1.stamp)) then
    false
  else
  bif (x0.val != x1.val) then
    false
  else
  bif (x0.echo != x1.echo) then
    false
  else
  true
theorem l35 (x0 : Opti) (x1 : Opti) : evalFn te (orcOf (P := Try.prog) []) lorc0 [] Try.f35 [(Pk.st .opti).pv x0, (Pk.st .opti).pv x1] =
  bif (x0.mss != x1.mss) then
    some [(false, [.c (.bool false)])]
  else
  bif (x0.scale != x1.scale) then
    some [(false, [.c (.bool false)])]
  else
  bif (!(x0.sack == x1.sack)) then
    some [(false, [.c (.bool false)])]
  else
  bif (!(x0.stamp == x1.stamp)) then
    some [(false, [.c (.bool false)])]
  else
  bif (x0.val != x1.val) then
    some [(false, [.c (.bool false)])]
  else
  bif (x0.echo != x1.echo) then
    some [(false, [.c (.bool false)])]
  else
  some [(false, [.c (.bool true)])] := by kernel_rfl
def r35 (v : Bool) : Option Res := some [(false, [.c (.bool v)])]
theorem c35 (x0 : Opti) (x1 : Opti) : Con Try.prog 35 [(Pk.st .opti).pv x0, (Pk.st .opti).pv x1] [(false, [.c (.bool (n35 x0 x1))])] :=
  evalFn_con0 teFact mixFact (orcOf_ok _) Try.func35 (by kernel_rfl) ((l35 x0 x1).trans (show _ = r35 (n35 x0 x1) from by
    unfold n35
    exact bifT (f := r35) (fun h0 => rfl)
      (fun h0 => bifT (f := r35) (fun h1 => rfl)
      (fun h1 => bifT (f := r35) (fun h2 => rfl)
      (fun h2 => bifT (f := r35) (fun h3 => rfl)
      (fun h3 => bifT (f := r35) (fun h4 => rfl)
      (fun h4 => bifT (f := r35) (fun h5 => rfl)
      (fun h5 => rfl))))))))
noncomputable def e35 : Ent1 Try.prog := ent2 35 (.st .opti) (.st .opti) (fun x0 x1 => [(false, [.c (.bool (n35 x0 x1))])]) c35

/-- laws.szSegment -/
def n41 (x0 : Segm) (x1 : Int) : Int :=
  bif (decide ((IntKind.wrap .i64 (x1 - (x0.body.length : Int))) < 0)) then
    (-1)
  else
  (IntKind.wrap .i64 (x1 - (x0.body.length : Int)))
theorem l41 (x0 : Segm) (x1 : Int) : evalFn te (orcOf (P := Try.prog) []) lorc0 [] Try.f41 [(Pk.st .segm).pv x0, (Pk.sc (.int .i64)).pv x1] =
  bif (decide ((IntKind.wrap .i64 (x1 - (x0.body.length : Int))) < 0)) then
    some [(false, [.c (.int .i64 (-1))])]
  else
  some [(false, [.c (.int .i64 (IntKind.wrap .i64 (x1 - (x0.body.length : Int))))])] := by kernel_rfl
def r41 (v : Int) : Option Res := some [(false, [.c (.int .i64 v)])]
theorem c41 (x0 : Segm) (x1 : Int) : Con Try.prog 41 [(Pk.st .segm).pv x0, (Pk.sc (.int .i64)).pv x1] [(false, [.c (.int .i64 (n41 x0 x1))])] :=
  evalFn_con0 teFact mixFact (orcOf_ok _) Try.func41 (by kernel_rfl) ((l41 x0 x1).trans (show _ = r41 (n41 x0 x1) from by
    unfold n41
    exact bifT (f := r41) (fun h0 => rfl)
      (fun h0 => rfl)))
noncomputable def e41 : Ent1 Try.prog := ent2 41 (.st .segm) (.sc (.int .i64)) (fun x0 x1 => [(false, [.c (.int .i64 (n41 x0 x1))])]) c41

/-- laws.toSegment -/
def n43 (x0 : Segm) : Segm :=
  (⟨x0.from_, x0.to, x0.seq, x0.ack, x0.flags, x0.window, ⟨(n33 x0.opts).mss, (n33 x0.opts).scale, (n33 x0.opts).sack, (n33 x0.opts).stamp, (n33 x0.opts).val, (n33 x0.opts).echo⟩, x0.body⟩ : Segm)
theorem l43 (x0 : Segm) : evalFn te (orcOf (P := Try.prog) [e33]) lorc0 [] Try.f43 [(Pk.st .segm).pv x0] =
  some [(true, [.c (.int .i64 x0.from_), .c (.int .i64 x0.to), .c (.int .i64 x0.seq), .c (.int .i64 x0.ack), .c (.int .i64 x0.flags), .c (.int .i64 x0.window), .c (.int .i64 ((n33 x0.opts).mss)), .c (.int .i64 ((n33 x0.opts).scale)), .c (.bool ((n33 x0.opts).sack)), .c (.bool ((n33 x0.opts).stamp)), .c (.int .i64 ((n33 x0.opts).val)), .c (.int .i64 ((n33 x0.opts).echo)), .c (.str x0.body)])] := by kernel_rfl
def r43 (v : Segm) : Option Res := some [(true, [.c (.int .i64 v.from_), .c (.int .i64 v.to), .c (.int .i64 v.seq), .c (.int .i64 v.ack), .c (.int .i64 v.flags), .c (.int .i64 v.window), .c (.int .i64 v.opts.mss), .c (.int .i64 v.opts.scale), .c (.bool v.opts.sack), .c (.bool v.opts.stamp), .c (.int .i64 v.opts.val), .c (.int .i64 v.opts.echo), .c (.str v.body)])]
theorem c43 (x0 : Segm) : Con Try.prog 43 [(Pk.st .segm).pv x0] [(true, [.c (.int .i64 ((n43 x0).from_)), .c (.int .i64 ((n43 x0).to)), .c (.int .i64 ((n43 x0).seq)), .c (.int .i64 ((n43 x0).ack)), .c (.int .i64 ((n43 x0).flags)), .c (.int .i64 ((n43 x0).window)), .c (.int .i64 ((n43 x0).opts.mss)), .c (.int .i64 ((n43 x0).opts.scale)), .c (.bool ((n43 x0).opts.sack)), .c (.bool ((n43 x0).opts.stamp)), .c (.int .i64 ((n43 x0).opts.val)), .c (.int .i64 ((n43 x0).opts.echo)), .c (.str ((n43 x0).body))])] :=
  evalFn_con0 teFact mixFact (orcOf_ok _) Try.func43 (by kernel_rfl) ((l43 x0).trans (show _ = r43 (n43 x0) from rfl))
noncomputable def e43 : Ent1 Try.prog := ent1 43 (.st .segm) (fun x0 => [(true, [.c (.int .i64 ((n43 x0).from_)), .c (.int .i64 ((n43 x0).to)), .c (.int .i64 ((n43 x0).seq)), .c (.int .i64 ((n43 x0).ack)), .c (.int .i64 ((n43 x0).flags)), .c (.int .i64 ((n43 x0).window)), .c (.int .i64 ((n43 x0).opts.mss)), .c (.int .i64 ((n43 x0).opts.scale)), .c (.bool ((n43 x0).opts.sack)), .c (.bool ((n43 x0).opts.stamp)), .c (.int .i64 ((n43 x0).opts.val)), .c (.int .i64 ((n43 x0).opts.echo)), .c (.str ((n43 x0).body))])]) c43

/-- laws.eqTuple -/
def n56 (x0 : Tupl) (x1 : Tupl) : Bool :=
  bif (x0.ip != x1.ip) then
    false
  else
  bif (x0.port != x1.port) then
    false
  else
  bif (x0.my != x1.my) then
    false
  else
  true
theorem l56 (x0 : Tupl) (x1 : Tupl) : evalFn te (orcOf (P := Try.prog) []) lorc0 [] Try.f56 [(Pk.st .tupl).pv x0, (Pk.st .tupl).pv x1] =
  bif (x0.ip != x1.ip) then
    some [(false, [.c (.bool false)])]
  else
  bif (x0.port != x1.port) then
    some [(false, [.c (.bool false)])]
  else
  bif (x0.my != x1.my) then
    some [(false, [.c (.bool false)])]
  else
  some [(false, [.c (.bool true)])] := by kernel_rfl
def r56 (v : Bool) : Option Res := some [(false, [.c (.bool v)])]
theorem c56 (x0 : Tupl) (x1 : Tupl) : Con Try.prog 56 [(Pk.st .tupl).pv x0, (Pk.st .tupl).pv x1] [(false, [.c (.bool (n56 x0 x1))])] :=
  evalFn_con0 teFact mixFact (orcOf_ok _) Try.func56 (by kernel_rfl) ((l56 x0 x1).trans (show _ = r56 (n56 x0 x1) from by
    unfold n56
    exact bifT (f := r56) (fun h0 => rfl)
      (fun h0 => bifT (f := r56) (fun h1 => rfl)
      (fun h1 => bifT (f := r56) (fun h2 => rfl)
      (fun h2 => rfl)))))
noncomputable def e56 : Ent1 Try.prog := ent2 56 (.st .tupl) (.st .tupl) (fun x0 x1 => [(false, [.c (.bool (n56 x0 x1))])]) c56

/-- spec.l1In -/
def n66 (x0 : Int) (x1 : Int) (x2 : Int) : Bool :=
  bif (decide (x1 ≤ x0)) then
    (decide (x0 ≤ x2))
  else
  false
theorem l66 (x0 : Int) (x1 : Int) (x2 : Int) : evalFn te (orcOf (P := Try.prog) []) lorc0 [] Try.f66 [(Pk.sc (.int .i64)).pv x0, (Pk.sc (.int .i64)).pv x1, (Pk.sc (.int .i64)).pv x2] =
  bif (decide (x1 ≤ x0)) then
    some [(false, [.c (.bool (decide (x0 ≤ x2)))])]
  else
  some [(false, [.c (.bool false)])] := by kernel_rfl
def r66 (v : Bool) : Option Res := some [(false, [.c (.bool v)])]
theorem c66 (x0 : Int) (x1 : Int) (x2 : Int) : Con Try.prog 66 [(Pk.sc (.int .i64)).pv x0, (Pk.sc (.int .i64)).pv x1, (Pk.sc (.int .i64)).pv x2] [(false, [.c (.bool (n66 x0 x1 x2))])] :=
  evalFn_con0 teFact mixFact (orcOf_ok _) Try.func66 (by kernel_rfl) ((l66 x0 x1 x2).trans (show _ = r66 (n66 x0 x1 x2) from by
    unfold n66
    exact bifT (f := r66) (fun h0 => rfl)
      (fun h0 => rfl)))
noncomputable def e66 : Ent1 Try.prog := ent3 66 (.sc (.int .i64)) (.sc (.int .i64)) (.sc (.int .i64)) (fun x0 x1 x2 => [(false, [.c (.bool (n66 x0 x1 x2))])]) c66

/-- impl.within -/
def n67 (x0 : Int) (x1 : Int) (x2 : Int) : Bool :=
  bif (decide (x1 ≤ x0)) then
    (decide (x0 ≤ x2))
  else
  false
theorem l67 (x0 : Int) (x1 : Int) (x2 : Int) : evalFn te (orcOf (P := Try.prog) []) lorc0 [] Try.f67 [(Pk.sc (.int .i64)).pv x0, (Pk.sc (.int .i64)).pv x1, (Pk.sc (.int .i64)).pv x2] =
  bif (decide (x1 ≤ x0)) then
    some [(false, [.c (.bool (decide (x0 ≤ x2)))])]
  else
  some [(false, [.c (.bool false)])] := by kernel_rfl
def r67 (v : Bool) : Option Res := some [(false, [.c (.bool v)])]
theorem c67 (x0 : Int) (x1 : Int) (x2 : Int) : Con Try.prog 67 [(Pk.sc (.int .i64)).pv x0, (Pk.sc (.int .i64)).pv x1, (Pk.sc (.int .i64)).pv x2] [(false, [.c (.bool (n67 x0 x1 x2))])] :=
  evalFn_con0 teFact mixFact (orcOf_ok _) Try.func67 (by kernel_rfl) ((l67 x0 x1 x2).trans (show _ = r67 (n67 x0 x1 x2) from by
    unfold n67
    exact bifT (f := r67) (fun h0 => rfl)
      (fun h0 => rfl)))
noncomputable def e67 : Ent1 Try.prog := ent3 67 (.sc (.int .i64)) (.sc (.int .i64)) (.sc (.int .i64)) (fun x0 x1 x2 => [(false, [.c (.bool (n67 x0 x1 x2))])]) c67

/-- spec.LimitsOk -/
def n68 (x0 : Limi) : Bool :=
  bif (n66 x0.halves 1 64) then
    bif (n66 x0.waiting 1 16) then
      bif (n66 x0.conns 1 16) then
        (n66 x0.chal 0 1000)
      else
      false
    else
    false
  else
  false
theorem l68 (x0 : Limi) : evalFn te (orcOf (P := Try.prog) [e66]) lorc0 [] Try.f68 [(Pk.st .limi).pv x0] =
  bif (n66 x0.halves 1 64) then
    bif (n66 x0.waiting 1 16) then
      bif (n66 x0.conns 1 16) then
        some [(false, [.c (.bool (n66 x0.chal 0 1000))])]
      else
      some [(false, [.c (.bool false)])]
    else
    some [(false, [.c (.bool false)])]
  else
  some [(false, [.c (.bool false)])] := by kernel_rfl
def r68 (v : Bool) : Option Res := some [(false, [.c (.bool v)])]
theorem c68 (x0 : Limi) : Con Try.prog 68 [(Pk.st .limi).pv x0] [(false, [.c (.bool (n68 x0))])] :=
  evalFn_con0 teFact mixFact (orcOf_ok _) Try.func68 (by kernel_rfl) ((l68 x0).trans (show _ = r68 (n68 x0) from by
    unfold n68
    exact bifT (f := r68) (fun h0 => bifT (f := r68) (fun h1 => bifT (f := r68) (fun h2 => rfl)
      (fun h2 => rfl))
      (fun h1 => rfl))
      (fun h0 => rfl)))
noncomputable def e68 : Ent1 Try.prog := ent1 68 (.st .limi) (fun x0 => [(false, [.c (.bool (n68 x0))])]) c68

/-- impl.LimitsOk -/
def n69 (x0 : Limi) : Bool :=
  bif (n67 x0.halves 1 64) then
    bif (n67 x0.waiting 1 16) then
      bif (n67 x0.conns 1 16) then
        (n67 x0.chal 0 1000)
      else
      false
    else
    false
  else
  false
theorem l69 (x0 : Limi) : evalFn te (orcOf (P := Try.prog) [e67]) lorc0 [] Try.f69 [(Pk.st .limi).pv x0] =
  bif (n67 x0.halves 1 64) then
    bif (n67 x0.waiting 1 16) then
      bif (n67 x0.conns 1 16) then
        some [(false, [.c (.bool (n67 x0.chal 0 1000))])]
      else
      some [(false, [.c (.bool false)])]
    else
    some [(false, [.c (.bool false)])]
  else
  some [(false, [.c (.bool false)])] := by kernel_rfl
def r69 (v : Bool) : Option Res := some [(false, [.c (.bool v)])]
theorem c69 (x0 : Limi) : Con Try.prog 69 [(Pk.st .limi).pv x0] [(false, [.c (.bool (n69 x0))])] :=
  evalFn_con0 teFact mixFact (orcOf_ok _) Try.func69 (by kernel_rfl) ((l69 x0).trans (show _ = r69 (n69 x0) from by
    unfold n69
    exact bifT (f := r69) (fun h0 => bifT (f := r69) (fun h1 => bifT (f := r69) (fun h2 => rfl)
      (fun h2 => rfl))
      (fun h1 => rfl))
      (fun h0 => rfl)))
noncomputable def e69 : Ent1 Try.prog := ent1 69 (.st .limi) (fun x0 => [(false, [.c (.bool (n69 x0))])]) c69

/-- spec.WordOk -/
def n72 (x0 : Int) (x1 : Int) : Bool :=
  bif (n66 x1 1 62) then
    (n66 x0 0 (IntKind.wrap .i64 ((IntKind.wrap .i64 (1 * 2 ^ (min (IntKind.wrap .u64 x1).toNat 64))) - 1)))
  else
  false
theorem l72 (x0 : Int) (x1 : Int) : evalFn te (orcOf (P := Try.prog) [e66]) lorc0 [] Try.f72 [(Pk.sc (.int .i64)).pv x0, (Pk.sc (.int .i64)).pv x1] =
  bif (n66 x1 1 62) then
    bif (decide (0 ≤ (IntKind.wrap .u64 x1))) then
    some [(false, [.c (.bool (n66 x0 0 (IntKind.wrap .i64 ((IntKind.wrap .i64 (1 * 2 ^ (min (IntKind.wrap .u64 x1).toNat 64))) - 1))))])]
    else none
  else
  some [(false, [.c (.bool false)])] := by kernel_rfl
def r72 (v : Bool) : Option Res := some [(false, [.c (.bool v)])]
theorem c72 (x0 : Int) (x1 : Int) : Con Try.prog 72 [(Pk.sc (.int .i64)).pv x0, (Pk.sc (.int .i64)).pv x1] [(false, [.c (.bool (n72 x0 x1))])] :=
  evalFn_con0 teFact mixFact (orcOf_ok _) Try.func72 (by kernel_rfl) ((l72 x0 x1).trans (show _ = r72 (n72 x0 x1) from by
    unfold n72
    exact bifT (f := r72) (fun h0 => bifG (by have hw := inK_wrap .u64 x1; simp [inK, IntKind.min, IntKind.signed] at hw; simp [n66, n67] at *; try omega) (rfl))
      (fun h0 => rfl)))
noncomputable def e72 : Ent1 Try.prog := ent2 72 (.sc (.int .i64)) (.sc (.int .i64)) (fun x0 x1 => [(false, [.c (.bool (n72 x0 x1))])]) c72

/-- laws.toTuple -/
def n73 (x0 : Tupl) : Tupl :=
  x0
theorem l73 (x0 : Tupl) : evalFn te (orcOf (P := Try.prog) []) lorc0 [] Try.f73 [(Pk.st .tupl).pv x0] =
  some [(true, [.c (.int .i64 x0.ip), .c (.int .i64 x0.port), .c (.int .i64 x0.my)])] := by kernel_rfl
def r73 (v : Tupl) : Option Res := some [(true, [.c (.int .i64 v.ip), .c (.int .i64 v.port), .c (.int .i64 v.my)])]
theorem c73 (x0 : Tupl) : Con Try.prog 73 [(Pk.st .tupl).pv x0] [(true, [.c (.int .i64 ((n73 x0).ip)), .c (.int .i64 ((n73 x0).port)), .c (.int .i64 ((n73 x0).my))])] :=
  evalFn_con0 teFact mixFact (orcOf_ok _) Try.func73 (by kernel_rfl) ((l73 x0).trans (show _ = r73 (n73 x0) from rfl))
noncomputable def e73 : Ent1 Try.prog := ent1 73 (.st .tupl) (fun x0 => [(true, [.c (.int .i64 ((n73 x0).ip)), .c (.int .i64 ((n73 x0).port)), .c (.int .i64 ((n73 x0).my))])]) c73

/-- impl.WordOk -/
def n76 (x0 : Int) (x1 : Int) : Bool :=
  bif (n67 x1 1 62) then
    (n67 x0 0 (IntKind.wrap .i64 ((IntKind.wrap .i64 (1 * 2 ^ (min x1.toNat 64))) - 1)))
  else
  false
theorem l76 (x0 : Int) (x1 : Int) : evalFn te (orcOf (P := Try.prog) [e67]) lorc0 [] Try.f76 [(Pk.sc (.int .i64)).pv x0, (Pk.sc (.int .i64)).pv x1] =
  bif (n67 x1 1 62) then
    bif (decide (0 ≤ x1)) then
    some [(false, [.c (.bool (n67 x0 0 (IntKind.wrap .i64 ((IntKind.wrap .i64 (1 * 2 ^ (min x1.toNat 64))) - 1))))])]
    else none
  else
  some [(false, [.c (.bool false)])] := by kernel_rfl
def r76 (v : Bool) : Option Res := some [(false, [.c (.bool v)])]
theorem c76 (x0 : Int) (x1 : Int) : Con Try.prog 76 [(Pk.sc (.int .i64)).pv x0, (Pk.sc (.int .i64)).pv x1] [(false, [.c (.bool (n76 x0 x1))])] :=
  evalFn_con0 teFact mixFact (orcOf_ok _) Try.func76 (by kernel_rfl) ((l76 x0 x1).trans (show _ = r76 (n76 x0 x1) from by
    unfold n76
    exact bifT (f := r76) (fun h0 => bifG (by simp [n66, n67] at *; try omega) (rfl))
      (fun h0 => rfl)))
noncomputable def e76 : Ent1 Try.prog := ent2 76 (.sc (.int .i64)) (.sc (.int .i64)) (fun x0 x1 => [(false, [.c (.bool (n76 x0 x1))])]) c76

/-- laws.eqIssue -/
def n78 (x0 : Issu) (x1 : Issu) : Bool :=
  bif (!(n56 x0.tuple x1.tuple)) then
    false
  else
  bif (x0.seq != x1.seq) then
    false
  else
  bif (x0.cookie != x1.cookie) then
    false
  else
  true
theorem l78 (x0 : Issu) (x1 : Issu) : evalFn te (orcOf (P := Try.prog) [e56]) lorc0 [] Try.f78 [(Pk.st .issu).pv x0, (Pk.st .issu).pv x1] =
  bif (!(n56 x0.tuple x1.tuple)) then
    some [(false, [.c (.bool false)])]
  else
  bif (x0.seq != x1.seq) then
    some [(false, [.c (.bool false)])]
  else
  bif (x0.cookie != x1.cookie) then
    some [(false, [.c (.bool false)])]
  else
  some [(false, [.c (.bool true)])] := by kernel_rfl
def r78 (v : Bool) : Option Res := some [(false, [.c (.bool v)])]
theorem c78 (x0 : Issu) (x1 : Issu) : Con Try.prog 78 [(Pk.st .issu).pv x0, (Pk.st .issu).pv x1] [(false, [.c (.bool (n78 x0 x1))])] :=
  evalFn_con0 teFact mixFact (orcOf_ok _) Try.func78 (by kernel_rfl) ((l78 x0 x1).trans (show _ = r78 (n78 x0 x1) from by
    unfold n78
    exact bifT (f := r78) (fun h0 => rfl)
      (fun h0 => bifT (f := r78) (fun h1 => rfl)
      (fun h1 => bifT (f := r78) (fun h2 => rfl)
      (fun h2 => rfl)))))
noncomputable def e78 : Ent1 Try.prog := ent2 78 (.st .issu) (.st .issu) (fun x0 x1 => [(false, [.c (.bool (n78 x0 x1))])]) c78

/-- spec.NoOptions -/
def n79  : Opti :=
  (⟨0, (-1), false, false, 0, 0⟩ : Opti)
theorem l79  : evalFn te (orcOf (P := Try.prog) []) lorc0 [] Try.f79 [] =
  some [(true, [.c (.int .i64 0), .c (.int .i64 (-1)), .c (.bool false), .c (.bool false), .c (.int .i64 0), .c (.int .i64 0)])] := by kernel_rfl
def r79 (v : Opti) : Option Res := some [(true, [.c (.int .i64 v.mss), .c (.int .i64 v.scale), .c (.bool v.sack), .c (.bool v.stamp), .c (.int .i64 v.val), .c (.int .i64 v.echo)])]
theorem c79  : Con Try.prog 79 [] [(true, [.c (.int .i64 n79.mss), .c (.int .i64 n79.scale), .c (.bool n79.sack), .c (.bool n79.stamp), .c (.int .i64 n79.val), .c (.int .i64 n79.echo)])] :=
  evalFn_con0 teFact mixFact (orcOf_ok _) Try.func79 (by kernel_rfl) ((l79 ).trans (show _ = r79 n79 from rfl))
noncomputable def e79 : Ent1 Try.prog := ent0 79 [(true, [.c (.int .i64 n79.mss), .c (.int .i64 n79.scale), .c (.bool n79.sack), .c (.bool n79.stamp), .c (.int .i64 n79.val), .c (.int .i64 n79.echo)])] c79

/-- spec.MssOf -/
def n80 (x0 : Int) : Int :=
  bif (!(n66 x0 0 7)) then
    0
  else
  ([64, 256, 536, 1024, 1300, 1400, 1440, 1460].getD x0.toNat 0)
theorem l80 (x0 : Int) : evalFn te (orcOf (P := Try.prog) [e66]) lorc0 [] Try.f80 [(Pk.sc (.int .i64)).pv x0] =
  bif (!(n66 x0 0 7)) then
    some [(false, [.c (.int .i64 0)])]
  else
  bif ((decide (0 ≤ x0)) && (decide (x0 < 8))) then
  some [(false, [.c (.int .i64 ([64, 256, 536, 1024, 1300, 1400, 1440, 1460].getD x0.toNat 0))])]
  else none := by kernel_rfl
def r80 (v : Int) : Option Res := some [(false, [.c (.int .i64 v)])]
theorem c80 (x0 : Int) : Con Try.prog 80 [(Pk.sc (.int .i64)).pv x0] [(false, [.c (.int .i64 (n80 x0))])] :=
  evalFn_con0 teFact mixFact (orcOf_ok _) Try.func80 (by kernel_rfl) ((l80 x0).trans (show _ = r80 (n80 x0) from by
    unfold n80
    exact bifT (f := r80) (fun h0 => rfl)
      (fun h0 => bifG (by simp [n66, n67] at *; try omega) (rfl))))
noncomputable def e80 : Ent1 Try.prog := ent1 80 (.sc (.int .i64)) (fun x0 => [(false, [.c (.int .i64 (n80 x0))])]) c80

/-- impl.NoOptions -/
def n83  : Opti :=
  (⟨0, (-1), false, false, 0, 0⟩ : Opti)
theorem l83  : evalFn te (orcOf (P := Try.prog) []) lorc0 [] Try.f83 [] =
  some [(true, [.c (.int .i64 0), .c (.int .i64 (-1)), .c (.bool false), .c (.bool false), .c (.int .i64 0), .c (.int .i64 0)])] := by kernel_rfl
def r83 (v : Opti) : Option Res := some [(true, [.c (.int .i64 v.mss), .c (.int .i64 v.scale), .c (.bool v.sack), .c (.bool v.stamp), .c (.int .i64 v.val), .c (.int .i64 v.echo)])]
theorem c83  : Con Try.prog 83 [] [(true, [.c (.int .i64 n83.mss), .c (.int .i64 n83.scale), .c (.bool n83.sack), .c (.bool n83.stamp), .c (.int .i64 n83.val), .c (.int .i64 n83.echo)])] :=
  evalFn_con0 teFact mixFact (orcOf_ok _) Try.func83 (by kernel_rfl) ((l83 ).trans (show _ = r83 n83 from rfl))
noncomputable def e83 : Ent1 Try.prog := ent0 83 [(true, [.c (.int .i64 n83.mss), .c (.int .i64 n83.scale), .c (.bool n83.sack), .c (.bool n83.stamp), .c (.int .i64 n83.val), .c (.int .i64 n83.echo)])] c83

/-- impl.MssOf -/
def n84 (x0 : Int) : Int :=
  bif (!(n67 x0 0 7)) then
    0
  else
  ([64, 256, 536, 1024, 1300, 1400, 1440, 1460].getD x0.toNat 0)
theorem l84 (x0 : Int) : evalFn te (orcOf (P := Try.prog) [e67]) lorc0 [] Try.f84 [(Pk.sc (.int .i64)).pv x0] =
  bif (!(n67 x0 0 7)) then
    some [(false, [.c (.int .i64 0)])]
  else
  bif ((decide (0 ≤ x0)) && (decide (x0 < 8))) then
  some [(false, [.c (.int .i64 ([64, 256, 536, 1024, 1300, 1400, 1440, 1460].getD x0.toNat 0))])]
  else none := by kernel_rfl
def r84 (v : Int) : Option Res := some [(false, [.c (.int .i64 v)])]
theorem c84 (x0 : Int) : Con Try.prog 84 [(Pk.sc (.int .i64)).pv x0] [(false, [.c (.int .i64 (n84 x0))])] :=
  evalFn_con0 teFact mixFact (orcOf_ok _) Try.func84 (by kernel_rfl) ((l84 x0).trans (show _ = r84 (n84 x0) from by
    unfold n84
    exact bifT (f := r84) (fun h0 => rfl)
      (fun h0 => bifG (by simp [n66, n67] at *; try omega) (rfl))))
noncomputable def e84 : Ent1 Try.prog := ent1 84 (.sc (.int .i64)) (fun x0 => [(false, [.c (.int .i64 (n84 x0))])]) c84

/-- impl.peerMss -/
def n86 (x0 : Opti) : Int :=
  bif (x0.mss == 0) then
    536
  else
  x0.mss
theorem l86 (x0 : Opti) : evalFn te (orcOf (P := Try.prog) []) lorc0 [] Try.f86 [(Pk.st .opti).pv x0] =
  bif (x0.mss == 0) then
    some [(false, [.c (.int .i64 536)])]
  else
  some [(false, [.c (.int .i64 x0.mss)])] := by kernel_rfl
def r86 (v : Int) : Option Res := some [(false, [.c (.int .i64 v)])]
theorem c86 (x0 : Opti) : Con Try.prog 86 [(Pk.st .opti).pv x0] [(false, [.c (.int .i64 (n86 x0))])] :=
  evalFn_con0 teFact mixFact (orcOf_ok _) Try.func86 (by kernel_rfl) ((l86 x0).trans (show _ = r86 (n86 x0) from by
    unfold n86
    exact bifT (f := r86) (fun h0 => rfl)
      (fun h0 => rfl)))
noncomputable def e86 : Ent1 Try.prog := ent1 86 (.st .opti) (fun x0 => [(false, [.c (.int .i64 (n86 x0))])]) c86

/-- impl.SeqAdd -/
def n87 (x0 : Int) (x1 : Int) : Int :=
  (bits .and .i64 (IntKind.wrap .i64 (x0 + x1)) 4294967295)
theorem l87 (x0 : Int) (x1 : Int) : evalFn te (orcOf (P := Try.prog) []) lorc0 [] Try.f87 [(Pk.sc (.int .i64)).pv x0, (Pk.sc (.int .i64)).pv x1] =
  some [(false, [.c (.int .i64 (bits .and .i64 (IntKind.wrap .i64 (x0 + x1)) 4294967295))])] := by kernel_rfl
def r87 (v : Int) : Option Res := some [(false, [.c (.int .i64 v)])]
theorem c87 (x0 : Int) (x1 : Int) : Con Try.prog 87 [(Pk.sc (.int .i64)).pv x0, (Pk.sc (.int .i64)).pv x1] [(false, [.c (.int .i64 (n87 x0 x1))])] :=
  evalFn_con0 teFact mixFact (orcOf_ok _) Try.func87 (by kernel_rfl) ((l87 x0 x1).trans (show _ = r87 (n87 x0 x1) from rfl))
noncomputable def e87 : Ent1 Try.prog := ent2 87 (.sc (.int .i64)) (.sc (.int .i64)) (fun x0 x1 => [(false, [.c (.int .i64 (n87 x0 x1))])]) c87

/-- spec.CookieParts -/
def n101 (x0 : Int) : Int × Int × Int :=
  bif (!(n72 x0 32)) then
    ((-1), (-1), (-1))
  else
  ((IntKind.wrap .i64 (x0.tdiv 134217728)), ((IntKind.wrap .i64 (x0.tdiv 16777216)).tmod 8), (x0.tmod 16777216))
theorem l101 (x0 : Int) : evalFn te (orcOf (P := Try.prog) [e72]) lorc0 [] Try.f101 [(Pk.sc (.int .i64)).pv x0] =
  bif (!(n72 x0 32)) then
    some [(false, [.c (.int .i64 (-1))]), (false, [.c (.int .i64 (-1))]), (false, [.c (.int .i64 (-1))])]
  else
  some [(false, [.c (.int .i64 (IntKind.wrap .i64 (x0.tdiv 134217728)))]), (false, [.c (.int .i64 ((IntKind.wrap .i64 (x0.tdiv 16777216)).tmod 8))]), (false, [.c (.int .i64 (x0.tmod 16777216))])] := by kernel_rfl
def r101 (v : Int × Int × Int) : Option Res := some [(false, [.c (.int .i64 v.1)]), (false, [.c (.int .i64 v.2.1)]), (false, [.c (.int .i64 v.2.2)])]
theorem c101 (x0 : Int) : Con Try.prog 101 [(Pk.sc (.int .i64)).pv x0] [(false, [.c (.int .i64 ((n101 x0).1))]), (false, [.c (.int .i64 ((n101 x0).2.1))]), (false, [.c (.int .i64 ((n101 x0).2.2))])] :=
  evalFn_con0 teFact mixFact (orcOf_ok _) Try.func101 (by kernel_rfl) ((l101 x0).trans (show _ = r101 (n101 x0) from by
    unfold n101
    exact bifT (f := r101) (fun h0 => rfl)
      (fun h0 => rfl)))
noncomputable def e101 : Ent1 Try.prog := ent1 101 (.sc (.int .i64)) (fun x0 => [(false, [.c (.int .i64 ((n101 x0).1))]), (false, [.c (.int .i64 ((n101 x0).2.1))]), (false, [.c (.int .i64 ((n101 x0).2.2))])]) c101

/-- impl.CookieParts -/
def n104 (x0 : Int) : Int × Int × Int :=
  bif (!(n76 x0 32)) then
    ((-1), (-1), (-1))
  else
  ((IntKind.wrap .i64 (x0.tdiv 134217728)), ((IntKind.wrap .i64 (x0.tdiv 16777216)).tmod 8), (x0.tmod 16777216))
theorem l104 (x0 : Int) : evalFn te (orcOf (P := Try.prog) [e76]) lorc0 [] Try.f104 [(Pk.sc (.int .i64)).pv x0] =
  bif (!(n76 x0 32)) then
    some [(false, [.c (.int .i64 (-1))]), (false, [.c (.int .i64 (-1))]), (false, [.c (.int .i64 (-1))])]
  else
  some [(false, [.c (.int .i64 (IntKind.wrap .i64 (x0.tdiv 134217728)))]), (false, [.c (.int .i64 ((IntKind.wrap .i64 (x0.tdiv 16777216)).tmod 8))]), (false, [.c (.int .i64 (x0.tmod 16777216))])] := by kernel_rfl
def r104 (v : Int × Int × Int) : Option Res := some [(false, [.c (.int .i64 v.1)]), (false, [.c (.int .i64 v.2.1)]), (false, [.c (.int .i64 v.2.2)])]
theorem c104 (x0 : Int) : Con Try.prog 104 [(Pk.sc (.int .i64)).pv x0] [(false, [.c (.int .i64 ((n104 x0).1))]), (false, [.c (.int .i64 ((n104 x0).2.1))]), (false, [.c (.int .i64 ((n104 x0).2.2))])] :=
  evalFn_con0 teFact mixFact (orcOf_ok _) Try.func104 (by kernel_rfl) ((l104 x0).trans (show _ = r104 (n104 x0) from by
    unfold n104
    exact bifT (f := r104) (fun h0 => rfl)
      (fun h0 => rfl)))
noncomputable def e104 : Ent1 Try.prog := ent1 104 (.sc (.int .i64)) (fun x0 => [(false, [.c (.int .i64 ((n104 x0).1))]), (false, [.c (.int .i64 ((n104 x0).2.1))]), (false, [.c (.int .i64 ((n104 x0).2.2))])]) c104

/-- spec.l4Rest -/
def n114 (x0 : Int) : Int :=
  bif (decide ((x0.tmod 4294967296) < 0)) then
    (IntKind.wrap .i64 ((x0.tmod 4294967296) + 4294967296))
  else
  (x0.tmod 4294967296)
theorem l114 (x0 : Int) : evalFn te (orcOf (P := Try.prog) []) lorc0 [] Try.f114 [(Pk.sc (.int .i64)).pv x0] =
  bif (decide ((x0.tmod 4294967296) < 0)) then
    some [(false, [.c (.int .i64 (IntKind.wrap .i64 ((x0.tmod 4294967296) + 4294967296)))])]
  else
  some [(false, [.c (.int .i64 (x0.tmod 4294967296))])] := by kernel_rfl
def r114 (v : Int) : Option Res := some [(false, [.c (.int .i64 v)])]
theorem c114 (x0 : Int) : Con Try.prog 114 [(Pk.sc (.int .i64)).pv x0] [(false, [.c (.int .i64 (n114 x0))])] :=
  evalFn_con0 teFact mixFact (orcOf_ok _) Try.func114 (by kernel_rfl) ((l114 x0).trans (show _ = r114 (n114 x0) from by
    unfold n114
    exact bifT (f := r114) (fun h0 => rfl)
      (fun h0 => rfl)))
noncomputable def e114 : Ent1 Try.prog := ent1 114 (.sc (.int .i64)) (fun x0 => [(false, [.c (.int .i64 (n114 x0))])]) c114

/-- laws.eqMacRow -/
def n115 (x0 : MacRow) (x1 : MacRow) : Bool :=
  bif (!(x0.input == x1.input)) then
    false
  else
  bif (x0.value != x1.value) then
    false
  else
  true
theorem l115 (x0 : MacRow) (x1 : MacRow) : evalFn te (orcOf (P := Try.prog) []) lorc0 [] Try.f115 [(Pk.st .macRow).pv x0, (Pk.st .macRow).pv x1] =
  bif (!(x0.input == x1.input)) then
    some [(false, [.c (.bool false)])]
  else
  bif (x0.value != x1.value) then
    some [(false, [.c (.bool false)])]
  else
  some [(false, [.c (.bool true)])] := by kernel_rfl
def r115 (v : Bool) : Option Res := some [(false, [.c (.bool v)])]
theorem c115 (x0 : MacRow) (x1 : MacRow) : Con Try.prog 115 [(Pk.st .macRow).pv x0, (Pk.st .macRow).pv x1] [(false, [.c (.bool (n115 x0 x1))])] :=
  evalFn_con0 teFact mixFact (orcOf_ok _) Try.func115 (by kernel_rfl) ((l115 x0 x1).trans (show _ = r115 (n115 x0 x1) from by
    unfold n115
    exact bifT (f := r115) (fun h0 => rfl)
      (fun h0 => bifT (f := r115) (fun h1 => rfl)
      (fun h1 => rfl))))
noncomputable def e115 : Ent1 Try.prog := ent2 115 (.st .macRow) (.st .macRow) (fun x0 x1 => [(false, [.c (.bool (n115 x0 x1))])]) c115

/-- laws.szMacRow -/
def n127 (x0 : MacRow) (x1 : Int) : Int :=
  bif (decide ((IntKind.wrap .i64 (x1 - (x0.input.length : Int))) < 0)) then
    (-1)
  else
  (IntKind.wrap .i64 (x1 - (x0.input.length : Int)))
theorem l127 (x0 : MacRow) (x1 : Int) : evalFn te (orcOf (P := Try.prog) []) lorc0 [] Try.f127 [(Pk.st .macRow).pv x0, (Pk.sc (.int .i64)).pv x1] =
  bif (decide ((IntKind.wrap .i64 (x1 - (x0.input.length : Int))) < 0)) then
    some [(false, [.c (.int .i64 (-1))])]
  else
  some [(false, [.c (.int .i64 (IntKind.wrap .i64 (x1 - (x0.input.length : Int))))])] := by kernel_rfl
def r127 (v : Int) : Option Res := some [(false, [.c (.int .i64 v)])]
theorem c127 (x0 : MacRow) (x1 : Int) : Con Try.prog 127 [(Pk.st .macRow).pv x0, (Pk.sc (.int .i64)).pv x1] [(false, [.c (.int .i64 (n127 x0 x1))])] :=
  evalFn_con0 teFact mixFact (orcOf_ok _) Try.func127 (by kernel_rfl) ((l127 x0 x1).trans (show _ = r127 (n127 x0 x1) from by
    unfold n127
    exact bifT (f := r127) (fun h0 => rfl)
      (fun h0 => rfl)))
noncomputable def e127 : Ent1 Try.prog := ent2 127 (.st .macRow) (.sc (.int .i64)) (fun x0 x1 => [(false, [.c (.int .i64 (n127 x0 x1))])]) c127

/-- laws.toMacRow -/
def n128 (x0 : MacRow) : MacRow :=
  x0
theorem l128 (x0 : MacRow) : evalFn te (orcOf (P := Try.prog) []) lorc0 [] Try.f128 [(Pk.st .macRow).pv x0] =
  some [(true, [.c (.str x0.input), .c (.int .i64 x0.value)])] := by kernel_rfl
def r128 (v : MacRow) : Option Res := some [(true, [.c (.str v.input), .c (.int .i64 v.value)])]
theorem c128 (x0 : MacRow) : Con Try.prog 128 [(Pk.st .macRow).pv x0] [(true, [.c (.str ((n128 x0).input)), .c (.int .i64 ((n128 x0).value))])] :=
  evalFn_con0 teFact mixFact (orcOf_ok _) Try.func128 (by kernel_rfl) ((l128 x0).trans (show _ = r128 (n128 x0) from rfl))
noncomputable def e128 : Ent1 Try.prog := ent1 128 (.st .macRow) (fun x0 => [(true, [.c (.str ((n128 x0).input)), .c (.int .i64 ((n128 x0).value))])]) c128

/-- spec.ActWord -/
def n15 (x0 : Int) : Bytes :=
  bif (!(n66 x0 1 8)) then
    []
  else
  ([[], [102, 114, 97, 109, 101], [116, 105, 99, 107], [115, 101, 99, 114, 101, 116], [97, 99, 99, 101, 112, 116], [119, 114, 105, 116, 101], [114, 101, 97, 100], [115, 104, 117, 116], [97, 98, 111, 114, 116]].getD x0.toNat [])
theorem l15 (x0 : Int) : evalFn te (orcOf (P := Try.prog) [e66]) lorc0 [] Try.f15 [(Pk.sc (.int .i64)).pv x0] =
  bif (!(n66 x0 1 8)) then
    some [(false, [.c (.str [])])]
  else
  bif ((decide (0 ≤ x0)) && (decide (x0 < 9))) then
  some [(false, [.c (.str ([[], [102, 114, 97, 109, 101], [116, 105, 99, 107], [115, 101, 99, 114, 101, 116], [97, 99, 99, 101, 112, 116], [119, 114, 105, 116, 101], [114, 101, 97, 100], [115, 104, 117, 116], [97, 98, 111, 114, 116]].getD x0.toNat []))])]
  else none := by kernel_rfl
def r15 (v : Bytes) : Option Res := some [(false, [.c (.str v)])]
theorem c15 (x0 : Int) : Con Try.prog 15 [(Pk.sc (.int .i64)).pv x0] [(false, [.c (.str (n15 x0))])] :=
  evalFn_con0 teFact mixFact (orcOf_ok _) Try.func15 (by kernel_rfl) ((l15 x0).trans (show _ = r15 (n15 x0) from by
    unfold n15
    exact bifT (f := r15) (fun h0 => rfl)
      (fun h0 => bifG (by simp [n66, n67] at *; try omega) (rfl))))
noncomputable def e15 : Ent1 Try.prog := ent1 15 (.sc (.int .i64)) (fun x0 => [(false, [.c (.str (n15 x0))])]) c15

/-- impl.ActWord -/
def n16 (x0 : Int) : Bytes :=
  bif (!(n67 x0 1 8)) then
    []
  else
  ([[], [102, 114, 97, 109, 101], [116, 105, 99, 107], [115, 101, 99, 114, 101, 116], [97, 99, 99, 101, 112, 116], [119, 114, 105, 116, 101], [114, 101, 97, 100], [115, 104, 117, 116], [97, 98, 111, 114, 116]].getD x0.toNat [])
theorem l16 (x0 : Int) : evalFn te (orcOf (P := Try.prog) [e67]) lorc0 [] Try.f16 [(Pk.sc (.int .i64)).pv x0] =
  bif (!(n67 x0 1 8)) then
    some [(false, [.c (.str [])])]
  else
  bif ((decide (0 ≤ x0)) && (decide (x0 < 9))) then
  some [(false, [.c (.str ([[], [102, 114, 97, 109, 101], [116, 105, 99, 107], [115, 101, 99, 114, 101, 116], [97, 99, 99, 101, 112, 116], [119, 114, 105, 116, 101], [114, 101, 97, 100], [115, 104, 117, 116], [97, 98, 111, 114, 116]].getD x0.toNat []))])]
  else none := by kernel_rfl
def r16 (v : Bytes) : Option Res := some [(false, [.c (.str v)])]
theorem c16 (x0 : Int) : Con Try.prog 16 [(Pk.sc (.int .i64)).pv x0] [(false, [.c (.str (n16 x0))])] :=
  evalFn_con0 teFact mixFact (orcOf_ok _) Try.func16 (by kernel_rfl) ((l16 x0).trans (show _ = r16 (n16 x0) from by
    unfold n16
    exact bifT (f := r16) (fun h0 => rfl)
      (fun h0 => bifG (by simp [n66, n67] at *; try omega) (rfl))))
noncomputable def e16 : Ent1 Try.prog := ent1 16 (.sc (.int .i64)) (fun x0 => [(false, [.c (.str (n16 x0))])]) c16

/-- spec.RetainedMost -/
def n17 (x0 : Limi) : Int :=
  bif (!(n68 x0)) then
    0
  else
  (IntKind.wrap .i64 ((IntKind.wrap .i64 ((IntKind.wrap .i64 (64 * x0.halves)) + (IntKind.wrap .i64 (240 * x0.conns)))) + (IntKind.wrap .i64 (8 * x0.waiting))))
theorem l17 (x0 : Limi) : evalFn te (orcOf (P := Try.prog) [e68]) lorc0 [] Try.f17 [(Pk.st .limi).pv x0] =
  bif (!(n68 x0)) then
    some [(false, [.c (.int .i64 0)])]
  else
  some [(false, [.c (.int .i64 (IntKind.wrap .i64 ((IntKind.wrap .i64 ((IntKind.wrap .i64 (64 * x0.halves)) + (IntKind.wrap .i64 (240 * x0.conns)))) + (IntKind.wrap .i64 (8 * x0.waiting)))))])] := by kernel_rfl
def r17 (v : Int) : Option Res := some [(false, [.c (.int .i64 v)])]
theorem c17 (x0 : Limi) : Con Try.prog 17 [(Pk.st .limi).pv x0] [(false, [.c (.int .i64 (n17 x0))])] :=
  evalFn_con0 teFact mixFact (orcOf_ok _) Try.func17 (by kernel_rfl) ((l17 x0).trans (show _ = r17 (n17 x0) from by
    unfold n17
    exact bifT (f := r17) (fun h0 => rfl)
      (fun h0 => rfl)))
noncomputable def e17 : Ent1 Try.prog := ent1 17 (.st .limi) (fun x0 => [(false, [.c (.int .i64 (n17 x0))])]) c17

/-- impl.RetainedMost -/
def n19 (x0 : Limi) : Int :=
  bif (!(n69 x0)) then
    0
  else
  (IntKind.wrap .i64 ((IntKind.wrap .i64 ((IntKind.wrap .i64 (64 * x0.halves)) + (IntKind.wrap .i64 (240 * x0.conns)))) + (IntKind.wrap .i64 (8 * x0.waiting))))
theorem l19 (x0 : Limi) : evalFn te (orcOf (P := Try.prog) [e69]) lorc0 [] Try.f19 [(Pk.st .limi).pv x0] =
  bif (!(n69 x0)) then
    some [(false, [.c (.int .i64 0)])]
  else
  some [(false, [.c (.int .i64 (IntKind.wrap .i64 ((IntKind.wrap .i64 ((IntKind.wrap .i64 (64 * x0.halves)) + (IntKind.wrap .i64 (240 * x0.conns)))) + (IntKind.wrap .i64 (8 * x0.waiting)))))])] := by kernel_rfl
def r19 (v : Int) : Option Res := some [(false, [.c (.int .i64 v)])]
theorem c19 (x0 : Limi) : Con Try.prog 19 [(Pk.st .limi).pv x0] [(false, [.c (.int .i64 (n19 x0))])] :=
  evalFn_con0 teFact mixFact (orcOf_ok _) Try.func19 (by kernel_rfl) ((l19 x0).trans (show _ = r19 (n19 x0) from by
    unfold n19
    exact bifT (f := r19) (fun h0 => rfl)
      (fun h0 => rfl)))
noncomputable def e19 : Ent1 Try.prog := ent1 19 (.st .limi) (fun x0 => [(false, [.c (.int .i64 (n19 x0))])]) c19

/-- laws.toClient -/
def n21 (x0 : Clie) : Clie :=
  (⟨⟨(n73 x0.tuple).ip, (n73 x0.tuple).port, (n73 x0.tuple).my⟩, x0.isn, ⟨(n33 x0.opts).mss, (n33 x0.opts).scale, (n33 x0.opts).sack, (n33 x0.opts).stamp, (n33 x0.opts).val, (n33 x0.opts).echo⟩, x0.window⟩ : Clie)
theorem l21 (x0 : Clie) : evalFn te (orcOf (P := Try.prog) [e73, e33]) lorc0 [] Try.f21 [(Pk.st .clie).pv x0] =
  some [(true, [.c (.int .i64 ((n73 x0.tuple).ip)), .c (.int .i64 ((n73 x0.tuple).port)), .c (.int .i64 ((n73 x0.tuple).my)), .c (.int .i64 x0.isn), .c (.int .i64 ((n33 x0.opts).mss)), .c (.int .i64 ((n33 x0.opts).scale)), .c (.bool ((n33 x0.opts).sack)), .c (.bool ((n33 x0.opts).stamp)), .c (.int .i64 ((n33 x0.opts).val)), .c (.int .i64 ((n33 x0.opts).echo)), .c (.int .i64 x0.window)])] := by kernel_rfl
def r21 (v : Clie) : Option Res := some [(true, [.c (.int .i64 v.tuple.ip), .c (.int .i64 v.tuple.port), .c (.int .i64 v.tuple.my), .c (.int .i64 v.isn), .c (.int .i64 v.opts.mss), .c (.int .i64 v.opts.scale), .c (.bool v.opts.sack), .c (.bool v.opts.stamp), .c (.int .i64 v.opts.val), .c (.int .i64 v.opts.echo), .c (.int .i64 v.window)])]
theorem c21 (x0 : Clie) : Con Try.prog 21 [(Pk.st .clie).pv x0] [(true, [.c (.int .i64 ((n21 x0).tuple.ip)), .c (.int .i64 ((n21 x0).tuple.port)), .c (.int .i64 ((n21 x0).tuple.my)), .c (.int .i64 ((n21 x0).isn)), .c (.int .i64 ((n21 x0).opts.mss)), .c (.int .i64 ((n21 x0).opts.scale)), .c (.bool ((n21 x0).opts.sack)), .c (.bool ((n21 x0).opts.stamp)), .c (.int .i64 ((n21 x0).opts.val)), .c (.int .i64 ((n21 x0).opts.echo)), .c (.int .i64 ((n21 x0).window))])] :=
  evalFn_con0 teFact mixFact (orcOf_ok _) Try.func21 (by kernel_rfl) ((l21 x0).trans (show _ = r21 (n21 x0) from rfl))
noncomputable def e21 : Ent1 Try.prog := ent1 21 (.st .clie) (fun x0 => [(true, [.c (.int .i64 ((n21 x0).tuple.ip)), .c (.int .i64 ((n21 x0).tuple.port)), .c (.int .i64 ((n21 x0).tuple.my)), .c (.int .i64 ((n21 x0).isn)), .c (.int .i64 ((n21 x0).opts.mss)), .c (.int .i64 ((n21 x0).opts.scale)), .c (.bool ((n21 x0).opts.sack)), .c (.bool ((n21 x0).opts.stamp)), .c (.int .i64 ((n21 x0).opts.val)), .c (.int .i64 ((n21 x0).opts.echo)), .c (.int .i64 ((n21 x0).window))])]) c21

/-- laws.eqSegment -/
def n25 (x0 : Segm) (x1 : Segm) : Bool :=
  bif (x0.from_ != x1.from_) then
    false
  else
  bif (x0.to != x1.to) then
    false
  else
  bif (x0.seq != x1.seq) then
    false
  else
  bif (x0.ack != x1.ack) then
    false
  else
  bif (x0.flags != x1.flags) then
    false
  else
  bif (x0.window != x1.window) then
    false
  else
  bif (!(n35 x0.opts x1.opts)) then
    false
  else
  bif (!(x0.body == x1.body)) then
    false
  else
  true
theorem l25 (x0 : Segm) (x1 : Segm) : evalFn te (orcOf (P := Try.prog) [e35]) lorc0 [] Try.f25 [(Pk.st .segm).pv x0, (Pk.st .segm).pv x1] =
  bif (x0.from_ != x1.from_) then
    some [(false, [.c (.bool false)])]
  else
  bif (x0.to != x1.to) then
    some [(false, [.c (.bool false)])]
  else
  bif (x0.seq != x1.seq) then
    some [(false, [.c (.bool false)])]
  else
  bif (x0.ack != x1.ack) then
    some [(false, [.c (.bool false)])]
  else
  bif (x0.flags != x1.flags) then
    some [(false, [.c (.bool false)])]
  else
  bif (x0.window != x1.window) then
    some [(false, [.c (.bool false)])]
  else
  bif (!(n35 x0.opts x1.opts)) then
    some [(false, [.c (.bool false)])]
  else
  bif (!(x0.body == x1.body)) then
    some [(false, [.c (.bool false)])]
  else
  some [(false, [.c (.bool true)])] := by kernel_rfl
def r25 (v : Bool) : Option Res := some [(false, [.c (.bool v)])]
theorem c25 (x0 : Segm) (x1 : Segm) : Con Try.prog 25 [(Pk.st .segm).pv x0, (Pk.st .segm).pv x1] [(false, [.c (.bool (n25 x0 x1))])] :=
  evalFn_con0 teFact mixFact (orcOf_ok _) Try.func25 (by kernel_rfl) ((l25 x0 x1).trans (show _ = r25 (n25 x0 x1) from by
    unfold n25
    exact bifT (f := r25) (fun h0 => rfl)
      (fun h0 => bifT (f := r25) (fun h1 => rfl)
      (fun h1 => bifT (f := r25) (fun h2 => rfl)
      (fun h2 => bifT (f := r25) (fun h3 => rfl)
      (fun h3 => bifT (f := r25) (fun h4 => rfl)
      (fun h4 => bifT (f := r25) (fun h5 => rfl)
      (fun h5 => bifT (f := r25) (fun h6 => rfl)
      (fun h6 => bifT (f := r25) (fun h7 => rfl)
      (fun h7 => rfl))))))))))
noncomputable def e25 : Ent1 Try.prog := ent2 25 (.st .segm) (.st .segm) (fun x0 x1 => [(false, [.c (.bool (n25 x0 x1))])]) c25

/-- laws.toIssue -/
def n29 (x0 : Issu) : Issu :=
  (⟨⟨(n73 x0.tuple).ip, (n73 x0.tuple).port, (n73 x0.tuple).my⟩, x0.seq, x0.cookie⟩ : Issu)
theorem l29 (x0 : Issu) : evalFn te (orcOf (P := Try.prog) [e73]) lorc0 [] Try.f29 [(Pk.st .issu).pv x0] =
  some [(true, [.c (.int .i64 ((n73 x0.tuple).ip)), .c (.int .i64 ((n73 x0.tuple).port)), .c (.int .i64 ((n73 x0.tuple).my)), .c (.int .i64 x0.seq), .c (.int .i64 x0.cookie)])] := by kernel_rfl
def r29 (v : Issu) : Option Res := some [(true, [.c (.int .i64 v.tuple.ip), .c (.int .i64 v.tuple.port), .c (.int .i64 v.tuple.my), .c (.int .i64 v.seq), .c (.int .i64 v.cookie)])]
theorem c29 (x0 : Issu) : Con Try.prog 29 [(Pk.st .issu).pv x0] [(true, [.c (.int .i64 ((n29 x0).tuple.ip)), .c (.int .i64 ((n29 x0).tuple.port)), .c (.int .i64 ((n29 x0).tuple.my)), .c (.int .i64 ((n29 x0).seq)), .c (.int .i64 ((n29 x0).cookie))])] :=
  evalFn_con0 teFact mixFact (orcOf_ok _) Try.func29 (by kernel_rfl) ((l29 x0).trans (show _ = r29 (n29 x0) from rfl))
noncomputable def e29 : Ent1 Try.prog := ent1 29 (.st .issu) (fun x0 => [(true, [.c (.int .i64 ((n29 x0).tuple.ip)), .c (.int .i64 ((n29 x0).tuple.port)), .c (.int .i64 ((n29 x0).tuple.my)), .c (.int .i64 ((n29 x0).seq)), .c (.int .i64 ((n29 x0).cookie))])]) c29

/-- impl.ReplyTo -/
def n44 (x0 : Clie) (x1 : Segm) : Segm × Bool :=
  bif (x1.flags != 18) then
    ((⟨0, 0, 0, 0, 0, 0, ⟨0, 0, false, false, 0, 0⟩, []⟩ : Segm), false)
  else
  bif (x1.ack != (n87 x0.isn 1)) then
    ((⟨0, 0, 0, 0, 0, 0, ⟨0, 0, false, false, 0, 0⟩, []⟩ : Segm), false)
  else
  bif x0.opts.stamp then
    bif x1.opts.stamp then
      ((⟨x0.tuple.port, x0.tuple.my, (n87 x0.isn 1), (n87 x1.seq 1), 16, x0.window, ⟨n83.mss, n83.scale, n83.sack, true, (n87 x0.opts.val 1), x1.opts.val⟩, []⟩ : Segm), true)
    else
    ((⟨x0.tuple.port, x0.tuple.my, (n87 x0.isn 1), (n87 x1.seq 1), 16, x0.window, ⟨n83.mss, n83.scale, n83.sack, n83.stamp, n83.val, n83.echo⟩, []⟩ : Segm), true)
  else
  ((⟨x0.tuple.port, x0.tuple.my, (n87 x0.isn 1), (n87 x1.seq 1), 16, x0.window, ⟨n83.mss, n83.scale, n83.sack, n83.stamp, n83.val, n83.echo⟩, []⟩ : Segm), true)
theorem l44 (x0 : Clie) (x1 : Segm) : evalFn te (orcOf (P := Try.prog) [e87, e83]) lorc0 [] Try.f44 [(Pk.st .clie).pv x0, (Pk.st .segm).pv x1] =
  bif (x1.flags != 18) then
    some [(true, [.c (.int .i64 0), .c (.int .i64 0), .c (.int .i64 0), .c (.int .i64 0), .c (.int .i64 0), .c (.int .i64 0), .c (.int .i64 0), .c (.int .i64 0), .c (.bool false), .c (.bool false), .c (.int .i64 0), .c (.int .i64 0), .c (.str [])]), (false, [.c (.bool false)])]
  else
  bif (x1.ack != (n87 x0.isn 1)) then
    some [(true, [.c (.int .i64 0), .c (.int .i64 0), .c (.int .i64 0), .c (.int .i64 0), .c (.int .i64 0), .c (.int .i64 0), .c (.int .i64 0), .c (.int .i64 0), .c (.bool false), .c (.bool false), .c (.int .i64 0), .c (.int .i64 0), .c (.str [])]), (false, [.c (.bool false)])]
  else
  bif x0.opts.stamp then
    bif x1.opts.stamp then
      some [(true, [.c (.int .i64 x0.tuple.port), .c (.int .i64 x0.tuple.my), .c (.int .i64 (n87 x0.isn 1)), .c (.int .i64 (n87 x1.seq 1)), .c (.int .i64 16), .c (.int .i64 x0.window), .c (.int .i64 n83.mss), .c (.int .i64 n83.scale), .c (.bool n83.sack), .c (.bool true), .c (.int .i64 (n87 x0.opts.val 1)), .c (.int .i64 x1.opts.val), .c (.str [])]), (false, [.c (.bool true)])]
    else
    some [(true, [.c (.int .i64 x0.tuple.port), .c (.int .i64 x0.tuple.my), .c (.int .i64 (n87 x0.isn 1)), .c (.int .i64 (n87 x1.seq 1)), .c (.int .i64 16), .c (.int .i64 x0.window), .c (.int .i64 n83.mss), .c (.int .i64 n83.scale), .c (.bool n83.sack), .c (.bool n83.stamp), .c (.int .i64 n83.val), .c (.int .i64 n83.echo), .c (.str [])]), (false, [.c (.bool true)])]
  else
  some [(true, [.c (.int .i64 x0.tuple.port), .c (.int .i64 x0.tuple.my), .c (.int .i64 (n87 x0.isn 1)), .c (.int .i64 (n87 x1.seq 1)), .c (.int .i64 16), .c (.int .i64 x0.window), .c (.int .i64 n83.mss), .c (.int .i64 n83.scale), .c (.bool n83.sack), .c (.bool n83.stamp), .c (.int .i64 n83.val), .c (.int .i64 n83.echo), .c (.str [])]), (false, [.c (.bool true)])] := by kernel_rfl
def r44 (v : Segm × Bool) : Option Res := some [(true, [.c (.int .i64 v.1.from_), .c (.int .i64 v.1.to), .c (.int .i64 v.1.seq), .c (.int .i64 v.1.ack), .c (.int .i64 v.1.flags), .c (.int .i64 v.1.window), .c (.int .i64 v.1.opts.mss), .c (.int .i64 v.1.opts.scale), .c (.bool v.1.opts.sack), .c (.bool v.1.opts.stamp), .c (.int .i64 v.1.opts.val), .c (.int .i64 v.1.opts.echo), .c (.str v.1.body)]), (false, [.c (.bool v.2)])]
theorem c44 (x0 : Clie) (x1 : Segm) : Con Try.prog 44 [(Pk.st .clie).pv x0, (Pk.st .segm).pv x1] [(true, [.c (.int .i64 (((n44 x0 x1).1).from_)), .c (.int .i64 (((n44 x0 x1).1).to)), .c (.int .i64 (((n44 x0 x1).1).seq)), .c (.int .i64 (((n44 x0 x1).1).ack)), .c (.int .i64 (((n44 x0 x1).1).flags)), .c (.int .i64 (((n44 x0 x1).1).window)), .c (.int .i64 (((n44 x0 x1).1).opts.mss)), .c (.int .i64 (((n44 x0 x1).1).opts.scale)), .c (.bool (((n44 x0 x1).1).opts.sack)), .c (.bool (((n44 x0 x1).1).opts.stamp)), .c (.int .i64 (((n44 x0 x1).1).opts.val)), .c (.int .i64 (((n44 x0 x1).1).opts.echo)), .c (.str (((n44 x0 x1).1).body))]), (false, [.c (.bool ((n44 x0 x1).2))])] :=
  evalFn_con0 teFact mixFact (orcOf_ok _) Try.func44 (by kernel_rfl) ((l44 x0 x1).trans (show _ = r44 (n44 x0 x1) from by
    unfold n44
    exact bifT (f := r44) (fun h0 => rfl)
      (fun h0 => bifT (f := r44) (fun h1 => rfl)
      (fun h1 => bifT (f := r44) (fun h2 => bifT (f := r44) (fun h3 => rfl)
      (fun h3 => rfl))
      (fun h2 => rfl)))))
noncomputable def e44 : Ent1 Try.prog := ent2 44 (.st .clie) (.st .segm) (fun x0 x1 => [(true, [.c (.int .i64 (((n44 x0 x1).1).from_)), .c (.int .i64 (((n44 x0 x1).1).to)), .c (.int .i64 (((n44 x0 x1).1).seq)), .c (.int .i64 (((n44 x0 x1).1).ack)), .c (.int .i64 (((n44 x0 x1).1).flags)), .c (.int .i64 (((n44 x0 x1).1).window)), .c (.int .i64 (((n44 x0 x1).1).opts.mss)), .c (.int .i64 (((n44 x0 x1).1).opts.scale)), .c (.bool (((n44 x0 x1).1).opts.sack)), .c (.bool (((n44 x0 x1).1).opts.stamp)), .c (.int .i64 (((n44 x0 x1).1).opts.val)), .c (.int .i64 (((n44 x0 x1).1).opts.echo)), .c (.str (((n44 x0 x1).1).body))]), (false, [.c (.bool ((n44 x0 x1).2))])]) c44

/-- spec.TupleOk -/
def n70 (x0 : Tupl) : Bool :=
  bif (n72 x0.ip 32) then
    bif (n72 x0.port 16) then
      (n72 x0.my 16)
    else
    false
  else
  false
theorem l70 (x0 : Tupl) : evalFn te (orcOf (P := Try.prog) [e72]) lorc0 [] Try.f70 [(Pk.st .tupl).pv x0] =
  bif (n72 x0.ip 32) then
    bif (n72 x0.port 16) then
      some [(false, [.c (.bool (n72 x0.my 16))])]
    else
    some [(false, [.c (.bool false)])]
  else
  some [(false, [.c (.bool false)])] := by kernel_rfl
def r70 (v : Bool) : Option Res := some [(false, [.c (.bool v)])]
theorem c70 (x0 : Tupl) : Con Try.prog 70 [(Pk.st .tupl).pv x0] [(false, [.c (.bool (n70 x0))])] :=
  evalFn_con0 teFact mixFact (orcOf_ok _) Try.func70 (by kernel_rfl) ((l70 x0).trans (show _ = r70 (n70 x0) from by
    unfold n70
    exact bifT (f := r70) (fun h0 => bifT (f := r70) (fun h1 => rfl)
      (fun h1 => rfl))
      (fun h0 => rfl)))
noncomputable def e70 : Ent1 Try.prog := ent1 70 (.st .tupl) (fun x0 => [(false, [.c (.bool (n70 x0))])]) c70

/-- impl.TupleOk -/
def n74 (x0 : Tupl) : Bool :=
  bif (n76 x0.ip 32) then
    bif (n76 x0.port 16) then
      (n76 x0.my 16)
    else
    false
  else
  false
theorem l74 (x0 : Tupl) : evalFn te (orcOf (P := Try.prog) [e76]) lorc0 [] Try.f74 [(Pk.st .tupl).pv x0] =
  bif (n76 x0.ip 32) then
    bif (n76 x0.port 16) then
      some [(false, [.c (.bool (n76 x0.my 16))])]
    else
    some [(false, [.c (.bool false)])]
  else
  some [(false, [.c (.bool false)])] := by kernel_rfl
def r74 (v : Bool) : Option Res := some [(false, [.c (.bool v)])]
theorem c74 (x0 : Tupl) : Con Try.prog 74 [(Pk.st .tupl).pv x0] [(false, [.c (.bool (n74 x0))])] :=
  evalFn_con0 teFact mixFact (orcOf_ok _) Try.func74 (by kernel_rfl) ((l74 x0).trans (show _ = r74 (n74 x0) from by
    unfold n74
    exact bifT (f := r74) (fun h0 => bifT (f := r74) (fun h1 => rfl)
      (fun h1 => rfl))
      (fun h0 => rfl)))
noncomputable def e74 : Ent1 Try.prog := ent1 74 (.st .tupl) (fun x0 => [(false, [.c (.bool (n74 x0))])]) c74

/-- spec.SeqAdd -/
def n82 (x0 : Int) (x1 : Int) : Int :=
  (n114 (IntKind.wrap .i64 ((n114 x0) + (n114 x1))))
theorem l82 (x0 : Int) (x1 : Int) : evalFn te (orcOf (P := Try.prog) [e114]) lorc0 [] Try.f82 [(Pk.sc (.int .i64)).pv x0, (Pk.sc (.int .i64)).pv x1] =
  some [(false, [.c (.int .i64 (n114 (IntKind.wrap .i64 ((n114 x0) + (n114 x1)))))])] := by kernel_rfl
def r82 (v : Int) : Option Res := some [(false, [.c (.int .i64 v)])]
theorem c82 (x0 : Int) (x1 : Int) : Con Try.prog 82 [(Pk.sc (.int .i64)).pv x0, (Pk.sc (.int .i64)).pv x1] [(false, [.c (.int .i64 (n82 x0 x1))])] :=
  evalFn_con0 teFact mixFact (orcOf_ok _) Try.func82 (by kernel_rfl) ((l82 x0 x1).trans (show _ = r82 (n82 x0 x1) from rfl))
noncomputable def e82 : Ent1 Try.prog := ent2 82 (.sc (.int .i64)) (.sc (.int .i64)) (fun x0 x1 => [(false, [.c (.int .i64 (n82 x0 x1))])]) c82

/-- laws.FnExactActWord -/
def n3 (x0 : Int) : Bool :=
  bif (!((n16 x0) == (n15 x0))) then
    false
  else
  true
theorem l3 (x0 : Int) : evalFn te (orcOf (P := Try.prog) [e15, e16]) lorc0 [] Try.f3 [(Pk.sc (.int .i64)).pv x0] =
  bif (!((n16 x0) == (n15 x0))) then
    some [(false, [.c (.bool false)])]
  else
  some [(false, [.c (.bool true)])] := by kernel_rfl
def r3 (v : Bool) : Option Res := some [(false, [.c (.bool v)])]
theorem c3 (x0 : Int) : Con Try.prog 3 [(Pk.sc (.int .i64)).pv x0] [(false, [.c (.bool (n3 x0))])] :=
  evalFn_con0 teFact mixFact (orcOf_ok _) Try.func3 (by kernel_rfl) ((l3 x0).trans (show _ = r3 (n3 x0) from by
    unfold n3
    exact bifT (f := r3) (fun h0 => rfl)
      (fun h0 => rfl)))
noncomputable def e3 : Ent1 Try.prog := ent1 3 (.sc (.int .i64)) (fun x0 => [(false, [.c (.bool (n3 x0))])]) c3

/-- laws.FnExactRetainedMost -/
def n4 (x0 : Limi) : Bool :=
  bif ((n19 (n18 x0)) != (n17 (n18 x0))) then
    false
  else
  true
theorem l4 (x0 : Limi) : evalFn te (orcOf (P := Try.prog) [e18, e17, e19]) lorc0 [] Try.f4 [(Pk.st .limi).pv x0] =
  bif ((n19 (n18 x0)) != (n17 (n18 x0))) then
    some [(false, [.c (.bool false)])]
  else
  some [(false, [.c (.bool true)])] := by kernel_rfl
def r4 (v : Bool) : Option Res := some [(false, [.c (.bool v)])]
theorem c4 (x0 : Limi) : Con Try.prog 4 [(Pk.st .limi).pv x0] [(false, [.c (.bool (n4 x0))])] :=
  evalFn_con0 teFact mixFact (orcOf_ok _) Try.func4 (by kernel_rfl) ((l4 x0).trans (show _ = r4 (n4 x0) from by
    unfold n4
    exact bifT (f := r4) (fun h0 => rfl)
      (fun h0 => rfl)))
noncomputable def e4 : Ent1 Try.prog := ent1 4 (.st .limi) (fun x0 => [(false, [.c (.bool (n4 x0))])]) c4

/-- laws.FnExactKnock -/
def n6 (x0 : Clie) : Bool :=
  bif (!(n25 (n24 (n21 x0)) (n23 (n21 x0)))) then
    false
  else
  true
theorem l6 (x0 : Clie) : evalFn te (orcOf (P := Try.prog) [e21, e23, e24, e25]) lorc0 [] Try.f6 [(Pk.st .clie).pv x0] =
  bif (!(n25 (n24 (n21 x0)) (n23 (n21 x0)))) then
    some [(false, [.c (.bool false)])]
  else
  some [(false, [.c (.bool true)])] := by kernel_rfl
def r6 (v : Bool) : Option Res := some [(false, [.c (.bool v)])]
theorem c6 (x0 : Clie) : Con Try.prog 6 [(Pk.st .clie).pv x0] [(false, [.c (.bool (n6 x0))])] :=
  evalFn_con0 teFact mixFact (orcOf_ok _) Try.func6 (by kernel_rfl) ((l6 x0).trans (show _ = r6 (n6 x0) from by
    unfold n6
    exact bifT (f := r6) (fun h0 => rfl)
      (fun h0 => rfl)))
noncomputable def e6 : Ent1 Try.prog := ent1 6 (.st .clie) (fun x0 => [(false, [.c (.bool (n6 x0))])]) c6

/-- spec.ReplyTo -/
def n42 (x0 : Clie) (x1 : Segm) : Segm × Bool :=
  bif (x1.flags != 18) then
    ((⟨0, 0, 0, 0, 0, 0, ⟨0, 0, false, false, 0, 0⟩, []⟩ : Segm), false)
  else
  bif (x1.ack != (n82 x0.isn 1)) then
    ((⟨0, 0, 0, 0, 0, 0, ⟨0, 0, false, false, 0, 0⟩, []⟩ : Segm), false)
  else
  bif x0.opts.stamp then
    bif x1.opts.stamp then
      ((⟨x0.tuple.port, x0.tuple.my, (n82 x0.isn 1), (n82 x1.seq 1), 16, x0.window, ⟨n79.mss, n79.scale, n79.sack, true, (n82 x0.opts.val 1), x1.opts.val⟩, []⟩ : Segm), true)
    else
    ((⟨x0.tuple.port, x0.tuple.my, (n82 x0.isn 1), (n82 x1.seq 1), 16, x0.window, ⟨n79.mss, n79.scale, n79.sack, n79.stamp, n79.val, n79.echo⟩, []⟩ : Segm), true)
  else
  ((⟨x0.tuple.port, x0.tuple.my, (n82 x0.isn 1), (n82 x1.seq 1), 16, x0.window, ⟨n79.mss, n79.scale, n79.sack, n79.stamp, n79.val, n79.echo⟩, []⟩ : Segm), true)
theorem l42 (x0 : Clie) (x1 : Segm) : evalFn te (orcOf (P := Try.prog) [e82, e79]) lorc0 [] Try.f42 [(Pk.st .clie).pv x0, (Pk.st .segm).pv x1] =
  bif (x1.flags != 18) then
    some [(true, [.c (.int .i64 0), .c (.int .i64 0), .c (.int .i64 0), .c (.int .i64 0), .c (.int .i64 0), .c (.int .i64 0), .c (.int .i64 0), .c (.int .i64 0), .c (.bool false), .c (.bool false), .c (.int .i64 0), .c (.int .i64 0), .c (.str [])]), (false, [.c (.bool false)])]
  else
  bif (x1.ack != (n82 x0.isn 1)) then
    some [(true, [.c (.int .i64 0), .c (.int .i64 0), .c (.int .i64 0), .c (.int .i64 0), .c (.int .i64 0), .c (.int .i64 0), .c (.int .i64 0), .c (.int .i64 0), .c (.bool false), .c (.bool false), .c (.int .i64 0), .c (.int .i64 0), .c (.str [])]), (false, [.c (.bool false)])]
  else
  bif x0.opts.stamp then
    bif x1.opts.stamp then
      some [(true, [.c (.int .i64 x0.tuple.port), .c (.int .i64 x0.tuple.my), .c (.int .i64 (n82 x0.isn 1)), .c (.int .i64 (n82 x1.seq 1)), .c (.int .i64 16), .c (.int .i64 x0.window), .c (.int .i64 n79.mss), .c (.int .i64 n79.scale), .c (.bool n79.sack), .c (.bool true), .c (.int .i64 (n82 x0.opts.val 1)), .c (.int .i64 x1.opts.val), .c (.str [])]), (false, [.c (.bool true)])]
    else
    some [(true, [.c (.int .i64 x0.tuple.port), .c (.int .i64 x0.tuple.my), .c (.int .i64 (n82 x0.isn 1)), .c (.int .i64 (n82 x1.seq 1)), .c (.int .i64 16), .c (.int .i64 x0.window), .c (.int .i64 n79.mss), .c (.int .i64 n79.scale), .c (.bool n79.sack), .c (.bool n79.stamp), .c (.int .i64 n79.val), .c (.int .i64 n79.echo), .c (.str [])]), (false, [.c (.bool true)])]
  else
  some [(true, [.c (.int .i64 x0.tuple.port), .c (.int .i64 x0.tuple.my), .c (.int .i64 (n82 x0.isn 1)), .c (.int .i64 (n82 x1.seq 1)), .c (.int .i64 16), .c (.int .i64 x0.window), .c (.int .i64 n79.mss), .c (.int .i64 n79.scale), .c (.bool n79.sack), .c (.bool n79.stamp), .c (.int .i64 n79.val), .c (.int .i64 n79.echo), .c (.str [])]), (false, [.c (.bool true)])] := by kernel_rfl
def r42 (v : Segm × Bool) : Option Res := some [(true, [.c (.int .i64 v.1.from_), .c (.int .i64 v.1.to), .c (.int .i64 v.1.seq), .c (.int .i64 v.1.ack), .c (.int .i64 v.1.flags), .c (.int .i64 v.1.window), .c (.int .i64 v.1.opts.mss), .c (.int .i64 v.1.opts.scale), .c (.bool v.1.opts.sack), .c (.bool v.1.opts.stamp), .c (.int .i64 v.1.opts.val), .c (.int .i64 v.1.opts.echo), .c (.str v.1.body)]), (false, [.c (.bool v.2)])]
theorem c42 (x0 : Clie) (x1 : Segm) : Con Try.prog 42 [(Pk.st .clie).pv x0, (Pk.st .segm).pv x1] [(true, [.c (.int .i64 (((n42 x0 x1).1).from_)), .c (.int .i64 (((n42 x0 x1).1).to)), .c (.int .i64 (((n42 x0 x1).1).seq)), .c (.int .i64 (((n42 x0 x1).1).ack)), .c (.int .i64 (((n42 x0 x1).1).flags)), .c (.int .i64 (((n42 x0 x1).1).window)), .c (.int .i64 (((n42 x0 x1).1).opts.mss)), .c (.int .i64 (((n42 x0 x1).1).opts.scale)), .c (.bool (((n42 x0 x1).1).opts.sack)), .c (.bool (((n42 x0 x1).1).opts.stamp)), .c (.int .i64 (((n42 x0 x1).1).opts.val)), .c (.int .i64 (((n42 x0 x1).1).opts.echo)), .c (.str (((n42 x0 x1).1).body))]), (false, [.c (.bool ((n42 x0 x1).2))])] :=
  evalFn_con0 teFact mixFact (orcOf_ok _) Try.func42 (by kernel_rfl) ((l42 x0 x1).trans (show _ = r42 (n42 x0 x1) from by
    unfold n42
    exact bifT (f := r42) (fun h0 => rfl)
      (fun h0 => bifT (f := r42) (fun h1 => rfl)
      (fun h1 => bifT (f := r42) (fun h2 => bifT (f := r42) (fun h3 => rfl)
      (fun h3 => rfl))
      (fun h2 => rfl)))))
noncomputable def e42 : Ent1 Try.prog := ent2 42 (.st .clie) (.st .segm) (fun x0 x1 => [(true, [.c (.int .i64 (((n42 x0 x1).1).from_)), .c (.int .i64 (((n42 x0 x1).1).to)), .c (.int .i64 (((n42 x0 x1).1).seq)), .c (.int .i64 (((n42 x0 x1).1).ack)), .c (.int .i64 (((n42 x0 x1).1).flags)), .c (.int .i64 (((n42 x0 x1).1).window)), .c (.int .i64 (((n42 x0 x1).1).opts.mss)), .c (.int .i64 (((n42 x0 x1).1).opts.scale)), .c (.bool (((n42 x0 x1).1).opts.sack)), .c (.bool (((n42 x0 x1).1).opts.stamp)), .c (.int .i64 (((n42 x0 x1).1).opts.val)), .c (.int .i64 (((n42 x0 x1).1).opts.echo)), .c (.str (((n42 x0 x1).1).body))]), (false, [.c (.bool ((n42 x0 x1).2))])]) c42

/-- laws.FnExactReplyTo -/
def n10 (x0 : Clie) (x1 : Segm) : Bool :=
  bif (decide ((n41 x1 1048576) < 0)) then
    true
  else
  bif (!(n25 ((n44 (n21 x0) (n43 x1)).1) ((n42 (n21 x0) (n43 x1)).1))) then
    false
  else
  bif (!((n44 (n21 x0) (n43 x1)).2 == (n42 (n21 x0) (n43 x1)).2)) then
    false
  else
  true
theorem l10 (x0 : Clie) (x1 : Segm) : evalFn te (orcOf (P := Try.prog) [e41, e21, e43, e42, e44, e25]) lorc0 [] Try.f10 [(Pk.st .clie).pv x0, (Pk.st .segm).pv x1] =
  bif (decide ((n41 x1 1048576) < 0)) then
    some [(false, [.c (.bool true)])]
  else
  bif (!(n25 ((n44 (n21 x0) (n43 x1)).1) ((n42 (n21 x0) (n43 x1)).1))) then
    some [(false, [.c (.bool false)])]
  else
  bif (!((n44 (n21 x0) (n43 x1)).2 == (n42 (n21 x0) (n43 x1)).2)) then
    some [(false, [.c (.bool false)])]
  else
  some [(false, [.c (.bool true)])] := by kernel_rfl
def r10 (v : Bool) : Option Res := some [(false, [.c (.bool v)])]
theorem c10 (x0 : Clie) (x1 : Segm) : Con Try.prog 10 [(Pk.st .clie).pv x0, (Pk.st .segm).pv x1] [(false, [.c (.bool (n10 x0 x1))])] :=
  evalFn_con0 teFact mixFact (orcOf_ok _) Try.func10 (by kernel_rfl) ((l10 x0 x1).trans (show _ = r10 (n10 x0 x1) from by
    unfold n10
    exact bifT (f := r10) (fun h0 => rfl)
      (fun h0 => bifT (f := r10) (fun h1 => rfl)
      (fun h1 => bifT (f := r10) (fun h2 => rfl)
      (fun h2 => rfl)))))
noncomputable def e10 : Ent1 Try.prog := ent2 10 (.st .clie) (.st .segm) (fun x0 x1 => [(false, [.c (.bool (n10 x0 x1))])]) c10

end Go.Proofs.Ytjioppmfnejlnaa
