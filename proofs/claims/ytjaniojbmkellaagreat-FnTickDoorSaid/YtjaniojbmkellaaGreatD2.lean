/-
  Contracts of functions and plain laws (printed by a program): each theorem says what a function of the program returns; conditions are its hypotheses.
-/
import Derived.Test.YtjaniojbmkellaaGreatD1
set_option linter.all false
set_option maxRecDepth 4000
namespace Go.Proofs.YtjaniojbmkellaaGreat
open Go Go.RowKit
noncomputable section
/-- impl.FindConn$1 -/
noncomputable def i_FindConn_1 : FT (Conn × Tupl × Unit) (Bool) (fun _ => True) (fun _ _ => True) := ⟨fun (x0, y1, _) =>
    .ret ((x0.tuple.ip == y1.ip) && ((x0.tuple.port == y1.port) && ((x0.tuple.my == y1.my) && true))),
  fun (x0, y1, _) hp => by
    refine Tr.R trivial⟩
noncomputable def i_FindConn_1_e := entM st ⟨83, Tryz.f83, [], 1⟩ [] [] [.st .conn, .wr false [.ptr 0]] [.box [.st .tupl]] (fun x y => (x.1, y.1.1, ())) i_FindConn_1 (fun v => [(false, [.c (.bool v)])]) (fun x y v => ((y.1.1, ()), ())) Tryz.func83 (by kernel_rfl) trivial fun _ _ => by kernel_rfl
/-- spec.SameDoor -/
noncomputable def s_SameDoor : FT (Door × Door × Unit) (Bool) (fun x => sm_door x.1 ∧ sm_door x.2.1) (fun _ _ => True) := ⟨fun (x0, x1, _) =>
    .ite (x0.port == x1.port) (.ite (x0.clock == x1.clock) (.cal s_SameKeys.c (x0.keys, x1.keys, ()) fun c1 =>
        .ite c1 (.ite ((x0.limits.halves == x1.limits.halves) && ((x0.limits.waiting == x1.limits.waiting) && ((x0.limits.conns == x1.limits.conns) && ((x0.limits.chal == x1.limits.chal) && true)))) (.cal s_SameHalves.c (x0.halves, x1.halves, ()) fun c2 =>
            .ite c2 (.cal s_SameTable.c (x0.table, x1.table, ()) fun c3 =>
              .ite c3 (.ret (x0.chal == x1.chal)) <|
              .ret false) <|
            .ret false) <|
          .ret false) <|
        .ret false) <|
      .ret false) <|
    .ret false,
  fun (x0, x1, _) hp => by
    refine Tr.I (fun _ => Tr.I (fun _ => Tr.C ?_ fun _ _ _ => Tr.I (fun _ => Tr.I (fun _ => Tr.C ?_ fun _ _ _ => Tr.I (fun _ => Tr.C ?_ fun _ _ _ => Tr.F (by kernel_rfl) trivial) fun _ => Tr.R trivial) fun _ => Tr.R trivial) fun _ => Tr.R trivial) fun _ => Tr.R trivial) fun _ => Tr.R trivial
    all_goals (grind)⟩
noncomputable def s_SameDoor_e := ent0 st Tryz.func9 [s_SameKeys_e, s_SameHalves_e, s_SameTable_e] (ks := [.st .door, .st .door]) s_SameDoor (fun v => [(false, [.c (.bool v)])]) fun _ => by kernel_rfl
/-- spec.l26Copy -/
noncomputable def s_l26Copy : FT (Door × Unit) (Door) (fun x => sm_door x.1) (fun x v => sm_door v ∧ v.table.conns.length = x.1.table.conns.length ∧ v.table.waiting.length = x.1.table.waiting.length ∧ v.halves = x.1.halves) := ⟨fun (x0, _) =>
    .cal s_l13Copy.c (x0.keys, ()) fun c1 =>
    .grd (Nat.ble ((2 * (0 + x0.halves.length) + 1024) * 96) maxSl) <|
    .cal s_l25Copy.c (x0.table, ()) fun c2 =>
    .ret (⟨x0.port, x0.clock, c1, x0.limits, ([] ++ x0.halves), c2, x0.chal⟩ : Door),
  fun (x0, _) hp => by
    refine Tr.C ?_ fun _ _ _ => Tr.Gb ?_ fun _ => Tr.C ?_ fun _ _ _ => Tr.R ?_
    all_goals (grind)⟩
noncomputable def s_l26Copy_e := ent0 st Tryz.func34 [s_l13Copy_e, s_l25Copy_e] (ks := [.st .door]) s_l26Copy (fun v => [(true, q_door (.o true) (.o true) (.o true) (.o true) (.o true) v)]) fun _ => by kernel_rfl
/-- spec.PutHalf -/
noncomputable def s_PutHalf_o : List (Ent1 Tryz.prog) := [s_HalvesOk_e]
noncomputable def s_PutHalf_x : Fx := ⟨37, Tryz.f37, [(3000003, rA 0 27)], 0⟩
noncomputable def s_PutHalf : FT (List Half × Half × Int × Unit) (List Half × Bool) (fun x => sS x.1) (fun x v => sS v.1 ∧ (v.1.length : Int) ≤ x.1.length + 1) := ⟨fun (x0, x1, x2, _) =>
    .grd (Nat.ble ((2 * (0 + x0.length) + 1024) * 96) maxSl) <|
    .grd (Nat.ble ((2 * (0 + x0.length) + 1024) * 96) maxSl) <|
    .grd (Nat.ble ((2 * (([] ++ x0).length + 1) + 1024) * 96) maxSl) <|
    .bnd (β := Bool × Unit) (.ite (decide (x2 ≤ (x0.length : Int))) (.ret (true, ())) <|
      .cal s_HalvesOk.c ((([] ++ x0) ++ [x1]), ()) fun c1 =>
      .ret ((!c1), ())) fun (u2a0, _) =>
    .ite u2a0 (.ret (([] ++ x0), false)) <|
    .ret ((([] ++ x0) ++ [x1]), true),
  fun (x0, x1, x2, _) hp => by
    refine Tr.Gb ?_ fun _ => Tr.Gb ?_ fun _ => Tr.Gb ?_ fun _ => Tr.B (Q' := fun w => (w.1 = false → (([] ++ x0) ++ [x1]).length ≤ 64)) (Tr.I (fun _ => Tr.R ?_) fun _ => Tr.C ?_ fun _ _ _ => Tr.R ?_) (fun (u2a0, _) _ _ => Tr.I (fun _ => Tr.R ?_) fun _ => Tr.R ?_)
    all_goals ((try simp only [Tr.nice, letK] at *) <;> grind)⟩
noncomputable def s_PutHalf_e := entT st s_PutHalf_x s_PutHalf_o [] (ks := [.sc (.sl .half), .st .half, .sc (.int .i64)]) s_PutHalf (fun v => [(false, [sc (.o true) .half v.1]), (false, [.c (.bool v.2)])]) Tryz.func37 trivial fun _ => by kernel_rfl
/-- spec.TableOk -/
noncomputable def s_TableOk_o : List (Ent1 Tryz.prog) := [s_LimitsOk_e, s_ConnOk_e, s_FindConn_e, s_l25Waits_e]
def s_TableOk_L0_h : Sh := ⟨[(2, false, [.ptr 0 0]), (5, false, [.int .i64])], [.box [.st .tabl [.sl .arg, .sl .arg]]]⟩
def s_TableOk_L1_h : Sh := ⟨[(2, false, [.ptr 0 0]), (6, false, [.int .i64])], [.box [.st .tabl [.sl .arg, .sl .arg]]]⟩
noncomputable def s_TableOk_x : Fx := ⟨54, Tryz.f54, [(0, la ⟨[2, 5], [], false, 0⟩ ⟨[2, 4], [], false, 0⟩), (2, la ⟨[2, 6], [], false, 0⟩ ⟨[4], [], false, 0⟩), (3000001, rA 0 25)], 0⟩
noncomputable def s_TableOk_L0_T (v1 : Tabl) (v0 : Int) (a : Unit) : Tr (Stp (Unit) ((Unit))) :=
  .grd ((decide (0 ≤ v0)) && (decide (v0 < (v1.conns.length : Int)))) <|
  .cal s_ConnOk.c ((v1.conns.getD v0.toNat (Ty.zero .conn)), ()) fun c3 =>
  .ite (!c3) (.ret (.out ())) <|
  .grd ((decide (0 ≤ v0)) && (decide (v0 < (v1.conns.length : Int)))) <|
  .cal s_FindConn.c (v1, (v1.conns.getD v0.toNat (Ty.zero .conn)).tuple, ()) fun c4 =>
  .ite (c4 != v0) (.ret (.out ())) <|
  .ret (.next ())
noncomputable def s_TableOk_L0_d : s_TableOk_L0_h.V → LC s_TableOk_L0_h (Unit) ((Unit)) (((Unit)) ⊕ (Int × Unit)) := fun (v0, v1, _) => ⟨v0, (), fun v0 _ => (v0, v1, ()), fun v0 _ => (decide (v0 < (v1.conns.length : Int))), s_TableOk_L0_T v1, up, 1, (Int.toNat ((v1.conns.length : Int) - v0)), .inl, fun i a => .inr (i, a), fun _ k w => Sum.elim (fun _ => k .ret (Sh.enc ⟨[(2, false, [.ptr 0 0]), (4, false, [.bool])], [.box [.st .tabl [.sl .arg, .sl .arg]]]⟩ (false, v1, ()))) (fun _ => k (.exit 0) (Sh.enc ⟨[(2, false, [.ptr 0 0]), (4, false, [.undef])], [.box [.st .tabl [.sl .arg, .sl .arg]]]⟩ (v1, ()))) w⟩
theorem s_TableOk_L0_s : LS Tryz.prog s_TableOk_x [0] (leC 0 s_TableOk_L0_h s_TableOk_L0_d) := loopC st (orcOf_ok s_TableOk_o) _ s_TableOk_L0_d [] trivial (by kernel_rfl) (fun _ => by kernel_rfl) fun _ _ _ _ _ _ => by kernel_rfl
theorem s_TableOk_L0_k {v0 : Int} {v1 : Tabl} (h0 : 0 ≤ v0) (h1 : (v1.conns.length : Int) ≤ 4611686018427387904) (h2 : sm_tabl v1) : (s_TableOk_L0_d (v0, v1, ())).U (v1.conns.length : Int) (fun _ _ => True) (fun _ => True) :=
  LC.okU (i := v0) (a := ()) (fun _ _ => rfl) (fun _ => rfl) rfl h0 h1 trivial fun v0 _ hj hk hv => by
    refine Tr.G2 ?_ fun _ => Tr.C ?_ fun _ _ _ => Tr.I (fun _ => Tr.Ro trivial) fun _ => Tr.G2 ?_ fun _ => Tr.C ?_ fun _ _ _ => Tr.Z (by kernel_rfl)
    all_goals (grind)
noncomputable def s_TableOk_L1_T (v1 : Tabl) (v0 : Int) (a : Unit) : Tr (Stp (Unit) ((Unit))) :=
  .grd ((decide (0 ≤ v0)) && (decide (v0 ≤ (v1.waiting.length : Int)))) <|
  .grd ((decide (0 ≤ v0)) && (decide (v0 < (v1.waiting.length : Int)))) <|
  .cal s_l25Waits.c (((v1.waiting.take v0.toNat).drop 0), (v1.waiting.getD v0.toNat (Ty.zero .tupl)), ()) fun c6 =>
  .ite c6 (.ret (.out ())) <|
  .grd ((decide (0 ≤ v0)) && (decide (v0 < (v1.waiting.length : Int)))) <|
  .cal s_FindConn.c (v1, (v1.waiting.getD v0.toNat (Ty.zero .tupl)), ()) fun c7 =>
  .ite (decide (c7 < 0)) (.ret (.out ())) <|
  .ret (.next ())
noncomputable def s_TableOk_L1_d : s_TableOk_L1_h.V → LC s_TableOk_L1_h (Unit) ((Unit)) (((Unit)) ⊕ (Int × Unit)) := fun (v0, v1, _) => ⟨v0, (), fun v0 _ => (v0, v1, ()), fun v0 _ => (decide (v0 < (v1.waiting.length : Int))), s_TableOk_L1_T v1, up, 1, (Int.toNat ((v1.waiting.length : Int) - v0)), .inl, fun i a => .inr (i, a), fun _ k w => Sum.elim (fun _ => k .ret (Sh.enc ⟨[(4, false, [.bool])], []⟩ (false, ()))) (fun _ => k (.exit 2) (Sh.enc ⟨[(4, false, [.undef])], []⟩ ())) w⟩
theorem s_TableOk_L1_s : LS Tryz.prog s_TableOk_x [1] (leC 2 s_TableOk_L1_h s_TableOk_L1_d) := loopC st (orcOf_ok s_TableOk_o) _ s_TableOk_L1_d [] trivial (by kernel_rfl) (fun _ => by kernel_rfl) fun _ _ _ _ _ _ => by kernel_rfl
theorem s_TableOk_L1_k {v0 : Int} {v1 : Tabl} (h0 : 0 ≤ v0) (h1 : (v1.waiting.length : Int) ≤ 4611686018427387904) (h2 : sm_tabl v1) : (s_TableOk_L1_d (v0, v1, ())).U (v1.waiting.length : Int) (fun _ _ => True) (fun _ => True) :=
  LC.okU (i := v0) (a := ()) (fun _ _ => rfl) (fun _ => rfl) rfl h0 h1 trivial fun v0 _ hj hk hv => by
    refine Tr.G2 ?_ fun _ => Tr.G2 ?_ fun _ => Tr.C ?_ fun _ _ _ => Tr.I (fun _ => Tr.Ro trivial) fun _ => Tr.G2 ?_ fun _ => Tr.C ?_ fun _ _ _ => Tr.Z (by kernel_rfl)
    all_goals (grind)
noncomputable def s_TableOk : FT (Tabl × Limi × Unit) (Bool) (fun x => wS x.1.conns ∧ smE sm_conn x.1.conns ∧ wS x.1.waiting) (fun x v => (v = true → x.1.conns.length ≤ 16 ∧ x.1.waiting.length ≤ 16)) := ⟨fun (x0, x1, _) =>
    .bnd (β := Bool × Unit) (.cal s_LimitsOk.c (x1, ()) fun c1 =>
      .ite (!c1) (.ret (true, ())) <|
      .ite (decide (x1.conns < (x0.conns.length : Int))) (.ret (true, ())) <|
      .ret ((decide (x1.waiting < (x0.waiting.length : Int))), ())) fun (u2a0, _) =>
    .ite u2a0 (.ret false) <|
    .lp (s_TableOk_L0_d (0, x0, ())).lp fun w5 => .sum w5 (fun _ =>
    .ret false) <|
    fun _ =>
    .lp (s_TableOk_L1_d (0, x0, ())).lp fun w8 => .sum w8 (fun _ =>
    .ret false) <|
    fun _ =>
    .ret true,
  fun (x0, x1, _) hp => by
    refine Tr.B (Q' := fun w => (w.1 = false → x1.halves ≤ 64 ∧ x1.waiting ≤ 16 ∧ x1.conns ≤ 16)) (Tr.C trivial fun _ _ _ => Tr.I (fun _ => Tr.R ?_) fun _ => Tr.I (fun _ => Tr.R ?_) fun _ => Tr.R ?_) (fun (u2a0, _) _ _ => Tr.I (fun _ => Tr.R ?_) fun _ => Tr.L (s_TableOk_L0_k ?_ ?_ ?_) (fun _ _ => Tr.Sr (Tr.L (s_TableOk_L1_k ?_ ?_ ?_) (fun _ _ => Tr.Sr (Tr.R ?_)) (fun _ _ => Tr.Sl (Tr.R ?_)))) (fun _ _ => Tr.Sl (Tr.R ?_)))
    all_goals ((try simp only [s_TableOk_L0_d, s_TableOk_L1_d, LC.lp, LC.ct, Ct.lp, Tr.nice, letK] at *) <;> grind)⟩
noncomputable def s_TableOk_e := entT st s_TableOk_x s_TableOk_o [(leC 0 s_TableOk_L0_h s_TableOk_L0_d), (leC 2 s_TableOk_L1_h s_TableOk_L1_d)] (ks := [.st .tabl, .st .limi]) s_TableOk (fun v => [(false, [.c (.bool v)])]) Tryz.func54 ⟨s_TableOk_L0_s, s_TableOk_L1_s, trivial⟩ fun _ => by kernel_rfl
/-- spec.TickConn -/
noncomputable def s_TickConn_o : List (Ent1 Tryz.prog) := [s_l19Copy_e, s_Waits_e, s_ConnOk_e, s_AckOf_e, s_Rewound_e, s_l1Max_e, s_Pump_e]
def s_TickConn_J16_a : An := ⟨⟨[], [], false, 0⟩, ⟨[2, 3, 4, 5], [], false, 0⟩, ⟨[], []⟩, [(.normal, ⟨[(2, false, [.ptr 0 0]), (3, false, [.nil]), (4, false, [.ptr 1 0]), (5, false, [.own 2])], [.box [.st .conn [.nil .piec]], .box [.st .conn [.own 3]], .arr .segm false true, .of false true]⟩)]⟩
def s_TickConn_J23_a : An := ⟨⟨[], [], false, 0⟩, ⟨[1, 2, 3, 4, 5], [], false, 0⟩, ⟨[], []⟩, [(.normal, ⟨[(1, false, [.ptr 0 0]), (2, false, [.ptr 1 0]), (3, false, [.nil]), (4, false, [.ptr 2 0]), (5, false, [.own 3])], [.box [.st .conn [.sl .arg]], .box [.st .conn [.nil .piec]], .box [.st .conn [.own 4]], .arr .segm false true, .of false true]⟩)]⟩
noncomputable def s_TickConn_x : Fx := ⟨63, Tryz.f63, [(1000016, s_TickConn_J16_a), (1000023, s_TickConn_J23_a)], 0⟩
noncomputable def s_TickConn : FT (Conn × Unit) (Conn × List Segm) (fun x => sm_conn x.1) (fun x v => sm_conn v.1 ∧ sL sm_segm v.2 ∧ v.2.length ≤ 49) := ⟨fun (x0, _) =>
    .cal s_l19Copy.c (x0, ()) fun c1 =>
    .cal s_Waits.c (x0, ()) fun c2 =>
    .ite (!c2) (.cal s_ConnOk.c (x0, ()) fun c3 =>
      .bnd (β := WT s_TickConn_J16_a.es) (.ite c3 (.ret ((⟨⟨0, 0, 0⟩, 0, ⟨0, [], 0, false, false, false⟩, ⟨0, [], [], 0, false⟩, 0, 0, ⟨0, 0, false, false, 0, 0⟩, 0, 0⟩ : Conn), ({ c1 with timer := 0, tries := 0 } : Conn), [], ())) <|
        .ret ((⟨⟨0, 0, 0⟩, 0, ⟨0, [], 0, false, false, false⟩, ⟨0, [], [], 0, false⟩, 0, 0, ⟨0, 0, false, false, 0, 0⟩, 0, 0⟩ : Conn), c1, [], ())) fun (_, u4a1, u4a2, _) =>
      .ret (u4a1, u4a2)) <|
    .bnd (β := WT s_TickConn_J23_a.es) (.ite (c1.timer == 0) (.ite (x0.state == 7) (.ret (x0, (⟨⟨0, 0, 0⟩, 0, ⟨0, [], 0, false, false, false⟩, ⟨0, [], [], 0, false⟩, 0, 0, ⟨0, 0, false, false, 0, 0⟩, 0, 0⟩ : Conn), ({ c1 with timer := 4 } : Conn), [], ())) <|
        .ret (x0, (⟨⟨0, 0, 0⟩, 0, ⟨0, [], 0, false, false, false⟩, ⟨0, [], [], 0, false⟩, 0, 0, ⟨0, 0, false, false, 0, 0⟩, 0, 0⟩ : Conn), ({ c1 with timer := 3 } : Conn), [], ())) <|
      .ret (x0, (⟨⟨0, 0, 0⟩, 0, ⟨0, [], 0, false, false, false⟩, ⟨0, [], [], 0, false⟩, 0, 0, ⟨0, 0, false, false, 0, 0⟩, 0, 0⟩ : Conn), c1, [], ())) fun (u5a0, _, u5a2, u5a3, _) =>
    .ite (decide (0 < (IntKind.wrap .i64 (u5a2.timer - 1)))) (.ret (({ u5a2 with timer := (IntKind.wrap .i64 (u5a2.timer - 1)) } : Conn), u5a3)) <|
    .ite (u5a0.state == 7) (.ret (({ u5a2 with state := 8, timer := (IntKind.wrap .i64 (u5a2.timer - 1)), tries := 0 } : Conn), u5a3)) <|
    .ite (u5a0.tries == 3) (.cal s_AckOf.c (u5a0, ()) fun c6 =>
      .ret (({ u5a2 with state := 8, timer := (IntKind.wrap .i64 (u5a2.timer - 1)), tries := 0 } : Conn), [({ c6 with flags := (bits .or .i64 c6.flags 4) } : Segm)])) <|
    .cal s_Rewound.c (u5a0.s, ()) fun c7 =>
    .val (s_l1Max.f (1, u5a2.window, ())) fun c8 =>
    .cal s_Pump.c ((⟨u5a2.tuple, u5a2.state, c7, u5a2.r, u5a2.window, u5a2.most, u5a2.opts, (IntKind.wrap .i64 (u5a2.timer - 1)), (IntKind.wrap .i64 (u5a0.tries + 1))⟩ : Conn), c8, ()) fun c9 =>
    .ret (({ c9.1 with timer := 3 } : Conn), c9.2),
  fun (x0, _) hp => by
    refine Tr.C ?_ fun c1 hc1 qc1 => Tr.C ?_ fun c2 hc2 qc2 => Tr.I (fun b0 => Tr.C ?_ fun c3 hc3 qc3 => Tr.B (Q' := fun w => sm_conn w.1 ∧ sm_conn w.2.1 ∧ sL sm_segm w.2.2.1 ∧ w.2.2.1.length ≤ 49) (Tr.I (fun b1 => Tr.R ?_) fun b1 => Tr.R ?_) (fun (u4a0, u4a1, u4a2, _) hj4 qj4 => Tr.R ?_)) fun b0 => Tr.B (Q' := fun w => sm_conn w.1 ∧ sm_conn w.2.1 ∧ sm_conn w.2.2.1 ∧ sL sm_segm w.2.2.2.1 ∧ w.2.2.2.1.length ≤ 49) (Tr.I (fun b1 => Tr.I (fun b2 => Tr.R ?_) fun b2 => Tr.R ?_) fun b1 => Tr.R ?_) (fun (u5a0, u5a1, u5a2, u5a3, _) hj5 qj5 => Tr.I (fun b1 => Tr.R ?_) fun b1 => Tr.I (fun b2 => Tr.R ?_) fun b2 => Tr.I (fun b3 => Tr.C ?_ fun c6 hc6 qc6 => Tr.R ?_) fun b3 => Tr.C ?_ fun c7 hc7 qc7 => Tr.V fun c8 hc8 => Tr.C ?_ fun c9 hc9 qc9 => Tr.R ?_)
    all_goals ((try simp only [Tr.nice, letK] at *) <;> grind)⟩
noncomputable def s_TickConn_e := entT st s_TickConn_x s_TickConn_o [] (ks := [.st .conn]) s_TickConn (fun v => [(true, q_conn (.o true) v.1), (false, [sc (.o true) .segm v.2])]) Tryz.func63 trivial fun _ => by kernel_rfl
/-- impl.cloneTable -/
noncomputable def i_cloneTable_o : List (Ent1 Tryz.prog) := [g_Clone_Tuple_e, i_cloneConn_e]
def i_cloneTable_L0_h : Sh := ⟨[(2, false, [.ptr 0 0]), (3, false, [.ptr 1 0]), (11, false, [.sl .arg .conn]), (12, false, [.int .i64]), (13, false, [.int .i64])], [.box [.st .tabl [.nil .conn, .nil .tupl]], .box [.st .tabl [.own 2, .own 3]], .of false true, .of false true]⟩
noncomputable def i_cloneTable_x : Fx := ⟨75, Tryz.f75, [(0, la ⟨[2, 3, 11, 12, 13], [.box 3 0 .conn], false, 0⟩ ⟨[2, 3], [], false, 0⟩)], 0⟩
noncomputable def i_cloneTable_L0_T (v0 : List Conn) (v2 : Int) (a : Tabl × Tabl) : Tr (Stp (Tabl × Tabl) (Empty)) :=
  .grd ((decide (0 ≤ v2)) && (decide (v2 < (v0.length : Int)))) <|
  .cal i_cloneConn.c ((v0.getD v2.toNat (Ty.zero .conn)), ()) fun c3 =>
  .grd (Nat.ble ((2 * (a.2.conns.length + 1) + 1024) * 208) maxSl) <|
  .ret (.next ((⟨[], []⟩ : Tabl), (⟨(a.2.conns ++ [c3]), a.2.waiting⟩ : Tabl)))
noncomputable def i_cloneTable_L0_d : i_cloneTable_L0_h.V → LC i_cloneTable_L0_h (Tabl × Tabl) (Empty) (Int × (Tabl × Tabl)) := fun (v0, v1, v2, v3, v4, _) => ⟨v2, (v3, v4), fun v2 a => (v0, v1, v2, a.1, a.2, ()), fun v2 _ => (decide (v2 < v1)), i_cloneTable_L0_T v0, up, 1, (Int.toNat (v1 - v2)), (fun p => Empty.elim p), fun i a => (i, a), fun _ k x => k (.exit 0) (Sh.enc ⟨[(2, false, [.ptr 0 0]), (3, false, [.ptr 1 0])], [.box [.st .tabl [.nil .conn, .nil .tupl]], .box [.st .tabl [.own 2, .own 3]], .of false true, .of false true]⟩ ((⟨[], []⟩ : Tabl), x.2.2, ()))⟩
theorem i_cloneTable_L0_s : LS Tryz.prog i_cloneTable_x [0] (leC 0 i_cloneTable_L0_h i_cloneTable_L0_d) := loopC st (orcOf_ok i_cloneTable_o) _ i_cloneTable_L0_d [] trivial (by kernel_rfl) (fun _ => by kernel_rfl) fun _ _ _ _ _ _ => by kernel_rfl
theorem i_cloneTable_L0_k {v0 : List Conn} {v1 v2 : Int} {v3 v4 : Tabl} (h0 : 0 ≤ v2) (h1 : v1 ≤ 4611686018427387904) (h2 : sL sm_conn v0) (h3 : v1 ≤ 4294967296) (h4 : sS v4.waiting) (h5 : v1 ≤ (v0.length : Int)) (h6 : sm_tabl v3 ∧ (v4.conns.length : Int) = v2 ∧ smE sm_conn v4.conns ∧ v4.waiting.length = v4.waiting.length) : (i_cloneTable_L0_d (v0, v1, v2, v3, v4, ())).U v1 (fun v2 a => sm_tabl a.1 ∧ (a.2.conns.length : Int) = v2 ∧ smE sm_conn a.2.conns ∧ a.2.waiting.length = v4.waiting.length) (fun _ => True) :=
  LC.okU (i := v2) (a := (v3, v4)) (fun _ _ => rfl) (fun _ => rfl) rfl h0 h1 h6 fun v2 (v3, v4) hj hk hv => by
    refine Tr.G2 ?_ fun _ => Tr.C ?_ fun _ _ _ => Tr.Gb ?_ fun _ => Tr.Rn ?_
    all_goals (grind)
noncomputable def i_cloneTable : FT (Tabl × Unit) (Tabl) (fun x => sm_tabl x.1) (fun x v => sm_tabl v ∧ v.conns.length = x.1.conns.length ∧ v.waiting.length = x.1.waiting.length) := ⟨fun (x0, _) =>
    .cal g_Clone_Tuple.c (x0.waiting, ()) fun c1 =>
    .lp (i_cloneTable_L0_d (x0.conns, (x0.conns.length : Int), 0, (⟨[], []⟩ : Tabl), (⟨[], c1⟩ : Tabl), ())).lp fun (_, _, a4_1) =>
    .ret a4_1,
  fun (x0, _) hp => by
    refine Tr.C ?_ fun _ _ _ => Tr.L (i_cloneTable_L0_k ?_ ?_ ?_ ?_ ?_ ?_ ?_) (fun (a4_0, a4_1) _ => Tr.R ?_) (fun p => Empty.elim p)
    all_goals ((try simp only [i_cloneTable_L0_d, LC.lp, LC.ct, Ct.lp] at *) <;> grind)⟩
noncomputable def i_cloneTable_e := entT st i_cloneTable_x i_cloneTable_o [(leC 0 i_cloneTable_L0_h i_cloneTable_L0_d)] (ks := [.st .tabl]) i_cloneTable (fun v => [(true, q_tabl (.o true) (.o true) v)]) Tryz.func75 ⟨i_cloneTable_L0_s, trivial⟩ fun _ => by kernel_rfl
/-- impl.TickConn -/
noncomputable def i_TickConn_o : List (Ent1 Tryz.prog) := [i_cloneConn_e, i_Waits_e, i_ConnOk_e, i_AckOf_e, i_Rewound_e, i_Pump_e]
def i_TickConn_J14_a : An := ⟨⟨[], [], false, 0⟩, ⟨[2, 3, 4], [], false, 0⟩, ⟨[], []⟩, [(.normal, ⟨[(2, false, [.ptr 0 0]), (3, false, [.nil]), (4, false, [.ptr 1 0])], [.box [.st .conn [.nil .piec]], .box [.st .conn [.own 2]], .of false true]⟩)]⟩
def i_TickConn_J20_a : An := ⟨⟨[], [], false, 0⟩, ⟨[1, 2, 3, 4], [], false, 0⟩, ⟨[], []⟩, [(.normal, ⟨[(1, false, [.ptr 0 0]), (2, false, [.ptr 1 0]), (3, false, [.nil]), (4, false, [.ptr 2 0])], [.box [.st .conn [.sl .arg]], .box [.st .conn [.nil .piec]], .box [.st .conn [.own 3]], .of false true]⟩)]⟩
def i_TickConn_J68_a : An := ⟨⟨[], [], false, 0⟩, ⟨[2, 3, 4, 6], [], false, 0⟩, ⟨[], []⟩, [(.normal, ⟨[(2, false, [.ptr 0 0]), (3, false, [.nil]), (4, false, [.ptr 1 0]), (6, false, [.int .i64])], [.box [.st .conn [.nil .piec]], .box [.st .conn [.own 2]], .of false true]⟩)]⟩
noncomputable def i_TickConn_x : Fx := ⟨111, Tryz.f111, [(1000014, i_TickConn_J14_a), (1000020, i_TickConn_J20_a), (1000068, i_TickConn_J68_a)], 0⟩
noncomputable def i_TickConn : FT (Conn × Unit) (Conn × List Segm) (fun x => sm_conn x.1) (fun x v => sm_conn v.1 ∧ sL sm_segm v.2 ∧ v.2.length ≤ 49) := ⟨fun (x0, _) =>
    .cal i_cloneConn.c (x0, ()) fun c1 =>
    .cal i_Waits.c (x0, ()) fun c2 =>
    .ite (!c2) (.cal i_ConnOk.c (x0, ()) fun c3 =>
      .bnd (β := WT i_TickConn_J14_a.es) (.ite c3 (.ret ((⟨⟨0, 0, 0⟩, 0, ⟨0, [], 0, false, false, false⟩, ⟨0, [], [], 0, false⟩, 0, 0, ⟨0, 0, false, false, 0, 0⟩, 0, 0⟩ : Conn), ({ c1 with timer := 0, tries := 0 } : Conn), ())) <|
        .ret ((⟨⟨0, 0, 0⟩, 0, ⟨0, [], 0, false, false, false⟩, ⟨0, [], [], 0, false⟩, 0, 0, ⟨0, 0, false, false, 0, 0⟩, 0, 0⟩ : Conn), c1, ())) fun (_, u4a1, _) =>
      .ret (u4a1, [])) <|
    .bnd (β := WT i_TickConn_J20_a.es) (.ite (c1.timer == 0) (.ite (x0.state == 7) (.ret (x0, (⟨⟨0, 0, 0⟩, 0, ⟨0, [], 0, false, false, false⟩, ⟨0, [], [], 0, false⟩, 0, 0, ⟨0, 0, false, false, 0, 0⟩, 0, 0⟩ : Conn), ({ c1 with timer := 4 } : Conn), ())) <|
        .ret (x0, (⟨⟨0, 0, 0⟩, 0, ⟨0, [], 0, false, false, false⟩, ⟨0, [], [], 0, false⟩, 0, 0, ⟨0, 0, false, false, 0, 0⟩, 0, 0⟩ : Conn), ({ c1 with timer := 3 } : Conn), ())) <|
      .ret (x0, (⟨⟨0, 0, 0⟩, 0, ⟨0, [], 0, false, false, false⟩, ⟨0, [], [], 0, false⟩, 0, 0, ⟨0, 0, false, false, 0, 0⟩, 0, 0⟩ : Conn), c1, ())) fun (u5a0, u5a1, u5a2, _) =>
    .ite (decide (0 < (IntKind.wrap .i64 (u5a2.timer - 1)))) (.ret (({ u5a2 with timer := (IntKind.wrap .i64 (u5a2.timer - 1)) } : Conn), [])) <|
    .ite (u5a0.state == 7) (.ret (({ u5a2 with state := 8, timer := (IntKind.wrap .i64 (u5a2.timer - 1)), tries := 0 } : Conn), [])) <|
    .ite (u5a0.tries == 3) (.cal i_AckOf.c (u5a0, ()) fun c6 =>
      .ret (({ u5a2 with state := 8, timer := 0, tries := 0 } : Conn), [({ c6 with flags := (bits .or .i64 c6.flags 4) } : Segm)])) <|
    .cal i_Rewound.c (u5a2.s, ()) fun c7 =>
    .bnd (β := WT i_TickConn_J68_a.es) (.ite (u5a0.window == 0) (.ret (1, ({ u5a1 with r.held := [] } : Conn), (⟨u5a2.tuple, u5a2.state, c7, u5a2.r, u5a2.window, u5a2.most, u5a2.opts, (IntKind.wrap .i64 (u5a2.timer - 1)), (IntKind.wrap .i64 (u5a2.tries + 1))⟩ : Conn), ())) <|
      .ret (u5a0.window, ({ u5a1 with r.held := [] } : Conn), (⟨u5a2.tuple, u5a2.state, c7, u5a2.r, u5a2.window, u5a2.most, u5a2.opts, (IntKind.wrap .i64 (u5a2.timer - 1)), (IntKind.wrap .i64 (u5a2.tries + 1))⟩ : Conn), ())) fun (u8a0, _, u8a2, _) =>
    .cal i_Pump.c (u8a2, u8a0, ()) fun c9 =>
    .ret (({ c9.1 with timer := 3 } : Conn), c9.2),
  fun (x0, _) hp => by
    refine Tr.C ?_ fun _ _ _ => Tr.C ?_ fun _ _ _ => Tr.I (fun _ => Tr.C ?_ fun _ _ _ => Tr.B (Q' := fun w => sm_conn w.1 ∧ sm_conn w.2.1) (Tr.I (fun _ => Tr.R ?_) fun _ => Tr.R ?_) (fun (u4a0, u4a1, _) _ _ => Tr.R ?_)) fun _ => Tr.B (Q' := fun w => sm_conn w.1 ∧ sm_conn w.2.1 ∧ sm_conn w.2.2.1) (Tr.I (fun _ => Tr.I (fun _ => Tr.R ?_) fun _ => Tr.R ?_) fun _ => Tr.R ?_) (fun (u5a0, u5a1, u5a2, _) _ _ => Tr.I (fun _ => Tr.R ?_) fun _ => Tr.I (fun _ => Tr.R ?_) fun _ => Tr.I (fun _ => Tr.C ?_ fun _ _ _ => Tr.R ?_) fun _ => Tr.C ?_ fun _ _ _ => Tr.B (Q' := fun w => sm_conn w.2.1 ∧ sm_conn w.2.2.1) (Tr.I (fun _ => Tr.R ?_) fun _ => Tr.R ?_) (fun (u8a0, u8a1, u8a2, _) _ _ => Tr.C ?_ fun _ _ _ => Tr.R ?_))
    all_goals ((try simp only [Tr.nice, letK] at *) <;> grind)⟩
noncomputable def i_TickConn_e := entT st i_TickConn_x i_TickConn_o [] (ks := [.st .conn]) i_TickConn (fun v => [(true, q_conn (.o true) v.1), (false, [sc (.o true) .segm v.2])]) Tryz.func111 trivial fun _ => by kernel_rfl
/-- spec.l26Reset -/
noncomputable def s_l26Reset : FT (Door × Segm × Unit) (Door × List Segm × Int) (fun x => sm_door x.1 ∧ sm_segm x.2.1) (fun x v => sm_door v.1 ∧ sL sm_segm v.2.1) := ⟨fun (x0, x1, _) =>
    .cal s_ResetFor.c (x1, ()) fun c1 =>
    .ite (!c1.2) (.cal s_l26Copy.c (x0, ()) fun c2 =>
      .ret (c2, [], 0)) <|
    .cal s_l26Copy.c (x0, ()) fun c3 =>
    .ret (c3, [c1.1], 0),
  fun (x0, x1, _) hp => by
    refine Tr.C ?_ fun _ _ _ => Tr.I (fun _ => Tr.C ?_ fun _ _ _ => Tr.R ?_) fun _ => Tr.C ?_ fun _ _ _ => Tr.R ?_
    all_goals (grind)⟩
noncomputable def s_l26Reset_e := ent0 st Tryz.func189 [s_ResetFor_e, s_l26Copy_e] (ks := [.st .door, .st .segm]) s_l26Reset (fun v => [(true, q_door (.o true) (.o true) (.o true) (.o true) (.o true) v.1), (false, [sc (.o true) .segm v.2.1]), (false, [.c (.int .i64 v.2.2)])]) fun _ => by kernel_rfl
/-- spec.PutConn -/
noncomputable def s_PutConn : FT (Tabl × Conn × Limi × Unit) (Tabl × Bool) (fun x => sm_tabl x.1 ∧ sm_conn x.2.1) (fun x v => sm_tabl v.1 ∧ v.1.conns.length ≤ max x.1.conns.length 16 ∧ v.1.waiting.length ≤ max x.1.waiting.length 16) := ⟨fun (x0, x1, x2, _) =>
    .cal s_l25Copy.c (x0, ()) fun c1 =>
    .cal s_l19Copy.c (x1, ()) fun c2 =>
    .grd (Nat.ble ((2 * (c1.conns.length + 1) + 1024) * 208) maxSl) <|
    .grd (Nat.ble ((2 * (c1.waiting.length + 1) + 1024) * 24) maxSl) <|
    .cal s_TableOk.c ((⟨(c1.conns ++ [c2]), (c1.waiting ++ [x1.tuple])⟩ : Tabl), x2, ()) fun c3 =>
    .ite (!c3) (.cal s_l25Copy.c (x0, ()) fun c4 =>
      .ret (c4, false)) <|
    .ret ((⟨(c1.conns ++ [c2]), (c1.waiting ++ [x1.tuple])⟩ : Tabl), true),
  fun (x0, x1, x2, _) hp => by
    refine Tr.C ?_ fun _ _ _ => Tr.C ?_ fun _ _ _ => Tr.Gb ?_ fun _ => Tr.Gb ?_ fun _ => Tr.C ?_ fun _ _ _ => Tr.I (fun _ => Tr.C ?_ fun _ _ _ => Tr.R ?_) fun _ => Tr.R ?_
    all_goals (grind)⟩
noncomputable def s_PutConn_e := ent0 st Tryz.func198 [s_l25Copy_e, s_l19Copy_e, s_TableOk_e] (ks := [.st .tabl, .st .conn, .st .limi]) s_PutConn (fun v => [(true, q_tabl (.o true) (.o true) v.1), (false, [.c (.bool v.2)])]) fun _ => by kernel_rfl
/-- spec.SipHash -/
noncomputable def s_SipHash_o : List (Ent1 Tryz.prog) := [s_SipStart_e, s_l10Low_e, s_SipWord_e, s_SipEnd_e]
def s_SipHash_L0_h : Sh := ⟨[(2, false, [.str]), (7, false, [.ptr 0 0]), (8, false, [.int .i64]), (9, false, [.int .i64])], [.box [.st .sipr []]]⟩
noncomputable def s_SipHash_x : Fx := ⟨214, Tryz.f214, [(0, la ⟨[2, 7, 8, 9], [], false, 0⟩ ⟨[2, 6, 7, 8, 9], [], false, 0⟩)], 0⟩
noncomputable def s_SipHash_L0_T (v0 : Bytes) (v1 : Int) (a : Int × Sipr) : Tr (Stp (Int × Sipr) ((Int × Sipr))) :=
  .ite (decide ((IntKind.wrap .i64 (a.1 + 8)) ≤ v1)) (.grd (((decide (0 ≤ a.1)) && (decide (a.1 ≤ (IntKind.wrap .i64 (a.1 + 8))))) && (decide ((IntKind.wrap .i64 (a.1 + 8)) ≤ (v0.length : Int)))) <|
    .cal s_l10Low.c (((v0.take ((IntKind.wrap .i64 (a.1 + 8)).toNat)).drop a.1.toNat), ()) fun c2 =>
    .cal s_SipWord.c (a.2, c2, ()) fun c3 =>
    .ret (.next ((IntKind.wrap .i64 (a.1 + 8)), c3))) <|
  .ret (.out (a.1, a.2))
noncomputable def s_SipHash_L0_d : s_SipHash_L0_h.V → LW s_SipHash_L0_h (Int × Sipr) ((Int × Sipr)) := fun (v0, v1, v2, v3, _) => ⟨(v2, v3), fun a => (v0, v1, a.1, a.2, ()), s_SipHash_L0_T v0 v1, Int.toNat (v1 - v2), fun _ k p => k (.exit 0) (Sh.enc ⟨[(2, false, [.str]), (6, false, [.undef]), (7, false, [.ptr 0 0]), (8, false, [.int .i64]), (9, false, [.int .i64])], [.box [.st .sipr []]]⟩ (v0, v1, p.1, p.2, ()))⟩
theorem s_SipHash_L0_s : LS Tryz.prog s_SipHash_x [0] (leW 0 s_SipHash_L0_h s_SipHash_L0_d) := loopW st (orcOf_ok s_SipHash_o) _ s_SipHash_L0_d [] trivial (by kernel_rfl) (fun _ => by kernel_rfl) fun _ _ _ _ _ => by kernel_rfl
theorem s_SipHash_L0_k {v0 : Bytes} {v1 v2 : Int} {v3 : Sipr} (h0 : v1 = (v0.length : Int)) (h1 : sS v0) (h2 : 0 ≤ v2 ∧ v2 ≤ v1) : (s_SipHash_L0_d (v0, v1, v2, v3, ())).W (fun p => 0 ≤ p.1 ∧ p.1 ≤ v0.length) :=
  LW.okW (a := (v2, v3)) (fun a => 0 ≤ a.1 ∧ a.1 ≤ v1) (fun a => Int.toNat (v1 - a.1)) rfl h2 fun (v2, v3) hv => by
    refine Tr.I (fun _ => Tr.G3 ?_ fun _ => Tr.C ?_ fun _ _ _ => Tr.C trivial fun _ _ _ => Tr.Rn ?_) fun _ => Tr.Ro ?_
    all_goals (grind)
noncomputable def s_SipHash : FT (Int × Int × Bytes × Unit) (Int) (fun x => sS x.2.2.1) (fun _ _ => True) := ⟨fun (x0, x1, x2, _) =>
    .val (s_SipStart.f (x0, x1, ())) fun c1 =>
    .lp (s_SipHash_L0_d (x2, (x2.length : Int), 0, c1, ())).lp fun (p4a0, p4a1) =>
    .grd (((decide (0 ≤ p4a0)) && (decide (p4a0 ≤ (x2.length : Int)))) && (decide ((x2.length : Int) ≤ (x2.length : Int)))) <|
    .cal s_l10Low.c (((x2.take ((x2.length : Int).toNat)).drop p4a0.toNat), ()) fun c5 =>
    .val (IntKind.wrap .u64 ((IntKind.wrap .u64 ((x2.length : Int).tmod 256)) * 72057594037927936)) fun e6 =>
    .cal s_SipWord.c (p4a1, (bits .or .u64 c5 e6), ()) fun c7 =>
    .cal s_SipEnd.c (c7, ()) fun c8 =>
    .ret c8,
  fun (x0, x1, x2, _) hp => by
    refine Tr.V fun _ _ => Tr.L (s_SipHash_L0_k ?_ ?_ ?_) (fun a => Empty.elim a) (fun (p4a0, p4a1) _ => Tr.G3 ?_ fun _ => Tr.C ?_ fun _ _ _ => Tr.V fun _ _ => Tr.C trivial fun _ _ _ => Tr.C trivial fun _ _ _ => Tr.R trivial)
    all_goals ((try simp only [s_SipHash_L0_d, LW.lp, LW.cw, Cw.lp] at *) <;> grind)⟩
noncomputable def s_SipHash_e := entT st s_SipHash_x s_SipHash_o [(leW 0 s_SipHash_L0_h s_SipHash_L0_d)] (ks := [.sc (.int .u64), .sc (.int .u64), .sc .str]) s_SipHash (fun v => [(false, [.c (.int .u64 v)])]) Tryz.func214 ⟨s_SipHash_L0_s, trivial⟩ fun _ => by kernel_rfl
/-- spec.Verdict -/
noncomputable def s_Verdict_o : List (Ent1 Tryz.prog) := [s_ConnOk_e, s_SegmentOk_e, s_Has_e, s_WindowOf_e, s_InWindow_e, s_Acceptable_e, s_AckFits_e]
noncomputable def s_Verdict_x : Fx := ⟨242, Tryz.f242, [(3000001, rA 0 5), (3000003, rA 0 19), (3000005, rA 0 30)], 0⟩
noncomputable def s_Verdict : FT (Conn × Segm × Unit) (Int) (fun x => sm_conn x.1 ∧ sm_segm x.2.1) (fun _ _ => True) := ⟨fun (x0, x1, _) =>
    .bnd (β := Bool × Unit) (.cal s_ConnOk.c (x0, ()) fun c1 =>
      .ite (!c1) (.ret (true, ())) <|
      .ite (x0.state == 8) (.ret (true, ())) <|
      .cal s_SegmentOk.c (x1, ()) fun c2 =>
      .ret ((!c2), ())) fun (u3a0, _) =>
    .ite u3a0 (.ret 1) <|
    .bnd (β := Bool × Unit) (.val (s_Has.f (x1, 4, ())) fun c4 =>
      .ite c4 (.ret ((x1.seq == x0.r.next), ())) <|
      .ret (false, ())) fun (u5a0, _) =>
    .ite u5a0 (.ret 2) <|
    .bnd (β := Bool × Unit) (.val (s_Has.f (x1, 4, ())) fun c6 =>
      .ite c6 (.cal s_WindowOf.c (x0.r, ()) fun c7 =>
        .val (s_InWindow.f (x1.seq, x0.r.next, c7, ())) fun c8 =>
        .ret (c8, ())) <|
      .ret (false, ())) fun (u9a0, _) =>
    .ite u9a0 (.ret 3) <|
    .val (s_Has.f (x1, 4, ())) fun c10 =>
    .ite c10 (.ret 1) <|
    .val (s_Has.f (x1, 2, ())) fun c11 =>
    .ite c11 (.ret 3) <|
    .cal s_Acceptable.c (x0, x1, ()) fun c12 =>
    .ite (!c12) (.ret 4) <|
    .val (s_Has.f (x1, 16, ())) fun c13 =>
    .ite (!c13) (.ret 1) <|
    .cal s_AckFits.c (x0, x1.ack, ()) fun c14 =>
    .ite (!c14) (.ret 3) <|
    .ret 5,
  fun (x0, x1, _) hp => by
    refine Tr.B (Q' := fun w => (w.1 = false → SO x0.s ∧ RO x0.r ∧ x1.body.length ≤ 1420)) (Tr.C ?_ fun _ _ _ => Tr.I (fun _ => Tr.R ?_) fun _ => Tr.I (fun _ => Tr.R ?_) fun _ => Tr.C trivial fun _ _ _ => Tr.R ?_) (fun (u3a0, _) _ _ => Tr.I (fun _ => Tr.R trivial) fun _ => Tr.B (Q' := fun _ => True) (Tr.F (by kernel_rfl) trivial) (fun (u5a0, _) _ _ => Tr.I (fun _ => Tr.R trivial) fun _ => Tr.B (Q' := fun _ => True) (Tr.V fun _ _ => Tr.I (fun _ => Tr.C ?_ fun _ _ _ => Tr.F (by kernel_rfl) trivial) fun _ => Tr.R trivial) (fun (u9a0, _) _ _ => Tr.I (fun _ => Tr.R trivial) fun _ => Tr.V fun _ _ => Tr.I (fun _ => Tr.R trivial) fun _ => Tr.V fun _ _ => Tr.I (fun _ => Tr.R trivial) fun _ => Tr.C ?_ fun _ _ _ => Tr.I (fun _ => Tr.R trivial) fun _ => Tr.V fun _ _ => Tr.I (fun _ => Tr.R trivial) fun _ => Tr.C ?_ fun _ _ _ => Tr.F (by kernel_rfl) trivial)))
    all_goals ((try simp only [Tr.nice, letK] at *) <;> grind)⟩
noncomputable def s_Verdict_e := entT st s_Verdict_x s_Verdict_o [] (ks := [.st .conn, .st .segm]) s_Verdict (fun v => [(false, [.c (.int .i64 v)])]) Tryz.func242 trivial fun _ => by kernel_rfl
/-- spec.Heard -/
noncomputable def s_Heard_o : List (Ent1 Tryz.prog) := [s_l19Copy_e, s_Verdict_e, s_Acked_e, s_l1Max_e, s_l1Min_e, s_l17Flown_e, s_l1In_e, s_Has_e, s_Arrived_e, s_Turned_e]
def s_Heard_J24_a : An := ⟨⟨[], [], false, 0⟩, ⟨[2, 3, 4, 5], [], false, 0⟩, ⟨[], []⟩, [(.normal, ⟨[(2, false, [.ptr 0 0]), (3, false, [.ptr 1 0]), (4, false, [.ptr 2 0]), (5, false, [.ptr 3 0])], [.box [.st .conn [.sl .arg]], .box [.st .segm []], .box [.st .conn [.nil .piec]], .box [.st .conn [.own 4]], .of false true]⟩)]⟩
noncomputable def s_Heard_x : Fx := ⟨243, Tryz.f243, [(1000024, s_Heard_J24_a), (3000010, rA 0 59)], 0⟩
noncomputable def s_Heard : FT (Conn × Segm × Unit) (Conn) (fun x => sm_conn x.1 ∧ sm_segm x.2.1) (fun x v => sm_conn v) := ⟨fun (x0, x1, _) =>
    .cal s_l19Copy.c (x0, ()) fun c1 =>
    .cal s_Verdict.c (x0, x1, ()) fun c2 =>
    .ite (c2 != 5) (.ret c1) <|
    .cal s_Acked.c (x0.s, x1.ack, ()) fun c3 =>
    .bnd (β := WT s_Heard_J24_a.es) (.ite c3.2 (.val (s_l1Max.f (0, x0.opts.scale, ())) fun c4 =>
        .grd (decide (0 ≤ (IntKind.wrap .u64 c4))) <|
        .val (IntKind.wrap .i64 (x1.window * 2 ^ (min (IntKind.wrap .u64 c4).toNat 64))) fun e5 =>
        .val (s_l1Min.f (1073725440, e5, ())) fun c6 =>
        .val (s_l1Max.f (c1.most, c6, ())) fun c7 =>
        .cal s_l17Flown.c (c3.1, ()) fun c8 =>
        .bnd (β := Bool × Unit) (.ite (c3.1.una != x0.s.una) (.ret ((x0.state != 7), ())) <|
          .ite (c8 == 0) (.ret ((x0.state != 7), ())) <|
          .ret (false, ())) fun (u9a0, _) =>
        .ite u9a0 (.ite (decide (0 < c8)) (.ret (x0, x1, (⟨⟨0, 0, 0⟩, 0, ⟨0, [], 0, false, false, false⟩, ⟨0, [], [], 0, false⟩, 0, 0, ⟨0, 0, false, false, 0, 0⟩, 0, 0⟩ : Conn), (⟨c1.tuple, c1.state, c3.1, c1.r, c6, c7, c1.opts, 3, 0⟩ : Conn), ())) <|
          .ret (x0, x1, (⟨⟨0, 0, 0⟩, 0, ⟨0, [], 0, false, false, false⟩, ⟨0, [], [], 0, false⟩, 0, 0, ⟨0, 0, false, false, 0, 0⟩, 0, 0⟩ : Conn), (⟨c1.tuple, c1.state, c3.1, c1.r, c6, c7, c1.opts, 0, 0⟩ : Conn), ())) <|
        .ret (x0, x1, (⟨⟨0, 0, 0⟩, 0, ⟨0, [], 0, false, false, false⟩, ⟨0, [], [], 0, false⟩, 0, 0, ⟨0, 0, false, false, 0, 0⟩, 0, 0⟩ : Conn), (⟨c1.tuple, c1.state, c3.1, c1.r, c6, c7, c1.opts, c1.timer, c1.tries⟩ : Conn), ())) <|
      .ret (x0, x1, (⟨⟨0, 0, 0⟩, 0, ⟨0, [], 0, false, false, false⟩, ⟨0, [], [], 0, false⟩, 0, 0, ⟨0, 0, false, false, 0, 0⟩, 0, 0⟩ : Conn), c1, ())) fun (u10a0, u10a1, _, u10a3, _) =>
    .val (s_l1In.f (u10a0.state, 1, 3, ())) fun c11 =>
    .ite c11 (.val (s_Has.f (u10a1, 1, ())) fun c12 =>
      .cal s_Arrived.c (u10a0.r, u10a1.seq, u10a1.body, c12, ()) fun c13 =>
      .cal s_Turned.c (({ u10a3 with r.next := c13.next, r.data := c13.data, r.held := c13.held, r.fin := c13.fin, r.done := c13.done } : Conn), ()) fun c14 =>
      .ret c14) <|
    .cal s_Turned.c (u10a3, ()) fun c15 =>
    .ret c15,
  fun (x0, x1, _) hp => by
    refine Tr.C ?_ fun _ _ _ => Tr.C ?_ fun _ _ _ => Tr.I (fun _ => Tr.R ?_) fun _ => Tr.C ?_ fun _ _ _ => Tr.B (Q' := fun w => sm_conn w.1 ∧ sm_segm w.2.1 ∧ sm_conn w.2.2.1 ∧ sm_conn w.2.2.2.1) (Tr.I (fun _ => Tr.V fun _ _ => Tr.G1 ?_ fun _ => Tr.V fun _ _ => Tr.V fun _ _ => Tr.V fun _ _ => Tr.C ?_ fun _ _ _ => Tr.B (Q' := fun _ => True) (Tr.F (by kernel_rfl) trivial) (fun (u9a0, _) _ _ => Tr.I (fun _ => Tr.I (fun _ => Tr.R ?_) fun _ => Tr.R ?_) fun _ => Tr.R ?_)) fun _ => Tr.R ?_) (fun (u10a0, u10a1, u10a2, u10a3, _) _ _ => Tr.V fun _ _ => Tr.I (fun _ => Tr.V fun _ _ => Tr.C ?_ fun _ _ _ => Tr.C ?_ fun _ _ _ => Tr.R ?_) fun _ => Tr.C ?_ fun _ _ _ => Tr.R ?_)
    all_goals ((try simp only [Tr.nice, letK] at *) <;> grind)⟩
noncomputable def s_Heard_e := entT st s_Heard_x s_Heard_o [] (ks := [.st .conn, .st .segm]) s_Heard (fun v => [(true, q_conn (.o true) v)]) Tryz.func243 trivial fun _ => by kernel_rfl
/-- slices.IndexFunc[[]impl.Half,impl.Half] -/
noncomputable def g_IndexFunc_Half_i_FindHalf_1_o : List (Ent1 Tryz.prog) := [i_FindHalf_1_e]
def g_IndexFunc_Half_i_FindHalf_1_L0_h : Sh := ⟨[(0, false, [.sl .arg .half]), (1, false, [.fn 81 [0]]), (7, false, [.int .i64]), (8, false, [.int .i64])], [.box [.st .tupl []]]⟩
noncomputable def g_IndexFunc_Half_i_FindHalf_1_x : Fx := ⟨80, Tryz.f80, [(0, la ⟨[0, 1, 7, 8], [], false, 1⟩ ⟨[4], [], false, 1⟩)], 1⟩
noncomputable def g_IndexFunc_Half_i_FindHalf_1_L0_T (v0 : List Half) (v3 : Tupl) (v2 : Int) (a : Unit) : Tr (Stp (Unit) ((Int))) :=
  .grd ((decide (0 ≤ v2)) && (decide (v2 < (v0.length : Int)))) <|
  .cal i_FindHalf_1.c ((v0.getD v2.toNat (Ty.zero .half)), v3, ()) fun c1 =>
  .ite c1 (.ret (.out v2)) <|
  .ret (.next ())
noncomputable def g_IndexFunc_Half_i_FindHalf_1_L0_d : g_IndexFunc_Half_i_FindHalf_1_L0_h.V → LC g_IndexFunc_Half_i_FindHalf_1_L0_h (Unit) ((Int)) (((Int)) ⊕ (Int × Unit)) := fun (v0, v1, v2, v3, _) => ⟨v2, (), fun v2 _ => (v0, v1, v2, v3, ()), fun v2 _ => (decide (v2 < v1)), g_IndexFunc_Half_i_FindHalf_1_L0_T v0 v3, up, 1, (Int.toNat (v1 - v2)), .inl, fun i a => .inr (i, a), fun _ k w => Sum.elim (fun p => k .ret (Sh.enc ⟨[(4, false, [.int .i64])], [.box [.st .tupl []]]⟩ (p, v3, ()))) (fun _ => k (.exit 0) (Sh.enc ⟨[(4, false, [.undef])], [.box [.st .tupl []]]⟩ (v3, ()))) w⟩
theorem g_IndexFunc_Half_i_FindHalf_1_L0_s : LS Tryz.prog g_IndexFunc_Half_i_FindHalf_1_x [0] (leC 0 g_IndexFunc_Half_i_FindHalf_1_L0_h g_IndexFunc_Half_i_FindHalf_1_L0_d) := loopC st (orcOf_ok g_IndexFunc_Half_i_FindHalf_1_o) _ g_IndexFunc_Half_i_FindHalf_1_L0_d [] trivial (by kernel_rfl) (fun _ => by kernel_rfl) fun _ _ _ _ _ _ => by kernel_rfl
theorem g_IndexFunc_Half_i_FindHalf_1_L0_k {v0 : List Half} {v1 v2 : Int} {v3 : Tupl} (h0 : 0 ≤ v2) (h1 : v1 ≤ 4611686018427387904) (h2 : v1 ≤ (v0.length : Int)) : (g_IndexFunc_Half_i_FindHalf_1_L0_d (v0, v1, v2, v3, ())).U v1 (fun _ _ => True) (fun p => v2 ≤ p ∧ p < v1) :=
  LC.okU (i := v2) (a := ()) (fun _ _ => rfl) (fun _ => rfl) rfl h0 h1 trivial fun v2 _ hj hk hv => by
    refine Tr.G2 ?_ fun _ => Tr.C trivial fun _ _ _ => Tr.I (fun _ => Tr.Ro ?_) fun _ => Tr.Rn trivial
    all_goals (grind)
noncomputable def g_IndexFunc_Half_i_FindHalf_1 : FT (List Half × Tupl × Unit) (Int) (fun x => wS x.1) (fun x v => -1 ≤ v ∧ v < x.1.length) := ⟨fun (x0, y1_0, _) =>
    .lp (g_IndexFunc_Half_i_FindHalf_1_L0_d (x0, (x0.length : Int), 0, y1_0, ())).lp fun w2 => .sum w2 (fun p2a0 =>
    .ret p2a0) <|
    fun _ =>
    .ret (-1),
  fun (x0, y1_0, _) hp => by
    refine Tr.L (g_IndexFunc_Half_i_FindHalf_1_L0_k ?_ ?_ ?_) (fun _ _ => Tr.Sr (Tr.R ?_)) (fun p2a0 _ => Tr.Sl (Tr.R ?_))
    all_goals ((try simp only [g_IndexFunc_Half_i_FindHalf_1_L0_d, LC.lp, LC.ct, Ct.lp] at *) <;> grind)⟩
noncomputable def g_IndexFunc_Half_i_FindHalf_1_e := entM st g_IndexFunc_Half_i_FindHalf_1_x g_IndexFunc_Half_i_FindHalf_1_o [(leC 0 g_IndexFunc_Half_i_FindHalf_1_L0_h g_IndexFunc_Half_i_FindHalf_1_L0_d)] [.sc (.sl .half), .fn 81 [0]] [.box [.st .tupl]] (fun x y => (x.1, y.1.1, ())) g_IndexFunc_Half_i_FindHalf_1 (fun v => [(false, [.c (.int .i64 v)])]) (fun x y v => ((y.1.1, ()), ())) Tryz.func80 (by kernel_rfl) ⟨g_IndexFunc_Half_i_FindHalf_1_L0_s, trivial⟩ fun _ _ => by kernel_rfl
/-- slices.IndexFunc[[]impl.Conn,impl.Conn] -/
noncomputable def g_IndexFunc_Conn_i_FindConn_1_o : List (Ent1 Tryz.prog) := [i_FindConn_1_e]
def g_IndexFunc_Conn_i_FindConn_1_L0_h : Sh := ⟨[(0, false, [.sl .arg .conn]), (1, false, [.fn 83 [0]]), (7, false, [.int .i64]), (8, false, [.int .i64])], [.box [.st .tupl []]]⟩
noncomputable def g_IndexFunc_Conn_i_FindConn_1_x : Fx := ⟨82, Tryz.f82, [(0, la ⟨[0, 1, 7, 8], [], false, 1⟩ ⟨[4], [], false, 1⟩)], 1⟩
noncomputable def g_IndexFunc_Conn_i_FindConn_1_L0_T (v0 : List Conn) (v3 : Tupl) (v2 : Int) (a : Unit) : Tr (Stp (Unit) ((Int))) :=
  .grd ((decide (0 ≤ v2)) && (decide (v2 < (v0.length : Int)))) <|
  .cal i_FindConn_1.c ((v0.getD v2.toNat (Ty.zero .conn)), v3, ()) fun c1 =>
  .ite c1 (.ret (.out v2)) <|
  .ret (.next ())
noncomputable def g_IndexFunc_Conn_i_FindConn_1_L0_d : g_IndexFunc_Conn_i_FindConn_1_L0_h.V → LC g_IndexFunc_Conn_i_FindConn_1_L0_h (Unit) ((Int)) (((Int)) ⊕ (Int × Unit)) := fun (v0, v1, v2, v3, _) => ⟨v2, (), fun v2 _ => (v0, v1, v2, v3, ()), fun v2 _ => (decide (v2 < v1)), g_IndexFunc_Conn_i_FindConn_1_L0_T v0 v3, up, 1, (Int.toNat (v1 - v2)), .inl, fun i a => .inr (i, a), fun _ k w => Sum.elim (fun p => k .ret (Sh.enc ⟨[(4, false, [.int .i64])], [.box [.st .tupl []]]⟩ (p, v3, ()))) (fun _ => k (.exit 0) (Sh.enc ⟨[(4, false, [.undef])], [.box [.st .tupl []]]⟩ (v3, ()))) w⟩
theorem g_IndexFunc_Conn_i_FindConn_1_L0_s : LS Tryz.prog g_IndexFunc_Conn_i_FindConn_1_x [0] (leC 0 g_IndexFunc_Conn_i_FindConn_1_L0_h g_IndexFunc_Conn_i_FindConn_1_L0_d) := loopC st (orcOf_ok g_IndexFunc_Conn_i_FindConn_1_o) _ g_IndexFunc_Conn_i_FindConn_1_L0_d [] trivial (by kernel_rfl) (fun _ => by kernel_rfl) fun _ _ _ _ _ _ => by kernel_rfl
theorem g_IndexFunc_Conn_i_FindConn_1_L0_k {v0 : List Conn} {v1 v2 : Int} {v3 : Tupl} (h0 : 0 ≤ v2) (h1 : v1 ≤ 4611686018427387904) (h2 : v1 ≤ (v0.length : Int)) : (g_IndexFunc_Conn_i_FindConn_1_L0_d (v0, v1, v2, v3, ())).U v1 (fun _ _ => True) (fun p => v2 ≤ p ∧ p < v1) :=
  LC.okU (i := v2) (a := ()) (fun _ _ => rfl) (fun _ => rfl) rfl h0 h1 trivial fun v2 _ hj hk hv => by
    refine Tr.G2 ?_ fun _ => Tr.C trivial fun _ _ _ => Tr.I (fun _ => Tr.Ro ?_) fun _ => Tr.Rn trivial
    all_goals (grind)
noncomputable def g_IndexFunc_Conn_i_FindConn_1 : FT (List Conn × Tupl × Unit) (Int) (fun x => wS x.1) (fun x v => -1 ≤ v ∧ v < x.1.length) := ⟨fun (x0, y1_0, _) =>
    .lp (g_IndexFunc_Conn_i_FindConn_1_L0_d (x0, (x0.length : Int), 0, y1_0, ())).lp fun w2 => .sum w2 (fun p2a0 =>
    .ret p2a0) <|
    fun _ =>
    .ret (-1),
  fun (x0, y1_0, _) hp => by
    refine Tr.L (g_IndexFunc_Conn_i_FindConn_1_L0_k ?_ ?_ ?_) (fun _ _ => Tr.Sr (Tr.R ?_)) (fun p2a0 _ => Tr.Sl (Tr.R ?_))
    all_goals ((try simp only [g_IndexFunc_Conn_i_FindConn_1_L0_d, LC.lp, LC.ct, Ct.lp] at *) <;> grind)⟩
noncomputable def g_IndexFunc_Conn_i_FindConn_1_e := entM st g_IndexFunc_Conn_i_FindConn_1_x g_IndexFunc_Conn_i_FindConn_1_o [(leC 0 g_IndexFunc_Conn_i_FindConn_1_L0_h g_IndexFunc_Conn_i_FindConn_1_L0_d)] [.wr false [.c (.sl .conn)], .fn 83 [0]] [.box [.st .tupl]] (fun x y => (x.1.1, y.1.1, ())) g_IndexFunc_Conn_i_FindConn_1 (fun v => [(false, [.c (.int .i64 v)])]) (fun x y v => ((y.1.1, ()), ())) Tryz.func82 (by kernel_rfl) ⟨g_IndexFunc_Conn_i_FindConn_1_L0_s, trivial⟩ fun _ _ => by kernel_rfl
/-- spec.DoorOk -/
noncomputable def s_DoorOk_o : List (Ent1 Tryz.prog) := [s_WordOk_e, s_KeysOk_e, s_TableOk_e, s_HalvesOk_e, s_l1In_e, s_FindConn_e]
def s_DoorOk_L0_h : Sh := ⟨[(1, false, [.ptr 0 0]), (3, false, [.int .i64])], [.box [.st .door [.sl .arg, .sl .arg, .sl .arg, .sl .arg, .sl .arg]]]⟩
noncomputable def s_DoorOk_x : Fx := ⟨13, Tryz.f13, [(0, la ⟨[1, 3], [], false, 0⟩ ⟨[2], [], false, 0⟩), (3000001, rA 0 51)], 0⟩
noncomputable def s_DoorOk_L0_T (v1 : Door) (v0 : Int) (a : Unit) : Tr (Stp (Unit) ((Unit))) :=
  .grd ((decide (0 ≤ v0)) && (decide (v0 < (v1.halves.length : Int)))) <|
  .cal s_FindConn.c (v1.table, (v1.halves.getD v0.toNat (Ty.zero .half)).tuple, ()) fun c8 =>
  .ite (decide (0 ≤ c8)) (.ret (.out ())) <|
  .ret (.next ())
noncomputable def s_DoorOk_L0_d : s_DoorOk_L0_h.V → LC s_DoorOk_L0_h (Unit) ((Unit)) (((Unit)) ⊕ (Int × Unit)) := fun (v0, v1, _) => ⟨v0, (), fun v0 _ => (v0, v1, ()), fun v0 _ => (decide (v0 < (v1.halves.length : Int))), s_DoorOk_L0_T v1, up, 1, (Int.toNat ((v1.halves.length : Int) - v0)), .inl, fun i a => .inr (i, a), fun _ k w => Sum.elim (fun _ => k .ret (Sh.enc ⟨[(2, false, [.bool])], []⟩ (false, ()))) (fun _ => k (.exit 0) (Sh.enc ⟨[(2, false, [.undef])], []⟩ ())) w⟩
theorem s_DoorOk_L0_s : LS Tryz.prog s_DoorOk_x [0] (leC 0 s_DoorOk_L0_h s_DoorOk_L0_d) := loopC st (orcOf_ok s_DoorOk_o) _ s_DoorOk_L0_d [] trivial (by kernel_rfl) (fun _ => by kernel_rfl) fun _ _ _ _ _ _ => by kernel_rfl
theorem s_DoorOk_L0_k {v0 : Int} {v1 : Door} (h0 : 0 ≤ v0) (h1 : (v1.halves.length : Int) ≤ 4611686018427387904) (h2 : sm_door v1) : (s_DoorOk_L0_d (v0, v1, ())).U (v1.halves.length : Int) (fun _ _ => True) (fun _ => True) :=
  LC.okU (i := v0) (a := ()) (fun _ _ => rfl) (fun _ => rfl) rfl h0 h1 trivial fun v0 _ hj hk hv => by
    refine Tr.G2 ?_ fun _ => Tr.C ?_ fun _ _ _ => Tr.Z (by kernel_rfl)
    all_goals (grind)
noncomputable def s_DoorOk : FT (Door × Unit) (Bool) (fun x => sm_door x.1) (fun x v => (v = true → x.1.table.conns.length ≤ 16)) := ⟨fun (x0, _) =>
    .bnd (β := Bool × Unit) (.cal s_WordOk.c (x0.port, 16, ()) fun c1 =>
      .ite (!c1) (.ret (true, ())) <|
      .cal s_WordOk.c (x0.clock, 32, ()) fun c2 =>
      .ite (!c2) (.ret (true, ())) <|
      .cal s_KeysOk.c (x0.keys, ()) fun c3 =>
      .ite (!c3) (.ret (true, ())) <|
      .cal s_TableOk.c (x0.table, x0.limits, ()) fun c4 =>
      .ite (!c4) (.ret (true, ())) <|
      .cal s_HalvesOk.c (x0.halves, ()) fun c5 =>
      .ite (!c5) (.ret (true, ())) <|
      .ite (decide (x0.limits.halves < (x0.halves.length : Int))) (.ret (true, ())) <|
      .val (s_l1In.f (x0.chal, 0, x0.limits.chal, ())) fun c6 =>
      .ret ((!c6), ())) fun (u7a0, _) =>
    .ite u7a0 (.ret false) <|
    .lp (s_DoorOk_L0_d (0, x0, ())).lp fun w9 => .sum w9 (fun _ =>
    .ret false) <|
    fun _ =>
    .ret true,
  fun (x0, _) hp => by
    refine Tr.B (Q' := fun w => (w.1 = false → 0 ≤ x0.keys.epoch ∧ x0.keys.epoch ≤ 4294967295 ∧ x0.table.conns.length ≤ 16 ∧ x0.table.waiting.length ≤ 16 ∧ x0.halves.length ≤ 64)) (Tr.C trivial fun _ _ _ => Tr.I (fun _ => Tr.R ?_) fun _ => Tr.C trivial fun _ _ _ => Tr.I (fun _ => Tr.R ?_) fun _ => Tr.C ?_ fun _ _ _ => Tr.I (fun _ => Tr.R ?_) fun _ => Tr.C ?_ fun _ _ _ => Tr.I (fun _ => Tr.R ?_) fun _ => Tr.C ?_ fun _ _ _ => Tr.I (fun _ => Tr.R ?_) fun _ => Tr.I (fun _ => Tr.R ?_) fun _ => Tr.V fun _ _ => Tr.R ?_) (fun (u7a0, _) _ _ => Tr.I (fun _ => Tr.R ?_) fun _ => Tr.L (s_DoorOk_L0_k ?_ ?_ ?_) (fun _ _ => Tr.Sr (Tr.R ?_)) (fun _ _ => Tr.Sl (Tr.R ?_)))
    all_goals ((try simp only [s_DoorOk_L0_d, LC.lp, LC.ct, Ct.lp, Tr.nice, letK] at *) <;> grind)⟩
noncomputable def s_DoorOk_e := entT st s_DoorOk_x s_DoorOk_o [(leC 0 s_DoorOk_L0_h s_DoorOk_L0_d)] (ks := [.st .door]) s_DoorOk (fun v => [(false, [.c (.bool v)])]) Tryz.func13 ⟨s_DoorOk_L0_s, trivial⟩ fun _ => by kernel_rfl
/-- spec.TickDoor -/
noncomputable def s_TickDoor_o : List (Ent1 Tryz.prog) := [s_l26Copy_e, s_DoorOk_e, s_l4Rest_e, s_AgedHalves_e, s_TickConn_e, s_Swept_e]
def s_TickDoor_L0_h : Sh := ⟨[(2, false, [.ptr 0 0]), (4, false, [.ptr 1 0]), (5, false, [.own 2]), (6, false, [.int .i64])], [.box [.st .door [.nil .macRow, .nil .macRow, .nil .half, .nil .conn, .nil .tupl]], .box [.st .door [.own 3, .own 4, .own 5, .own 6, .own 7]], .arr .segm false true, .of false true, .of false true, .of false true, .of false true, .of false true]⟩
noncomputable def s_TickDoor_x : Fx := ⟨21, Tryz.f21, [(0, la ⟨[2, 4, 5, 6], [], false, 0⟩ ⟨[2, 3, 4, 5], [], false, 0⟩)], 0⟩
noncomputable def s_TickDoor_L0_T (v0 : Int) (a : Door × Door × List Segm) : Tr (Stp (Door × Door × List Segm) (Empty)) :=
  .grd ((decide (0 ≤ v0)) && (decide (v0 < (a.2.1.table.conns.length : Int)))) <|
  .cal s_TickConn.c ((a.2.1.table.conns.getD v0.toNat (Ty.zero .conn)), ()) fun c5 =>
  .grd ((decide (0 ≤ v0)) && (decide (v0 < (a.2.1.table.conns.length : Int)))) <|
  .grd (Nat.ble ((2 * (a.2.2.length + c5.2.length) + 1024) * 104) maxSl) <|
  .ret (.next (({ a.1 with keys.now.rows := [], keys.before.rows := [], halves := [], table.conns := [], table.waiting := [] } : Door), ({ a.2.1 with table.conns := (a.2.1.table.conns.set v0.toNat c5.1) } : Door), (a.2.2 ++ c5.2)))
noncomputable def s_TickDoor_L0_d : s_TickDoor_L0_h.V → LC s_TickDoor_L0_h (Door × Door × List Segm) (Empty) (Int × (Door × Door × List Segm)) := fun (v0, v1, v2, v3, _) => ⟨v0, (v1, v2, v3), fun v0 a => (v0, a.1, a.2.1, a.2.2, ()), fun v0 a => (decide (v0 < (a.2.1.table.conns.length : Int))), s_TickDoor_L0_T, up, 1, (Int.toNat ((v2.table.conns.length : Int) - v0)), (fun p => Empty.elim p), fun i a => (i, a), fun _ k x => k (.exit 0) (Sh.enc ⟨[(2, false, [.ptr 0 0]), (3, false, [.undef]), (4, false, [.ptr 1 0]), (5, false, [.own 2])], [.box [.st .door [.nil .macRow, .nil .macRow, .nil .half, .nil .conn, .nil .tupl]], .box [.st .door [.own 3, .own 4, .own 5, .own 6, .own 7]], .arr .segm false true, .of false true, .of false true, .of false true, .of false true, .of false true]⟩ (({ x.2.1 with keys.now.rows := [], keys.before.rows := [], halves := [], table.conns := [], table.waiting := [] } : Door), x.2.2.1, x.2.2.2, ()))⟩
set_option maxHeartbeats 4000000 in
theorem s_TickDoor_L0_s : LS Tryz.prog s_TickDoor_x [0] (leC 0 s_TickDoor_L0_h s_TickDoor_L0_d) := loopC st (orcOf_ok s_TickDoor_o) _ s_TickDoor_L0_d [] trivial (by kernel_rfl) (fun _ => by kernel_rfl) fun _ _ _ _ _ _ => by kernel_rfl
theorem s_TickDoor_L0_k {v0 : Int} {v1 v2 : Door} {v3 : List Segm} (h0 : 0 ≤ v0) (h1 : (v2.table.conns.length : Int) ≤ 4611686018427387904) (h2 : sL sm_macRow v2.keys.now.rows) (h3 : sL sm_macRow v2.keys.before.rows) (h4 : sS v2.halves) (h5 : sL sm_conn v2.table.conns) (h6 : sS v2.table.waiting) (h7 : sm_door v1 ∧ v2.keys.now.rows.length = v2.keys.now.rows.length ∧ smE sm_macRow v2.keys.now.rows ∧ v2.keys.before.rows.length = v2.keys.before.rows.length ∧ smE sm_macRow v2.keys.before.rows ∧ v2.halves.length = v2.halves.length ∧ v2.table.conns.length = v2.table.conns.length ∧ smE sm_conn v2.table.conns ∧ v2.table.waiting.length = v2.table.waiting.length ∧ sL sm_segm v3 ∧ 0 ≤ v0 ∧ v0 ≤ 16 ∧ v2.table.conns.length ≤ 16 ∧ (v3.length : Int) ≤ 49 * v0) : (s_TickDoor_L0_d (v0, v1, v2, v3, ())).S (fun v0 a => a.2.1.table.conns.length = v2.table.conns.length ∧ sm_door a.1 ∧ a.2.1.keys.now.rows.length = v2.keys.now.rows.length ∧ smE sm_macRow a.2.1.keys.now.rows ∧ a.2.1.keys.before.rows.length = v2.keys.before.rows.length ∧ smE sm_macRow a.2.1.keys.before.rows ∧ a.2.1.halves.length = v2.halves.length ∧ a.2.1.table.conns.length = v2.table.conns.length ∧ smE sm_conn a.2.1.table.conns ∧ a.2.1.table.waiting.length = v2.table.waiting.length ∧ sL sm_segm a.2.2 ∧ 0 ≤ v0 ∧ v0 ≤ 16 ∧ a.2.1.table.conns.length ≤ 16 ∧ (a.2.2.length : Int) ≤ 49 * v0) (fun _ => True) := by
  refine LC.okS ⟨rfl, h7⟩ (fun j a hj hv => ⟨⟨?_, ?_⟩, ?_⟩) (fun a hv => ?_)
  · simp only [s_TickDoor_L0_d, decide_eq_true_eq] at *; omega
  · simp only [s_TickDoor_L0_d] at *; exact upw (by omega) (by omega)
  · refine Tr.G2 ?_ fun _ => Tr.C ?_ fun _ _ _ => Tr.G2 ?_ fun _ => Tr.Gb ?_ fun _ => Tr.Rn ?_
    all_goals (try simp only [s_TickDoor_L0_d] at *) <;> (grind)
  · simp only [s_TickDoor_L0_d, decide_eq_false_iff_not] at *; omega
noncomputable def s_TickDoor : FT (Door × Unit) (Door × List Segm) (fun x => sm_door x.1) (fun x v => sm_door v.1 ∧ sL sm_segm v.2) := ⟨fun (x0, _) =>
    .cal s_l26Copy.c (x0, ()) fun c1 =>
    .cal s_DoorOk.c (x0, ()) fun c2 =>
    .ite (!c2) (.ret (c1, [])) <|
    .val (s_l4Rest.f ((IntKind.wrap .i64 (x0.clock + 1)), ())) fun c3 =>
    .cal s_AgedHalves.c (x0.halves, ()) fun c4 =>
    .lp (s_TickDoor_L0_d (0, (⟨0, 0, ⟨0, ⟨false, 0, 0, []⟩, ⟨false, 0, 0, []⟩, false⟩, ⟨0, 0, 0, 0⟩, [], ⟨[], []⟩, 0⟩ : Door), ({ c1 with clock := c3, halves := c4, chal := 0 } : Door), [], ())).lp fun (_, _, a6_1, a6_2) =>
    .cal s_Swept.c (a6_1.table, ()) fun c7 =>
    .ret (({ a6_1 with table.conns := c7.conns, table.waiting := c7.waiting } : Door), a6_2),
  fun (x0, _) hp => by
    refine Tr.C ?_ fun _ _ _ => Tr.C ?_ fun _ _ _ => Tr.I (fun _ => Tr.R ?_) fun _ => Tr.V fun _ _ => Tr.C ?_ fun _ _ _ => Tr.L (s_TickDoor_L0_k ?_ ?_ ?_ ?_ ?_ ?_ ?_ ?_) (fun (a6_0, a6_1, a6_2) _ => Tr.C ?_ fun _ _ _ => Tr.R ?_) (fun p => Empty.elim p)
    all_goals ((try simp only [s_TickDoor_L0_d, LC.lp, LC.ct, Ct.lp] at *) <;> grind)⟩
noncomputable def s_TickDoor_e := entT st s_TickDoor_x s_TickDoor_o [(leC 0 s_TickDoor_L0_h s_TickDoor_L0_d)] (ks := [.st .door]) s_TickDoor (fun v => [(true, q_door (.o true) (.o true) (.o true) (.o true) (.o true) v.1), (false, [sc (.o true) .segm v.2])]) Tryz.func21 ⟨s_TickDoor_L0_s, trivial⟩ fun _ => by kernel_rfl
/-- impl.cloneDoor -/
noncomputable def i_cloneDoor : FT (Door × Unit) (Door) (fun x => sm_door x.1) (fun x v => sm_door v ∧ v.table.conns.length = x.1.table.conns.length ∧ v.table.waiting.length = x.1.table.waiting.length ∧ v.halves = x.1.halves) := ⟨fun (x0, _) =>
    .cal i_cloneKeys.c (x0.keys, ()) fun c1 =>
    .cal g_Clone_Half.c (x0.halves, ()) fun c2 =>
    .cal i_cloneTable.c (x0.table, ()) fun c3 =>
    .ret (⟨x0.port, x0.clock, c1, x0.limits, c2, c3, x0.chal⟩ : Door),
  fun (x0, _) hp => by
    refine Tr.C ?_ fun _ _ _ => Tr.C ?_ fun _ _ _ => Tr.C ?_ fun _ _ _ => Tr.R ?_
    all_goals (grind)⟩
noncomputable def i_cloneDoor_e := ent0 st Tryz.func26 [i_cloneKeys_e, g_Clone_Half_e, i_cloneTable_e] (ks := [.st .door]) i_cloneDoor (fun v => [(true, q_door (.o true) (.o true) (.o true) (.o true) (.o true) v)]) fun _ => by kernel_rfl
/-- impl.FindHalf -/
noncomputable def i_FindHalf : FT (List Half × Tupl × Unit) (Int) (fun x => wS x.1) (fun x v => -1 ≤ v ∧ v < x.1.length) := ⟨fun (x0, x1, _) =>
    .cal g_IndexFunc_Half_i_FindHalf_1.c (x0, x1, ()) fun c1 =>
    .ret c1,
  fun (x0, x1, _) hp => by
    refine Tr.C ?_ fun _ _ _ => Tr.R ?_
    all_goals (grind)⟩
noncomputable def i_FindHalf_e := ent0 st Tryz.func30 [g_IndexFunc_Half_i_FindHalf_1_e] (ks := [.sc (.sl .half), .st .tupl]) i_FindHalf (fun v => [(false, [.c (.int .i64 v)])]) fun _ => by kernel_rfl
/-- impl.FindConn -/
noncomputable def i_FindConn : FT (Tabl × Tupl × Unit) (Int) (fun x => wS x.1.conns) (fun x v => -1 ≤ v ∧ v < x.1.conns.length) := ⟨fun (x0, x1, _) =>
    .cal g_IndexFunc_Conn_i_FindConn_1.c (x0.conns, x1, ()) fun c1 =>
    .ret c1,
  fun (x0, x1, _) hp => by
    refine Tr.C ?_ fun _ _ _ => Tr.R ?_
    all_goals (grind)⟩
noncomputable def i_FindConn_e := ent0 st Tryz.func31 [g_IndexFunc_Conn_i_FindConn_1_e] (ks := [.st .tabl, .st .tupl]) i_FindConn (fun v => [(false, [.c (.int .i64 v)])]) fun _ => by kernel_rfl
/-- spec.l26Right -/
noncomputable def s_l26Right : FT (Door × Tupl × Segm × Unit) (Bool) (fun x => sm_door x.1 ∧ sm_segm x.2.2.1) (fun _ _ => True) := ⟨fun (x0, x1, x2, _) =>
    .cal s_DoorOk.c (x0, ()) fun c1 =>
    .ite c1 (.cal s_TupleOk.c (x1, ()) fun c2 =>
      .ite c2 (.cal s_SegmentOk.c (x2, ()) fun c3 =>
        .ret c3) <|
      .ret false) <|
    .ret false,
  fun (x0, x1, x2, _) hp => by
    refine Tr.C ?_ fun _ _ _ => Tr.I (fun _ => Tr.C trivial fun _ _ _ => Tr.I (fun _ => Tr.C trivial fun _ _ _ => Tr.R trivial) fun _ => Tr.R trivial) fun _ => Tr.R trivial
    all_goals (grind)⟩
noncomputable def s_l26Right_e := ent0 st Tryz.func35 [s_DoorOk_e, s_TupleOk_e, s_SegmentOk_e] (ks := [.st .door, .st .tupl, .st .segm]) s_l26Right (fun v => [(false, [.c (.bool v)])]) fun _ => by kernel_rfl
/-- impl.TableOk -/
noncomputable def i_TableOk_o : List (Ent1 Tryz.prog) := [i_LimitsOk_e, i_ConnOk_e, i_FindConn_e, g_Index_Tuple_e]
def i_TableOk_L0_h : Sh := ⟨[(2, false, [.ptr 0 0]), (29, false, [.sl .arg .conn]), (30, false, [.int .i64]), (31, false, [.int .i64])], [.box [.st .tabl [.sl .arg, .sl .arg]]]⟩
def i_TableOk_L1_h : Sh := ⟨[(2, false, [.ptr 0 0]), (49, false, [.sl .arg .tupl]), (50, false, [.int .i64]), (51, false, [.int .i64])], [.box [.st .tabl [.sl .arg, .sl .arg]]]⟩
noncomputable def i_TableOk_x : Fx := ⟨47, Tryz.f47, [(0, la ⟨[2, 29, 30, 31], [], false, 0⟩ ⟨[2, 4], [], false, 0⟩), (2, la ⟨[2, 49, 50, 51], [], false, 0⟩ ⟨[4], [], false, 0⟩), (3000001, rA 0 27)], 0⟩
noncomputable def i_TableOk_L0_T (v0 : List Conn) (v3 : Tabl) (v2 : Int) (a : Unit) : Tr (Stp (Unit) ((Unit))) :=
  .grd ((decide (0 ≤ v2)) && (decide (v2 < (v0.length : Int)))) <|
  .cal i_ConnOk.c ((v0.getD v2.toNat (Ty.zero .conn)), ()) fun c3 =>
  .ite (!c3) (.ret (.out ())) <|
  .cal i_FindConn.c (v3, (v0.getD v2.toNat (Ty.zero .conn)).tuple, ()) fun c4 =>
  .ite (c4 != v2) (.ret (.out ())) <|
  .ret (.next ())
noncomputable def i_TableOk_L0_d : i_TableOk_L0_h.V → LC i_TableOk_L0_h (Unit) ((Unit)) (((Unit)) ⊕ (Int × Unit)) := fun (v0, v1, v2, v3, _) => ⟨v2, (), fun v2 _ => (v0, v1, v2, v3, ()), fun v2 _ => (decide (v2 < v1)), i_TableOk_L0_T v0 v3, up, 1, (Int.toNat (v1 - v2)), .inl, fun i a => .inr (i, a), fun _ k w => Sum.elim (fun _ => k .ret (Sh.enc ⟨[(2, false, [.ptr 0 0]), (4, false, [.bool])], [.box [.st .tabl [.sl .arg, .sl .arg]]]⟩ (false, v3, ()))) (fun _ => k (.exit 0) (Sh.enc ⟨[(2, false, [.ptr 0 0]), (4, false, [.undef])], [.box [.st .tabl [.sl .arg, .sl .arg]]]⟩ (v3, ()))) w⟩
theorem i_TableOk_L0_s : LS Tryz.prog i_TableOk_x [0] (leC 0 i_TableOk_L0_h i_TableOk_L0_d) := loopC st (orcOf_ok i_TableOk_o) _ i_TableOk_L0_d [] trivial (by kernel_rfl) (fun _ => by kernel_rfl) fun _ _ _ _ _ _ => by kernel_rfl
theorem i_TableOk_L0_k {v0 : List Conn} {v1 v2 : Int} {v3 : Tabl} (h0 : 0 ≤ v2) (h1 : v1 ≤ 4611686018427387904) (h2 : sL sm_conn v0) (h3 : sm_tabl v3) (h4 : v1 ≤ (v0.length : Int)) : (i_TableOk_L0_d (v0, v1, v2, v3, ())).U v1 (fun _ _ => True) (fun _ => True) :=
  LC.okU (i := v2) (a := ()) (fun _ _ => rfl) (fun _ => rfl) rfl h0 h1 trivial fun v2 _ hj hk hv => by
    refine Tr.G2 ?_ fun _ => Tr.C ?_ fun _ _ _ => Tr.I (fun _ => Tr.Ro trivial) fun _ => Tr.C ?_ fun _ _ _ => Tr.Z (by kernel_rfl)
    all_goals (grind)
noncomputable def i_TableOk_L1_T (v0 : List Tupl) (v3 : Tabl) (v2 : Int) (a : Unit) : Tr (Stp (Unit) ((Unit))) :=
  .grd ((decide (0 ≤ v2)) && (decide (v2 < (v0.length : Int)))) <|
  .cal i_FindConn.c (v3, (v0.getD v2.toNat (Ty.zero .tupl)), ()) fun c6 =>
  .ite (decide (c6 < 0)) (.ret (.out ())) <|
  .cal g_Index_Tuple.c (v3.waiting, (v0.getD v2.toNat (Ty.zero .tupl)), ()) fun c7 =>
  .ite (c7 != v2) (.ret (.out ())) <|
  .ret (.next ())
noncomputable def i_TableOk_L1_d : i_TableOk_L1_h.V → LC i_TableOk_L1_h (Unit) ((Unit)) (((Unit)) ⊕ (Int × Unit)) := fun (v0, v1, v2, v3, _) => ⟨v2, (), fun v2 _ => (v0, v1, v2, v3, ()), fun v2 _ => (decide (v2 < v1)), i_TableOk_L1_T v0 v3, up, 1, (Int.toNat (v1 - v2)), .inl, fun i a => .inr (i, a), fun _ k w => Sum.elim (fun _ => k .ret (Sh.enc ⟨[(4, false, [.bool])], []⟩ (false, ()))) (fun _ => k (.exit 2) (Sh.enc ⟨[(4, false, [.undef])], []⟩ ())) w⟩
theorem i_TableOk_L1_s : LS Tryz.prog i_TableOk_x [1] (leC 2 i_TableOk_L1_h i_TableOk_L1_d) := loopC st (orcOf_ok i_TableOk_o) _ i_TableOk_L1_d [] trivial (by kernel_rfl) (fun _ => by kernel_rfl) fun _ _ _ _ _ _ => by kernel_rfl
theorem i_TableOk_L1_k {v0 : List Tupl} {v1 v2 : Int} {v3 : Tabl} (h0 : 0 ≤ v2) (h1 : v1 ≤ 4611686018427387904) (h2 : sS v0) (h3 : sm_tabl v3) (h4 : v1 ≤ (v0.length : Int)) : (i_TableOk_L1_d (v0, v1, v2, v3, ())).U v1 (fun _ _ => True) (fun _ => True) :=
  LC.okU (i := v2) (a := ()) (fun _ _ => rfl) (fun _ => rfl) rfl h0 h1 trivial fun v2 _ hj hk hv => by
    refine Tr.G2 ?_ fun _ => Tr.C ?_ fun _ _ _ => Tr.I (fun _ => Tr.Ro trivial) fun _ => Tr.C ?_ fun _ _ _ => Tr.Z (by kernel_rfl)
    all_goals (grind)
noncomputable def i_TableOk : FT (Tabl × Limi × Unit) (Bool) (fun x => wS x.1.conns ∧ smE sm_conn x.1.conns ∧ wS x.1.waiting) (fun x v => (v = true → x.1.conns.length ≤ 16 ∧ x.1.waiting.length ≤ 16)) := ⟨fun (x0, x1, _) =>
    .bnd (β := Bool × Unit) (.cal i_LimitsOk.c (x1, ()) fun c1 =>
      .ite (!c1) (.ret (true, ())) <|
      .ite (decide (x1.conns < (x0.conns.length : Int))) (.ret (true, ())) <|
      .ret ((decide (x1.waiting < (x0.waiting.length : Int))), ())) fun (u2a0, _) =>
    .ite u2a0 (.ret false) <|
    .lp (i_TableOk_L0_d (x0.conns, (x0.conns.length : Int), 0, x0, ())).lp fun w5 => .sum w5 (fun _ =>
    .ret false) <|
    fun _ =>
    .lp (i_TableOk_L1_d (x0.waiting, (x0.waiting.length : Int), 0, x0, ())).lp fun w8 => .sum w8 (fun _ =>
    .ret false) <|
    fun _ =>
    .ret true,
  fun (x0, x1, _) hp => by
    refine Tr.B (Q' := fun w => (w.1 = false → x1.halves ≤ 64 ∧ x1.waiting ≤ 16 ∧ x1.conns ≤ 16)) (Tr.C trivial fun _ _ _ => Tr.I (fun _ => Tr.R ?_) fun _ => Tr.I (fun _ => Tr.R ?_) fun _ => Tr.R ?_) (fun (u2a0, _) _ _ => Tr.I (fun _ => Tr.R ?_) fun _ => Tr.L (i_TableOk_L0_k ?_ ?_ ?_ ?_ ?_) (fun _ _ => Tr.Sr (Tr.L (i_TableOk_L1_k ?_ ?_ ?_ ?_ ?_) (fun _ _ => Tr.Sr (Tr.R ?_)) (fun _ _ => Tr.Sl (Tr.R ?_)))) (fun _ _ => Tr.Sl (Tr.R ?_)))
    all_goals ((try simp only [i_TableOk_L0_d, i_TableOk_L1_d, LC.lp, LC.ct, Ct.lp, Tr.nice, letK] at *) <;> grind)⟩
noncomputable def i_TableOk_e := entT st i_TableOk_x i_TableOk_o [(leC 0 i_TableOk_L0_h i_TableOk_L0_d), (leC 2 i_TableOk_L1_h i_TableOk_L1_d)] (ks := [.st .tabl, .st .limi]) i_TableOk (fun v => [(false, [.c (.bool v)])]) Tryz.func47 ⟨i_TableOk_L0_s, i_TableOk_L1_s, trivial⟩ fun _ => by kernel_rfl
/-- impl.HalvesOk -/
noncomputable def i_HalvesOk_o : List (Ent1 Tryz.prog) := [i_TupleOk_e, i_WordOk_e, i_OptionsOk_e, i_within_e, i_FindHalf_e]
def i_HalvesOk_L0_h : Sh := ⟨[(0, false, [.sl .arg .half]), (8, false, [.sl .arg .half]), (9, false, [.int .i64]), (10, false, [.int .i64])], []⟩
noncomputable def i_HalvesOk_x : Fx := ⟨48, Tryz.f48, [(0, la ⟨[0, 8, 9, 10], [], false, 0⟩ ⟨[2], [], false, 0⟩)], 0⟩
noncomputable def i_HalvesOk_L0_T (v0 v1 : List Half) (v3 : Int) (a : Unit) : Tr (Stp (Unit) ((Unit))) :=
  .grd ((decide (0 ≤ v3)) && (decide (v3 < (v1.length : Int)))) <|
  .cal i_TupleOk.c ((v1.getD v3.toNat (Ty.zero .half)).tuple, ()) fun c1 =>
  .ite (!c1) (.ret (.out ())) <|
  .cal i_WordOk.c ((v1.getD v3.toNat (Ty.zero .half)).iss, 32, ()) fun c2 =>
  .ite (!c2) (.ret (.out ())) <|
  .cal i_WordOk.c ((v1.getD v3.toNat (Ty.zero .half)).irs, 32, ()) fun c3 =>
  .ite (!c3) (.ret (.out ())) <|
  .cal i_WordOk.c ((v1.getD v3.toNat (Ty.zero .half)).window, 16, ()) fun c4 =>
  .ite (!c4) (.ret (.out ())) <|
  .cal i_OptionsOk.c ((v1.getD v3.toNat (Ty.zero .half)).opts, ()) fun c5 =>
  .ite (!c5) (.ret (.out ())) <|
  .val (i_within.f ((v1.getD v3.toNat (Ty.zero .half)).age, 0, 6, ())) fun c6 =>
  .ite (!c6) (.ret (.out ())) <|
  .cal i_FindHalf.c (v0, (v1.getD v3.toNat (Ty.zero .half)).tuple, ()) fun c7 =>
  .ite (c7 != v3) (.ret (.out ())) <|
  .ret (.next ())
noncomputable def i_HalvesOk_L0_d : i_HalvesOk_L0_h.V → LC i_HalvesOk_L0_h (Unit) ((Unit)) (((Unit)) ⊕ (Int × Unit)) := fun (v0, v1, v2, v3, _) => ⟨v3, (), fun v3 _ => (v0, v1, v2, v3, ()), fun v3 _ => (decide (v3 < v2)), i_HalvesOk_L0_T v0 v1, up, 1, (Int.toNat (v2 - v3)), .inl, fun i a => .inr (i, a), fun _ k w => Sum.elim (fun _ => k .ret (Sh.enc ⟨[(2, false, [.bool])], []⟩ (false, ()))) (fun _ => k (.exit 0) (Sh.enc ⟨[(2, false, [.undef])], []⟩ ())) w⟩
theorem i_HalvesOk_L0_s : LS Tryz.prog i_HalvesOk_x [0] (leC 0 i_HalvesOk_L0_h i_HalvesOk_L0_d) := loopC st (orcOf_ok i_HalvesOk_o) _ i_HalvesOk_L0_d [] trivial (by kernel_rfl) (fun _ => by kernel_rfl) fun _ _ _ _ _ _ => by kernel_rfl
theorem i_HalvesOk_L0_k {v0 v1 : List Half} {v2 v3 : Int} (h0 : 0 ≤ v3) (h1 : v2 ≤ 4611686018427387904) (h2 : wS v0) (h3 : v2 ≤ (v1.length : Int)) : (i_HalvesOk_L0_d (v0, v1, v2, v3, ())).U v2 (fun _ _ => True) (fun _ => True) :=
  LC.okU (i := v3) (a := ()) (fun _ _ => rfl) (fun _ => rfl) rfl h0 h1 trivial fun v3 _ hj hk hv => by
    refine Tr.G2 ?_ fun _ => Tr.C trivial fun _ _ _ => Tr.I (fun _ => Tr.Ro trivial) fun _ => Tr.C trivial fun _ _ _ => Tr.I (fun _ => Tr.Ro trivial) fun _ => Tr.C trivial fun _ _ _ => Tr.I (fun _ => Tr.Ro trivial) fun _ => Tr.C trivial fun _ _ _ => Tr.I (fun _ => Tr.Ro trivial) fun _ => Tr.C trivial fun _ _ _ => Tr.I (fun _ => Tr.Ro trivial) fun _ => Tr.V fun _ _ => Tr.I (fun _ => Tr.Ro trivial) fun _ => Tr.C ?_ fun _ _ _ => Tr.Z (by kernel_rfl)
    all_goals (grind)
noncomputable def i_HalvesOk : FT (List Half × Unit) (Bool) (fun x => wS x.1) (fun x v => (v = true → x.1.length ≤ 64)) := ⟨fun (x0, _) =>
    .ite (decide (64 < (x0.length : Int))) (.ret false) <|
    .lp (i_HalvesOk_L0_d (x0, x0, (x0.length : Int), 0, ())).lp fun w8 => .sum w8 (fun _ =>
    .ret false) <|
    fun _ =>
    .ret true,
  fun (x0, _) hp => by
    refine Tr.I (fun _ => Tr.R ?_) fun _ => Tr.L (i_HalvesOk_L0_k ?_ ?_ ?_ ?_) (fun _ _ => Tr.Sr (Tr.R ?_)) (fun _ _ => Tr.Sl (Tr.R ?_))
    all_goals ((try simp only [i_HalvesOk_L0_d, LC.lp, LC.ct, Ct.lp] at *) <;> grind)⟩
noncomputable def i_HalvesOk_e := entT st i_HalvesOk_x i_HalvesOk_o [(leC 0 i_HalvesOk_L0_h i_HalvesOk_L0_d)] (ks := [.sc (.sl .half)]) i_HalvesOk (fun v => [(false, [.c (.bool v)])]) Tryz.func48 ⟨i_HalvesOk_L0_s, trivial⟩ fun _ => by kernel_rfl
/-- spec.MacOf -/
noncomputable def s_MacOf_o : List (Ent1 Tryz.prog) := [s_SipHash_e]
def s_MacOf_L0_h : Sh := ⟨[(1, false, [.str]), (2, false, [.ptr 0 0]), (5, false, [.int .i64])], [.box [.st .mac [.sl .arg]]]⟩
noncomputable def s_MacOf_x : Fx := ⟨182, Tryz.f182, [(0, la ⟨[1, 2, 5], [], false, 0⟩ ⟨[4], [], false, 0⟩)], 0⟩
noncomputable def s_MacOf_L0_T (v0 : Bytes) (v2 : Mac) (v1 : Int) (a : Unit) : Tr (Stp (Unit) ((Int))) :=
  .grd ((decide (0 ≤ v1)) && (decide (v1 < (v2.rows.length : Int)))) <|
  .ite ((v2.rows.getD v1.toNat (Ty.zero .macRow)).input == v0) (.grd ((decide (0 ≤ v1)) && (decide (v1 < (v2.rows.length : Int)))) <|
    .ite (decide ((((v2.rows.getD v1.toNat (Ty.zero .macRow)).value).tmod 16777216) < 0)) (.val (IntKind.wrap .i64 ((((v2.rows.getD v1.toNat (Ty.zero .macRow)).value).tmod 16777216) + 16777216)) fun e2 =>
      .ret (.out e2)) <|
    .ret (.out (((v2.rows.getD v1.toNat (Ty.zero .macRow)).value).tmod 16777216))) <|
  .ret (.next ())
noncomputable def s_MacOf_L0_d : s_MacOf_L0_h.V → LC s_MacOf_L0_h (Unit) ((Int)) (((Int)) ⊕ (Int × Unit)) := fun (v0, v1, v2, _) => ⟨v1, (), fun v1 _ => (v0, v1, v2, ()), fun v1 _ => (decide (v1 < (v2.rows.length : Int))), s_MacOf_L0_T v0 v2, up, 1, (Int.toNat ((v2.rows.length : Int) - v1)), .inl, fun i a => .inr (i, a), fun _ k w => Sum.elim (fun p => k .ret (Sh.enc ⟨[(4, false, [.int .i64])], []⟩ (p, ()))) (fun _ => k (.exit 0) (Sh.enc ⟨[(4, false, [.undef])], []⟩ ())) w⟩
theorem s_MacOf_L0_s : LS Tryz.prog s_MacOf_x [0] (leC 0 s_MacOf_L0_h s_MacOf_L0_d) := loopC st (orcOf_ok s_MacOf_o) _ s_MacOf_L0_d [] trivial (by kernel_rfl) (fun _ => by kernel_rfl) fun _ _ _ _ _ _ => by kernel_rfl
theorem s_MacOf_L0_k {v0 : Bytes} {v1 : Int} {v2 : Mac} (h0 : 0 ≤ v1) (h1 : (v2.rows.length : Int) ≤ 4611686018427387904) : (s_MacOf_L0_d (v0, v1, v2, ())).U (v2.rows.length : Int) (fun _ _ => True) (fun _ => True) :=
  LC.okU (i := v1) (a := ()) (fun _ _ => rfl) (fun _ => rfl) rfl h0 h1 trivial fun v1 _ hj hk hv => by
    refine Tr.G2 ?_ fun _ => Tr.I (fun _ => Tr.G2 ?_ fun _ => Tr.Z (by kernel_rfl)) fun _ => Tr.Rn trivial
    all_goals (grind)
noncomputable def s_MacOf : FT (Mac × Bytes × Unit) (Int) (fun x => sm_mac x.1 ∧ sS x.2.1) (fun _ _ => True) := ⟨fun (x0, x1, _) =>
    .ite (!x0.use) (.cal s_SipHash.c (x0.k, x0.l, x1, ()) fun c1 =>
      .ret (IntKind.wrap .i64 (c1.tmod 16777216))) <|
    .lp (s_MacOf_L0_d (x1, 0, x0, ())).lp fun w3 => .sum w3 (fun p3a0 =>
    .ret p3a0) <|
    fun _ =>
    .ret 0,
  fun (x0, x1, _) hp => by
    refine Tr.I (fun _ => Tr.C ?_ fun _ _ _ => Tr.R trivial) fun _ => Tr.L (s_MacOf_L0_k ?_ ?_) (fun _ _ => Tr.Sr (Tr.R trivial)) (fun p3a0 _ => Tr.Sl (Tr.R trivial))
    all_goals ((try simp only [s_MacOf_L0_d, LC.lp, LC.ct, Ct.lp] at *) <;> grind)⟩
noncomputable def s_MacOf_e := entT st s_MacOf_x s_MacOf_o [(leC 0 s_MacOf_L0_h s_MacOf_L0_d)] (ks := [.st .mac, .sc .str]) s_MacOf (fun v => [(false, [.c (.int .i64 v)])]) Tryz.func182 ⟨s_MacOf_L0_s, trivial⟩ fun _ => by kernel_rfl
/-- spec.Receive -/
noncomputable def s_Receive_o : List (Ent1 Tryz.prog) := [s_l19Copy_e, s_Verdict_e, s_Has_e, s_AckOf_e, s_Heard_e, s_Pump_e, s_SegmentLen_e]
def s_Receive_J46_a : An := ⟨⟨[], [], false, 0⟩, ⟨[2, 3, 4, 5, 6, 7, 8, 9], [], false, 0⟩, ⟨[], []⟩, [(.normal, ⟨[(2, false, [.ptr 0 0]), (3, false, [.ptr 1 0]), (4, false, [.ptr 2 0]), (5, false, [.nil]), (6, false, [.int .i64]), (7, false, [.ptr 3 0]), (8, false, [.own 4]), (9, false, [.int .i64])], [.box [.st .conn [.sl .arg]], .box [.st .segm []], .box [.st .conn [.nil .piec]], .box [.st .conn [.own 5]], .arr .segm false true, .of false true]⟩)]⟩
noncomputable def s_Receive_x : Fx := ⟨216, Tryz.f216, [(1000046, s_Receive_J46_a), (3000014, rA 0 46), (3000022, rA 0 78)], 0⟩
noncomputable def s_Receive : FT (Conn × Segm × Unit) (Conn × List Segm × Int) (fun x => sm_conn x.1 ∧ sm_segm x.2.1) (fun x v => sm_conn v.1 ∧ sL sm_segm v.2.1) := ⟨fun (x0, x1, _) =>
    .cal s_l19Copy.c (x0, ()) fun c1 =>
    .cal s_Verdict.c (x0, x1, ()) fun c2 =>
    .ite (c2 == 1) (.ret (c1, [], c2)) <|
    .ite (c2 == 2) (.ret (({ c1 with state := 8, timer := 0, tries := 0 } : Conn), [], c2)) <|
    .ite (c2 == 3) (.ite (c2 == 3) (.bnd (β := Bool × Unit) (.ite (c2 == 4) (.ite (x0.state == 7) (.val (s_Has.f (x1, 1, ())) fun c3 =>
              .ret (c3, ())) <|
            .ret (false, ())) <|
          .ret (false, ())) fun (u4a0, _) =>
        .bnd (β := WT s_Receive_J46_a.es) (.ite u4a0 (.ret (0, c2, x0, x1, (⟨⟨0, 0, 0⟩, 0, ⟨0, [], 0, false, false, false⟩, ⟨0, [], [], 0, false⟩, 0, 0, ⟨0, 0, false, false, 0, 0⟩, 0, 0⟩ : Conn), ({ c1 with timer := 4 } : Conn), [], ())) <|
          .ret (0, c2, x0, x1, (⟨⟨0, 0, 0⟩, 0, ⟨0, [], 0, false, false, false⟩, ⟨0, [], [], 0, false⟩, 0, 0, ⟨0, 0, false, false, 0, 0⟩, 0, 0⟩ : Conn), c1, [], ())) fun (_, u5a1, u5a2, _, _, u5a5, _, _) =>
        .cal s_AckOf.c (u5a2, ()) fun c6 =>
        .ret (u5a5, [c6], u5a1)) <|
      .cal s_Heard.c (x0, x1, ()) fun c7 =>
      .ite (c7.state == 8) (.ret (c7, [], c2)) <|
      .cal s_AckOf.c (c7, ()) fun c8 =>
      .cal s_Pump.c (c7, c7.window, ()) fun c9 =>
      .bnd (β := Bool × Unit) (.cal s_SegmentLen.c (x1, ()) fun c10 =>
        .ite (decide (0 < c10)) (.ret (((c9.2.length : Int) == 0), ())) <|
        .ret (false, ())) fun (u11a0, _) =>
      .ite u11a0 (.grd (Nat.ble ((2 * (c9.2.length + 1) + 1024) * 104) maxSl) <|
        .ret (c9.1, (c9.2 ++ [c8]), c2)) <|
      .ret (c9.1, c9.2, c2)) <|
    .ite (c2 == 4) (.bnd (β := Bool × Unit) (.ite (c2 == 4) (.ite (x0.state == 7) (.val (s_Has.f (x1, 1, ())) fun c12 =>
            .ret (c12, ())) <|
          .ret (false, ())) <|
        .ret (false, ())) fun (u13a0, _) =>
      .bnd (β := WT s_Receive_J46_a.es) (.ite u13a0 (.ret (0, c2, x0, x1, (⟨⟨0, 0, 0⟩, 0, ⟨0, [], 0, false, false, false⟩, ⟨0, [], [], 0, false⟩, 0, 0, ⟨0, 0, false, false, 0, 0⟩, 0, 0⟩ : Conn), ({ c1 with timer := 4 } : Conn), [], ())) <|
        .ret (0, c2, x0, x1, (⟨⟨0, 0, 0⟩, 0, ⟨0, [], 0, false, false, false⟩, ⟨0, [], [], 0, false⟩, 0, 0, ⟨0, 0, false, false, 0, 0⟩, 0, 0⟩ : Conn), c1, [], ())) fun (_, u14a1, u14a2, _, _, u14a5, _, _) =>
      .cal s_AckOf.c (u14a2, ()) fun c15 =>
      .ret (u14a5, [c15], u14a1)) <|
    .cal s_Heard.c (x0, x1, ()) fun c16 =>
    .ite (c16.state == 8) (.ret (c16, [], c2)) <|
    .cal s_AckOf.c (c16, ()) fun c17 =>
    .cal s_Pump.c (c16, c16.window, ()) fun c18 =>
    .bnd (β := Bool × Unit) (.cal s_SegmentLen.c (x1, ()) fun c19 =>
      .ite (decide (0 < c19)) (.ret (((c18.2.length : Int) == 0), ())) <|
      .ret (false, ())) fun (u20a0, _) =>
    .ite u20a0 (.grd (Nat.ble ((2 * (c18.2.length + 1) + 1024) * 104) maxSl) <|
      .ret (c18.1, (c18.2 ++ [c17]), c2)) <|
    .ret (c18.1, c18.2, c2),
  fun (x0, x1, _) hp => by
    refine Tr.C ?_ fun _ _ _ => Tr.C ?_ fun _ _ _ => Tr.I (fun _ => Tr.R ?_) fun _ => Tr.I (fun _ => Tr.R ?_) fun _ => Tr.I (fun _ => Tr.I (fun _ => Tr.B (Q' := fun _ => True) (Tr.F (by kernel_rfl) trivial) (fun (u4a0, _) _ _ => Tr.B (Q' := fun w => sm_conn w.2.2.1 ∧ sm_segm w.2.2.2.1 ∧ sm_conn w.2.2.2.2.1 ∧ sm_conn w.2.2.2.2.2.1 ∧ sL sm_segm w.2.2.2.2.2.2.1) (Tr.I (fun _ => Tr.R ?_) fun _ => Tr.R ?_) (fun (u5a0, u5a1, u5a2, u5a3, u5a4, u5a5, u5a6, _) _ _ => Tr.C ?_ fun _ _ _ => Tr.R ?_))) fun _ => Tr.C ?_ fun _ _ _ => Tr.I (fun _ => Tr.R ?_) fun _ => Tr.C ?_ fun _ _ _ => Tr.C ?_ fun _ _ _ => Tr.B (Q' := fun _ => True) (Tr.C ?_ fun _ _ _ => Tr.F (by kernel_rfl) trivial) (fun (u11a0, _) _ _ => Tr.I (fun _ => Tr.Gb ?_ fun _ => Tr.R ?_) fun _ => Tr.R ?_)) fun _ => Tr.I (fun _ => Tr.B (Q' := fun _ => True) (Tr.F (by kernel_rfl) trivial) (fun (u13a0, _) _ _ => Tr.B (Q' := fun w => sm_conn w.2.2.1 ∧ sm_segm w.2.2.2.1 ∧ sm_conn w.2.2.2.2.1 ∧ sm_conn w.2.2.2.2.2.1 ∧ sL sm_segm w.2.2.2.2.2.2.1) (Tr.I (fun _ => Tr.R ?_) fun _ => Tr.R ?_) (fun (u14a0, u14a1, u14a2, u14a3, u14a4, u14a5, u14a6, _) _ _ => Tr.C ?_ fun _ _ _ => Tr.R ?_))) fun _ => Tr.C ?_ fun _ _ _ => Tr.I (fun _ => Tr.R ?_) fun _ => Tr.C ?_ fun _ _ _ => Tr.C ?_ fun _ _ _ => Tr.B (Q' := fun _ => True) (Tr.C ?_ fun _ _ _ => Tr.F (by kernel_rfl) trivial) (fun (u20a0, _) _ _ => Tr.I (fun _ => Tr.Gb ?_ fun _ => Tr.R ?_) fun _ => Tr.R ?_)
    all_goals ((try simp only [Tr.nice, letK] at *) <;> grind)⟩
noncomputable def s_Receive_e := entT st s_Receive_x s_Receive_o [] (ks := [.st .conn, .st .segm]) s_Receive (fun v => [(true, q_conn (.o true) v.1), (false, [sc (.o true) .segm v.2.1]), (false, [.c (.int .i64 v.2.2)])]) Tryz.func216 trivial fun _ => by kernel_rfl
/-- spec.l1Byte -/
noncomputable def s_l1Byte : FT (Curs × Unit) (Int × Curs) (fun x => sm_curs x.1) (fun x v => sm_curs v.2 ∧ 0 ≤ v.1 ∧ v.1 ≤ 255) := ⟨fun (y0, _) =>
    .val (IntKind.wrap .i64 ((IntKind.wrap .i64 (y0.h * 6364136223846793005)) + 1442695040888963407)) fun e1 =>
    .val (bits .and .i64 (bits .xor .i64 (e1.fdiv 8589934592) (e1.fdiv 35184372088832)) 255) fun e2 =>
    .ite (decide (y0.i < (y0.b.length : Int))) (.grd ((decide (0 ≤ y0.i)) && (decide (y0.i < (y0.b.length : Int)))) <|
      .val (IntKind.wrap .i64 (e2 + (IntKind.wrap .i64 (y0.b.getD y0.i.toNat 0)))) fun e3 =>
      .ret ((bits .and .i64 e3 255), (⟨y0.b, (IntKind.wrap .i64 (y0.i + 1)), e1⟩ : Curs))) <|
    .ret (e2, ({ y0 with h := e1 } : Curs)),
  fun (y0, _) hp => by
    refine Tr.V fun _ _ => Tr.V fun _ _ => Tr.I (fun _ => Tr.G2 ?_ fun _ => Tr.V fun _ _ => Tr.R ?_) fun _ => Tr.R ?_
    all_goals (grind)⟩
noncomputable def s_l1Byte_e := entM st ⟨120, Tryz.f120, [], 1⟩ [] [] [.wr false [.ptr 0]] [.box [.st .curs]] (fun x y => (y.1.1, ())) s_l1Byte (fun v => [(false, [.c (.int .i64 v.1)])]) (fun x y v => ((v.2, ()), ())) Tryz.func120 (by kernel_rfl) trivial fun _ _ => by kernel_rfl
/-- impl.MacOk$1 -/
noncomputable def i_MacOk_1 : FT (MacRow × MacRow × Unit) (Bool) (fun _ => True) (fun _ _ => True) := ⟨fun (x0, y1, _) =>
    .ret (x0.input == y1.input),
  fun (x0, y1, _) hp => by
    refine Tr.R trivial⟩
noncomputable def i_MacOk_1_e := entM st ⟨140, Tryz.f140, [], 1⟩ [] [] [.st .macRow, .wr false [.ptr 0]] [.box [.st .macRow]] (fun x y => (x.1, y.1.1, ())) i_MacOk_1 (fun v => [(false, [.c (.bool v)])]) (fun x y v => ((y.1.1, ()), ())) Tryz.func140 (by kernel_rfl) trivial fun _ _ => by kernel_rfl
/-- slices.IndexFunc[[]impl.MacRow,impl.MacRow] -/
noncomputable def g_IndexFunc_MacRow_i_MacOk_1_o : List (Ent1 Tryz.prog) := [i_MacOk_1_e]
def g_IndexFunc_MacRow_i_MacOk_1_L0_h : Sh := ⟨[(0, false, [.sl .arg .macRow]), (1, false, [.fn 140 [0]]), (7, false, [.int .i64]), (8, false, [.int .i64])], [.box [.st .macRow []]]⟩
noncomputable def g_IndexFunc_MacRow_i_MacOk_1_x : Fx := ⟨185, Tryz.f185, [(0, la ⟨[0, 1, 7, 8], [], false, 1⟩ ⟨[4], [], false, 1⟩)], 1⟩
noncomputable def g_IndexFunc_MacRow_i_MacOk_1_L0_T (v0 : List MacRow) (v3 : MacRow) (v2 : Int) (a : Unit) : Tr (Stp (Unit) ((Int))) :=
  .grd ((decide (0 ≤ v2)) && (decide (v2 < (v0.length : Int)))) <|
  .cal i_MacOk_1.c ((v0.getD v2.toNat (Ty.zero .macRow)), v3, ()) fun c1 =>
  .ite c1 (.ret (.out v2)) <|
  .ret (.next ())
noncomputable def g_IndexFunc_MacRow_i_MacOk_1_L0_d : g_IndexFunc_MacRow_i_MacOk_1_L0_h.V → LC g_IndexFunc_MacRow_i_MacOk_1_L0_h (Unit) ((Int)) (((Int)) ⊕ (Int × Unit)) := fun (v0, v1, v2, v3, _) => ⟨v2, (), fun v2 _ => (v0, v1, v2, v3, ()), fun v2 _ => (decide (v2 < v1)), g_IndexFunc_MacRow_i_MacOk_1_L0_T v0 v3, up, 1, (Int.toNat (v1 - v2)), .inl, fun i a => .inr (i, a), fun _ k w => Sum.elim (fun p => k .ret (Sh.enc ⟨[(4, false, [.int .i64])], [.box [.st .macRow []]]⟩ (p, v3, ()))) (fun _ => k (.exit 0) (Sh.enc ⟨[(4, false, [.undef])], [.box [.st .macRow []]]⟩ (v3, ()))) w⟩
theorem g_IndexFunc_MacRow_i_MacOk_1_L0_s : LS Tryz.prog g_IndexFunc_MacRow_i_MacOk_1_x [0] (leC 0 g_IndexFunc_MacRow_i_MacOk_1_L0_h g_IndexFunc_MacRow_i_MacOk_1_L0_d) := loopC st (orcOf_ok g_IndexFunc_MacRow_i_MacOk_1_o) _ g_IndexFunc_MacRow_i_MacOk_1_L0_d [] trivial (by kernel_rfl) (fun _ => by kernel_rfl) fun _ _ _ _ _ _ => by kernel_rfl
theorem g_IndexFunc_MacRow_i_MacOk_1_L0_k {v0 : List MacRow} {v1 v2 : Int} {v3 : MacRow} (h0 : 0 ≤ v2) (h1 : v1 ≤ 4611686018427387904) (h2 : v1 ≤ (v0.length : Int)) : (g_IndexFunc_MacRow_i_MacOk_1_L0_d (v0, v1, v2, v3, ())).U v1 (fun _ _ => True) (fun p => v2 ≤ p ∧ p < v1) :=
  LC.okU (i := v2) (a := ()) (fun _ _ => rfl) (fun _ => rfl) rfl h0 h1 trivial fun v2 _ hj hk hv => by
    refine Tr.G2 ?_ fun _ => Tr.C trivial fun _ _ _ => Tr.I (fun _ => Tr.Ro ?_) fun _ => Tr.Rn trivial
    all_goals (grind)
noncomputable def g_IndexFunc_MacRow_i_MacOk_1 : FT (List MacRow × MacRow × Unit) (Int) (fun x => wS x.1) (fun x v => -1 ≤ v ∧ v < x.1.length) := ⟨fun (x0, y1_0, _) =>
    .lp (g_IndexFunc_MacRow_i_MacOk_1_L0_d (x0, (x0.length : Int), 0, y1_0, ())).lp fun w2 => .sum w2 (fun p2a0 =>
    .ret p2a0) <|
    fun _ =>
    .ret (-1),
  fun (x0, y1_0, _) hp => by
    refine Tr.L (g_IndexFunc_MacRow_i_MacOk_1_L0_k ?_ ?_ ?_) (fun _ _ => Tr.Sr (Tr.R ?_)) (fun p2a0 _ => Tr.Sl (Tr.R ?_))
    all_goals ((try simp only [g_IndexFunc_MacRow_i_MacOk_1_L0_d, LC.lp, LC.ct, Ct.lp] at *) <;> grind)⟩
noncomputable def g_IndexFunc_MacRow_i_MacOk_1_e := entM st g_IndexFunc_MacRow_i_MacOk_1_x g_IndexFunc_MacRow_i_MacOk_1_o [(leC 0 g_IndexFunc_MacRow_i_MacOk_1_L0_h g_IndexFunc_MacRow_i_MacOk_1_L0_d)] [.sc (.sl .macRow), .fn 140 [0]] [.box [.st .macRow]] (fun x y => (x.1, y.1.1, ())) g_IndexFunc_MacRow_i_MacOk_1 (fun v => [(false, [.c (.int .i64 v)])]) (fun x y v => ((y.1.1, ()), ())) Tryz.func185 (by kernel_rfl) ⟨g_IndexFunc_MacRow_i_MacOk_1_L0_s, trivial⟩ fun _ _ => by kernel_rfl
/-- spec.l1Below -/
noncomputable def s_l1Below : FT (Curs × Int × Unit) (Int × Curs) (fun x => sm_curs x.1) (fun x v => sm_curs v.2 ∧ 0 ≤ v.1 ∧ (0 < x.2.1 → v.1 < x.2.1)) := ⟨fun (y0, x1, _) =>
    .ite (decide (x1 ≤ 0)) (.ret (0, y0)) <|
    .ite (decide (x1 ≤ 256)) (.cal s_l1Byte.c (y0, ()) fun c1 =>
      .grd (x1 != 0) <|
      .ret ((c1.1.tmod x1), c1.2)) <|
    .cal s_l1Byte.c (y0, ()) fun c2 =>
    .cal s_l1Byte.c (c2.2, ()) fun c3 =>
    .cal s_l1Byte.c (c3.2, ()) fun c4 =>
    .cal s_l1Byte.c (c4.2, ()) fun c5 =>
    .val (IntKind.wrap .i64 ((IntKind.wrap .i64 (c2.1 * 16777216)) + (IntKind.wrap .i64 (c3.1 * 65536)))) fun e6 =>
    .val (IntKind.wrap .i64 ((IntKind.wrap .i64 (e6 + (IntKind.wrap .i64 (c4.1 * 256)))) + c5.1)) fun e7 =>
    .grd (x1 != 0) <|
    .ret ((e7.tmod x1), c5.2),
  fun (y0, x1, _) hp => by
    refine Tr.I (fun b0 => Tr.R ?_) fun b0 => Tr.I (fun b1 => Tr.C ?_ fun c1 hc1 qc1 => Tr.G ?_ fun g2 => Tr.R ?_) fun b1 => Tr.C ?_ fun c2 hc2 qc2 => Tr.C ?_ fun c3 hc3 qc3 => Tr.C ?_ fun c4 hc4 qc4 => Tr.C ?_ fun c5 hc5 qc5 => Tr.V fun e6 he6 => Tr.V fun e7 he7 => Tr.G ?_ fun g2 => Tr.R ?_
    all_goals ((first | grind | (refine ⟨by grind, tmod_nn ?_, fun h => tmod_lt h⟩; first | grind | (subst_vars; simp only [wrap64_def]; omega))))⟩
noncomputable def s_l1Below_e := entM st ⟨68, Tryz.f68, [], 1⟩ [s_l1Byte_e] [] [.wr false [.ptr 0], .sc (.int .i64)] [.box [.st .curs]] (fun x y => (y.1.1, x.2.1, ())) s_l1Below (fun v => [(false, [.c (.int .i64 v.1)])]) (fun x y v => ((v.2, ()), ())) Tryz.func68 (by kernel_rfl) trivial fun _ _ => by kernel_rfl
/-- spec.CookieOf -/
noncomputable def s_CookieOf : FT (Mac × Tupl × Int × Int × Int × Unit) (Int) (fun x => sm_mac x.1) (fun _ _ => True) := ⟨fun (x0, x1, x2, x3, x4, _) =>
    .cal s_MacInput.c (x1, x2, x3, x4, ()) fun c1 =>
    .ite (c1 == []) (.ret (-1)) <|
    .val (IntKind.wrap .i64 ((IntKind.wrap .i64 ((x3.tmod 32) * 134217728)) + (IntKind.wrap .i64 (x4 * 16777216)))) fun e2 =>
    .cal s_MacOf.c (x0, c1, ()) fun c3 =>
    .ret (IntKind.wrap .i64 (e2 + c3)),
  fun (x0, x1, x2, x3, x4, _) hp => by
    refine Tr.C trivial fun _ _ _ => Tr.I (fun _ => Tr.R trivial) fun _ => Tr.V fun _ _ => Tr.C ?_ fun _ _ _ => Tr.R trivial
    all_goals (grind)⟩
noncomputable def s_CookieOf_e := ent0 st Tryz.func133 [s_MacInput_e, s_MacOf_e] (ks := [.st .mac, .st .tupl, .sc (.int .i64), .sc (.int .i64), .sc (.int .i64)]) s_CookieOf (fun v => [(false, [.c (.int .i64 v)])]) fun _ => by kernel_rfl
/-- spec.l26Let -/
noncomputable def s_l26Let : FT (Door × Conn × Segm × Int × Unit) (Door × List Segm × Int) (fun x => sm_door x.1 ∧ sm_conn x.2.1 ∧ sm_segm x.2.2.1) (fun x v => sm_door v.1 ∧ sL sm_segm v.2.1) := ⟨fun (x0, x1, x2, x3, _) =>
    .cal s_l26Copy.c (x0, ()) fun c1 =>
    .cal s_PutConn.c (x0.table, x1, x0.limits, ()) fun c2 =>
    .ite (!c2.2) (.ret (c1, [], 0)) <|
    .cal s_Receive.c (x1, x2, ()) fun c3 =>
    .cal s_SetConn.c (c2.1, c3.1, ()) fun c4 =>
    .cal s_DropHalf.c (c1.halves, x1.tuple, ()) fun c5 =>
    .ret (({ c1 with halves := c5, table.conns := c4.conns, table.waiting := c4.waiting } : Door), c3.2.1, x3),
  fun (x0, x1, x2, x3, _) hp => by
    refine Tr.C ?_ fun _ _ _ => Tr.C ?_ fun _ _ _ => Tr.I (fun _ => Tr.R ?_) fun _ => Tr.C ?_ fun _ _ _ => Tr.C ?_ fun _ _ _ => Tr.C ?_ fun _ _ _ => Tr.R ?_
    all_goals (grind)⟩
noncomputable def s_l26Let_e := ent0 st Tryz.func190 [s_l26Copy_e, s_PutConn_e, s_Receive_e, s_SetConn_e, s_DropHalf_e] (ks := [.st .door, .st .conn, .st .segm, .sc (.int .i64)]) s_l26Let (fun v => [(true, q_door (.o true) (.o true) (.o true) (.o true) (.o true) v.1), (false, [sc (.o true) .segm v.2.1]), (false, [.c (.int .i64 v.2.2)])]) fun _ => by kernel_rfl
/-- spec.CheckCookie -/
noncomputable def s_CheckCookie_o : List (Ent1 Tryz.prog) := [s_CookieParts_e, s_KeysOk_e, s_SecretOf_e, s_CookieOf_e]
def s_CheckCookie_L0_h : Sh := ⟨[(2, false, [.int .i64]), (3, false, [.int .i64]), (4, false, [.ptr 0 0]), (5, false, [.ptr 1 0]), (12, false, [.int .i64]), (14, false, [.int .i64])], [.box [.st .keys [.sl .arg, .sl .arg]], .box [.st .tupl []]]⟩
noncomputable def s_CheckCookie_x : Fx := ⟨192, Tryz.f192, [(0, la ⟨[2, 3, 4, 5, 12, 14], [], false, 0⟩ ⟨[8, 9, 10], [], false, 0⟩), (3000002, rA 0 29), (3000008, rA 0 59)], 0⟩
noncomputable def s_CheckCookie_L0_T (v0 v1 v2 : Int) (v4 : Keys) (v5 : Tupl) (v3 : Int) (a : Unit) : Tr (Stp (Unit) ((Int) ⊕ (Unit))) :=
  .ite (decide ((IntKind.wrap .i64 (v4.epoch - 1)) ≤ v3)) (.cal s_SecretOf.c (v4, v3, ()) fun c4 =>
    .bnd (β := Bool × Unit) (.ite c4.2 (.cal s_CookieOf.c (c4.1, v5, v0, v3, v2, ()) fun c5 =>
        .ret ((c5 == v1), ())) <|
      .ret (false, ())) fun (u6a0, _) =>
    .ite u6a0 (.ret (.out (.inl v3))) <|
    .ret (.next ())) <|
  .ret (.out (.inr (())))
noncomputable def s_CheckCookie_L0_d : s_CheckCookie_L0_h.V → LC s_CheckCookie_L0_h (Unit) ((Int) ⊕ (Unit)) (((Int) ⊕ (Unit)) ⊕ (Int × Unit)) := fun (v0, v1, v2, v3, v4, v5, _) => ⟨v3, (), fun v3 _ => (v0, v1, v2, v3, v4, v5, ()), fun v3 _ => (decide (0 ≤ v3)), s_CheckCookie_L0_T v0 v1 v2 v4 v5, dn, (-1), (Int.toNat (v3 - 0 + 1)), .inl, fun i a => .inr (i, a), fun _ k w => Sum.elim (fun q => Sum.elim (fun p => k .ret (Sh.enc ⟨[(8, false, [.int .i64]), (9, false, [.int .i64]), (10, false, [.bool])], []⟩ (p, v2, true, ()))) (fun _ => k (.exit 0) (Sh.enc ⟨[(8, false, [.undef]), (9, false, [.undef]), (10, false, [.undef])], []⟩ ())) q) (fun _ => k (.exit 0) (Sh.enc ⟨[(8, false, [.undef]), (9, false, [.undef]), (10, false, [.undef])], []⟩ ())) w⟩
theorem s_CheckCookie_L0_s : LS Tryz.prog s_CheckCookie_x [0] (leC 0 s_CheckCookie_L0_h s_CheckCookie_L0_d) := loopC st (orcOf_ok s_CheckCookie_o) _ s_CheckCookie_L0_d [] trivial (by kernel_rfl) (fun _ => by kernel_rfl) fun _ _ _ _ _ _ => by kernel_rfl
theorem s_CheckCookie_L0_k {v0 v1 v2 v3 : Int} {v4 : Keys} {v5 : Tupl} (h0 : v3 ≤ 9223372036854775807) (h1 : sm_keys v4) : (s_CheckCookie_L0_d (v0, v1, v2, v3, v4, v5, ())).D 0 (fun _ _ => True) (fun _ => True) :=
  LC.okD (i := v3) (a := ()) (fun _ _ => rfl) (fun _ => rfl) rfl h0 (by decide) trivial fun v3 _ hj hk hv => by
    refine Tr.I (fun _ => Tr.C ?_ fun _ _ _ => Tr.B (Q' := fun _ => True) (Tr.I (fun _ => Tr.C ?_ fun _ _ _ => Tr.R trivial) fun _ => Tr.R trivial) (fun (u6a0, _) _ _ => Tr.Z (by kernel_rfl))) fun _ => Tr.Ro trivial
    all_goals ((try simp only [Tr.nice, letK] at *) <;> grind)
noncomputable def s_CheckCookie : FT (Keys × Tupl × Int × Int × Unit) (Int × Int × Bool) (fun x => sm_keys x.1) (fun _ _ => True) := ⟨fun (x0, x1, x2, x3, _) =>
    .cal s_CookieParts.c (x3, ()) fun c1 =>
    .bnd (β := Bool × Unit) (.cal s_KeysOk.c (x0, ()) fun c2 =>
      .ite (!c2) (.ret (true, ())) <|
      .ret ((decide (c1.2.1 < 0)), ())) fun (u3a0, _) =>
    .ite u3a0 (.ret (0, 0, false)) <|
    .lp (s_CheckCookie_L0_d (x2, x3, c1.2.1, x0.epoch, x0, x1, ())).lp fun w7 => .sum w7 (fun q7 => .sum q7 (fun p7a0 =>
    .ret (p7a0, c1.2.1, true)) <|
    fun _ =>
    .ret (0, 0, false)) <|
    fun _ =>
    .ret (0, 0, false),
  fun (x0, x1, x2, x3, _) hp => by
    refine Tr.C trivial fun _ _ _ => Tr.B (Q' := fun w => (w.1 = false → 0 ≤ x0.epoch ∧ x0.epoch ≤ 4294967295)) (Tr.C ?_ fun _ _ _ => Tr.I (fun _ => Tr.R ?_) fun _ => Tr.R ?_) (fun (u3a0, _) _ _ => Tr.I (fun _ => Tr.R trivial) fun _ => Tr.L (s_CheckCookie_L0_k ?_ ?_) (fun _ _ => Tr.Sr (Tr.R trivial)) (Tr.W2 (fun p7a0 _ => Tr.Sl (Tr.Sl (Tr.R trivial))) (fun _ _ => Tr.Sl (Tr.Sr (Tr.R trivial)))))
    all_goals ((try simp only [s_CheckCookie_L0_d, LC.lp, LC.ct, Ct.lp, Tr.nice, letK] at *) <;> grind)⟩
noncomputable def s_CheckCookie_e := entT st s_CheckCookie_x s_CheckCookie_o [(leC 0 s_CheckCookie_L0_h s_CheckCookie_L0_d)] (ks := [.st .keys, .st .tupl, .sc (.int .i64), .sc (.int .i64)]) s_CheckCookie (fun v => [(false, [.c (.int .i64 v.1)]), (false, [.c (.int .i64 v.2.1)]), (false, [.c (.bool v.2.2)])]) Tryz.func192 ⟨s_CheckCookie_L0_s, trivial⟩ fun _ => by kernel_rfl
/-- slices.ContainsFunc[[]impl.MacRow,impl.MacRow] -/
noncomputable def g_ContainsFunc_MacRow_i_MacOk_1 : FT (List MacRow × MacRow × Unit) (Bool) (fun x => sL sm_macRow x.1 ∧ sm_macRow x.2.1) (fun _ _ => True) := ⟨fun (x0, y1_0, _) =>
    .cal g_IndexFunc_MacRow_i_MacOk_1.c (x0, y1_0, ()) fun c1 =>
    .ret (decide (0 ≤ c1)),
  fun (x0, y1_0, _) hp => by
    refine Tr.C ?_ fun _ _ _ => Tr.R trivial
    all_goals (grind)⟩
noncomputable def g_ContainsFunc_MacRow_i_MacOk_1_e := entM st ⟨139, Tryz.f139, [], 1⟩ [g_IndexFunc_MacRow_i_MacOk_1_e] [] [.sc (.sl .macRow), .fn 140 [0]] [.box [.st .macRow]] (fun x y => (x.1, y.1.1, ())) g_ContainsFunc_MacRow_i_MacOk_1 (fun v => [(false, [.c (.bool v)])]) (fun x y v => ((y.1.1, ()), ())) Tryz.func139 (by kernel_rfl) trivial fun _ _ => by kernel_rfl
/-- spec.FirstSeq -/
noncomputable def s_FirstSeq_o : List (Ent1 Tryz.prog) := [s_MssIndex_e, s_CookieOf_e, s_l1Max_e]
def s_FirstSeq_J12_a : An := ⟨⟨[], [], false, 0⟩, ⟨[3, 4, 5, 6, 7], [], false, 0⟩, ⟨[], []⟩, [(.normal, ⟨[(3, false, [.ptr 0 0]), (4, false, [.ptr 1 0]), (5, false, [.ptr 2 0]), (6, false, [.int .i64]), (7, false, [.int .i64])], [.box [.st .door [.sl .arg, .sl .arg, .sl .arg, .sl .arg, .sl .arg]], .box [.st .tupl []], .box [.st .segm []]]⟩)]⟩
noncomputable def s_FirstSeq_x : Fx := ⟨87, Tryz.f87, [(1000012, s_FirstSeq_J12_a)], 0⟩
noncomputable def s_FirstSeq : FT (Door × Tupl × Segm × Unit) (Int) (fun x => sm_door x.1 ∧ sm_segm x.2.2.1) (fun _ _ => True) := ⟨fun (x0, x1, x2, _) =>
    .bnd (β := Int × Int × Door × Tupl × Segm × Unit) (.ite (x2.opts.mss == 0) (.ret (0, 536, x0, x1, x2, ())) <|
      .ret (0, x2.opts.mss, x0, x1, x2, ())) fun (_, u1a1, u1a2, u1a3, u1a4, _) =>
    .cal s_MssIndex.c (u1a1, ()) fun c2 =>
    .cal s_CookieOf.c (u1a2.keys.now, u1a3, u1a4.seq, u1a2.keys.epoch, c2, ()) fun c3 =>
    .val (s_l1Max.f (0, c3, ())) fun c4 =>
    .ret c4,
  fun (x0, x1, x2, _) hp => by
    refine Tr.B (Q' := fun w => sm_door w.2.2.1 ∧ sm_segm w.2.2.2.2.1) (Tr.I (fun _ => Tr.R ?_) fun _ => Tr.R ?_) (fun (u1a0, u1a1, u1a2, u1a3, u1a4, _) _ _ => Tr.C trivial fun _ _ _ => Tr.C ?_ fun _ _ _ => Tr.F (by kernel_rfl) trivial)
    all_goals ((try simp only [Tr.nice, letK] at *) <;> grind)⟩
noncomputable def s_FirstSeq_e := entT st s_FirstSeq_x s_FirstSeq_o [] (ks := [.st .door, .st .tupl, .st .segm]) s_FirstSeq (fun v => [(false, [.c (.int .i64 v)])]) Tryz.func87 trivial fun _ => by kernel_rfl
/-- impl.MacOk -/
noncomputable def i_MacOk_o : List (Ent1 Tryz.prog) := [i_within_e, g_ContainsFunc_MacRow_i_MacOk_1_e]
def i_MacOk_L0_h : Sh := ⟨[(1, false, [.ptr 0 0]), (27, false, [.sl .arg .macRow]), (28, false, [.int .i64]), (29, false, [.int .i64])], [.box [.st .mac [.sl .arg]]]⟩
noncomputable def i_MacOk_x : Fx := ⟨97, Tryz.f97, [(0, la ⟨[1, 27, 28, 29], [], false, 0⟩ ⟨[2], [], false, 0⟩), (3000003, rA 0 25)], 0⟩
noncomputable def i_MacOk_L0_T (v0 : List MacRow) (v3 : Mac) (v2 : Int) (a : Unit) : Tr (Stp (Unit) ((Unit))) :=
  .grd ((decide (0 ≤ v2)) && (decide (v2 < (v0.length : Int)))) <|
  .val (i_within.f ((v0.getD v2.toNat (Ty.zero .macRow)).value, 0, 16777215, ())) fun c2 =>
  .ite (!c2) (.ret (.out ())) <|
  .grd ((decide (0 ≤ v2)) && (decide (v2 ≤ (v3.rows.length : Int)))) <|
  .cal g_ContainsFunc_MacRow_i_MacOk_1.c (((v3.rows.take v2.toNat).drop 0), (v0.getD v2.toNat (Ty.zero .macRow)), ()) fun c3 =>
  .ite c3 (.ret (.out ())) <|
  .ret (.next ())
noncomputable def i_MacOk_L0_d : i_MacOk_L0_h.V → LC i_MacOk_L0_h (Unit) ((Unit)) (((Unit)) ⊕ (Int × Unit)) := fun (v0, v1, v2, v3, _) => ⟨v2, (), fun v2 _ => (v0, v1, v2, v3, ()), fun v2 _ => (decide (v2 < v1)), i_MacOk_L0_T v0 v3, up, 1, (Int.toNat (v1 - v2)), .inl, fun i a => .inr (i, a), fun _ k w => Sum.elim (fun _ => k .ret (Sh.enc ⟨[(2, false, [.bool])], []⟩ (false, ()))) (fun _ => k (.exit 0) (Sh.enc ⟨[(2, false, [.undef])], []⟩ ())) w⟩
theorem i_MacOk_L0_s : LS Tryz.prog i_MacOk_x [0] (leC 0 i_MacOk_L0_h i_MacOk_L0_d) := loopC st (orcOf_ok i_MacOk_o) _ i_MacOk_L0_d [] trivial (by kernel_rfl) (fun _ => by kernel_rfl) fun _ _ _ _ _ _ => by kernel_rfl
theorem i_MacOk_L0_k {v0 : List MacRow} {v1 v2 : Int} {v3 : Mac} (h0 : 0 ≤ v2) (h1 : v1 ≤ 4611686018427387904) (h2 : sL sm_macRow v0) (h3 : sm_mac v3) (h4 : v1 ≤ (v0.length : Int)) (h5 : v1 ≤ (v3.rows.length : Int)) : (i_MacOk_L0_d (v0, v1, v2, v3, ())).U v1 (fun _ _ => True) (fun _ => True) :=
  LC.okU (i := v2) (a := ()) (fun _ _ => rfl) (fun _ => rfl) rfl h0 h1 trivial fun v2 _ hj hk hv => by
    refine Tr.G2 ?_ fun _ => Tr.V fun _ _ => Tr.I (fun _ => Tr.Ro trivial) fun _ => Tr.G2 ?_ fun _ => Tr.C ?_ fun _ _ _ => Tr.Z (by kernel_rfl)
    all_goals (grind)
noncomputable def i_MacOk : FT (Mac × Unit) (Bool) (fun x => sm_mac x.1) (fun x v => (v = true → x.1.rows.length ≤ 64)) := ⟨fun (x0, _) =>
    .ite (!x0.use) (.ret ((x0.rows.length : Int) == 0)) <|
    .bnd (β := Bool × Unit) (.ite (x0.k != 0) (.ret (true, ())) <|
      .ite (x0.l != 0) (.ret (true, ())) <|
      .ret ((decide (64 < (x0.rows.length : Int))), ())) fun (u1a0, _) =>
    .ite u1a0 (.ret false) <|
    .lp (i_MacOk_L0_d (x0.rows, (x0.rows.length : Int), 0, x0, ())).lp fun w4 => .sum w4 (fun _ =>
    .ret false) <|
    fun _ =>
    .ret true,
  fun (x0, _) hp => by
    refine Tr.I (fun _ => Tr.R ?_) fun _ => Tr.B (Q' := fun _ => True) (Tr.F (by kernel_rfl) trivial) (fun (u1a0, _) _ _ => Tr.I (fun _ => Tr.R ?_) fun _ => Tr.L (i_MacOk_L0_k ?_ ?_ ?_ ?_ ?_ ?_) (fun _ _ => Tr.Sr (Tr.R ?_)) (fun _ _ => Tr.Sl (Tr.R ?_)))
    all_goals ((try simp only [i_MacOk_L0_d, LC.lp, LC.ct, Ct.lp, Tr.nice, letK] at *) <;> grind)⟩
noncomputable def i_MacOk_e := entT st i_MacOk_x i_MacOk_o [(leC 0 i_MacOk_L0_h i_MacOk_L0_d)] (ks := [.st .mac]) i_MacOk (fun v => [(false, [.c (.bool v)])]) Tryz.func97 ⟨i_MacOk_L0_s, trivial⟩ fun _ => by kernel_rfl
/-- spec.AckIn -/
noncomputable def s_AckIn_o : List (Ent1 Tryz.prog) := [s_l26Right_e, s_FindConn_e, s_l26Copy_e, s_FindHalf_e, s_SeqAdd_e, s_l26Reset_e, s_ConnNew_e, s_l26Let_e, s_CheckCookie_e, s_LearnedOptions_e]
noncomputable def s_AckIn_x : Fx := ⟨148, Tryz.f148, [(3000001, rA 0 27)], 0⟩
noncomputable def s_AckIn : FT (Door × Tupl × Segm × Unit) (Door × List Segm × Int) (fun x => sm_door x.1 ∧ sm_segm x.2.2.1) (fun x v => sm_door v.1 ∧ sL sm_segm v.2.1) := ⟨fun (x0, x1, x2, _) =>
    .bnd (β := Bool × Unit) (.cal s_l26Right.c (x0, x1, x2, ()) fun c1 =>
      .ite (!c1) (.ret (true, ())) <|
      .cal s_FindConn.c (x0.table, x1, ()) fun c2 =>
      .ret ((decide (0 ≤ c2)), ())) fun (u3a0, _) =>
    .ite u3a0 (.cal s_l26Copy.c (x0, ()) fun c4 =>
      .ret (c4, [], 0)) <|
    .cal s_FindHalf.c (x0.halves, x1, ()) fun c5 =>
    .ite (decide (0 ≤ c5)) (.grd ((decide (0 ≤ c5)) && (decide (c5 < (x0.halves.length : Int)))) <|
      .val (s_SeqAdd.f ((x0.halves.getD c5.toNat (Ty.zero .half)).iss, 1, ())) fun c6 =>
      .ite (x2.ack != c6) (.cal s_l26Reset.c (x0, x2, ()) fun c7 =>
        .ret (c7.1, c7.2.1, c7.2.2)) <|
      .val (s_SeqAdd.f ((x0.halves.getD c5.toNat (Ty.zero .half)).irs, 1, ())) fun c8 =>
      .ite (x2.seq != c8) (.cal s_l26Copy.c (x0, ()) fun c9 =>
        .ret (c9, [], 0)) <|
      .cal s_ConnNew.c (x1, (x0.halves.getD c5.toNat (Ty.zero .half)).iss, (x0.halves.getD c5.toNat (Ty.zero .half)).irs, (x0.halves.getD c5.toNat (Ty.zero .half)).opts, x2.window, ()) fun c10 =>
      .cal s_l26Let.c (x0, c10, x2, 1, ()) fun c11 =>
      .ret (c11.1, c11.2.1, c11.2.2)) <|
    .val (s_SeqAdd.f (x2.seq, (-1), ())) fun c12 =>
    .val (s_SeqAdd.f (x2.ack, (-1), ())) fun c13 =>
    .cal s_CheckCookie.c (x0.keys, x1, c12, c13, ()) fun c14 =>
    .ite (!c14.2.2) (.cal s_l26Reset.c (x0, x2, ()) fun c15 =>
      .ret (c15.1, c15.2.1, c15.2.2)) <|
    .cal s_LearnedOptions.c (c14.2.1, x2.opts, ()) fun c16 =>
    .cal s_ConnNew.c (x1, c13, c12, c16, x2.window, ()) fun c17 =>
    .cal s_l26Let.c (x0, c17, x2, 2, ()) fun c18 =>
    .ret (c18.1, c18.2.1, c18.2.2),
  fun (x0, x1, x2, _) hp => by
    refine Tr.B (Q' := fun _ => True) (Tr.C ?_ fun _ _ _ => Tr.I (fun _ => Tr.R trivial) fun _ => Tr.C ?_ fun _ _ _ => Tr.R trivial) (fun (u3a0, _) _ _ => Tr.I (fun _ => Tr.C ?_ fun _ _ _ => Tr.R ?_) fun _ => Tr.C ?_ fun _ _ _ => Tr.I (fun _ => Tr.G2 ?_ fun _ => Tr.V fun _ _ => Tr.I (fun _ => Tr.C ?_ fun _ _ _ => Tr.R ?_) fun _ => Tr.V fun _ _ => Tr.I (fun _ => Tr.C ?_ fun _ _ _ => Tr.R ?_) fun _ => Tr.C trivial fun _ _ _ => Tr.C ?_ fun _ _ _ => Tr.R ?_) fun _ => Tr.V fun _ _ => Tr.V fun _ _ => Tr.C ?_ fun _ _ _ => Tr.I (fun _ => Tr.C ?_ fun _ _ _ => Tr.R ?_) fun _ => Tr.C trivial fun _ _ _ => Tr.C trivial fun _ _ _ => Tr.C ?_ fun _ _ _ => Tr.R ?_)
    all_goals ((try simp only [Tr.nice, letK] at *) <;> grind)⟩
noncomputable def s_AckIn_e := entT st s_AckIn_x s_AckIn_o [] (ks := [.st .door, .st .tupl, .st .segm]) s_AckIn (fun v => [(true, q_door (.o true) (.o true) (.o true) (.o true) (.o true) v.1), (false, [sc (.o true) .segm v.2.1]), (false, [.c (.int .i64 v.2.2)])]) Tryz.func148 trivial fun _ => by kernel_rfl
/-- impl.Swept$1 -/
noncomputable def i_Swept_1 : FT (Conn × Tabl × Unit) (Bool) (fun x => sm_conn x.1 ∧ sm_tabl x.2.1) (fun _ _ => True) := ⟨fun (x0, y1, _) =>
    .ite (x0.state == 8) (.cal g_Contains_Tuple.c (y1.waiting, x0.tuple, ()) fun c1 =>
      .ret (!c1)) <|
    .ret false,
  fun (x0, y1, _) hp => by
    refine Tr.I (fun _ => Tr.C ?_ fun _ _ _ => Tr.R trivial) fun _ => Tr.R trivial
    all_goals (grind)⟩
noncomputable def i_Swept_1_e := entM st ⟨162, Tryz.f162, [], 1⟩ [g_Contains_Tuple_e] [] [.st .conn, .wr false [.ptr 0]] [.box [.st .tabl]] (fun x y => (x.1, y.1.1, ())) i_Swept_1 (fun v => [(false, [.c (.bool v)])]) (fun x y v => ((y.1.1, ()), ())) Tryz.func162 (by kernel_rfl) trivial fun _ _ => by kernel_rfl
/-- slices.IndexFunc[[]impl.Conn,impl.Conn] -/
noncomputable def g_IndexFunc_Conn_i_Swept_1_o_o : List (Ent1 Tryz.prog) := [i_Swept_1_e]
def g_IndexFunc_Conn_i_Swept_1_o_L0_h : Sh := ⟨[(0, false, [.own 0]), (1, false, [.fn 162 [1]]), (7, false, [.int .i64]), (8, false, [.int .i64])], [.arr .conn false false, .box [.st .tabl [.sl .any, .sl .any]]]⟩
noncomputable def g_IndexFunc_Conn_i_Swept_1_o_x : Fx := ⟨82, Tryz.f82, [(0, la ⟨[0, 1, 7, 8], [.softo 1 0, .softo 1 1], false, 2⟩ ⟨[4], [], false, 2⟩)], 2⟩
noncomputable def g_IndexFunc_Conn_i_Swept_1_o_L0_T (v2 : List Conn) (v3 : Tabl) (v1 : Int) (a : Unit) : Tr (Stp (Unit) ((Int))) :=
  .grd ((decide (0 ≤ v1)) && (decide (v1 < (v2.length : Int)))) <|
  .cal i_Swept_1.c ((v2.getD v1.toNat (Ty.zero .conn)), v3, ()) fun c2 =>
  .ite c2 (.ret (.out v1)) <|
  .ret (.next ())
noncomputable def g_IndexFunc_Conn_i_Swept_1_o_L0_d : g_IndexFunc_Conn_i_Swept_1_o_L0_h.V → LC g_IndexFunc_Conn_i_Swept_1_o_L0_h (Unit) ((Int)) (((Int)) ⊕ (Int × Unit)) := fun (v0, v1, v2, v3, _) => ⟨v1, (), fun v1 _ => (v0, v1, v2, v3, ()), fun v1 _ => (decide (v1 < v0)), g_IndexFunc_Conn_i_Swept_1_o_L0_T v2 v3, up, 1, (Int.toNat (v0 - v1)), .inl, fun i a => .inr (i, a), fun _ k w => Sum.elim (fun p => k .ret (Sh.enc ⟨[(4, false, [.int .i64])], [.arr .conn false false, .box [.st .tabl [.sl .any, .sl .any]]]⟩ (p, v2, v3, ()))) (fun _ => k (.exit 0) (Sh.enc ⟨[(4, false, [.undef])], [.arr .conn false false, .box [.st .tabl [.sl .any, .sl .any]]]⟩ (v2, v3, ()))) w⟩
theorem g_IndexFunc_Conn_i_Swept_1_o_L0_s : LS Tryz.prog g_IndexFunc_Conn_i_Swept_1_o_x [0] (leC 0 g_IndexFunc_Conn_i_Swept_1_o_L0_h g_IndexFunc_Conn_i_Swept_1_o_L0_d) := loopC st (orcOf_ok g_IndexFunc_Conn_i_Swept_1_o_o) _ g_IndexFunc_Conn_i_Swept_1_o_L0_d [] trivial (by kernel_rfl) (fun _ => by kernel_rfl) fun _ _ _ _ _ _ => by kernel_rfl
theorem g_IndexFunc_Conn_i_Swept_1_o_L0_k {v0 v1 : Int} {v2 : List Conn} {v3 : Tabl} (h0 : 0 ≤ v1) (h1 : v0 ≤ 4611686018427387904) (h2 : sL sm_conn v2) (h3 : sm_tabl v3) (h4 : v0 ≤ (v2.length : Int)) : (g_IndexFunc_Conn_i_Swept_1_o_L0_d (v0, v1, v2, v3, ())).U v0 (fun _ _ => True) (fun p => v1 ≤ p ∧ p < v0) :=
  LC.okU (i := v1) (a := ()) (fun _ _ => rfl) (fun _ => rfl) rfl h0 h1 trivial fun v1 _ hj hk hv => by
    refine Tr.G2 ?_ fun _ => Tr.C ?_ fun _ _ _ => Tr.I (fun _ => Tr.Ro ?_) fun _ => Tr.Rn trivial
    all_goals (grind)
noncomputable def g_IndexFunc_Conn_i_Swept_1_o : FT (List Conn × Tabl × Unit) (Int) (fun x => sL sm_conn x.1 ∧ sm_tabl x.2.1) (fun x v => -1 ≤ v ∧ v < x.1.length) := ⟨fun (x0, y1_0, _) =>
    .lp (g_IndexFunc_Conn_i_Swept_1_o_L0_d ((x0.length : Int), 0, x0, y1_0, ())).lp fun w3 => .sum w3 (fun p3a0 =>
    .ret p3a0) <|
    fun _ =>
    .ret (-1),
  fun (x0, y1_0, _) hp => by
    refine Tr.L (g_IndexFunc_Conn_i_Swept_1_o_L0_k ?_ ?_ ?_ ?_ ?_) (fun _ _ => Tr.Sr (Tr.R ?_)) (fun p3a0 _ => Tr.Sl (Tr.R ?_))
    all_goals ((try simp only [g_IndexFunc_Conn_i_Swept_1_o_L0_d, LC.lp, LC.ct, Ct.lp] at *) <;> grind)⟩
noncomputable def g_IndexFunc_Conn_i_Swept_1_o_e := entM st g_IndexFunc_Conn_i_Swept_1_o_x g_IndexFunc_Conn_i_Swept_1_o_o [(leC 0 g_IndexFunc_Conn_i_Swept_1_o_L0_h g_IndexFunc_Conn_i_Swept_1_o_L0_d)] [.wr false [.own 0], .fn 162 [1]] [.arr .conn, .box [.st .tabl]] (fun x y => (y.1, y.2.1.1, ())) g_IndexFunc_Conn_i_Swept_1_o (fun v => [(false, [.c (.int .i64 v)])]) (fun x y v => (y.1, (y.2.1.1, ()), ())) Tryz.func82 (by kernel_rfl) ⟨g_IndexFunc_Conn_i_Swept_1_o_L0_s, trivial⟩ fun _ _ => by kernel_rfl
/-- spec.SynAck -/
noncomputable def s_SynAck : FT (Door × Tupl × Segm × Unit) (Segm) (fun x => sm_door x.1 ∧ sm_segm x.2.2.1) (fun x v => sm_segm v) := ⟨fun (x0, x1, x2, _) =>
    .cal s_FirstSeq.c (x0, x1, x2, ()) fun c1 =>
    .val (s_SeqAdd.f (x2.seq, 1, ())) fun c2 =>
    .val (s_AnswerOptions.f (x2.opts, x0.clock, ())) fun c3 =>
    .ret (⟨x1.my, x1.port, c1, c2, 18, 32, c3, []⟩ : Segm),
  fun (x0, x1, x2, _) hp => by
    refine Tr.C ?_ fun _ _ _ => Tr.V fun _ _ => Tr.V fun _ _ => Tr.R ?_
    all_goals (grind)⟩
noncomputable def s_SynAck_e := ent0 st Tryz.func36 [s_FirstSeq_e, s_SeqAdd_e, s_AnswerOptions_e] (ks := [.st .door, .st .tupl, .st .segm]) s_SynAck (fun v => [(true, q_segm v)]) fun _ => by kernel_rfl
/-- impl.KeysOk -/
noncomputable def i_KeysOk_o : List (Ent1 Tryz.prog) := [i_within_e, i_MacOk_e, i_SameMac_e]
def i_KeysOk_J5_a : An := ⟨⟨[], [], false, 0⟩, ⟨[1, 2, 3], [], false, 0⟩, ⟨[], []⟩, [(.normal, ⟨[(1, false, [.ptr 0 0]), (2, false, [.bool]), (3, false, [.int .i64])], [.box [.st .keys [.sl .arg, .sl .arg]]]⟩)]⟩
noncomputable def i_KeysOk_x : Fx := ⟨46, Tryz.f46, [(1000005, i_KeysOk_J5_a)], 0⟩
noncomputable def i_KeysOk : FT (Keys × Unit) (Bool) (fun x => sm_keys x.1) (fun x v => (v = true → 0 ≤ x.1.epoch ∧ x.1.epoch ≤ 4294967295)) := ⟨fun (x0, _) =>
    .bnd (β := Bool × Int × Keys × Unit) (.ite x0.two (.ret (false, 1, x0, ())) <|
      .ret (false, 0, x0, ())) fun (_, u1a1, u1a2, _) =>
    .val (i_within.f (u1a2.epoch, u1a1, 4294967295, ())) fun c2 =>
    .ite c2 (.cal i_MacOk.c (u1a2.now, ()) fun c3 =>
      .ite c3 (.cal i_MacOk.c (u1a2.before, ()) fun c4 =>
        .ite c4 (.ite u1a2.two (.ret true) <|
          .cal i_SameMac.c (u1a2.before, (⟨false, 0, 0, []⟩ : Mac), ()) fun c5 =>
          .ret c5) <|
        .ret false) <|
      .ret false) <|
    .ret false,
  fun (x0, _) hp => by
    refine Tr.B (Q' := fun w => sm_keys w.2.2.1 ∧ 0 ≤ w.2.1 ∧ w.2.2.1 = x0) (Tr.I (fun b0 => Tr.R ?_) fun b0 => Tr.R ?_) (fun (u1a0, u1a1, u1a2, _) hj1 qj1 => Tr.V fun c2 hc2 => Tr.I (fun b0 => Tr.C ?_ fun c3 hc3 qc3 => Tr.I (fun b1 => Tr.C ?_ fun c4 hc4 qc4 => Tr.I (fun b2 => Tr.I (fun b3 => Tr.R ?_) fun b3 => Tr.C ?_ fun c5 hc5 qc5 => Tr.R ?_) fun b2 => Tr.R ?_) fun b1 => Tr.R ?_) fun b0 => Tr.R ?_)
    all_goals ((try simp only [Tr.nice, letK] at *) <;> grind)⟩
noncomputable def i_KeysOk_e := entT st i_KeysOk_x i_KeysOk_o [] (ks := [.st .keys]) i_KeysOk (fun v => [(false, [.c (.bool v)])]) Tryz.func46 trivial fun _ => by kernel_rfl
/-- slices.DeleteFunc[[]impl.Conn,impl.Conn] -/
noncomputable def g_DeleteFunc_Conn_i_Swept_1_o : List (Ent1 Tryz.prog) := [g_IndexFunc_Conn_i_Swept_1_o_e, i_Swept_1_e]
def g_DeleteFunc_Conn_i_Swept_1_L0_h : Sh := ⟨[(0, false, [.own 0]), (1, false, [.fn 162 [1]]), (5, false, [.int .i64]), (6, false, [.int .i64])], [.arr .conn false false, .box [.st .tabl [.sl .any, .sl .any]]]⟩
noncomputable def g_DeleteFunc_Conn_i_Swept_1_x : Fx := ⟨161, Tryz.f161, [(0, la ⟨[0, 1, 5, 6], [], false, 2⟩ ⟨[0, 4, 5], [], false, 2⟩)], 2⟩
noncomputable def g_DeleteFunc_Conn_i_Swept_1_L0_T (v3 : Tabl) (v1 : Int) (a : Int × List Conn) : Tr (Stp (Int × List Conn) (Empty)) :=
  .grd ((decide (0 ≤ v1)) && (decide (v1 < (a.2.length : Int)))) <|
  .cal i_Swept_1.c ((a.2.getD v1.toNat (Ty.zero .conn)), v3, ()) fun c2 =>
  .ite (!c2) (.grd ((decide (0 ≤ a.1)) && (decide (a.1 < (a.2.length : Int)))) <|
    .ret (.next ((IntKind.wrap .i64 (a.1 + 1)), (a.2.set a.1.toNat (a.2.getD v1.toNat (Ty.zero .conn)))))) <|
  .ret (.next (a.1, a.2))
noncomputable def g_DeleteFunc_Conn_i_Swept_1_L0_d : g_DeleteFunc_Conn_i_Swept_1_L0_h.V → LC g_DeleteFunc_Conn_i_Swept_1_L0_h (Int × List Conn) (Empty) (Int × (Int × List Conn)) := fun (v0, v1, v2, v3, _) => ⟨v1, (v0, v2), fun v1 a => (a.1, v1, a.2, v3, ()), fun v1 a => (decide (v1 < (a.2.length : Int))), g_DeleteFunc_Conn_i_Swept_1_L0_T v3, up, 1, (Int.toNat ((v2.length : Int) - v1)), (fun p => Empty.elim p), fun i a => (i, a), fun _ k x => k (.exit 0) (Sh.enc ⟨[(0, false, [.own 0]), (4, false, [.undef]), (5, false, [.int .i64])], [.arr .conn false false, .box [.st .tabl [.sl .any, .sl .any]]]⟩ (x.2.1, x.2.2, v3, ()))⟩
theorem g_DeleteFunc_Conn_i_Swept_1_L0_s : LS Tryz.prog g_DeleteFunc_Conn_i_Swept_1_x [0] (leC 0 g_DeleteFunc_Conn_i_Swept_1_L0_h g_DeleteFunc_Conn_i_Swept_1_L0_d) := loopC st (orcOf_ok g_DeleteFunc_Conn_i_Swept_1_o) _ g_DeleteFunc_Conn_i_Swept_1_L0_d [] trivial (by kernel_rfl) (fun _ => by kernel_rfl) fun _ _ _ _ _ _ => by kernel_rfl
theorem g_DeleteFunc_Conn_i_Swept_1_L0_k {v0 v1 : Int} {v2 : List Conn} {v3 : Tabl} (h0 : 0 ≤ v1) (h1 : (v2.length : Int) ≤ 4611686018427387904) (h2 : sm_tabl v3) (h3 : sL sm_conn v2) (h4 : v2.length = v2.length ∧ smE sm_conn v2 ∧ 0 ≤ v0 ∧ v0 < v1 ∧ v0 < v2.length) : (g_DeleteFunc_Conn_i_Swept_1_L0_d (v0, v1, v2, v3, ())).S (fun v1 a => a.2.length = v2.length ∧ a.2.length = v2.length ∧ smE sm_conn a.2 ∧ 0 ≤ a.1 ∧ a.1 < v1 ∧ a.1 < a.2.length) (fun _ => True) := by
  refine LC.okS ⟨rfl, h4⟩ (fun j a hj hv => ⟨⟨?_, ?_⟩, ?_⟩) (fun a hv => ?_)
  · simp only [g_DeleteFunc_Conn_i_Swept_1_L0_d, decide_eq_true_eq] at *; omega
  · simp only [g_DeleteFunc_Conn_i_Swept_1_L0_d] at *; exact upw (by omega) (by omega)
  · refine Tr.G2 ?_ fun _ => Tr.C ?_ fun _ _ _ => Tr.I (fun _ => Tr.G2 ?_ fun _ => Tr.Rn ?_) fun _ => Tr.Rn ?_
    all_goals (try simp only [g_DeleteFunc_Conn_i_Swept_1_L0_d] at *) <;> (grind)
  · simp only [g_DeleteFunc_Conn_i_Swept_1_L0_d, decide_eq_false_iff_not] at *; omega
noncomputable def g_DeleteFunc_Conn_i_Swept_1 : FT (List Conn × Tabl × Unit) (Nat × List Conn) (fun x => sL sm_conn x.1 ∧ sm_tabl x.2.1) (fun x v => sL sm_conn v.2 ∧ v.1 ≤ x.1.length ∧ v.2.length = x.1.length) := ⟨fun (x0, y1_0, _) =>
    .cal g_IndexFunc_Conn_i_Swept_1_o.c (x0, y1_0, ()) fun c1 =>
    .ite (c1 == (-1)) (.ret (x0.length, x0)) <|
    .lp (g_DeleteFunc_Conn_i_Swept_1_L0_d (c1, (IntKind.wrap .i64 (c1 + 1)), x0, y1_0, ())).lp fun (_, a3_0, a3_1) =>
    .grd (((decide (0 ≤ a3_0)) && (decide (a3_0 ≤ (a3_1.length : Int)))) && (decide ((a3_1.length : Int) ≤ (a3_1.length : Int)))) <|
    .val ((a3_1.take a3_0.toNat ++ List.replicate ((a3_1.length : Int).toNat - a3_0.toNat) (Ty.zero .conn)) ++ a3_1.drop ((a3_1.length : Int).toNat)) fun l4 =>
    .grd ((decide (0 ≤ a3_0)) && (decide (a3_0 ≤ (l4.length : Int)))) <|
    .ret (a3_0.toNat, l4),
  fun (x0, y1_0, _) hp => by
    refine Tr.C ?_ fun c1 hc1 qc1 => Tr.I (fun b0 => Tr.R ?_) fun b0 => Tr.L (g_DeleteFunc_Conn_i_Swept_1_L0_k ?_ ?_ ?_ ?_ ?_) (fun (a3_0, a3_1) i3 => Tr.G3 ?_ fun g1 => Tr.V fun l4 hl4 => Tr.G2 ?_ fun g2 => Tr.R ?_) (fun p => Empty.elim p)
    all_goals ((try simp only [g_DeleteFunc_Conn_i_Swept_1_L0_d, LC.lp, LC.ct, Ct.lp] at *) <;> (first | grind | (have hz : sm_conn (Ty.zero .conn) := (by unfold sm_conn; (repeat' apply And.intro); all_goals first | exact fun _ h => absurd h (List.not_mem_nil) | decide +kernel); grind)))⟩
noncomputable def g_DeleteFunc_Conn_i_Swept_1_e := entM st g_DeleteFunc_Conn_i_Swept_1_x g_DeleteFunc_Conn_i_Swept_1_o [(leC 0 g_DeleteFunc_Conn_i_Swept_1_L0_h g_DeleteFunc_Conn_i_Swept_1_L0_d)] [.wr false [.own 0], .fn 162 [1]] [.arr .conn, .box [.st .tabl]] (fun x y => (y.1, y.2.1.1, ())) g_DeleteFunc_Conn_i_Swept_1 (fun v => [(false, [.shr 0 v.1])]) (fun x y v => (v.2, (y.2.1.1, ()), ())) Tryz.func161 (by kernel_rfl) ⟨g_DeleteFunc_Conn_i_Swept_1_L0_s, trivial⟩ fun _ _ => by kernel_rfl
/-- spec.l10Key -/
noncomputable def s_l10Key_o : List (Ent1 Tryz.prog) := [s_l1Below_e, s_l1Byte_e]
def s_l10Key_L0_h : Sh := ⟨[(0, false, [.ptr 0 0]), (3, false, [.int .u64]), (4, false, [.int .i64])], [.box [.st .curs [.sl .any]]]⟩
noncomputable def s_l10Key_x : Fx := ⟨188, Tryz.f188, [(1, la ⟨[0, 3, 4], [], false, 1⟩ ⟨[2, 3], [], false, 1⟩)], 1⟩
noncomputable def s_l10Key_L0_T (v1 : Int) (a : Int × Curs) : Tr (Stp (Int × Curs) (Empty)) :=
  .cal s_l1Byte.c (a.2, ()) fun c2 =>
  .val (bits .or .u64 (IntKind.wrap .u64 (a.1 * 256)) (IntKind.wrap .u64 c2.1)) fun e3 =>
  .ret (.next (e3, c2.2))
noncomputable def s_l10Key_L0_d : s_l10Key_L0_h.V → LC s_l10Key_L0_h (Int × Curs) (Empty) (Int × (Int × Curs)) := fun (v0, v1, v2, _) => ⟨v1, (v0, v2), fun v1 a => (a.1, v1, a.2, ()), fun v1 _ => (decide (v1 < 8)), s_l10Key_L0_T, up, 1, (Int.toNat (8 - v1)), (fun p => Empty.elim p), fun i a => (i, a), fun _ k x => k (.exit 1) (Sh.enc ⟨[(2, false, [.undef]), (3, false, [.int .u64])], [.box [.st .curs [.sl .any]]]⟩ (x.2.1, x.2.2, ()))⟩
theorem s_l10Key_L0_s : LS Tryz.prog s_l10Key_x [0] (leC 1 s_l10Key_L0_h s_l10Key_L0_d) := loopC st (orcOf_ok s_l10Key_o) _ s_l10Key_L0_d [] trivial (by kernel_rfl) (fun _ => by kernel_rfl) fun _ _ _ _ _ _ => by kernel_rfl
theorem s_l10Key_L0_k {v0 v1 : Int} {v2 : Curs} (h0 : 0 ≤ v1) (h1 : sm_curs v2) : (s_l10Key_L0_d (v0, v1, v2, ())).U 8 (fun v1 a => sm_curs a.2) (fun _ => True) :=
  LC.okU (i := v1) (a := (v0, v2)) (fun _ _ => rfl) (fun _ => rfl) rfl h0 (by decide) h1 fun v1 (v0, v2) hj hk hv => by
    refine Tr.C ?_ fun _ _ _ => Tr.V fun _ _ => Tr.Rn ?_
    all_goals (grind)
noncomputable def s_l10Key : FT (Curs × Unit) (Int × Curs) (fun x => sm_curs x.1) (fun x v => sm_curs v.2) := ⟨fun (y0, _) =>
    .cal s_l1Below.c (y0, 3, ()) fun c1 =>
    .ite (c1.1 == 0) (.ret (0, c1.2)) <|
    .ite (c1.1 == 1) (.ret (506097522914230528, c1.2)) <|
    .lp (s_l10Key_L0_d (0, 0, c1.2, ())).lp fun (_, a4_0, a4_1) =>
    .ret (a4_0, a4_1),
  fun (y0, _) hp => by
    refine Tr.C ?_ fun _ _ _ => Tr.I (fun _ => Tr.R ?_) fun _ => Tr.I (fun _ => Tr.R ?_) fun _ => Tr.L (s_l10Key_L0_k ?_ ?_) (fun (a4_0, a4_1) _ => Tr.R ?_) (fun p => Empty.elim p)
    all_goals ((try simp only [s_l10Key_L0_d, LC.lp, LC.ct, Ct.lp] at *) <;> grind)⟩
noncomputable def s_l10Key_e := entM st s_l10Key_x s_l10Key_o [(leC 1 s_l10Key_L0_h s_l10Key_L0_d)] [.wr false [.ptr 0]] [.box [.st .curs]] (fun x y => (y.1.1, ())) s_l10Key (fun v => [(false, [.c (.int .u64 v.1)])]) (fun x y v => ((v.2, ()), ())) Tryz.func188 (by kernel_rfl) ⟨s_l10Key_L0_s, trivial⟩ fun _ _ => by kernel_rfl
/-- spec.SynIn -/
noncomputable def s_SynIn : FT (Door × Tupl × Segm × Unit) (Door × List Segm) (fun x => sm_door x.1 ∧ sm_segm x.2.2.1) (fun x v => sm_door v.1 ∧ sL sm_segm v.2) := ⟨fun (x0, x1, x2, _) =>
    .cal s_l26Copy.c (x0, ()) fun c1 =>
    .cal s_l26Right.c (x0, x1, x2, ()) fun c2 =>
    .ite (!c2) (.ret (c1, [])) <|
    .cal s_SynAck.c (x0, x1, x2, ()) fun c3 =>
    .cal s_FindHalf.c (x0.halves, x1, ()) fun c4 =>
    .ite (decide (0 ≤ c4)) (.grd ((decide (0 ≤ c4)) && (decide (c4 < (x0.halves.length : Int)))) <|
      .ite ((x0.halves.getD c4.toNat (Ty.zero .half)).irs != x2.seq) (.ret (c1, [])) <|
      .grd ((decide (0 ≤ c4)) && (decide (c4 < (x0.halves.length : Int)))) <|
      .ret (c1, [({ c3 with seq := (x0.halves.getD c4.toNat (Ty.zero .half)).iss } : Segm)])) <|
    .cal s_FindConn.c (x0.table, x1, ()) fun c5 =>
    .ite (decide (c5 < 0)) (.val (s_KeptOptions.f (x2.opts, ())) fun c6 =>
      .cal s_PutHalf.c (c1.halves, (⟨x1, c3.seq, x2.seq, c6, 0, x2.window⟩ : Half), x0.limits.halves, ()) fun c7 =>
      .ret (({ c1 with halves := c7.1 } : Door), [c3])) <|
    .ret (c1, [c3]),
  fun (x0, x1, x2, _) hp => by
    refine Tr.C ?_ fun _ _ _ => Tr.C ?_ fun _ _ _ => Tr.I (fun _ => Tr.R ?_) fun _ => Tr.C ?_ fun _ _ _ => Tr.C ?_ fun _ _ _ => Tr.I (fun _ => Tr.G2 ?_ fun _ => Tr.I (fun _ => Tr.R ?_) fun _ => Tr.G2 ?_ fun _ => Tr.R ?_) fun _ => Tr.C ?_ fun _ _ _ => Tr.I (fun _ => Tr.V fun _ _ => Tr.C ?_ fun _ _ _ => Tr.R ?_) fun _ => Tr.R ?_
    all_goals (grind)⟩
noncomputable def s_SynIn_e := ent0 st Tryz.func8 [s_l26Copy_e, s_l26Right_e, s_SynAck_e, s_FindHalf_e, s_FindConn_e, s_KeptOptions_e, s_PutHalf_e] (ks := [.st .door, .st .tupl, .st .segm]) s_SynIn (fun v => [(true, q_door (.o true) (.o true) (.o true) (.o true) (.o true) v.1), (false, [sc (.o true) .segm v.2])]) fun _ => by kernel_rfl
/-- spec.l1Once -/
noncomputable def s_l1Once : FT (Curs × Int × Unit) (Bool × Curs) (fun x => sm_curs x.1) (fun x v => sm_curs v.2) := ⟨fun (y0, x1, _) =>
    .cal s_l1Below.c (y0, x1, ()) fun c1 =>
    .ret ((c1.1 == 0), c1.2),
  fun (y0, x1, _) hp => by
    refine Tr.C ?_ fun _ _ _ => Tr.R ?_
    all_goals (grind)⟩
noncomputable def s_l1Once_e := entM st ⟨69, Tryz.f69, [], 1⟩ [s_l1Below_e] [] [.wr false [.ptr 0], .sc (.int .i64)] [.box [.st .curs]] (fun x y => (y.1.1, x.2.1, ())) s_l1Once (fun v => [(false, [.c (.bool v.1)])]) (fun x y v => ((v.2, ()), ())) Tryz.func69 (by kernel_rfl) trivial fun _ _ => by kernel_rfl
/-- spec.l26Keys -/
noncomputable def s_l26Keys : FT (Curs × Unit) (Keys × Curs) (fun x => sm_curs x.1) (fun x v => sm_keys v.1 ∧ sm_curs v.2) := ⟨fun (y0, _) =>
    .cal s_l1Below.c (y0, 40, ()) fun c1 =>
    .cal s_l10Key.c (c1.2, ()) fun c2 =>
    .cal s_l10Key.c (c2.2, ()) fun c3 =>
    .cal s_KeyMac.c (c2.1, c3.1, ()) fun c4 =>
    .ite (decide (0 < c1.1)) (.cal s_l1Once.c (c3.2, 2, ()) fun c5 =>
      .ite c5.1 (.cal s_l10Key.c (c5.2, ()) fun c6 =>
        .cal s_KeyMac.c (c6.1, 5, ()) fun c7 =>
        .ret ((⟨c1.1, c4, c7, true⟩ : Keys), c6.2)) <|
      .ret ((⟨c1.1, c4, ⟨false, 0, 0, []⟩, false⟩ : Keys), c5.2)) <|
    .ret ((⟨c1.1, c4, ⟨false, 0, 0, []⟩, false⟩ : Keys), c3.2),
  fun (y0, _) hp => by
    refine Tr.C ?_ fun _ _ _ => Tr.C ?_ fun _ _ _ => Tr.C ?_ fun _ _ _ => Tr.C trivial fun _ _ _ => Tr.I (fun _ => Tr.C ?_ fun _ _ _ => Tr.I (fun _ => Tr.C ?_ fun _ _ _ => Tr.C trivial fun _ _ _ => Tr.R ?_) fun _ => Tr.R ?_) fun _ => Tr.R ?_
    all_goals (grind)⟩
noncomputable def s_l26Keys_e := entM st ⟨146, Tryz.f146, [], 1⟩ [s_l1Below_e, s_l10Key_e, s_KeyMac_e, s_l1Once_e] [] [.wr false [.ptr 0]] [.box [.st .curs]] (fun x y => (y.1.1, ())) s_l26Keys (fun v => [(true, q_keys (.o true) (.o true) v.1)]) (fun x y v => ((v.2, ()), ())) Tryz.func146 (by kernel_rfl) trivial fun _ _ => by kernel_rfl
/-- impl.DoorOk$1 -/
noncomputable def i_DoorOk_1 : FT (Half × Door × Unit) (Bool) (fun x => sm_door x.2.1) (fun _ _ => True) := ⟨fun (x0, y1, _) =>
    .cal i_FindConn.c (y1.table, x0.tuple, ()) fun c1 =>
    .ret (decide (0 ≤ c1)),
  fun (x0, y1, _) hp => by
    refine Tr.C ?_ fun _ _ _ => Tr.R trivial
    all_goals (grind)⟩
noncomputable def i_DoorOk_1_e := entM st ⟨51, Tryz.f51, [], 1⟩ [i_FindConn_e] [] [.st .half, .wr false [.ptr 0]] [.box [.st .door]] (fun x y => (x.1, y.1.1, ())) i_DoorOk_1 (fun v => [(false, [.c (.bool v)])]) (fun x y v => ((y.1.1, ()), ())) Tryz.func51 (by kernel_rfl) trivial fun _ _ => by kernel_rfl
/-- slices.IndexFunc[[]impl.Half,impl.Half] -/
noncomputable def g_IndexFunc_Half_i_DoorOk_1_o : List (Ent1 Tryz.prog) := [i_DoorOk_1_e]
def g_IndexFunc_Half_i_DoorOk_1_L0_h : Sh := ⟨[(0, false, [.sl .arg .half]), (1, false, [.fn 51 [0]]), (7, false, [.int .i64]), (8, false, [.int .i64])], [.box [.st .door [.sl .any, .sl .any, .sl .any, .sl .any, .sl .any]]]⟩
noncomputable def g_IndexFunc_Half_i_DoorOk_1_x : Fx := ⟨80, Tryz.f80, [(0, la ⟨[0, 1, 7, 8], [.softo 0 6, .softo 0 10, .softo 0 16, .softo 0 17, .softo 0 18], false, 1⟩ ⟨[4], [], false, 1⟩)], 1⟩
noncomputable def g_IndexFunc_Half_i_DoorOk_1_L0_T (v0 : List Half) (v3 : Door) (v2 : Int) (a : Unit) : Tr (Stp (Unit) ((Int))) :=
  .grd ((decide (0 ≤ v2)) && (decide (v2 < (v0.length : Int)))) <|
  .cal i_DoorOk_1.c ((v0.getD v2.toNat (Ty.zero .half)), v3, ()) fun c2 =>
  .ite c2 (.ret (.out v2)) <|
  .ret (.next ())
noncomputable def g_IndexFunc_Half_i_DoorOk_1_L0_d : g_IndexFunc_Half_i_DoorOk_1_L0_h.V → LC g_IndexFunc_Half_i_DoorOk_1_L0_h (Unit) ((Int)) (((Int)) ⊕ (Int × Unit)) := fun (v0, v1, v2, v3, _) => ⟨v2, (), fun v2 _ => (v0, v1, v2, v3, ()), fun v2 _ => (decide (v2 < v1)), g_IndexFunc_Half_i_DoorOk_1_L0_T v0 v3, up, 1, (Int.toNat (v1 - v2)), .inl, fun i a => .inr (i, a), fun _ k w => Sum.elim (fun p => k .ret (Sh.enc ⟨[(4, false, [.int .i64])], [.box [.st .door [.sl .any, .sl .any, .sl .any, .sl .any, .sl .any]]]⟩ (p, v3, ()))) (fun _ => k (.exit 0) (Sh.enc ⟨[(4, false, [.undef])], [.box [.st .door [.sl .any, .sl .any, .sl .any, .sl .any, .sl .any]]]⟩ (v3, ()))) w⟩
theorem g_IndexFunc_Half_i_DoorOk_1_L0_s : LS Tryz.prog g_IndexFunc_Half_i_DoorOk_1_x [0] (leC 0 g_IndexFunc_Half_i_DoorOk_1_L0_h g_IndexFunc_Half_i_DoorOk_1_L0_d) := loopC st (orcOf_ok g_IndexFunc_Half_i_DoorOk_1_o) _ g_IndexFunc_Half_i_DoorOk_1_L0_d [] trivial (by kernel_rfl) (fun _ => by kernel_rfl) fun _ _ _ _ _ _ => by kernel_rfl
theorem g_IndexFunc_Half_i_DoorOk_1_L0_k {v0 : List Half} {v1 v2 : Int} {v3 : Door} (h0 : 0 ≤ v2) (h1 : v1 ≤ 4611686018427387904) (h2 : sS v0) (h3 : sm_door v3) (h4 : v1 ≤ (v0.length : Int)) : (g_IndexFunc_Half_i_DoorOk_1_L0_d (v0, v1, v2, v3, ())).U v1 (fun _ _ => True) (fun p => v2 ≤ p ∧ p < v1) :=
  LC.okU (i := v2) (a := ()) (fun _ _ => rfl) (fun _ => rfl) rfl h0 h1 trivial fun v2 _ hj hk hv => by
    refine Tr.G2 ?_ fun _ => Tr.C ?_ fun _ _ _ => Tr.I (fun _ => Tr.Ro ?_) fun _ => Tr.Rn trivial
    all_goals (grind)
noncomputable def g_IndexFunc_Half_i_DoorOk_1 : FT (List Half × Door × Unit) (Int) (fun x => sS x.1 ∧ sm_door x.2.1) (fun x v => -1 ≤ v ∧ v < x.1.length) := ⟨fun (x0, y1_0, _) =>
    .lp (g_IndexFunc_Half_i_DoorOk_1_L0_d (x0, (x0.length : Int), 0, y1_0, ())).lp fun w3 => .sum w3 (fun p3a0 =>
    .ret p3a0) <|
    fun _ =>
    .ret (-1),
  fun (x0, y1_0, _) hp => by
    refine Tr.L (g_IndexFunc_Half_i_DoorOk_1_L0_k ?_ ?_ ?_ ?_ ?_) (fun _ _ => Tr.Sr (Tr.R ?_)) (fun p3a0 _ => Tr.Sl (Tr.R ?_))
    all_goals ((try simp only [g_IndexFunc_Half_i_DoorOk_1_L0_d, LC.lp, LC.ct, Ct.lp] at *) <;> grind)⟩
noncomputable def g_IndexFunc_Half_i_DoorOk_1_e := entM st g_IndexFunc_Half_i_DoorOk_1_x g_IndexFunc_Half_i_DoorOk_1_o [(leC 0 g_IndexFunc_Half_i_DoorOk_1_L0_h g_IndexFunc_Half_i_DoorOk_1_L0_d)] [.sc (.sl .half), .fn 51 [0]] [.box [.st .door]] (fun x y => (x.1, y.1.1, ())) g_IndexFunc_Half_i_DoorOk_1 (fun v => [(false, [.c (.int .i64 v)])]) (fun x y v => ((y.1.1, ()), ())) Tryz.func80 (by kernel_rfl) ⟨g_IndexFunc_Half_i_DoorOk_1_L0_s, trivial⟩ fun _ _ => by kernel_rfl
/-- spec.l25Limits -/
noncomputable def s_l25Limits : FT (Curs × Unit) (Limi × Curs) (fun x => sm_curs x.1) (fun x v => sm_curs v.2) := ⟨fun (y0, _) =>
    .cal s_l1Below.c (y0, 3, ()) fun c1 =>
    .cal s_l1Below.c (c1.2, 3, ()) fun c2 =>
    .cal s_l1Below.c (c2.2, 4, ()) fun c3 =>
    .cal s_l1Below.c (c3.2, 4, ()) fun c4 =>
    .ret ((⟨(IntKind.wrap .i64 (1 + c1.1)), (IntKind.wrap .i64 (1 + c2.1)), (IntKind.wrap .i64 (1 + c3.1)), c4.1⟩ : Limi), c4.2),
  fun (y0, _) hp => by
    refine Tr.C ?_ fun _ _ _ => Tr.C ?_ fun _ _ _ => Tr.C ?_ fun _ _ _ => Tr.C ?_ fun _ _ _ => Tr.R ?_
    all_goals (grind)⟩
noncomputable def s_l25Limits_e := entM st ⟨147, Tryz.f147, [], 1⟩ [s_l1Below_e] [] [.wr false [.ptr 0]] [.box [.st .curs]] (fun x y => (y.1.1, ())) s_l25Limits (fun v => [(true, q_limi v.1)]) (fun x y v => ((v.2, ()), ())) Tryz.func147 (by kernel_rfl) trivial fun _ _ => by kernel_rfl
/-- impl.Swept$2 -/
noncomputable def i_Swept_2 : FT (Tupl × Tabl × Unit) (Bool) (fun x => sm_tabl x.2.1) (fun _ _ => True) := ⟨fun (x0, y1, _) =>
    .cal i_FindConn.c (y1, x0, ()) fun c1 =>
    .ret (decide (c1 < 0)),
  fun (x0, y1, _) hp => by
    refine Tr.C ?_ fun _ _ _ => Tr.R trivial
    all_goals (grind)⟩
noncomputable def i_Swept_2_e := entM st ⟨165, Tryz.f165, [], 1⟩ [i_FindConn_e] [] [.st .tupl, .wr false [.ptr 0]] [.box [.st .tabl]] (fun x y => (x.1, y.1.1, ())) i_Swept_2 (fun v => [(false, [.c (.bool v)])]) (fun x y v => ((y.1.1, ()), ())) Tryz.func165 (by kernel_rfl) trivial fun _ _ => by kernel_rfl
/-- slices.IndexFunc[[]impl.Tuple,impl.Tuple] -/
noncomputable def g_IndexFunc_Tuple_i_Swept_2_o_o : List (Ent1 Tryz.prog) := [i_Swept_2_e]
def g_IndexFunc_Tuple_i_Swept_2_o_L0_h : Sh := ⟨[(0, false, [.own 0]), (1, false, [.fn 165 [1]]), (7, false, [.int .i64]), (8, false, [.int .i64])], [.arr .tupl false false, .box [.st .tabl [.sl .any, .sl .any]]]⟩
noncomputable def g_IndexFunc_Tuple_i_Swept_2_o_x : Fx := ⟨207, Tryz.f207, [(0, la ⟨[0, 1, 7, 8], [.softo 1 0, .softo 1 1], false, 2⟩ ⟨[4], [], false, 2⟩)], 2⟩
noncomputable def g_IndexFunc_Tuple_i_Swept_2_o_L0_T (v2 : List Tupl) (v3 : Tabl) (v1 : Int) (a : Unit) : Tr (Stp (Unit) ((Int))) :=
  .grd ((decide (0 ≤ v1)) && (decide (v1 < (v2.length : Int)))) <|
  .cal i_Swept_2.c ((v2.getD v1.toNat (Ty.zero .tupl)), v3, ()) fun c2 =>
  .ite c2 (.ret (.out v1)) <|
  .ret (.next ())
noncomputable def g_IndexFunc_Tuple_i_Swept_2_o_L0_d : g_IndexFunc_Tuple_i_Swept_2_o_L0_h.V → LC g_IndexFunc_Tuple_i_Swept_2_o_L0_h (Unit) ((Int)) (((Int)) ⊕ (Int × Unit)) := fun (v0, v1, v2, v3, _) => ⟨v1, (), fun v1 _ => (v0, v1, v2, v3, ()), fun v1 _ => (decide (v1 < v0)), g_IndexFunc_Tuple_i_Swept_2_o_L0_T v2 v3, up, 1, (Int.toNat (v0 - v1)), .inl, fun i a => .inr (i, a), fun _ k w => Sum.elim (fun p => k .ret (Sh.enc ⟨[(4, false, [.int .i64])], [.arr .tupl false false, .box [.st .tabl [.sl .any, .sl .any]]]⟩ (p, v2, v3, ()))) (fun _ => k (.exit 0) (Sh.enc ⟨[(4, false, [.undef])], [.arr .tupl false false, .box [.st .tabl [.sl .any, .sl .any]]]⟩ (v2, v3, ()))) w⟩
theorem g_IndexFunc_Tuple_i_Swept_2_o_L0_s : LS Tryz.prog g_IndexFunc_Tuple_i_Swept_2_o_x [0] (leC 0 g_IndexFunc_Tuple_i_Swept_2_o_L0_h g_IndexFunc_Tuple_i_Swept_2_o_L0_d) := loopC st (orcOf_ok g_IndexFunc_Tuple_i_Swept_2_o_o) _ g_IndexFunc_Tuple_i_Swept_2_o_L0_d [] trivial (by kernel_rfl) (fun _ => by kernel_rfl) fun _ _ _ _ _ _ => by kernel_rfl
theorem g_IndexFunc_Tuple_i_Swept_2_o_L0_k {v0 v1 : Int} {v2 : List Tupl} {v3 : Tabl} (h0 : 0 ≤ v1) (h1 : v0 ≤ 4611686018427387904) (h2 : sS v2) (h3 : sm_tabl v3) (h4 : v0 ≤ (v2.length : Int)) : (g_IndexFunc_Tuple_i_Swept_2_o_L0_d (v0, v1, v2, v3, ())).U v0 (fun _ _ => True) (fun p => v1 ≤ p ∧ p < v0) :=
  LC.okU (i := v1) (a := ()) (fun _ _ => rfl) (fun _ => rfl) rfl h0 h1 trivial fun v1 _ hj hk hv => by
    refine Tr.G2 ?_ fun _ => Tr.C ?_ fun _ _ _ => Tr.I (fun _ => Tr.Ro ?_) fun _ => Tr.Rn trivial
    all_goals (grind)
noncomputable def g_IndexFunc_Tuple_i_Swept_2_o : FT (List Tupl × Tabl × Unit) (Int) (fun x => sS x.1 ∧ sm_tabl x.2.1) (fun x v => -1 ≤ v ∧ v < x.1.length) := ⟨fun (x0, y1_0, _) =>
    .lp (g_IndexFunc_Tuple_i_Swept_2_o_L0_d ((x0.length : Int), 0, x0, y1_0, ())).lp fun w3 => .sum w3 (fun p3a0 =>
    .ret p3a0) <|
    fun _ =>
    .ret (-1),
  fun (x0, y1_0, _) hp => by
    refine Tr.L (g_IndexFunc_Tuple_i_Swept_2_o_L0_k ?_ ?_ ?_ ?_ ?_) (fun _ _ => Tr.Sr (Tr.R ?_)) (fun p3a0 _ => Tr.Sl (Tr.R ?_))
    all_goals ((try simp only [g_IndexFunc_Tuple_i_Swept_2_o_L0_d, LC.lp, LC.ct, Ct.lp] at *) <;> grind)⟩
noncomputable def g_IndexFunc_Tuple_i_Swept_2_o_e := entM st g_IndexFunc_Tuple_i_Swept_2_o_x g_IndexFunc_Tuple_i_Swept_2_o_o [(leC 0 g_IndexFunc_Tuple_i_Swept_2_o_L0_h g_IndexFunc_Tuple_i_Swept_2_o_L0_d)] [.wr false [.own 0], .fn 165 [1]] [.arr .tupl, .box [.st .tabl]] (fun x y => (y.1, y.2.1.1, ())) g_IndexFunc_Tuple_i_Swept_2_o (fun v => [(false, [.c (.int .i64 v)])]) (fun x y v => (y.1, (y.2.1.1, ()), ())) Tryz.func207 (by kernel_rfl) ⟨g_IndexFunc_Tuple_i_Swept_2_o_L0_s, trivial⟩ fun _ _ => by kernel_rfl
/-- slices.ContainsFunc[[]impl.Half,impl.Half] -/
noncomputable def g_ContainsFunc_Half_i_DoorOk_1 : FT (List Half × Door × Unit) (Bool) (fun x => sS x.1 ∧ sm_door x.2.1) (fun _ _ => True) := ⟨fun (x0, y1_0, _) =>
    .cal g_IndexFunc_Half_i_DoorOk_1.c (x0, y1_0, ()) fun c1 =>
    .ret (decide (0 ≤ c1)),
  fun (x0, y1_0, _) hp => by
    refine Tr.C ?_ fun _ _ _ => Tr.R trivial
    all_goals (grind)⟩
noncomputable def g_ContainsFunc_Half_i_DoorOk_1_e := entM st ⟨50, Tryz.f50, [], 1⟩ [g_IndexFunc_Half_i_DoorOk_1_e] [] [.sc (.sl .half), .fn 51 [0]] [.box [.st .door]] (fun x y => (x.1, y.1.1, ())) g_ContainsFunc_Half_i_DoorOk_1 (fun v => [(false, [.c (.bool v)])]) (fun x y v => ((y.1.1, ()), ())) Tryz.func50 (by kernel_rfl) trivial fun _ _ => by kernel_rfl
/-- impl.DoorOk -/
noncomputable def i_DoorOk_o : List (Ent1 Tryz.prog) := [i_WordOk_e, i_KeysOk_e, i_TableOk_e, i_HalvesOk_e, i_within_e, g_ContainsFunc_Half_i_DoorOk_1_e]
noncomputable def i_DoorOk_x : Fx := ⟨12, Tryz.f12, [(3000001, rA 0 50)], 0⟩
noncomputable def i_DoorOk : FT (Door × Unit) (Bool) (fun x => sm_door x.1) (fun x v => (v = true → x.1.table.conns.length ≤ 16)) := ⟨fun (x0, _) =>
    .bnd (β := Bool × Unit) (.cal i_WordOk.c (x0.port, 16, ()) fun c1 =>
      .ite (!c1) (.ret (true, ())) <|
      .cal i_WordOk.c (x0.clock, 32, ()) fun c2 =>
      .ite (!c2) (.ret (true, ())) <|
      .cal i_KeysOk.c (x0.keys, ()) fun c3 =>
      .ite (!c3) (.ret (true, ())) <|
      .cal i_TableOk.c (x0.table, x0.limits, ()) fun c4 =>
      .ite (!c4) (.ret (true, ())) <|
      .cal i_HalvesOk.c (x0.halves, ()) fun c5 =>
      .ite (!c5) (.ret (true, ())) <|
      .ite (decide (x0.limits.halves < (x0.halves.length : Int))) (.ret (true, ())) <|
      .val (i_within.f (x0.chal, 0, x0.limits.chal, ())) fun c6 =>
      .ret ((!c6), ())) fun (u7a0, _) =>
    .ite u7a0 (.ret false) <|
    .cal g_ContainsFunc_Half_i_DoorOk_1.c (x0.halves, x0, ()) fun c8 =>
    .ret (!c8),
  fun (x0, _) hp => by
    refine Tr.B (Q' := fun w => (w.1 = false → 0 ≤ x0.keys.epoch ∧ x0.keys.epoch ≤ 4294967295 ∧ x0.table.conns.length ≤ 16 ∧ x0.table.waiting.length ≤ 16 ∧ x0.halves.length ≤ 64)) (Tr.C trivial fun _ _ _ => Tr.I (fun _ => Tr.R ?_) fun _ => Tr.C trivial fun _ _ _ => Tr.I (fun _ => Tr.R ?_) fun _ => Tr.C ?_ fun _ _ _ => Tr.I (fun _ => Tr.R ?_) fun _ => Tr.C ?_ fun _ _ _ => Tr.I (fun _ => Tr.R ?_) fun _ => Tr.C ?_ fun _ _ _ => Tr.I (fun _ => Tr.R ?_) fun _ => Tr.I (fun _ => Tr.R ?_) fun _ => Tr.V fun _ _ => Tr.R ?_) (fun (u7a0, _) _ _ => Tr.I (fun _ => Tr.R ?_) fun _ => Tr.C ?_ fun _ _ _ => Tr.R ?_)
    all_goals ((try simp only [Tr.nice, letK] at *) <;> grind)⟩
noncomputable def i_DoorOk_e := entT st i_DoorOk_x i_DoorOk_o [] (ks := [.st .door]) i_DoorOk (fun v => [(false, [.c (.bool v)])]) Tryz.func12 trivial fun _ => by kernel_rfl
/-- slices.DeleteFunc[[]impl.Tuple,impl.Tuple] -/
noncomputable def g_DeleteFunc_Tuple_i_Swept_2_o : List (Ent1 Tryz.prog) := [g_IndexFunc_Tuple_i_Swept_2_o_e, i_Swept_2_e]
def g_DeleteFunc_Tuple_i_Swept_2_L0_h : Sh := ⟨[(0, false, [.own 0]), (1, false, [.fn 165 [1]]), (5, false, [.int .i64]), (6, false, [.int .i64])], [.arr .tupl false false, .box [.st .tabl [.sl .any, .sl .any]]]⟩
noncomputable def g_DeleteFunc_Tuple_i_Swept_2_x : Fx := ⟨164, Tryz.f164, [(0, la ⟨[0, 1, 5, 6], [], false, 2⟩ ⟨[0, 4, 5], [], false, 2⟩)], 2⟩
noncomputable def g_DeleteFunc_Tuple_i_Swept_2_L0_T (v3 : Tabl) (v1 : Int) (a : Int × List Tupl) : Tr (Stp (Int × List Tupl) (Empty)) :=
  .grd ((decide (0 ≤ v1)) && (decide (v1 < (a.2.length : Int)))) <|
  .cal i_Swept_2.c ((a.2.getD v1.toNat (Ty.zero .tupl)), v3, ()) fun c2 =>
  .ite (!c2) (.grd ((decide (0 ≤ a.1)) && (decide (a.1 < (a.2.length : Int)))) <|
    .ret (.next ((IntKind.wrap .i64 (a.1 + 1)), (a.2.set a.1.toNat (a.2.getD v1.toNat (Ty.zero .tupl)))))) <|
  .ret (.next (a.1, a.2))
noncomputable def g_DeleteFunc_Tuple_i_Swept_2_L0_d : g_DeleteFunc_Tuple_i_Swept_2_L0_h.V → LC g_DeleteFunc_Tuple_i_Swept_2_L0_h (Int × List Tupl) (Empty) (Int × (Int × List Tupl)) := fun (v0, v1, v2, v3, _) => ⟨v1, (v0, v2), fun v1 a => (a.1, v1, a.2, v3, ()), fun v1 a => (decide (v1 < (a.2.length : Int))), g_DeleteFunc_Tuple_i_Swept_2_L0_T v3, up, 1, (Int.toNat ((v2.length : Int) - v1)), (fun p => Empty.elim p), fun i a => (i, a), fun _ k x => k (.exit 0) (Sh.enc ⟨[(0, false, [.own 0]), (4, false, [.undef]), (5, false, [.int .i64])], [.arr .tupl false false, .box [.st .tabl [.sl .any, .sl .any]]]⟩ (x.2.1, x.2.2, v3, ()))⟩
theorem g_DeleteFunc_Tuple_i_Swept_2_L0_s : LS Tryz.prog g_DeleteFunc_Tuple_i_Swept_2_x [0] (leC 0 g_DeleteFunc_Tuple_i_Swept_2_L0_h g_DeleteFunc_Tuple_i_Swept_2_L0_d) := loopC st (orcOf_ok g_DeleteFunc_Tuple_i_Swept_2_o) _ g_DeleteFunc_Tuple_i_Swept_2_L0_d [] trivial (by kernel_rfl) (fun _ => by kernel_rfl) fun _ _ _ _ _ _ => by kernel_rfl
theorem g_DeleteFunc_Tuple_i_Swept_2_L0_k {v0 v1 : Int} {v2 : List Tupl} {v3 : Tabl} (h0 : 0 ≤ v1) (h1 : (v2.length : Int) ≤ 4611686018427387904) (h2 : sm_tabl v3) (h3 : sS v2) (h4 : v2.length = v2.length ∧ 0 ≤ v0 ∧ v0 < v1 ∧ v0 < v2.length) : (g_DeleteFunc_Tuple_i_Swept_2_L0_d (v0, v1, v2, v3, ())).S (fun v1 a => a.2.length = v2.length ∧ a.2.length = v2.length ∧ 0 ≤ a.1 ∧ a.1 < v1 ∧ a.1 < a.2.length) (fun _ => True) := by
  refine LC.okS ⟨rfl, h4⟩ (fun j a hj hv => ⟨⟨?_, ?_⟩, ?_⟩) (fun a hv => ?_)
  · simp only [g_DeleteFunc_Tuple_i_Swept_2_L0_d, decide_eq_true_eq] at *; omega
  · simp only [g_DeleteFunc_Tuple_i_Swept_2_L0_d] at *; exact upw (by omega) (by omega)
  · refine Tr.G2 ?_ fun _ => Tr.C ?_ fun _ _ _ => Tr.I (fun _ => Tr.G2 ?_ fun _ => Tr.Rn ?_) fun _ => Tr.Rn ?_
    all_goals (try simp only [g_DeleteFunc_Tuple_i_Swept_2_L0_d] at *) <;> (grind)
  · simp only [g_DeleteFunc_Tuple_i_Swept_2_L0_d, decide_eq_false_iff_not] at *; omega
noncomputable def g_DeleteFunc_Tuple_i_Swept_2 : FT (List Tupl × Tabl × Unit) (Nat × List Tupl) (fun x => sS x.1 ∧ sm_tabl x.2.1) (fun x v => sS v.2 ∧ v.1 ≤ x.1.length ∧ v.2.length = x.1.length) := ⟨fun (x0, y1_0, _) =>
    .cal g_IndexFunc_Tuple_i_Swept_2_o.c (x0, y1_0, ()) fun c1 =>
    .ite (c1 == (-1)) (.ret (x0.length, x0)) <|
    .lp (g_DeleteFunc_Tuple_i_Swept_2_L0_d (c1, (IntKind.wrap .i64 (c1 + 1)), x0, y1_0, ())).lp fun (_, a3_0, a3_1) =>
    .grd (((decide (0 ≤ a3_0)) && (decide (a3_0 ≤ (a3_1.length : Int)))) && (decide ((a3_1.length : Int) ≤ (a3_1.length : Int)))) <|
    .val ((a3_1.take a3_0.toNat ++ List.replicate ((a3_1.length : Int).toNat - a3_0.toNat) (Ty.zero .tupl)) ++ a3_1.drop ((a3_1.length : Int).toNat)) fun l4 =>
    .grd ((decide (0 ≤ a3_0)) && (decide (a3_0 ≤ (l4.length : Int)))) <|
    .ret (a3_0.toNat, l4),
  fun (x0, y1_0, _) hp => by
    refine Tr.C ?_ fun _ _ _ => Tr.I (fun _ => Tr.R ?_) fun _ => Tr.L (g_DeleteFunc_Tuple_i_Swept_2_L0_k ?_ ?_ ?_ ?_ ?_) (fun (a3_0, a3_1) _ => Tr.G3 ?_ fun _ => Tr.V fun _ _ => Tr.G2 ?_ fun _ => Tr.R ?_) (fun p => Empty.elim p)
    all_goals ((try simp only [g_DeleteFunc_Tuple_i_Swept_2_L0_d, LC.lp, LC.ct, Ct.lp] at *) <;> grind)⟩
noncomputable def g_DeleteFunc_Tuple_i_Swept_2_e := entM st g_DeleteFunc_Tuple_i_Swept_2_x g_DeleteFunc_Tuple_i_Swept_2_o [(leC 0 g_DeleteFunc_Tuple_i_Swept_2_L0_h g_DeleteFunc_Tuple_i_Swept_2_L0_d)] [.wr false [.own 0], .fn 165 [1]] [.arr .tupl, .box [.st .tabl]] (fun x y => (y.1, y.2.1.1, ())) g_DeleteFunc_Tuple_i_Swept_2 (fun v => [(false, [.shr 0 v.1])]) (fun x y v => (v.2, (y.2.1.1, ()), ())) Tryz.func164 (by kernel_rfl) ⟨g_DeleteFunc_Tuple_i_Swept_2_L0_s, trivial⟩ fun _ _ => by kernel_rfl
/-- impl.Swept -/
noncomputable def i_Swept : FT (Tabl × Unit) (Tabl) (fun x => sm_tabl x.1) (fun x v => sm_tabl v) := ⟨fun (x0, _) =>
    .cal i_cloneTable.c (x0, ()) fun c1 =>
    .cal g_DeleteFunc_Conn_i_Swept_1.c (c1.conns, x0, ()) fun c2 =>
    .cal g_DeleteFunc_Tuple_i_Swept_2.c (c1.waiting, x0, ()) fun c3 =>
    .ret (⟨(c2.2.take c2.1), (c3.2.take c3.1)⟩ : Tabl),
  fun (x0, _) hp => by
    refine Tr.C ?_ fun _ _ _ => Tr.C ?_ fun _ _ _ => Tr.C ?_ fun _ _ _ => Tr.R ?_
    all_goals (grind)⟩
noncomputable def i_Swept_e := ent0 st Tryz.func112 [i_cloneTable_e, g_DeleteFunc_Conn_i_Swept_1_e, g_DeleteFunc_Tuple_i_Swept_2_e] (ks := [.st .tabl]) i_Swept (fun v => [(true, q_tabl (.o false) (.o true) v)]) fun _ => by kernel_rfl
/-- impl.tickDoor -/
noncomputable def i_tickDoor_o : List (Ent1 Tryz.prog) := [i_cloneDoor_e, i_DoorOk_e, i_SeqAdd_e, i_AgedHalves_e, i_TickConn_e, i_Swept_e]
def i_tickDoor_L0_0_h : Sh := ⟨[(2, false, [.ptr 0 0]), (4, false, [.ptr 1 0]), (5, false, [.own 2]), (7, false, [.ptr 3 0]), (30, false, [.sl .arg .conn]), (31, false, [.int .i64]), (32, false, [.int .i64]), (48, false, [.own 4]), (49, false, [.int .i64]), (50, false, [.int .i64])], [.box [.st .door [.nil .macRow, .nil .macRow, .nil .half, .nil .conn, .nil .tupl]], .box [.st .door [.own 5, .own 6, .own 7, .own 8, .own 9]], .arr .mail false true, .box [.st .conn [.sl .arg]], .arr .segm false true, .of false true, .of false true, .of false true, .of false true, .of false true]⟩
def i_tickDoor_L0_h : Sh := ⟨[(2, false, [.ptr 0 0]), (4, false, [.ptr 1 0]), (5, false, [.own 2]), (30, false, [.sl .arg .conn]), (31, false, [.int .i64]), (32, false, [.int .i64])], [.box [.st .door [.nil .macRow, .nil .macRow, .nil .half, .nil .conn, .nil .tupl]], .box [.st .door [.own 3, .own 4, .own 5, .own 6, .own 7]], .arr .mail false true, .of false true, .of false true, .of false true, .of false true, .of false true]⟩
noncomputable def i_tickDoor_x : Fx := ⟨61, Tryz.f61, [(2, la ⟨[2, 4, 5, 7, 30, 31, 32, 48, 49, 50], [], false, 0⟩ ⟨[2, 3, 4, 5, 30, 31, 32], [], false, 0⟩), (0, la ⟨[2, 4, 5, 30, 31, 32], [], false, 0⟩ ⟨[2, 3, 4, 5], [], false, 0⟩), (4000000, la ⟨[], [], false, 0⟩ ⟨[], [.softb 2 17], false, 0⟩)], 0⟩
noncomputable def i_tickDoor_L0_0_T (vb8 : Conn) (vb9 : List Segm) (vb4 : Int) (a : Door × List Mail) : Tr (Stp (Door × List Mail) (Empty)) :=
  .grd ((decide (0 ≤ vb4)) && (decide (vb4 < (vb9.length : Int)))) <|
  .grd (Nat.ble ((2 * (a.2.length + 1) + 1024) * 112) maxSl) <|
  .ret (.next (({ a.1 with keys.now.rows := [], keys.before.rows := [], halves := [], table.conns := [], table.waiting := [] } : Door), (a.2 ++ [(⟨vb8.tuple.ip, (vb9.getD vb4.toNat (Ty.zero .segm))⟩ : Mail)])))
noncomputable def i_tickDoor_L0_0_d : i_tickDoor_L0_0_h.V → LC i_tickDoor_L0_0_h (Door × List Mail) (Empty) (Int × (Door × List Mail)) := fun (vb0, vb1, vb2, vb3, vb4, vb5, vb6, vb7, vb8, vb9, _) => ⟨vb4, (vb5, vb7), fun vb4 a => (vb0, vb1, vb2, vb3, vb4, a.1, vb6, a.2, vb8, vb9, ()), fun vb4 _ => (decide (vb4 < vb3)), i_tickDoor_L0_0_T vb8 vb9, up, 1, (Int.toNat (vb3 - vb4)), (fun p => Empty.elim p), fun i a => (i, a), fun _ k x => k (.exit 2) (Sh.enc ⟨[(2, false, [.ptr 0 0]), (3, false, [.undef]), (4, false, [.ptr 1 0]), (5, false, [.own 2]), (30, false, [.sl .arg .conn]), (31, false, [.int .i64]), (32, false, [.int .i64])], [.box [.st .door [.nil .macRow, .nil .macRow, .nil .half, .nil .conn, .nil .tupl]], .box [.st .door [.own 3, .own 4, .own 5, .own 6, .own 7]], .arr .mail false true, .of false true, .of false true, .of false true, .of false true, .of false true]⟩ (vb0, vb1, vb2, ({ x.2.1 with keys.now.rows := [], keys.before.rows := [], halves := [], table.conns := [], table.waiting := [] } : Door), vb6, x.2.2, ()))⟩
theorem i_tickDoor_L0_0_s : LS Tryz.prog i_tickDoor_x [0, 0] (leC 2 i_tickDoor_L0_0_h i_tickDoor_L0_0_d) := loopC st (orcOf_ok i_tickDoor_o) _ i_tickDoor_L0_0_d [] trivial (by kernel_rfl) (fun _ => by kernel_rfl) fun _ _ _ _ _ _ => by kernel_rfl
theorem i_tickDoor_L0_0_k {vb0 : List Conn} {vb1 vb2 vb3 vb4 : Int} {vb5 vb6 : Door} {vb7 : List Mail} {vb8 : Conn} {vb9 : List Segm} (h0 : 0 ≤ vb4) (h1 : vb3 ≤ 4611686018427387904) (h2 : vb9.length ≤ 49) (h3 : vb7.length ≤ 1000) (h4 : sm_conn vb8) (h5 : sL sm_segm vb9) (h6 : vb3 ≤ (vb9.length : Int)) (h7 : sm_door vb5 ∧ (vb7.length : Int) ≤ vb7.length + vb4 ∧ smE sm_mail vb7) : (i_tickDoor_L0_0_d (vb0, vb1, vb2, vb3, vb4, vb5, vb6, vb7, vb8, vb9, ())).U vb3 (fun vb4 a => sm_door a.1 ∧ (a.2.length : Int) ≤ vb7.length + vb4 ∧ smE sm_mail a.2) (fun _ => True) :=
  LC.okU (i := vb4) (a := (vb5, vb7)) (fun _ _ => rfl) (fun _ => rfl) rfl h0 h1 h7 fun vb4 (vb5, vb7) hj hk hv => by
    refine Tr.G2 ?_ fun _ => Tr.Gb ?_ fun _ => Tr.Rn ?_
    all_goals (grind)
noncomputable def i_tickDoor_L0_T (v0 : List Conn) (v1 : Int) (v2 : Int) (a : Door × Door × List Mail) : Tr (Stp (Door × Door × List Mail) (Empty)) :=
  .grd ((decide (0 ≤ v2)) && (decide (v2 < (v0.length : Int)))) <|
  .cal i_TickConn.c ((v0.getD v2.toNat (Ty.zero .conn)), ()) fun c5 =>
  .grd ((decide (0 ≤ v2)) && (decide (v2 < (a.2.1.table.conns.length : Int)))) <|
  .lp (i_tickDoor_L0_0_d (v0, v1, v2, (c5.2.length : Int), 0, ({ a.1 with keys.now.rows := [], keys.before.rows := [], halves := [], table.conns := [], table.waiting := [] } : Door), ({ a.2.1 with table.conns := (a.2.1.table.conns.set v2.toNat c5.1) } : Door), a.2.2, (v0.getD v2.toNat (Ty.zero .conn)), c5.2, ())).lp fun (_, a6_0, a6_1) =>
  .ret (.next (({ ({ a6_0 with keys.now.rows := [], keys.before.rows := [], halves := [], table.conns := [], table.waiting := [] } : Door) with keys.now.rows := [], keys.before.rows := [], halves := [], table.conns := [], table.waiting := [] } : Door), ({ a.2.1 with table.conns := (a.2.1.table.conns.set v2.toNat c5.1) } : Door), a6_1))
noncomputable def i_tickDoor_L0_d : i_tickDoor_L0_h.V → LC i_tickDoor_L0_h (Door × Door × List Mail) (Empty) (Int × (Door × Door × List Mail)) := fun (v0, v1, v2, v3, v4, v5, _) => ⟨v2, (v3, v4, v5), fun v2 a => (v0, v1, v2, a.1, a.2.1, a.2.2, ()), fun v2 _ => (decide (v2 < v1)), i_tickDoor_L0_T v0 v1, up, 1, (Int.toNat (v1 - v2)), (fun p => Empty.elim p), fun i a => (i, a), fun _ k x => k (.exit 0) (Sh.enc ⟨[(2, false, [.ptr 0 0]), (3, false, [.undef]), (4, false, [.ptr 1 0]), (5, false, [.own 2])], [.box [.st .door [.nil .macRow, .nil .macRow, .nil .half, .nil .conn, .nil .tupl]], .box [.st .door [.own 3, .own 4, .own 5, .own 6, .own 7]], .arr .mail false true, .of false true, .of false true, .of false true, .of false true, .of false true]⟩ (({ x.2.1 with keys.now.rows := [], keys.before.rows := [], halves := [], table.conns := [], table.waiting := [] } : Door), x.2.2.1, x.2.2.2, ()))⟩
theorem i_tickDoor_L0_s : LS Tryz.prog i_tickDoor_x [0] (leC 0 i_tickDoor_L0_h i_tickDoor_L0_d) := loopC st (orcOf_ok i_tickDoor_o) _ i_tickDoor_L0_d [(leC 2 i_tickDoor_L0_0_h i_tickDoor_L0_0_d)] ⟨i_tickDoor_L0_0_s, trivial⟩ (by kernel_rfl) (fun _ => by kernel_rfl) fun _ _ _ _ _ _ => by kernel_rfl
theorem i_tickDoor_L0_k {v0 : List Conn} {v1 v2 : Int} {v3 v4 : Door} {v5 : List Mail} (h0 : 0 ≤ v2) (h1 : v1 ≤ 4611686018427387904) (h2 : v1 ≤ 16) (h3 : sL sm_conn v0) (h4 : sL sm_macRow v4.keys.now.rows) (h5 : sL sm_macRow v4.keys.before.rows) (h6 : sS v4.halves) (h7 : sL sm_conn v4.table.conns) (h8 : sS v4.table.waiting) (h9 : v1 ≤ (v0.length : Int)) (h10 : sm_door v3 ∧ v4.keys.now.rows.length = v4.keys.now.rows.length ∧ smE sm_macRow v4.keys.now.rows ∧ v4.keys.before.rows.length = v4.keys.before.rows.length ∧ smE sm_macRow v4.keys.before.rows ∧ v4.halves.length = v4.halves.length ∧ v4.table.conns.length = v4.table.conns.length ∧ smE sm_conn v4.table.conns ∧ v4.table.waiting.length = v4.table.waiting.length ∧ sL sm_mail v5 ∧ (v5.length : Int) ≤ 49 * v2 ∧ v1 ≤ (v4.table.conns.length : Int)) : (i_tickDoor_L0_d (v0, v1, v2, v3, v4, v5, ())).U v1 (fun v2 a => sm_door a.1 ∧ a.2.1.keys.now.rows.length = v4.keys.now.rows.length ∧ smE sm_macRow a.2.1.keys.now.rows ∧ a.2.1.keys.before.rows.length = v4.keys.before.rows.length ∧ smE sm_macRow a.2.1.keys.before.rows ∧ a.2.1.halves.length = v4.halves.length ∧ a.2.1.table.conns.length = v4.table.conns.length ∧ smE sm_conn a.2.1.table.conns ∧ a.2.1.table.waiting.length = v4.table.waiting.length ∧ sL sm_mail a.2.2 ∧ (a.2.2.length : Int) ≤ 49 * v2 ∧ v1 ≤ (a.2.1.table.conns.length : Int)) (fun _ => True) :=
  LC.okU (i := v2) (a := (v3, v4, v5)) (fun _ _ => rfl) (fun _ => rfl) rfl h0 h1 h10 fun v2 (v3, v4, v5) hj hk hv => by
    refine Tr.G2 ?_ fun _ => Tr.C ?_ fun _ _ _ => Tr.G2 ?_ fun _ => Tr.L (i_tickDoor_L0_0_k ?_ ?_ ?_ ?_ ?_ ?_ ?_ ?_) (fun (a6_0, a6_1) _ => Tr.Rn ?_) (fun p => Empty.elim p)
    all_goals ((try simp only [i_tickDoor_L0_0_d, LC.lp, LC.ct, Ct.lp] at *) <;> grind)
noncomputable def i_tickDoor : FT (Door × Unit) (Door × List Mail) (fun x => sm_door x.1) (fun x v => sm_door v.1 ∧ sL sm_mail v.2) := ⟨fun (x0, _) =>
    .cal i_cloneDoor.c (x0, ()) fun c1 =>
    .cal i_DoorOk.c (x0, ()) fun c2 =>
    .ite (!c2) (.ret (c1, [])) <|
    .val (i_SeqAdd.f (x0.clock, 1, ())) fun c3 =>
    .cal i_AgedHalves.c (x0.halves, ()) fun c4 =>
    .lp (i_tickDoor_L0_d (x0.table.conns, (x0.table.conns.length : Int), 0, (⟨0, 0, ⟨0, ⟨false, 0, 0, []⟩, ⟨false, 0, 0, []⟩, false⟩, ⟨0, 0, 0, 0⟩, [], ⟨[], []⟩, 0⟩ : Door), ({ c1 with clock := c3, halves := c4, chal := 0 } : Door), [], ())).lp fun (_, _, a7_1, a7_2) =>
    .cal i_Swept.c (a7_1.table, ()) fun c8 =>
    .ret (({ a7_1 with table.conns := c8.conns, table.waiting := c8.waiting } : Door), a7_2),
  fun (x0, _) hp => by
    refine Tr.C ?_ fun _ _ _ => Tr.C ?_ fun _ _ _ => Tr.I (fun _ => Tr.R ?_) fun _ => Tr.V fun _ _ => Tr.C ?_ fun _ _ _ => Tr.L (i_tickDoor_L0_k ?_ ?_ ?_ ?_ ?_ ?_ ?_ ?_ ?_ ?_ ?_) (fun (a7_0, a7_1, a7_2) _ => Tr.C ?_ fun _ _ _ => Tr.R ?_) (fun p => Empty.elim p)
    all_goals ((try simp only [i_tickDoor_L0_d, LC.lp, LC.ct, Ct.lp] at *) <;> grind)⟩
noncomputable def i_tickDoor_e := entT st i_tickDoor_x i_tickDoor_o [(leC 0 i_tickDoor_L0_h i_tickDoor_L0_d)] (ks := [.st .door]) i_tickDoor (fun v => [(true, q_door (.o true) (.o true) (.o true) .c (.o true) v.1), (false, [sc (.o true) .mail v.2])]) Tryz.func61 ⟨i_tickDoor_L0_s, trivial⟩ fun _ => by kernel_rfl
/-- spec.l1PickInt -/
noncomputable def s_l1PickInt : FT (Curs × List Int × Unit) (Int × Curs) (fun x => sm_curs x.1 ∧ sS x.2.1 ∧ 0 < x.2.1.length) (fun x v => sm_curs v.2) := ⟨fun (y0, x1, _) =>
    .cal s_l1Below.c (y0, (x1.length : Int), ()) fun c1 =>
    .grd ((decide (0 ≤ c1.1)) && (decide (c1.1 < (x1.length : Int)))) <|
    .ret ((x1.getD c1.1.toNat 0), c1.2),
  fun (y0, x1, _) hp => by
    refine Tr.C ?_ fun _ _ _ => Tr.G2 ?_ fun _ => Tr.R ?_
    all_goals (grind)⟩
noncomputable def s_l1PickInt_e := entM st ⟨109, Tryz.f109, [], 1⟩ [s_l1Below_e] [] [.wr false [.ptr 0], .sc (.sl .i64)] [.box [.st .curs]] (fun x y => (y.1.1, x.2.1, ())) s_l1PickInt (fun v => [(false, [.c (.int .i64 v.1)])]) (fun x y v => ((v.2, ()), ())) Tryz.func109 (by kernel_rfl) trivial fun _ _ => by kernel_rfl
/-- impl.TickDoor -/
noncomputable def i_TickDoor_o : List (Ent1 Tryz.prog) := [i_tickDoor_e]
def i_TickDoor_L0_h : Sh := ⟨[(2, false, [.ptr 0 0]), (4, false, [.ptr 1 0]), (6, false, [.own 2]), (15, false, [.own 3]), (16, false, [.int .i64]), (17, false, [.int .i64])], [.box [.st .door [.nil .macRow, .nil .macRow, .nil .half, .nil .conn, .nil .tupl]], .box [.st .door [.own 4, .own 5, .own 6, .sl .any, .own 7]], .arr .segm false true, .arr .mail false true, .of false true, .of false true, .of false true, .of false true]⟩
noncomputable def i_TickDoor_x : Fx := ⟨20, Tryz.f20, [(0, la ⟨[2, 4, 6, 15, 16, 17], [], false, 0⟩ ⟨[2, 3, 4, 6], [], false, 0⟩)], 0⟩
noncomputable def i_TickDoor_L0_T (v5 : List Mail) (v1 : Int) (a : Door × List Segm) : Tr (Stp (Door × List Segm) (Empty)) :=
  .grd ((decide (0 ≤ v1)) && (decide (v1 < (v5.length : Int)))) <|
  .grd (Nat.ble ((2 * (a.2.length + 1) + 1024) * 104) maxSl) <|
  .ret (.next (({ a.1 with keys.now.rows := [], keys.before.rows := [], halves := [], table.conns := [], table.waiting := [] } : Door), (a.2 ++ [(v5.getD v1.toNat (Ty.zero .mail)).g])))
noncomputable def i_TickDoor_L0_d : i_TickDoor_L0_h.V → LC i_TickDoor_L0_h (Door × List Segm) (Empty) (Int × (Door × List Segm)) := fun (v0, v1, v2, v3, v4, v5, _) => ⟨v1, (v2, v4), fun v1 a => (v0, v1, a.1, v3, a.2, v5, ()), fun v1 _ => (decide (v1 < v0)), i_TickDoor_L0_T v5, up, 1, (Int.toNat (v0 - v1)), (fun p => Empty.elim p), fun i a => (i, a), fun _ k x => k (.exit 0) (Sh.enc ⟨[(2, false, [.ptr 0 0]), (3, false, [.undef]), (4, false, [.ptr 1 0]), (6, false, [.own 2])], [.box [.st .door [.nil .macRow, .nil .macRow, .nil .half, .nil .conn, .nil .tupl]], .box [.st .door [.own 3, .own 4, .own 5, .sl .any, .own 6]], .arr .segm false true, .of false true, .of false true, .of false true, .of false true]⟩ (({ x.2.1 with keys.now.rows := [], keys.before.rows := [], halves := [], table.conns := [], table.waiting := [] } : Door), v3, x.2.2, ()))⟩
theorem i_TickDoor_L0_s : LS Tryz.prog i_TickDoor_x [0] (leC 0 i_TickDoor_L0_h i_TickDoor_L0_d) := loopC st (orcOf_ok i_TickDoor_o) _ i_TickDoor_L0_d [] trivial (by kernel_rfl) (fun _ => by kernel_rfl) fun _ _ _ _ _ _ => by kernel_rfl
theorem i_TickDoor_L0_k {v0 v1 : Int} {v2 v3 : Door} {v4 : List Segm} {v5 : List Mail} (h0 : 0 ≤ v1) (h1 : v0 ≤ 4611686018427387904) (h2 : sL sm_mail v5) (h3 : v0 ≤ 4294967296) (h4 : v0 ≤ (v5.length : Int)) (h5 : sm_door v2 ∧ (v4.length : Int) = v1 ∧ smE sm_segm v4) : (i_TickDoor_L0_d (v0, v1, v2, v3, v4, v5, ())).U v0 (fun v1 a => sm_door a.1 ∧ (a.2.length : Int) = v1 ∧ smE sm_segm a.2) (fun _ => True) :=
  LC.okU (i := v1) (a := (v2, v4)) (fun _ _ => rfl) (fun _ => rfl) rfl h0 h1 h5 fun v1 (v2, v4) hj hk hv => by
    refine Tr.G2 ?_ fun _ => Tr.Gb ?_ fun _ => Tr.Rn ?_
    all_goals (grind)
noncomputable def i_TickDoor : FT (Door × Unit) (Door × List Segm) (fun x => sm_door x.1) (fun x v => sm_door v.1 ∧ sL sm_segm v.2) := ⟨fun (x0, _) =>
    .cal i_tickDoor.c (x0, ()) fun c1 =>
    .lp (i_TickDoor_L0_d ((c1.2.length : Int), 0, (⟨0, 0, ⟨0, ⟨false, 0, 0, []⟩, ⟨false, 0, 0, []⟩, false⟩, ⟨0, 0, 0, 0⟩, [], ⟨[], []⟩, 0⟩ : Door), c1.1, [], c1.2, ())).lp fun (_, _, a2_1) =>
    .ret (c1.1, a2_1),
  fun (x0, _) hp => by
    refine Tr.C ?_ fun _ _ _ => Tr.L (i_TickDoor_L0_k ?_ ?_ ?_ ?_ ?_ ?_) (fun (a2_0, a2_1) _ => Tr.R ?_) (fun p => Empty.elim p)
    all_goals ((try simp only [i_TickDoor_L0_d, LC.lp, LC.ct, Ct.lp] at *) <;> grind)⟩
noncomputable def i_TickDoor_e := entT st i_TickDoor_x i_TickDoor_o [(leC 0 i_TickDoor_L0_h i_TickDoor_L0_d)] (ks := [.st .door]) i_TickDoor (fun v => [(true, q_door (.o true) (.o true) (.o true) .c (.o true) v.1), (false, [sc (.o true) .segm v.2])]) Tryz.func20 ⟨i_TickDoor_L0_s, trivial⟩ fun _ => by kernel_rfl
/-- spec.l2Deep -/
noncomputable def s_l2Deep_o : List (Ent1 Tryz.prog) := [s_l1Once_e, s_l1PickInt_e, s_l1Byte_e]
def s_l2Deep_L0_h : Sh := ⟨[(0, false, [.ptr 0 0]), (3, false, [.int .i64]), (4, false, [.int .i64])], [.box [.st .curs [.sl .any]]]⟩
noncomputable def s_l2Deep_x : Fx := ⟨70, Tryz.f70, [(0, la ⟨[0, 3, 4], [], false, 1⟩ ⟨[2, 3], [], false, 1⟩)], 1⟩
noncomputable def s_l2Deep_L0_T (v1 : Int) (a : Int × Curs) : Tr (Stp (Int × Curs) (Empty)) :=
  .cal s_l1Byte.c (a.2, ()) fun c3 =>
  .ret (.next ((IntKind.wrap .i64 ((IntKind.wrap .i64 (256 * a.1)) + c3.1)), c3.2))
noncomputable def s_l2Deep_L0_d : s_l2Deep_L0_h.V → LC s_l2Deep_L0_h (Int × Curs) (Empty) (Int × (Int × Curs)) := fun (v0, v1, v2, _) => ⟨v1, (v0, v2), fun v1 a => (a.1, v1, a.2, ()), fun v1 _ => (decide (v1 < 4)), s_l2Deep_L0_T, up, 1, (Int.toNat (4 - v1)), (fun p => Empty.elim p), fun i a => (i, a), fun _ k x => k (.exit 0) (Sh.enc ⟨[(2, false, [.undef]), (3, false, [.int .i64])], [.box [.st .curs [.sl .any]]]⟩ (x.2.1, x.2.2, ()))⟩
theorem s_l2Deep_L0_s : LS Tryz.prog s_l2Deep_x [0] (leC 0 s_l2Deep_L0_h s_l2Deep_L0_d) := loopC st (orcOf_ok s_l2Deep_o) _ s_l2Deep_L0_d [] trivial (by kernel_rfl) (fun _ => by kernel_rfl) fun _ _ _ _ _ _ => by kernel_rfl
theorem s_l2Deep_L0_k {v0 v1 : Int} {v2 : Curs} (h0 : 0 ≤ v1) (h1 : sm_curs v2) : (s_l2Deep_L0_d (v0, v1, v2, ())).U 4 (fun v1 a => sm_curs a.2) (fun _ => True) :=
  LC.okU (i := v1) (a := (v0, v2)) (fun _ _ => rfl) (fun _ => rfl) rfl h0 (by decide) h1 fun v1 (v0, v2) hj hk hv => by
    refine Tr.C ?_ fun _ _ _ => Tr.Rn ?_
    all_goals (grind)
noncomputable def s_l2Deep : FT (Curs × Unit) (Int × Curs) (fun x => sm_curs x.1) (fun x v => sm_curs v.2) := ⟨fun (y0, _) =>
    .cal s_l1Once.c (y0, 3, ()) fun c1 =>
    .ite c1.1 (.cal s_l1PickInt.c (c1.2, [0, 1, 4294967295, 2147483647, 2147483648, 4294967294], ()) fun c2 =>
      .ret (c2.1, c2.2)) <|
    .lp (s_l2Deep_L0_d (0, 0, c1.2, ())).lp fun (_, a4_0, a4_1) =>
    .ret (a4_0, a4_1),
  fun (y0, _) hp => by
    refine Tr.C ?_ fun _ _ _ => Tr.I (fun _ => Tr.C ?_ fun _ _ _ => Tr.R ?_) fun _ => Tr.L (s_l2Deep_L0_k ?_ ?_) (fun (a4_0, a4_1) _ => Tr.R ?_) (fun p => Empty.elim p)
    all_goals ((try simp only [s_l2Deep_L0_d, LC.lp, LC.ct, Ct.lp] at *) <;> grind)⟩
noncomputable def s_l2Deep_e := entM st s_l2Deep_x s_l2Deep_o [(leC 0 s_l2Deep_L0_h s_l2Deep_L0_d)] [.wr false [.ptr 0]] [.box [.st .curs]] (fun x y => (y.1.1, ())) s_l2Deep (fun v => [(false, [.c (.int .i64 v.1)])]) (fun x y v => ((v.2, ()), ())) Tryz.func70 (by kernel_rfl) ⟨s_l2Deep_L0_s, trivial⟩ fun _ _ => by kernel_rfl
/-- spec.l8Options -/
noncomputable def s_l8Options_o : List (Ent1 Tryz.prog) := [s_NoOptions_e, s_l1Once_e, s_l1PickInt_e, s_l1Below_e, s_l2Deep_e]
def s_l8Options_J7_a : An := ⟨⟨[], [], false, 1⟩, ⟨[0, 2, 3], [], false, 1⟩, ⟨[], []⟩, [(.normal, ⟨[(0, false, [.ptr 0 0]), (2, false, [.ptr 1 0]), (3, false, [.ptr 2 0])], [.box [.st .curs [.sl .any]], .box [.st .opti []], .box [.st .opti []]]⟩)]⟩
def s_l8Options_J13_a : An := ⟨⟨[], [], false, 1⟩, ⟨[0, 2, 3], [], false, 1⟩, ⟨[], []⟩, [(.normal, ⟨[(0, false, [.ptr 0 0]), (2, false, [.ptr 1 0]), (3, false, [.ptr 2 0])], [.box [.st .curs [.sl .any]], .box [.st .opti []], .box [.st .opti []]]⟩)]⟩
noncomputable def s_l8Options_x : Fx := ⟨119, Tryz.f119, [(1000007, s_l8Options_J7_a), (1000013, s_l8Options_J13_a)], 1⟩
noncomputable def s_l8Options : FT (Curs × Unit) (Opti × Curs) (fun x => sm_curs x.1) (fun x v => sm_curs v.2) := ⟨fun (y0, _) =>
    .val (s_NoOptions.f (())) fun c1 =>
    .cal s_l1Once.c (y0, 3, ()) fun c2 =>
    .bnd (β := Curs × Opti × Opti × Unit) (.ite (!c2.1) (.cal s_l1PickInt.c (c2.2, [536, 1460, 1300, 64, 65535, 1], ()) fun c3 =>
        .ret (c3.2, (⟨0, 0, false, false, 0, 0⟩ : Opti), ({ c1 with mss := c3.1 } : Opti), ())) <|
      .ret (c2.2, (⟨0, 0, false, false, 0, 0⟩ : Opti), c1, ())) fun (u4a0, u4a1, u4a2, _) =>
    .cal s_l1Once.c (u4a0, 2, ()) fun c5 =>
    .bnd (β := Curs × Opti × Opti × Unit) (.ite c5.1 (.cal s_l1Below.c (c5.2, 15, ()) fun c6 =>
        .ret (c6.2, u4a1, ({ u4a2 with scale := c6.1 } : Opti), ())) <|
      .ret (c5.2, u4a1, u4a2, ())) fun (u7a0, _, u7a2, _) =>
    .cal s_l1Once.c (u7a0, 2, ()) fun c8 =>
    .cal s_l1Once.c (c8.2, 2, ()) fun c9 =>
    .ite c9.1 (.cal s_l2Deep.c (c9.2, ()) fun c10 =>
      .cal s_l2Deep.c (c10.2, ()) fun c11 =>
      .ret ((⟨u7a2.mss, u7a2.scale, c8.1, true, c10.1, c11.1⟩ : Opti), c11.2)) <|
    .ret (({ u7a2 with sack := c8.1 } : Opti), c9.2),
  fun (y0, _) hp => by
    refine Tr.V fun _ _ => Tr.C ?_ fun _ _ _ => Tr.B (Q' := fun w => sm_curs w.1) (Tr.I (fun _ => Tr.C ?_ fun _ _ _ => Tr.R ?_) fun _ => Tr.R ?_) (fun (u4a0, u4a1, u4a2, _) _ _ => Tr.C ?_ fun _ _ _ => Tr.B (Q' := fun w => sm_curs w.1) (Tr.I (fun _ => Tr.C ?_ fun _ _ _ => Tr.R ?_) fun _ => Tr.R ?_) (fun (u7a0, u7a1, u7a2, _) _ _ => Tr.C ?_ fun _ _ _ => Tr.C ?_ fun _ _ _ => Tr.I (fun _ => Tr.C ?_ fun _ _ _ => Tr.C ?_ fun _ _ _ => Tr.R ?_) fun _ => Tr.R ?_))
    all_goals ((try simp only [Tr.nice, letK] at *) <;> grind)⟩
noncomputable def s_l8Options_e := entM st s_l8Options_x s_l8Options_o [] [.wr false [.ptr 0]] [.box [.st .curs]] (fun x y => (y.1.1, ())) s_l8Options (fun v => [(true, q_opti v.1)]) (fun x y v => ((v.2, ()), ())) Tryz.func119 (by kernel_rfl) trivial fun _ _ => by kernel_rfl
/-- spec.l26Syn -/
noncomputable def s_l26Syn : FT (Curs × Unit) (Segm × Curs) (fun x => sm_curs x.1) (fun x v => sm_segm v.1 ∧ sm_curs v.2) := ⟨fun (y0, _) =>
    .cal s_l1PickInt.c (y0, [40000, 40001, 40002], ()) fun c1 =>
    .cal s_l2Deep.c (c1.2, ()) fun c2 =>
    .cal s_l1PickInt.c (c2.2, [0, 64, 65535], ()) fun c3 =>
    .cal s_l8Options.c (c3.2, ()) fun c4 =>
    .ret ((⟨c1.1, 80, c2.1, 0, 2, c3.1, c4.1, []⟩ : Segm), c4.2),
  fun (y0, _) hp => by
    refine Tr.C ?_ fun _ _ _ => Tr.C ?_ fun _ _ _ => Tr.C ?_ fun _ _ _ => Tr.C ?_ fun _ _ _ => Tr.R ?_
    all_goals (grind)⟩
noncomputable def s_l26Syn_e := entM st ⟨66, Tryz.f66, [], 1⟩ [s_l1PickInt_e, s_l2Deep_e, s_l8Options_e] [] [.wr false [.ptr 0]] [.box [.st .curs]] (fun x y => (y.1.1, ())) s_l26Syn (fun v => [(true, q_segm v.1)]) (fun x y v => ((v.2, ()), ())) Tryz.func66 (by kernel_rfl) trivial fun _ _ => by kernel_rfl
/-- spec.l1Bytes -/
noncomputable def s_l1Bytes_o : List (Ent1 Tryz.prog) := [s_l1Byte_e]
def s_l1Bytes_L0_h : Sh := ⟨[(0, false, [.ptr 0 0]), (1, false, [.int .i64]), (5, false, [.own 1]), (6, false, [.int .i64])], [.box [.st .curs [.sl .any]], .arr .u8 false true]⟩
noncomputable def s_l1Bytes_x : Fx := ⟨174, Tryz.f174, [(0, la ⟨[0, 1, 5, 6], [.softo 0 0], false, 1⟩ ⟨[4, 5], [], false, 1⟩)], 1⟩
noncomputable def s_l1Bytes_L0_T (v1 : Int) (a : Curs × List Int) : Tr (Stp (Curs × List Int) (Empty)) :=
  .cal s_l1Byte.c (a.1, ()) fun c2 =>
  .grd (Nat.ble ((2 * (a.2.length + 1) + 1024) * 1) maxSl) <|
  .ret (.next (c2.2, (a.2 ++ [(IntKind.wrap .u8 c2.1)])))
noncomputable def s_l1Bytes_L0_d : s_l1Bytes_L0_h.V → LC s_l1Bytes_L0_h (Curs × List Int) (Empty) (Int × (Curs × List Int)) := fun (v0, v1, v2, v3, _) => ⟨v1, (v2, v3), fun v1 a => (v0, v1, a.1, a.2, ()), fun v1 _ => (decide (v1 < v0)), s_l1Bytes_L0_T, up, 1, (Int.toNat (v0 - v1)), (fun p => Empty.elim p), fun i a => (i, a), fun _ k x => k (.exit 0) (Sh.enc ⟨[(4, false, [.undef]), (5, false, [.own 1])], [.box [.st .curs [.sl .any]], .arr .u8 false true]⟩ (x.2.1, x.2.2, ()))⟩
theorem s_l1Bytes_L0_s : LS Tryz.prog s_l1Bytes_x [0] (leC 0 s_l1Bytes_L0_h s_l1Bytes_L0_d) := loopC st (orcOf_ok s_l1Bytes_o) _ s_l1Bytes_L0_d [] trivial (by kernel_rfl) (fun _ => by kernel_rfl) fun _ _ _ _ _ _ => by kernel_rfl
theorem s_l1Bytes_L0_k {v0 v1 : Int} {v2 : Curs} {v3 : List Int} (h0 : 0 ≤ v1) (h1 : v0 ≤ 4611686018427387904) (h2 : v0 ≤ 4294967296) (h3 : sm_curs v2 ∧ (v3.length : Int) = v1) : (s_l1Bytes_L0_d (v0, v1, v2, v3, ())).U v0 (fun v1 a => sm_curs a.1 ∧ (a.2.length : Int) = v1) (fun _ => True) :=
  LC.okU (i := v1) (a := (v2, v3)) (fun _ _ => rfl) (fun _ => rfl) rfl h0 h1 h3 fun v1 (v2, v3) hj hk hv => by
    refine Tr.C ?_ fun _ _ _ => Tr.Gb ?_ fun _ => Tr.Rn ?_
    all_goals (grind)
noncomputable def s_l1Bytes : FT (Curs × Int × Unit) (List Int × Curs) (fun x => sm_curs x.1 ∧ x.2.1 ≤ 1048576) (fun x v => sS v.1 ∧ sm_curs v.2) := ⟨fun (y0, x1, _) =>
    .lp (s_l1Bytes_L0_d (x1, 0, y0, [], ())).lp fun (_, a3_0, a3_1) =>
    .ret (a3_1, a3_0),
  fun (y0, x1, _) hp => by
    refine Tr.L (s_l1Bytes_L0_k ?_ ?_ ?_ ?_) (fun (a3_0, a3_1) _ => Tr.R ?_) (fun p => Empty.elim p)
    all_goals ((try simp only [s_l1Bytes_L0_d, LC.lp, LC.ct, Ct.lp] at *) <;> grind)⟩
noncomputable def s_l1Bytes_e := entM st s_l1Bytes_x s_l1Bytes_o [(leC 0 s_l1Bytes_L0_h s_l1Bytes_L0_d)] [.wr false [.ptr 0], .sc (.int .i64)] [.box [.st .curs]] (fun x y => (y.1.1, x.2.1, ())) s_l1Bytes (fun v => [(false, [sc (.o true) .u8 v.1])]) (fun x y v => ((v.2, ()), ())) Tryz.func174 (by kernel_rfl) ⟨s_l1Bytes_L0_s, trivial⟩ fun _ _ => by kernel_rfl
/-- spec.l1Whole -/
noncomputable def s_l1Whole : FT (Curs × Unit) (Int × Curs) (fun x => sm_curs x.1) (fun x v => sm_curs v.2) := ⟨fun (y0, _) =>
    .cal s_l1Below.c (y0, 3, ()) fun c1 =>
    .ite (c1.1 == 0) (.cal s_l1PickInt.c (c1.2, [0, 1, (-1), 9, 10, 999999999999, 1000000000000, 9223372036854775807, 4294967295, 4294967296, 65535, 65536, (-9223372036854775808)], ()) fun c2 =>
      .ret (c2.1, c2.2)) <|
    .ite (c1.1 == 1) (.cal s_l1Below.c (c1.2, 1000000, ()) fun c3 =>
      .ret ((IntKind.wrap .i64 (c3.1 - 500000)), c3.2)) <|
    .cal s_l1Below.c (c1.2, 20, ()) fun c4 =>
    .ret (c4.1, c4.2),
  fun (y0, _) hp => by
    refine Tr.C ?_ fun _ _ _ => Tr.I (fun _ => Tr.C ?_ fun _ _ _ => Tr.R ?_) fun _ => Tr.I (fun _ => Tr.C ?_ fun _ _ _ => Tr.R ?_) fun _ => Tr.C ?_ fun _ _ _ => Tr.R ?_
    all_goals (first | grind | (simp only [sS, List.length_cons, List.length_nil]; grind))⟩
noncomputable def s_l1Whole_e := entM st ⟨150, Tryz.f150, [], 1⟩ [s_l1Below_e, s_l1PickInt_e] [] [.wr false [.ptr 0]] [.box [.st .curs]] (fun x y => (y.1.1, ())) s_l1Whole (fun v => [(false, [.c (.int .i64 v.1)])]) (fun x y v => ((v.2, ()), ())) Tryz.func150 (by kernel_rfl) trivial fun _ _ => by kernel_rfl
/-- spec.l4Place -/
noncomputable def s_l4Place : FT (Curs × Unit) (Int × Curs) (fun x => sm_curs x.1) (fun x v => sm_curs v.2) := ⟨fun (y0, _) =>
    .cal s_l1Once.c (y0, 12, ()) fun c1 =>
    .ite c1.1 (.cal s_l1Whole.c (c1.2, ()) fun c2 =>
      .ret (c2.1, c2.2)) <|
    .cal s_l2Deep.c (c1.2, ()) fun c3 =>
    .ret (c3.1, c3.2),
  fun (y0, _) hp => by
    refine Tr.C ?_ fun _ _ _ => Tr.I (fun _ => Tr.C ?_ fun _ _ _ => Tr.R ?_) fun _ => Tr.C ?_ fun _ _ _ => Tr.R ?_
    all_goals (grind)⟩
noncomputable def s_l4Place_e := entM st ⟨223, Tryz.f223, [], 1⟩ [s_l1Once_e, s_l1Whole_e, s_l2Deep_e] [] [.wr false [.ptr 0]] [.box [.st .curs]] (fun x y => (y.1.1, ())) s_l4Place (fun v => [(false, [.c (.int .i64 v.1)])]) (fun x y v => ((v.2, ()), ())) Tryz.func223 (by kernel_rfl) trivial fun _ _ => by kernel_rfl
/-- spec.l4Near -/
noncomputable def s_l4Near : FT (Curs × Int × Unit) (Int × Curs) (fun x => sm_curs x.1) (fun x v => sm_curs v.2) := ⟨fun (y0, x1, _) =>
    .cal s_l1Below.c (y0, 4, ()) fun c1 =>
    .ite (c1.1 == 0) (.cal s_l4Place.c (c1.2, ()) fun c2 =>
      .ret (c2.1, c2.2)) <|
    .ite (c1.1 == 1) (.cal s_l1PickInt.c (c1.2, [2147483647, 2147483648, (-1), 1, 0], ()) fun c3 =>
      .val (s_SeqAdd.f (x1, c3.1, ())) fun c4 =>
      .ret (c4, c3.2)) <|
    .cal s_l1Below.c (c1.2, 41, ()) fun c5 =>
    .val (s_SeqAdd.f (x1, (IntKind.wrap .i64 (c5.1 - 20)), ())) fun c6 =>
    .ret (c6, c5.2),
  fun (y0, x1, _) hp => by
    refine Tr.C ?_ fun _ _ _ => Tr.I (fun _ => Tr.C ?_ fun _ _ _ => Tr.R ?_) fun _ => Tr.I (fun _ => Tr.C ?_ fun _ _ _ => Tr.V fun _ _ => Tr.R ?_) fun _ => Tr.C ?_ fun _ _ _ => Tr.V fun _ _ => Tr.R ?_
    all_goals (grind)⟩
noncomputable def s_l4Near_e := entM st ⟨194, Tryz.f194, [], 1⟩ [s_l1Below_e, s_l4Place_e, s_l1PickInt_e, s_SeqAdd_e] [] [.wr false [.ptr 0], .sc (.int .i64)] [.box [.st .curs]] (fun x y => (y.1.1, x.2.1, ())) s_l4Near (fun v => [(false, [.c (.int .i64 v.1)])]) (fun x y v => ((v.2, ()), ())) Tryz.func194 (by kernel_rfl) trivial fun _ _ => by kernel_rfl
/-- spec.l26Ack -/
noncomputable def s_l26Ack_o : List (Ent1 Tryz.prog) := [s_SeqAdd_e, s_l1PickInt_e, s_NoOptions_e, s_l1Below_e, s_l1Bytes_e, s_l1Once_e, s_l4Near_e, s_l4Rest_e]
def s_l26Ack_J35_a : An := ⟨⟨[], [], false, 1⟩, ⟨[0, 6, 7], [], false, 1⟩, ⟨[], []⟩, [(.normal, ⟨[(0, false, [.ptr 0 0]), (6, false, [.ptr 1 0]), (7, false, [.ptr 2 0])], [.box [.st .curs [.sl .any]], .box [.st .segm []], .box [.st .segm []]]⟩)]⟩
noncomputable def s_l26Ack_x : Fx := ⟨149, Tryz.f149, [(1000035, s_l26Ack_J35_a)], 1⟩
noncomputable def s_l26Ack : FT (Curs × Segm × Segm × Unit) (Segm × Curs) (fun x => sm_curs x.1 ∧ sm_segm x.2.1 ∧ sm_segm x.2.2.1) (fun x v => sm_segm v.1 ∧ sm_curs v.2) := ⟨fun (y0, x1, x2, _) =>
    .val (s_SeqAdd.f (x1.seq, 1, ())) fun c1 =>
    .val (s_SeqAdd.f (x2.seq, 1, ())) fun c2 =>
    .cal s_l1PickInt.c (y0, [0, 9, 65535], ()) fun c3 =>
    .val (s_NoOptions.f (())) fun c4 =>
    .cal s_l1Below.c (c3.2, 3, ()) fun c5 =>
    .cal s_l1Bytes.c (c5.2, c5.1, ()) fun c6 =>
    .ite x2.opts.stamp (.cal s_l1Once.c (c6.2, 6, ()) fun c7 =>
      .bnd (β := Curs × Segm × Segm × Unit) (.ite (!c7.1) (.val (s_SeqAdd.f (x1.opts.val, 1, ())) fun c8 =>
          .ret (c7.2, (⟨0, 0, 0, 0, 0, 0, ⟨0, 0, false, false, 0, 0⟩, []⟩ : Segm), (⟨x1.from_, x1.to, c1, c2, 16, c3.1, ⟨c4.mss, c4.scale, c4.sack, true, c8, x2.opts.val⟩, (toBytes c6.1)⟩ : Segm), ())) <|
        .ret (c7.2, (⟨0, 0, 0, 0, 0, 0, ⟨0, 0, false, false, 0, 0⟩, []⟩ : Segm), (⟨x1.from_, x1.to, c1, c2, 16, c3.1, c4, (toBytes c6.1)⟩ : Segm), ())) fun (u9a0, _, u9a2, _) =>
      .cal s_l1Below.c (u9a0, 12, ()) fun c10 =>
      .ite (c10.1 == 0) (.cal s_l4Near.c (c10.2, u9a2.ack, ()) fun c11 =>
        .val (s_l4Rest.f (c11.1, ())) fun c12 =>
        .ret (({ u9a2 with ack := c12 } : Segm), c11.2)) <|
      .ite (c10.1 == 1) (.cal s_l4Near.c (c10.2, u9a2.seq, ()) fun c13 =>
        .val (s_l4Rest.f (c13.1, ())) fun c14 =>
        .ret (({ u9a2 with seq := c14 } : Segm), c13.2)) <|
      .ret (u9a2, c10.2)) <|
    .cal s_l1Below.c (c6.2, 12, ()) fun c15 =>
    .ite (c15.1 == 0) (.cal s_l4Near.c (c15.2, c2, ()) fun c16 =>
      .val (s_l4Rest.f (c16.1, ())) fun c17 =>
      .ret ((⟨x1.from_, x1.to, c1, c17, 16, c3.1, c4, (toBytes c6.1)⟩ : Segm), c16.2)) <|
    .ite (c15.1 == 1) (.cal s_l4Near.c (c15.2, c1, ()) fun c18 =>
      .val (s_l4Rest.f (c18.1, ())) fun c19 =>
      .ret ((⟨x1.from_, x1.to, c19, c2, 16, c3.1, c4, (toBytes c6.1)⟩ : Segm), c18.2)) <|
    .ret ((⟨x1.from_, x1.to, c1, c2, 16, c3.1, c4, (toBytes c6.1)⟩ : Segm), c15.2),
  fun (y0, x1, x2, _) hp => by
    refine Tr.V fun _ _ => Tr.V fun _ _ => Tr.C ?_ fun _ _ _ => Tr.V fun _ _ => Tr.C ?_ fun _ _ _ => Tr.C ?_ fun _ _ _ => Tr.I (fun _ => Tr.C ?_ fun _ _ _ => Tr.B (Q' := fun w => sm_curs w.1 ∧ sm_segm w.2.1 ∧ sm_segm w.2.2.1) (Tr.I (fun _ => Tr.V fun _ _ => Tr.R ?_) fun _ => Tr.R ?_) (fun (u9a0, u9a1, u9a2, _) _ _ => Tr.C ?_ fun _ _ _ => Tr.I (fun _ => Tr.C ?_ fun _ _ _ => Tr.V fun _ _ => Tr.R ?_) fun _ => Tr.I (fun _ => Tr.C ?_ fun _ _ _ => Tr.V fun _ _ => Tr.R ?_) fun _ => Tr.R ?_)) fun _ => Tr.C ?_ fun _ _ _ => Tr.I (fun _ => Tr.C ?_ fun _ _ _ => Tr.V fun _ _ => Tr.R ?_) fun _ => Tr.I (fun _ => Tr.C ?_ fun _ _ _ => Tr.V fun _ _ => Tr.R ?_) fun _ => Tr.R ?_
    all_goals ((try simp only [Tr.nice, letK] at *) <;> grind)⟩
noncomputable def s_l26Ack_e := entM st s_l26Ack_x s_l26Ack_o [] [.wr false [.ptr 0], .st .segm, .st .segm] [.box [.st .curs]] (fun x y => (y.1.1, x.2.1, x.2.2.1, ())) s_l26Ack (fun v => [(true, q_segm v.1)]) (fun x y v => ((v.2, ()), ())) Tryz.func149 (by kernel_rfl) trivial fun _ _ => by kernel_rfl
/-- spec.l26Door -/
noncomputable def s_l26Door_o : List (Ent1 Tryz.prog) := [s_l1Below_e, s_l26Keys_e, s_l25Limits_e, s_l26Syn_e, s_TupleOf_e, s_FindConn_e, s_SynIn_e, s_l1Once_e, s_l26Ack_e, s_AckIn_e]
def s_l26Door_L0_h : Sh := ⟨[(0, false, [.ptr 0 0]), (2, false, [.ptr 1 0]), (3, false, [.ptr 2 0]), (4, false, [.int .i64]), (5, false, [.int .i64])], [.box [.st .curs [.sl .any]], .box [.st .door [.nil .macRow, .nil .macRow, .nil .half, .nil .conn, .nil .tupl]], .box [.st .door [.own 3, .own 4, .own 5, .own 6, .own 7]], .of false true, .of false true, .of false true, .of false true, .of false true]⟩
noncomputable def s_l26Door_x : Fx := ⟨104, Tryz.f104, [(0, la ⟨[0, 2, 3, 4, 5], [.box 3 16 .half, .box 3 17 .conn, .box 3 18 .tupl], false, 1⟩ ⟨[2, 3], [], false, 1⟩)], 1⟩
noncomputable def s_l26Door_L0_T (v1 : Int) (a : Curs × Door × Door) : Tr (Stp (Curs × Door × Door) (Empty)) :=
  .cal s_l26Syn.c (a.1, ()) fun c13 =>
  .cal s_l1Below.c (c13.2, 2, ()) fun c14 =>
  .val (s_TupleOf.f ((IntKind.wrap .i64 (167772162 + c14.1)), c13.1, ())) fun c15 =>
  .cal s_FindConn.c (a.2.2.table, c15, ()) fun c16 =>
  .ite (decide (0 ≤ c16)) (.ret (.next (c14.2, ({ a.2.1 with keys.now.rows := [], keys.before.rows := [], halves := [], table.conns := [], table.waiting := [] } : Door), a.2.2))) <|
  .cal s_SynIn.c (a.2.2, c15, c13.1, ()) fun c17 =>
  .ite (decide (0 < (c17.2.length : Int))) (.cal s_l1Once.c (c14.2, 2, ()) fun c18 =>
    .ite c18.1 (.grd (decide (0 < (c17.2.length : Int))) <|
      .cal s_l26Ack.c (c18.2, c13.1, (c17.2.getD 0 (Ty.zero .segm)), ()) fun c19 =>
      .cal s_AckIn.c (c17.1, c15, c19.1, ()) fun c20 =>
      .ret (.next (c19.2, ({ a.2.1 with keys.now.rows := [], keys.before.rows := [], halves := [], table.conns := [], table.waiting := [] } : Door), c20.1))) <|
    .ret (.next (c18.2, ({ a.2.1 with keys.now.rows := [], keys.before.rows := [], halves := [], table.conns := [], table.waiting := [] } : Door), c17.1))) <|
  .ret (.next (c14.2, ({ a.2.1 with keys.now.rows := [], keys.before.rows := [], halves := [], table.conns := [], table.waiting := [] } : Door), c17.1))
noncomputable def s_l26Door_L0_d : s_l26Door_L0_h.V → LC s_l26Door_L0_h (Curs × Door × Door) (Empty) (Int × (Curs × Door × Door)) := fun (v0, v1, v2, v3, v4, _) => ⟨v1, (v2, v3, v4), fun v1 a => (v0, v1, a.1, a.2.1, a.2.2, ()), fun v1 _ => (decide (v1 < v0)), s_l26Door_L0_T, up, 1, (Int.toNat (v0 - v1)), (fun p => Empty.elim p), fun i a => (i, a), fun _ k x => k (.exit 0) (Sh.enc ⟨[(2, false, [.ptr 1 0]), (3, false, [.ptr 2 0])], [.box [.st .curs [.sl .any]], .box [.st .door [.nil .macRow, .nil .macRow, .nil .half, .nil .conn, .nil .tupl]], .box [.st .door [.own 3, .own 4, .own 5, .own 6, .own 7]], .of false true, .of false true, .of false true, .of false true, .of false true]⟩ (x.2.1, ({ x.2.2.1 with keys.now.rows := [], keys.before.rows := [], halves := [], table.conns := [], table.waiting := [] } : Door), x.2.2.2, ()))⟩
theorem s_l26Door_L0_s : LS Tryz.prog s_l26Door_x [0] (leC 0 s_l26Door_L0_h s_l26Door_L0_d) := loopC st (orcOf_ok s_l26Door_o) _ s_l26Door_L0_d [] trivial (by kernel_rfl) (fun _ => by kernel_rfl) fun _ _ _ _ _ _ => by kernel_rfl
theorem s_l26Door_L0_k {v0 v1 : Int} {v2 : Curs} {v3 v4 : Door} (h0 : 0 ≤ v1) (h1 : v0 ≤ 4611686018427387904) (h2 : sm_curs v2 ∧ sm_door v3 ∧ sm_door v4) : (s_l26Door_L0_d (v0, v1, v2, v3, v4, ())).U v0 (fun v1 a => sm_curs a.1 ∧ sm_door a.2.1 ∧ sm_door a.2.2) (fun _ => True) :=
  LC.okU (i := v1) (a := (v2, v3, v4)) (fun _ _ => rfl) (fun _ => rfl) rfl h0 h1 h2 fun v1 (v2, v3, v4) hj hk hv => by
    refine Tr.C ?_ fun _ _ _ => Tr.C ?_ fun _ _ _ => Tr.V fun _ _ => Tr.C ?_ fun _ _ _ => Tr.I (fun _ => Tr.Rn ?_) fun _ => Tr.C ?_ fun _ _ _ => Tr.I (fun _ => Tr.C ?_ fun _ _ _ => Tr.I (fun _ => Tr.G1 ?_ fun _ => Tr.C ?_ fun _ _ _ => Tr.C ?_ fun _ _ _ => Tr.Rn ?_) fun _ => Tr.Rn ?_) fun _ => Tr.Rn ?_
    all_goals (grind)
noncomputable def s_l26Door : FT (Curs × Unit) (Door × Curs) (fun x => sm_curs x.1) (fun x v => sm_door v.1 ∧ sm_curs v.2) := ⟨fun (y0, _) =>
    .cal s_l1Below.c (y0, 99, ()) fun c1 =>
    .cal s_l26Keys.c (c1.2, ()) fun c2 =>
    .cal s_l25Limits.c (c2.2, ()) fun c3 =>
    .cal s_l1Below.c (c3.2, 6, ()) fun c4 =>
    .lp (s_l26Door_L0_d (c4.1, 0, c4.2, (⟨0, 0, ⟨0, ⟨false, 0, 0, []⟩, ⟨false, 0, 0, []⟩, false⟩, ⟨0, 0, 0, 0⟩, [], ⟨[], []⟩, 0⟩ : Door), (⟨80, c1.1, c2.1, c3.1, [], ⟨[], []⟩, 0⟩ : Door), ())).lp fun (_, a21_0, _, a21_2) =>
    .ret (a21_2, a21_0),
  fun (y0, _) hp => by
    refine Tr.C ?_ fun _ _ _ => Tr.C ?_ fun _ _ _ => Tr.C ?_ fun _ _ _ => Tr.C ?_ fun _ _ _ => Tr.L (s_l26Door_L0_k ?_ ?_ ?_) (fun (a21_0, a21_1, a21_2) _ => Tr.R ?_) (fun p => Empty.elim p)
    all_goals ((try simp only [s_l26Door_L0_d, LC.lp, LC.ct, Ct.lp] at *) <;> grind)⟩
noncomputable def s_l26Door_e := entM st s_l26Door_x s_l26Door_o [(leC 0 s_l26Door_L0_h s_l26Door_L0_d)] [.wr false [.ptr 0]] [.box [.st .curs]] (fun x y => (y.1.1, ())) s_l26Door (fun v => [(true, q_door (.o true) (.o true) (.o true) (.o true) (.o true) v.1)]) (fun x y v => ((v.2, ()), ())) Tryz.func104 (by kernel_rfl) ⟨s_l26Door_L0_s, trivial⟩ fun _ _ => by kernel_rfl
/-- spec.l2Word -/
noncomputable def s_l2Word : FT (Curs × Unit) (Int × Curs) (fun x => sm_curs x.1) (fun x v => sm_curs v.2) := ⟨fun (y0, _) =>
    .cal s_l1Below.c (y0, 3, ()) fun c1 =>
    .ite (c1.1 == 0) (.cal s_l1Whole.c (c1.2, ()) fun c2 =>
      .ret (c2.1, c2.2)) <|
    .ite (c1.1 == 1) (.cal s_l1PickInt.c (c1.2, [0, 1, 255, 256, 65535, 65536, 16777215, 4294967295, 4294967296, 281474976710655, 281474976710656], ()) fun c3 =>
      .ret (c3.1, c3.2)) <|
    .cal s_l1Below.c (c1.2, 65536, ()) fun c4 =>
    .ret (c4.1, c4.2),
  fun (y0, _) hp => by
    refine Tr.C ?_ fun _ _ _ => Tr.I (fun _ => Tr.C ?_ fun _ _ _ => Tr.R ?_) fun _ => Tr.I (fun _ => Tr.C ?_ fun _ _ _ => Tr.R ?_) fun _ => Tr.C ?_ fun _ _ _ => Tr.R ?_
    all_goals (first | grind | (simp only [sS, List.length_cons, List.length_nil]; grind))⟩
noncomputable def s_l2Word_e := entM st ⟨105, Tryz.f105, [], 1⟩ [s_l1Below_e, s_l1Whole_e, s_l1PickInt_e] [] [.wr false [.ptr 0]] [.box [.st .curs]] (fun x y => (y.1.1, ())) s_l2Word (fun v => [(false, [.c (.int .i64 v.1)])]) (fun x y v => ((v.2, ()), ())) Tryz.func105 (by kernel_rfl) trivial fun _ _ => by kernel_rfl
/-- spec.l13Keys -/
noncomputable def s_l13Keys_o : List (Ent1 Tryz.prog) := [s_l1PickInt_e, s_l10Key_e, s_KeyMac_e, s_l1Once_e, s_TableMac_e]
def s_l13Keys_J19_a : An := ⟨⟨[], [], false, 1⟩, ⟨[0, 2, 3], [], false, 1⟩, ⟨[], []⟩, [(.normal, ⟨[(0, false, [.ptr 0 0]), (2, false, [.ptr 1 0]), (3, false, [.ptr 2 0])], [.box [.st .curs [.sl .any]], .box [.st .keys [.nil .macRow, .nil .macRow]], .box [.st .keys [.own 3, .own 4]], .of false true, .of false true]⟩), (.normal, ⟨[(0, false, [.ptr 0 0]), (2, false, [.ptr 1 0]), (3, false, [.ptr 2 0])], [.box [.st .curs [.sl .any]], .box [.st .keys [.nil .macRow, .nil .macRow]], .box [.st .keys [.own 3, .nil .macRow]], .of false true]⟩)]⟩
noncomputable def s_l13Keys_x : Fx := ⟨151, Tryz.f151, [(1000019, s_l13Keys_J19_a)], 1⟩
noncomputable def s_l13Keys : FT (Curs × Unit) (Keys × Curs) (fun x => sm_curs x.1) (fun x v => sm_keys v.1 ∧ sm_curs v.2) := ⟨fun (y0, _) =>
    .cal s_l1PickInt.c (y0, [0, 1, 2, 30, 31, 32, 33, 4294967295], ()) fun c1 =>
    .cal s_l10Key.c (c1.2, ()) fun c2 =>
    .cal s_l10Key.c (c2.2, ()) fun c3 =>
    .cal s_KeyMac.c (c2.1, c3.1, ()) fun c4 =>
    .ite (decide (0 < c1.1)) (.cal s_l1Once.c (c3.2, 2, ()) fun c5 =>
      .bnd (β := WT s_l13Keys_J19_a.es) (.ite c5.1 (.cal s_l10Key.c (c5.2, ()) fun c6 =>
          .cal s_l10Key.c (c6.2, ()) fun c7 =>
          .cal s_KeyMac.c (c6.1, c7.1, ()) fun c8 =>
          .ret (.inl (c7.2, (⟨0, ⟨false, 0, 0, []⟩, ⟨false, 0, 0, []⟩, false⟩ : Keys), (⟨c1.1, c4, c8, true⟩ : Keys), ()))) <|
        .ret (.inr ((c5.2, (⟨0, ⟨false, 0, 0, []⟩, ⟨false, 0, 0, []⟩, false⟩ : Keys), (⟨c1.1, c4, ⟨false, 0, 0, []⟩, false⟩ : Keys), ())))) fun w9 => .sum w9 (fun (u9a0, _, u9a2, _) =>
      .cal s_l1Once.c (u9a0, 3, ()) fun c10 =>
      .ite c10.1 (.cal s_TableMac.c ([], ()) fun c11 =>
        .ret (({ u9a2 with now.use := c11.use, now.k := c11.k, now.l := c11.l, now.rows := c11.rows } : Keys), c10.2)) <|
      .ret (u9a2, c10.2)) <|
      fun (u9b0, _, u9b2, _) =>
      .cal s_l1Once.c (u9b0, 3, ()) fun c12 =>
      .ite c12.1 (.cal s_TableMac.c ([], ()) fun c13 =>
        .ret (({ u9b2 with now.use := c13.use, now.k := c13.k, now.l := c13.l, now.rows := c13.rows, before.rows := [] } : Keys), c12.2)) <|
      .ret (({ u9b2 with before.rows := [] } : Keys), c12.2)) <|
    .cal s_l1Once.c (c3.2, 3, ()) fun c14 =>
    .ite c14.1 (.cal s_TableMac.c ([], ()) fun c15 =>
      .ret ((⟨c1.1, c15, ⟨false, 0, 0, []⟩, false⟩ : Keys), c14.2)) <|
    .ret ((⟨c1.1, c4, ⟨false, 0, 0, []⟩, false⟩ : Keys), c14.2),
  fun (y0, _) hp => by
    refine Tr.C ?_ fun _ _ _ => Tr.C ?_ fun _ _ _ => Tr.C ?_ fun _ _ _ => Tr.C trivial fun _ _ _ => Tr.I (fun _ => Tr.C ?_ fun _ _ _ => Tr.B (Q' := (Sum.elim (fun w => sm_curs w.1 ∧ sm_keys w.2.1 ∧ sm_keys w.2.2.1) (fun w => sm_curs w.1 ∧ sm_keys w.2.1 ∧ sm_keys w.2.2.1))) (Tr.I (fun _ => Tr.C ?_ fun _ _ _ => Tr.C ?_ fun _ _ _ => Tr.C trivial fun _ _ _ => Tr.R ?_) fun _ => Tr.R ?_) (fun _ _ q9 => Tr.E q9 (fun (u9a0, u9a1, u9a2, _) _ => Tr.C ?_ fun _ _ _ => Tr.I (fun _ => Tr.C ?_ fun _ _ _ => Tr.R ?_) fun _ => Tr.R ?_) (fun (u9b0, u9b1, u9b2, _) _ => Tr.C ?_ fun _ _ _ => Tr.I (fun _ => Tr.C ?_ fun _ _ _ => Tr.R ?_) fun _ => Tr.R ?_))) fun _ => Tr.C ?_ fun _ _ _ => Tr.I (fun _ => Tr.C ?_ fun _ _ _ => Tr.R ?_) fun _ => Tr.R ?_
    all_goals ((try simp only [Tr.nice, letK] at *) <;> first | grind | (simp only [sS, List.length_cons, List.length_nil]; grind))⟩
noncomputable def s_l13Keys_e := entM st s_l13Keys_x s_l13Keys_o [] [.wr false [.ptr 0]] [.box [.st .curs]] (fun x y => (y.1.1, ())) s_l13Keys (fun v => [(true, q_keys (.o true) (.o true) v.1)]) (fun x y v => ((v.2, ()), ())) Tryz.func151 (by kernel_rfl) trivial fun _ _ => by kernel_rfl
/-- spec.l1Pick -/
noncomputable def s_l1Pick : FT (Curs × List Bytes × Unit) (Bytes × Curs) (fun x => sm_curs x.1 ∧ sL sS x.2.1 ∧ 0 < x.2.1.length) (fun x v => sS v.1 ∧ sm_curs v.2) := ⟨fun (y0, x1, _) =>
    .cal s_l1Below.c (y0, (x1.length : Int), ()) fun c1 =>
    .grd ((decide (0 ≤ c1.1)) && (decide (c1.1 < (x1.length : Int)))) <|
    .ret ((x1.getD c1.1.toNat []), c1.2),
  fun (y0, x1, _) hp => by
    refine Tr.C ?_ fun _ _ _ => Tr.G2 ?_ fun _ => Tr.R ?_
    all_goals (grind)⟩
noncomputable def s_l1Pick_e := entM st ⟨224, Tryz.f224, [], 1⟩ [s_l1Below_e] [] [.wr false [.ptr 0], .sc (.sl .str)] [.box [.st .curs]] (fun x y => (y.1.1, x.2.1, ())) s_l1Pick (fun v => [(false, [.c (.str v.1)])]) (fun x y v => ((v.2, ()), ())) Tryz.func224 (by kernel_rfl) trivial fun _ _ => by kernel_rfl
/-- spec.l11Rows -/
noncomputable def s_l11Rows_o : List (Ent1 Tryz.prog) := [s_l1Below_e, s_l1Pick_e, s_l1PickInt_e, s_l1Once_e, s_l1Whole_e]
def s_l11Rows_L0_h : Sh := ⟨[(0, false, [.ptr 0 0]), (3, false, [.own 1]), (4, false, [.int .i64]), (5, false, [.int .i64])], [.box [.st .curs [.sl .any]], .arr .macRow false true]⟩
noncomputable def s_l11Rows_x : Fx := ⟨196, Tryz.f196, [(0, la ⟨[0, 3, 4, 5], [], false, 1⟩ ⟨[0, 2, 3, 4], [], false, 1⟩)], 1⟩
noncomputable def s_l11Rows_L0_T (v1 : Int) (a : Curs × List MacRow) : Tr (Stp (Curs × List MacRow) (Empty)) :=
  .cal s_l1Pick.c (a.1, [[], [97], [98], [99, 100], [97]], ()) fun c2 =>
  .cal s_l1Below.c (c2.2, 16777216, ()) fun c3 =>
  .cal s_l1PickInt.c (c3.2, [0, 1, 5, 16777215, c3.1], ()) fun c4 =>
  .grd (Nat.ble ((2 * (a.2.length + 1) + 1024) * 24) maxSl) <|
  .ret (.next (c4.2, (a.2 ++ [(⟨c2.1, c4.1⟩ : MacRow)])))
noncomputable def s_l11Rows_L0_d : s_l11Rows_L0_h.V → LC s_l11Rows_L0_h (Curs × List MacRow) (Empty) (Int × (Curs × List MacRow)) := fun (v0, v1, v2, v3, _) => ⟨v1, (v2, v3), fun v1 a => (v0, v1, a.1, a.2, ()), fun v1 _ => (decide (v1 < v0)), s_l11Rows_L0_T, up, 1, (Int.toNat (v0 - v1)), (fun p => Empty.elim p), fun i a => (i, a), fun _ k x => k (.exit 0) (Sh.enc ⟨[(0, false, [.ptr 0 0]), (2, false, [.undef]), (3, false, [.own 1]), (4, false, [.int .i64])], [.box [.st .curs [.sl .any]], .arr .macRow false true]⟩ (v0, x.2.1, x.2.2, ()))⟩
theorem s_l11Rows_L0_s : LS Tryz.prog s_l11Rows_x [0] (leC 0 s_l11Rows_L0_h s_l11Rows_L0_d) := loopC st (orcOf_ok s_l11Rows_o) _ s_l11Rows_L0_d [] trivial (by kernel_rfl) (fun _ => by kernel_rfl) fun _ _ _ _ _ _ => by kernel_rfl
theorem s_l11Rows_L0_k {v0 v1 : Int} {v2 : Curs} {v3 : List MacRow} (h0 : 0 ≤ v1) (h1 : v0 ≤ 4611686018427387904) (h2 : v0 ≤ 4294967296) (h3 : sm_curs v2 ∧ (v3.length : Int) = v1 ∧ smE sm_macRow v3) : (s_l11Rows_L0_d (v0, v1, v2, v3, ())).U v0 (fun v1 a => sm_curs a.1 ∧ (a.2.length : Int) = v1 ∧ smE sm_macRow a.2) (fun _ => True) :=
  LC.okU (i := v1) (a := (v2, v3)) (fun _ _ => rfl) (fun _ => rfl) rfl h0 h1 h3 fun v1 (v2, v3) hj hk hv => by
    refine Tr.C ?_ fun _ _ _ => Tr.C ?_ fun _ _ _ => Tr.C ?_ fun _ _ _ => Tr.Gb ?_ fun _ => Tr.Rn ?_
    all_goals (grind)
noncomputable def s_l11Rows : FT (Curs × Unit) (List MacRow × Curs) (fun x => sm_curs x.1) (fun x v => sL sm_macRow v.1 ∧ sm_curs v.2) := ⟨fun (y0, _) =>
    .cal s_l1Below.c (y0, 5, ()) fun c1 =>
    .lp (s_l11Rows_L0_d (c1.1, 0, c1.2, [], ())).lp fun (_, a5_0, a5_1) =>
    .ite (decide (0 < c1.1)) (.cal s_l1Once.c (a5_0, 6, ()) fun c6 =>
      .ite c6.1 (.cal s_l1Whole.c (c6.2, ()) fun c7 =>
        .grd (decide (0 < (a5_1.length : Int))) <|
        .ret ((a5_1.set 0 (⟨(a5_1.getD 0 (Ty.zero .macRow)).input, c7.1⟩ : MacRow)), c7.2)) <|
      .ret (a5_1, c6.2)) <|
    .ret (a5_1, a5_0),
  fun (y0, _) hp => by
    refine Tr.C ?_ fun _ _ _ => Tr.L (s_l11Rows_L0_k ?_ ?_ ?_ ?_) (fun (a5_0, a5_1) _ => Tr.I (fun _ => Tr.C ?_ fun _ _ _ => Tr.I (fun _ => Tr.C ?_ fun _ _ _ => Tr.G1 ?_ fun _ => Tr.R ?_) fun _ => Tr.R ?_) fun _ => Tr.R ?_) (fun p => Empty.elim p)
    all_goals ((try simp only [s_l11Rows_L0_d, LC.lp, LC.ct, Ct.lp] at *) <;> grind)⟩
noncomputable def s_l11Rows_e := entM st s_l11Rows_x s_l11Rows_o [(leC 0 s_l11Rows_L0_h s_l11Rows_L0_d)] [.wr false [.ptr 0]] [.box [.st .curs]] (fun x y => (y.1.1, ())) s_l11Rows (fun v => [(false, [sc (.o true) .macRow v.1])]) (fun x y v => ((v.2, ()), ())) Tryz.func196 (by kernel_rfl) ⟨s_l11Rows_L0_s, trivial⟩ fun _ _ => by kernel_rfl
/-- spec.l11Mac -/
noncomputable def s_l11Mac : FT (Curs × Unit) (Mac × Curs) (fun x => sm_curs x.1) (fun x v => sm_mac v.1 ∧ sm_curs v.2) := ⟨fun (y0, _) =>
    .cal s_l1Once.c (y0, 2, ()) fun c1 =>
    .ite c1.1 (.cal s_l11Rows.c (c1.2, ()) fun c2 =>
      .cal s_TableMac.c (c2.1, ()) fun c3 =>
      .ret (c3, c2.2)) <|
    .cal s_l10Key.c (c1.2, ()) fun c4 =>
    .cal s_l10Key.c (c4.2, ()) fun c5 =>
    .cal s_KeyMac.c (c4.1, c5.1, ()) fun c6 =>
    .cal s_l1Below.c (c5.2, 10, ()) fun c7 =>
    .ite (c7.1 == 0) (.ret (({ c6 with use := true } : Mac), c7.2)) <|
    .ite (c7.1 == 1) (.cal s_l11Rows.c (c7.2, ()) fun c8 =>
      .ret (({ c6 with rows := c8.1 } : Mac), c8.2)) <|
    .ret (c6, c7.2),
  fun (y0, _) hp => by
    refine Tr.C ?_ fun _ _ _ => Tr.I (fun _ => Tr.C ?_ fun _ _ _ => Tr.C ?_ fun _ _ _ => Tr.R ?_) fun _ => Tr.C ?_ fun _ _ _ => Tr.C ?_ fun _ _ _ => Tr.C trivial fun _ _ _ => Tr.C ?_ fun _ _ _ => Tr.I (fun _ => Tr.R ?_) fun _ => Tr.I (fun _ => Tr.C ?_ fun _ _ _ => Tr.R ?_) fun _ => Tr.R ?_
    all_goals (grind)⟩
noncomputable def s_l11Mac_e := entM st ⟨152, Tryz.f152, [], 1⟩ [s_l1Once_e, s_l11Rows_e, s_TableMac_e, s_l10Key_e, s_KeyMac_e, s_l1Below_e] [] [.wr false [.ptr 0]] [.box [.st .curs]] (fun x y => (y.1.1, ())) s_l11Mac (fun v => [(true, q_mac (.o true) v.1)]) (fun x y v => ((v.2, ()), ())) Tryz.func152 (by kernel_rfl) trivial fun _ _ => by kernel_rfl
/-- spec.l13Bent -/
noncomputable def s_l13Bent : FT (Curs × Unit) (Keys × Curs) (fun x => sm_curs x.1) (fun x v => sm_keys v.1 ∧ sm_curs v.2) := ⟨fun (y0, _) =>
    .cal s_l13Keys.c (y0, ()) fun c1 =>
    .cal s_l1Below.c (c1.2, 10, ()) fun c2 =>
    .ite (c2.1 == 0) (.cal s_l1PickInt.c (c2.2, [(-1), 0, 4294967296], ()) fun c3 =>
      .ret (({ c1.1 with epoch := c3.1 } : Keys), c3.2)) <|
    .ite (c2.1 == 1) (.ret (({ c1.1 with two := (!c1.1.two) } : Keys), c2.2)) <|
    .ite (c2.1 == 2) (.cal s_l11Mac.c (c2.2, ()) fun c4 =>
      .ret (({ c1.1 with now.use := c4.1.use, now.k := c4.1.k, now.l := c4.1.l, now.rows := c4.1.rows } : Keys), c4.2)) <|
    .ite (c2.1 == 3) (.cal s_l11Mac.c (c2.2, ()) fun c5 =>
      .ret (({ c1.1 with before.use := c5.1.use, before.k := c5.1.k, before.l := c5.1.l, before.rows := c5.1.rows } : Keys), c5.2)) <|
    .ret (c1.1, c2.2),
  fun (y0, _) hp => by
    refine Tr.C ?_ fun _ _ _ => Tr.C ?_ fun _ _ _ => Tr.I (fun _ => Tr.C ?_ fun _ _ _ => Tr.R ?_) fun _ => Tr.I (fun _ => Tr.R ?_) fun _ => Tr.I (fun _ => Tr.C ?_ fun _ _ _ => Tr.R ?_) fun _ => Tr.I (fun _ => Tr.C ?_ fun _ _ _ => Tr.R ?_) fun _ => Tr.R ?_
    all_goals (grind)⟩
noncomputable def s_l13Bent_e := entM st ⟨106, Tryz.f106, [], 1⟩ [s_l13Keys_e, s_l1Below_e, s_l1PickInt_e, s_l11Mac_e] [] [.wr false [.ptr 0]] [.box [.st .curs]] (fun x y => (y.1.1, ())) s_l13Bent (fun v => [(true, q_keys (.o true) (.o true) v.1)]) (fun x y v => ((v.2, ()), ())) Tryz.func106 (by kernel_rfl) trivial fun _ _ => by kernel_rfl
/-- spec.l6Ip -/
noncomputable def s_l6Ip : FT (Curs × Unit) (Int × Curs) (fun x => sm_curs x.1) (fun x v => sm_curs v.2) := ⟨fun (y0, _) =>
    .cal s_l1PickInt.c (y0, [167772161, 167772162, 167772163, 0, 4294967295], ()) fun c1 =>
    .ret (c1.1, c1.2),
  fun (y0, _) hp => by
    refine Tr.C ?_ fun _ _ _ => Tr.R ?_
    all_goals (grind)⟩
noncomputable def s_l6Ip_e := entM st ⟨175, Tryz.f175, [], 1⟩ [s_l1PickInt_e] [] [.wr false [.ptr 0]] [.box [.st .curs]] (fun x y => (y.1.1, ())) s_l6Ip (fun v => [(false, [.c (.int .i64 v.1)])]) (fun x y v => ((v.2, ()), ())) Tryz.func175 (by kernel_rfl) trivial fun _ _ => by kernel_rfl
/-- spec.l12Tuple -/
noncomputable def s_l12Tuple : FT (Curs × Unit) (Tupl × Curs) (fun x => sm_curs x.1) (fun x v => sm_curs v.2) := ⟨fun (y0, _) =>
    .cal s_l6Ip.c (y0, ()) fun c1 =>
    .cal s_l1PickInt.c (c1.2, [40000, 40001, 40002], ()) fun c2 =>
    .ret ((⟨c1.1, c2.1, 80⟩ : Tupl), c2.2),
  fun (y0, _) hp => by
    refine Tr.C ?_ fun _ _ _ => Tr.C ?_ fun _ _ _ => Tr.R ?_
    all_goals (grind)⟩
noncomputable def s_l12Tuple_e := entM st ⟨124, Tryz.f124, [], 1⟩ [s_l6Ip_e, s_l1PickInt_e] [] [.wr false [.ptr 0]] [.box [.st .curs]] (fun x y => (y.1.1, ())) s_l12Tuple (fun v => [(true, q_tupl v.1)]) (fun x y v => ((v.2, ()), ())) Tryz.func124 (by kernel_rfl) trivial fun _ _ => by kernel_rfl
/-- spec.l24Half -/
noncomputable def s_l24Half : FT (Curs × Unit) (Half × Curs) (fun x => sm_curs x.1) (fun x v => sm_curs v.2) := ⟨fun (y0, _) =>
    .cal s_l12Tuple.c (y0, ()) fun c1 =>
    .cal s_l2Deep.c (c1.2, ()) fun c2 =>
    .cal s_l2Deep.c (c2.2, ()) fun c3 =>
    .cal s_l8Options.c (c3.2, ()) fun c4 =>
    .cal s_l1Below.c (c4.2, 7, ()) fun c5 =>
    .cal s_l1PickInt.c (c5.2, [0, 64, 65535], ()) fun c6 =>
    .ret ((⟨c1.1, c2.1, c3.1, c4.1, c5.1, c6.1⟩ : Half), c6.2),
  fun (y0, _) hp => by
    refine Tr.C ?_ fun _ _ _ => Tr.C ?_ fun _ _ _ => Tr.C ?_ fun _ _ _ => Tr.C ?_ fun _ _ _ => Tr.C ?_ fun _ _ _ => Tr.C ?_ fun _ _ _ => Tr.R ?_
    all_goals (grind)⟩
noncomputable def s_l24Half_e := entM st ⟨154, Tryz.f154, [], 1⟩ [s_l12Tuple_e, s_l2Deep_e, s_l8Options_e, s_l1Below_e, s_l1PickInt_e] [] [.wr false [.ptr 0]] [.box [.st .curs]] (fun x y => (y.1.1, ())) s_l24Half (fun v => [(true, q_half v.1)]) (fun x y v => ((v.2, ()), ())) Tryz.func154 (by kernel_rfl) trivial fun _ _ => by kernel_rfl
/-- spec.l24List -/
noncomputable def s_l24List_o : List (Ent1 Tryz.prog) := [s_l1Below_e, s_l24Half_e, s_PutHalf_e]
def s_l24List_L0_h : Sh := ⟨[(0, false, [.ptr 0 0]), (3, false, [.own 1]), (4, false, [.int .i64]), (5, false, [.int .i64])], [.box [.st .curs [.sl .any]], .arr .half false true]⟩
noncomputable def s_l24List_x : Fx := ⟨153, Tryz.f153, [(0, la ⟨[0, 3, 4, 5], [], false, 1⟩ ⟨[2, 3], [], false, 1⟩)], 1⟩
noncomputable def s_l24List_L0_T (v1 : Int) (a : Curs × List Half) : Tr (Stp (Curs × List Half) (Empty)) :=
  .cal s_l24Half.c (a.1, ()) fun c2 =>
  .cal s_PutHalf.c (a.2, c2.1, 64, ()) fun c3 =>
  .ret (.next (c2.2, c3.1))
noncomputable def s_l24List_L0_d : s_l24List_L0_h.V → LC s_l24List_L0_h (Curs × List Half) (Empty) (Int × (Curs × List Half)) := fun (v0, v1, v2, v3, _) => ⟨v1, (v2, v3), fun v1 a => (v0, v1, a.1, a.2, ()), fun v1 _ => (decide (v1 < v0)), s_l24List_L0_T, up, 1, (Int.toNat (v0 - v1)), (fun p => Empty.elim p), fun i a => (i, a), fun _ k x => k (.exit 0) (Sh.enc ⟨[(2, false, [.undef]), (3, false, [.own 1])], [.box [.st .curs [.sl .any]], .arr .half false true]⟩ (x.2.1, x.2.2, ()))⟩
theorem s_l24List_L0_s : LS Tryz.prog s_l24List_x [0] (leC 0 s_l24List_L0_h s_l24List_L0_d) := loopC st (orcOf_ok s_l24List_o) _ s_l24List_L0_d [] trivial (by kernel_rfl) (fun _ => by kernel_rfl) fun _ _ _ _ _ _ => by kernel_rfl
theorem s_l24List_L0_k {v0 v1 : Int} {v2 : Curs} {v3 : List Half} (h0 : 0 ≤ v1) (h1 : v0 ≤ 4611686018427387904) (h2 : sm_curs v2 ∧ sS v3 ∧ (v3.length : Int) ≤ v1) : (s_l24List_L0_d (v0, v1, v2, v3, ())).U v0 (fun v1 a => sm_curs a.1 ∧ sS a.2 ∧ (a.2.length : Int) ≤ v1) (fun _ => True) :=
  LC.okU (i := v1) (a := (v2, v3)) (fun _ _ => rfl) (fun _ => rfl) rfl h0 h1 h2 fun v1 (v2, v3) hj hk hv => by
    refine Tr.C ?_ fun _ _ _ => Tr.C ?_ fun _ _ _ => Tr.Rn ?_
    all_goals (grind)
noncomputable def s_l24List : FT (Curs × Unit) (List Half × Curs) (fun x => sm_curs x.1) (fun x v => sS v.1 ∧ sm_curs v.2 ∧ (v.1.length : Int) ≤ 5) := ⟨fun (y0, _) =>
    .cal s_l1Below.c (y0, 5, ()) fun c1 =>
    .lp (s_l24List_L0_d (c1.1, 0, c1.2, [], ())).lp fun (_, a4_0, a4_1) =>
    .ret (a4_1, a4_0),
  fun (y0, _) hp => by
    refine Tr.C ?_ fun _ _ _ => Tr.L (s_l24List_L0_k ?_ ?_ ?_) (fun (a4_0, a4_1) _ => Tr.R ?_) (fun p => Empty.elim p)
    all_goals ((try simp only [s_l24List_L0_d, LC.lp, LC.ct, Ct.lp] at *) <;> grind)⟩
noncomputable def s_l24List_e := entM st s_l24List_x s_l24List_o [(leC 0 s_l24List_L0_h s_l24List_L0_d)] [.wr false [.ptr 0]] [.box [.st .curs]] (fun x y => (y.1.1, ())) s_l24List (fun v => [(false, [sc (.o true) .half v.1])]) (fun x y v => ((v.2, ()), ())) Tryz.func153 (by kernel_rfl) ⟨s_l24List_L0_s, trivial⟩ fun _ _ => by kernel_rfl
/-- spec.l12Bent -/
noncomputable def s_l12Bent : FT (Curs × Unit) (Tupl × Curs) (fun x => sm_curs x.1) (fun x v => sm_curs v.2) := ⟨fun (y0, _) =>
    .cal s_l12Tuple.c (y0, ()) fun c1 =>
    .cal s_l1Below.c (c1.2, 10, ()) fun c2 =>
    .ite (c2.1 == 0) (.cal s_l2Word.c (c2.2, ()) fun c3 =>
      .ret (({ c1.1 with ip := c3.1 } : Tupl), c3.2)) <|
    .ite (c2.1 == 1) (.cal s_l2Word.c (c2.2, ()) fun c4 =>
      .ret (({ c1.1 with port := c4.1 } : Tupl), c4.2)) <|
    .ite (c2.1 == 2) (.cal s_l2Word.c (c2.2, ()) fun c5 =>
      .ret (({ c1.1 with my := c5.1 } : Tupl), c5.2)) <|
    .ret (c1.1, c2.2),
  fun (y0, _) hp => by
    refine Tr.C ?_ fun _ _ _ => Tr.C ?_ fun _ _ _ => Tr.I (fun _ => Tr.C ?_ fun _ _ _ => Tr.R ?_) fun _ => Tr.I (fun _ => Tr.C ?_ fun _ _ _ => Tr.R ?_) fun _ => Tr.I (fun _ => Tr.C ?_ fun _ _ _ => Tr.R ?_) fun _ => Tr.R ?_
    all_goals (grind)⟩
noncomputable def s_l12Bent_e := entM st ⟨72, Tryz.f72, [], 1⟩ [s_l12Tuple_e, s_l1Below_e, s_l2Word_e] [] [.wr false [.ptr 0]] [.box [.st .curs]] (fun x y => (y.1.1, ())) s_l12Bent (fun v => [(true, q_tupl v.1)]) (fun x y v => ((v.2, ()), ())) Tryz.func72 (by kernel_rfl) trivial fun _ _ => by kernel_rfl
/-- spec.l8Bent -/
noncomputable def s_l8Bent : FT (Curs × Unit) (Opti × Curs) (fun x => sm_curs x.1) (fun x v => sm_curs v.2) := ⟨fun (y0, _) =>
    .cal s_l8Options.c (y0, ()) fun c1 =>
    .cal s_l1Below.c (c1.2, 10, ()) fun c2 =>
    .ite (c2.1 == 0) (.cal s_l2Word.c (c2.2, ()) fun c3 =>
      .ret (({ c1.1 with mss := c3.1 } : Opti), c3.2)) <|
    .ite (c2.1 == 1) (.cal s_l1PickInt.c (c2.2, [(-2), (-1), 14, 15], ()) fun c4 =>
      .ret (({ c1.1 with scale := c4.1 } : Opti), c4.2)) <|
    .ite (c2.1 == 2) (.ret (({ c1.1 with stamp := (!c1.1.stamp) } : Opti), c2.2)) <|
    .ite (c2.1 == 3) (.cal s_l2Word.c (c2.2, ()) fun c5 =>
      .ret (({ c1.1 with val := c5.1 } : Opti), c5.2)) <|
    .ret (c1.1, c2.2),
  fun (y0, _) hp => by
    refine Tr.C ?_ fun _ _ _ => Tr.C ?_ fun _ _ _ => Tr.I (fun _ => Tr.C ?_ fun _ _ _ => Tr.R ?_) fun _ => Tr.I (fun _ => Tr.C ?_ fun _ _ _ => Tr.R ?_) fun _ => Tr.I (fun _ => Tr.R ?_) fun _ => Tr.I (fun _ => Tr.C ?_ fun _ _ _ => Tr.R ?_) fun _ => Tr.R ?_
    all_goals (grind)⟩
noncomputable def s_l8Bent_e := entM st ⟨122, Tryz.f122, [], 1⟩ [s_l8Options_e, s_l1Below_e, s_l2Word_e, s_l1PickInt_e] [] [.wr false [.ptr 0]] [.box [.st .curs]] (fun x y => (y.1.1, ())) s_l8Bent (fun v => [(true, q_opti v.1)]) (fun x y v => ((v.2, ()), ())) Tryz.func122 (by kernel_rfl) trivial fun _ _ => by kernel_rfl
/-- spec.l24Bent -/
noncomputable def s_l24Bent : FT (Curs × Unit) (List Half × Curs) (fun x => sm_curs x.1) (fun x v => sS v.1 ∧ sm_curs v.2) := ⟨fun (y0, _) =>
    .cal s_l24List.c (y0, ()) fun c1 =>
    .cal s_l1Below.c (c1.2, 8, ()) fun c2 =>
    .ite (c2.1 == 0) (.cal s_l24Half.c (c2.2, ()) fun c3 =>
      .cal s_l1PickInt.c (c3.2, [(-1), 6, 7], ()) fun c4 =>
      .grd (Nat.ble ((2 * (c1.1.length + 1) + 1024) * 96) maxSl) <|
      .ret ((c1.1 ++ [({ c3.1 with age := c4.1 } : Half)]), c4.2)) <|
    .ite (c2.1 == 1) (.cal s_l24Half.c (c2.2, ()) fun c5 =>
      .cal s_l12Bent.c (c5.2, ()) fun c6 =>
      .cal s_l2Word.c (c6.2, ()) fun c7 =>
      .grd (Nat.ble ((2 * (c1.1.length + 1) + 1024) * 96) maxSl) <|
      .val (c1.1 ++ [({ c5.1 with tuple.ip := c6.1.ip, tuple.port := c6.1.port, tuple.my := c6.1.my, iss := c7.1 } : Half)]) fun l8 =>
      .ret (l8, c7.2)) <|
    .ite (c2.1 == 2) (.cal s_l24Half.c (c2.2, ()) fun c9 =>
      .cal s_l8Bent.c (c9.2, ()) fun c10 =>
      .grd (Nat.ble ((2 * (c1.1.length + 1) + 1024) * 96) maxSl) <|
      .val (c1.1 ++ [({ c9.1 with opts.mss := c10.1.mss, opts.scale := c10.1.scale, opts.sack := c10.1.sack, opts.stamp := c10.1.stamp, opts.val := c10.1.val, opts.echo := c10.1.echo } : Half)]) fun l11 =>
      .ret (l11, c10.2)) <|
    .ret (c1.1, c2.2),
  fun (y0, _) hp => by
    refine Tr.C ?_ fun c1 hc1 qc1 => Tr.C ?_ fun c2 hc2 qc2 => Tr.I (fun b0 => Tr.C ?_ fun c3 hc3 qc3 => Tr.C ?_ fun c4 hc4 qc4 => Tr.Gb ?_ fun g1 => Tr.R ?_) fun b0 => Tr.I (fun b1 => Tr.C ?_ fun c5 hc5 qc5 => Tr.C ?_ fun c6 hc6 qc6 => Tr.C ?_ fun c7 hc7 qc7 => Tr.Gb ?_ fun g2 => Tr.V fun l8 hl8 => Tr.R ?_) fun b1 => Tr.I (fun b2 => Tr.C ?_ fun c9 hc9 qc9 => Tr.C ?_ fun c10 hc10 qc10 => Tr.Gb ?_ fun g3 => Tr.V fun l11 hl11 => Tr.R ?_) fun b2 => Tr.R ?_
    all_goals ((first | grind | (refine ⟨?_, by grind⟩; have hl : ∀ v : List Half × Curs, v.1.length ≤ 5 → ∀ h : Half, sS (v.1 ++ [h]) := fun v hv h => (by simp only [sS, List.length_append, List.length_cons, List.length_nil]; omega); subst_vars; apply hl; grind)))⟩
noncomputable def s_l24Bent_e := entM st ⟨107, Tryz.f107, [], 1⟩ [s_l24List_e, s_l1Below_e, s_l24Half_e, s_l1PickInt_e, s_l12Bent_e, s_l2Word_e, s_l8Bent_e] [] [.wr false [.ptr 0]] [.box [.st .curs]] (fun x y => (y.1.1, ())) s_l24Bent (fun v => [(false, [sc (.o true) .half v.1])]) (fun x y v => ((v.2, ()), ())) Tryz.func107 (by kernel_rfl) trivial fun _ _ => by kernel_rfl
/-- spec.l18Stream -/
noncomputable def s_l18Stream_o : List (Ent1 Tryz.prog) := [s_l1Below_e, s_l4Rest_e, s_l1Once_e, s_l1Bytes_e, s_SeqAdd_e]
def s_l18Stream_L0_h : Sh := ⟨[(0, false, [.ptr 0 0]), (3, false, [.ptr 1 0]), (7, false, [.int .i64]), (8, false, [.int .i64]), (9, false, [.own 2]), (10, false, [.int .i64])], [.box [.st .curs [.sl .any]], .box [.st .recv [.sl .arg]], .arr .u8 false true]⟩
def s_l18Stream_J36_a : An := ⟨⟨[], [], false, 1⟩, ⟨[0, 3, 4, 5, 6, 7, 9], [], false, 1⟩, ⟨[], []⟩, [(.normal, ⟨[(0, false, [.ptr 0 0]), (3, false, [.ptr 1 0]), (4, false, [.undef]), (5, false, [.undef]), (6, false, [.undef]), (7, false, [.int .i64]), (9, false, [.own 2])], [.box [.st .curs [.sl .any]], .box [.st .recv [.sl .arg]], .arr .u8 false true]⟩)]⟩
noncomputable def s_l18Stream_x : Fx := ⟨246, Tryz.f246, [(0, la ⟨[0, 3, 7, 8, 9, 10], [], false, 1⟩ ⟨[0, 3, 4, 5, 6, 7, 8, 9], [], false, 1⟩), (1000036, s_l18Stream_J36_a)], 1⟩
noncomputable def s_l18Stream_L0_T (v0 : Int) (v4 : Recv) (v2 : Int) (a : List Int) : Tr (Stp (List Int) (Empty)) :=
  .val (s_l4Rest.f ((IntKind.wrap .i64 ((IntKind.wrap .i64 (v4.next + v0)) + v2)), ())) fun c3 =>
  .grd (Nat.ble ((2 * (a.length + 1) + 1024) * 1) maxSl) <|
  .ret (.next (a ++ [(IntKind.wrap .u8 (IntKind.wrap .i64 (97 + (c3.tmod 26))))]))
noncomputable def s_l18Stream_L0_d : s_l18Stream_L0_h.V → LC s_l18Stream_L0_h (List Int) (Empty) (Int × (List Int)) := fun (v0, v1, v2, v3, v4, v5, _) => ⟨v2, v5, fun v2 a => (v0, v1, v2, v3, v4, a, ()), fun v2 _ => (decide (v2 < v1)), s_l18Stream_L0_T v0 v4, up, 1, (Int.toNat (v1 - v2)), (fun p => Empty.elim p), fun i a => (i, a), fun _ k x => k (.exit 0) (Sh.enc ⟨[(0, false, [.ptr 0 0]), (3, false, [.ptr 1 0]), (4, false, [.undef]), (5, false, [.undef]), (6, false, [.undef]), (7, false, [.int .i64]), (8, false, [.int .i64]), (9, false, [.own 2])], [.box [.st .curs [.sl .any]], .box [.st .recv [.sl .arg]], .arr .u8 false true]⟩ (v0, v1, v3, v4, x.2, ()))⟩
theorem s_l18Stream_L0_s : LS Tryz.prog s_l18Stream_x [0] (leC 0 s_l18Stream_L0_h s_l18Stream_L0_d) := loopC st (orcOf_ok s_l18Stream_o) _ s_l18Stream_L0_d [] trivial (by kernel_rfl) (fun _ => by kernel_rfl) fun _ _ _ _ _ _ => by kernel_rfl
theorem s_l18Stream_L0_k {v0 v1 v2 : Int} {v3 : Curs} {v4 : Recv} {v5 : List Int} (h0 : 0 ≤ v2) (h1 : v1 ≤ 4611686018427387904) (h2 : sm_recv v4) (h3 : v1 ≤ 4294967296) (h4 : (v5.length : Int) = v2) : (s_l18Stream_L0_d (v0, v1, v2, v3, v4, v5, ())).U v1 (fun v2 a => (a.length : Int) = v2) (fun _ => True) :=
  LC.okU (i := v2) (a := v5) (fun _ _ => rfl) (fun _ => rfl) rfl h0 h1 h4 fun v2 v5 hj hk hv => by
    refine Tr.V fun _ _ => Tr.Gb ?_ fun _ => Tr.Rn ?_
    all_goals (grind)
noncomputable def s_l18Stream : FT (Curs × Recv × Unit) (Int × Bytes × Bool × Curs) (fun x => sm_curs x.1 ∧ sm_recv x.2.1) (fun x v => sS v.2.1 ∧ sm_curs v.2.2.2) := ⟨fun (y0, x1, _) =>
    .cal s_l1Below.c (y0, 40, ()) fun c1 =>
    .cal s_l1Below.c (c1.2, 9, ()) fun c2 =>
    .lp (s_l18Stream_L0_d ((IntKind.wrap .i64 (c1.1 - 6)), c2.1, 0, c2.2, x1, [], ())).lp fun (_, a4_0) =>
    .cal s_l1Once.c (c2.2, 6, ()) fun c5 =>
    .bnd (β := Int × Curs × Recv × List Int × Unit) (.ite c5.1 (.cal s_l1Bytes.c (c5.2, c2.1, ()) fun c6 =>
        .ret ((IntKind.wrap .i64 (c1.1 - 6)), c6.2, x1, c6.1, ())) <|
      .ret ((IntKind.wrap .i64 (c1.1 - 6)), c5.2, x1, a4_0, ())) fun (u7a0, u7a1, u7a2, u7a3, _) =>
    .val (s_SeqAdd.f (u7a2.next, u7a0, ())) fun c8 =>
    .cal s_l1Once.c (u7a1, 6, ()) fun c9 =>
    .ret (c8, (toBytes u7a3), c9.1, c9.2),
  fun (y0, x1, _) hp => by
    refine Tr.C ?_ fun _ _ _ => Tr.C ?_ fun _ _ _ => Tr.L (s_l18Stream_L0_k ?_ ?_ ?_ ?_ ?_) (fun a4_0 _ => Tr.C ?_ fun _ _ _ => Tr.B (Q' := fun w => sm_curs w.2.1 ∧ sm_recv w.2.2.1 ∧ sS w.2.2.2.1) (Tr.I (fun _ => Tr.C ?_ fun _ _ _ => Tr.R ?_) fun _ => Tr.R ?_) (fun (u7a0, u7a1, u7a2, u7a3, _) _ _ => Tr.V fun _ _ => Tr.C ?_ fun _ _ _ => Tr.R ?_)) (fun p => Empty.elim p)
    all_goals ((try simp only [s_l18Stream_L0_d, LC.lp, LC.ct, Ct.lp, Tr.nice, letK] at *) <;> grind)⟩
noncomputable def s_l18Stream_e := entM st s_l18Stream_x s_l18Stream_o [(leC 0 s_l18Stream_L0_h s_l18Stream_L0_d)] [.wr false [.ptr 0], .st .recv] [.box [.st .curs]] (fun x y => (y.1.1, x.2.1, ())) s_l18Stream (fun v => [(false, [.c (.int .i64 v.1)]), (false, [.c (.str v.2.1)]), (false, [.c (.bool v.2.2.1)])]) (fun x y v => ((v.2.2.2, ()), ())) Tryz.func246 (by kernel_rfl) ⟨s_l18Stream_L0_s, trivial⟩ fun _ _ => by kernel_rfl
/-- spec.l9Flags -/
noncomputable def s_l9Flags : FT (Curs × Unit) (Int × Curs) (fun x => sm_curs x.1) (fun x v => sm_curs v.2) := ⟨fun (y0, _) =>
    .cal s_l1Below.c (y0, 64, ()) fun c1 =>
    .cal s_l1PickInt.c (c1.2, [2, 16, 16, 18, 24, 17, 4, 20, 0, c1.1], ()) fun c2 =>
    .ret (c2.1, c2.2),
  fun (y0, _) hp => by
    refine Tr.C ?_ fun _ _ _ => Tr.C ?_ fun _ _ _ => Tr.R ?_
    all_goals (first | grind | (simp only [sS, List.length_cons, List.length_nil]; grind))⟩
noncomputable def s_l9Flags_e := entM st ⟨173, Tryz.f173, [], 1⟩ [s_l1Below_e, s_l1PickInt_e] [] [.wr false [.ptr 0]] [.box [.st .curs]] (fun x y => (y.1.1, ())) s_l9Flags (fun v => [(false, [.c (.int .i64 v.1)])]) (fun x y v => ((v.2, ()), ())) Tryz.func173 (by kernel_rfl) trivial fun _ _ => by kernel_rfl
/-- spec.l19Segment -/
noncomputable def s_l19Segment_o : List (Ent1 Tryz.prog) := [s_l18Stream_e, s_l1Once_e, s_l17Flown_e, s_l1Below_e, s_SeqAdd_e, s_l1PickInt_e, s_NoOptions_e, s_l9Flags_e, s_l4Near_e, s_l4Rest_e]
def s_l19Segment_J18_a : An := ⟨⟨[], [], false, 1⟩, ⟨[0, 3, 4, 5, 6, 7], [], false, 1⟩, ⟨[], []⟩, [(.normal, ⟨[(0, false, [.ptr 0 0]), (3, false, [.ptr 1 0]), (4, false, [.ptr 2 0]), (5, false, [.int .i64]), (6, false, [.str]), (7, false, [.bool])], [.box [.st .curs [.sl .any]], .box [.st .conn [.sl .arg]], .box [.st .segm []]]⟩)]⟩
def s_l19Segment_J45_a : An := ⟨⟨[], [], false, 1⟩, ⟨[0, 3, 4, 8], [], false, 1⟩, ⟨[], []⟩, [(.normal, ⟨[(0, false, [.ptr 0 0]), (3, false, [.ptr 1 0]), (4, false, [.ptr 2 0]), (8, false, [.ptr 3 0])], [.box [.st .curs [.sl .any]], .box [.st .conn [.sl .arg]], .box [.st .segm []], .box [.st .segm []]]⟩)]⟩
def s_l19Segment_J52_a : An := ⟨⟨[], [], false, 1⟩, ⟨[4, 8], [], false, 1⟩, ⟨[], []⟩, [(.normal, ⟨[(4, false, [.ptr 1 0]), (8, false, [.ptr 2 0])], [.box [.st .curs [.sl .any]], .box [.st .segm []], .box [.st .segm []]]⟩)]⟩
noncomputable def s_l19Segment_x : Fx := ⟨228, Tryz.f228, [(1000018, s_l19Segment_J18_a), (1000045, s_l19Segment_J45_a), (1000052, s_l19Segment_J52_a)], 1⟩
noncomputable def s_l19Segment : FT (Curs × Conn × Unit) (Segm × Curs) (fun x => sm_curs x.1 ∧ sm_conn x.2.1) (fun x v => sm_segm v.1 ∧ sm_curs v.2) := ⟨fun (y0, x1, _) =>
    .cal s_l18Stream.c (y0, x1.r, ()) fun c1 =>
    .cal s_l1Once.c (c1.2.2.2, 2, ()) fun c2 =>
    .bnd (β := Int × Bytes × Bool × Curs × Conn × Segm × Unit) (.ite c2.1 (.ret (x1.r.next, c1.2.1, c1.2.2.1, c2.2, x1, (⟨0, 0, 0, 0, 0, 0, ⟨0, 0, false, false, 0, 0⟩, []⟩ : Segm), ())) <|
      .ret (c1.1, c1.2.1, c1.2.2.1, c2.2, x1, (⟨0, 0, 0, 0, 0, 0, ⟨0, 0, false, false, 0, 0⟩, []⟩ : Segm), ())) fun (u3a0, u3a1, u3a2, u3a3, u3a4, u3a5, _) =>
    .cal s_l17Flown.c (u3a4.s, ()) fun c4 =>
    .cal s_l1Below.c (u3a3, (IntKind.wrap .i64 (c4 + 1)), ()) fun c5 =>
    .val (s_SeqAdd.f (u3a4.s.una, c5.1, ())) fun c6 =>
    .cal s_l1PickInt.c (c5.2, [0, 1, 8, 64, 65535], ()) fun c7 =>
    .val (s_NoOptions.f (())) fun c8 =>
    .bnd (β := Curs × Conn × Segm × Segm × Unit) (.ite u3a2 (.ret (c7.2, u3a4, u3a5, (⟨u3a4.tuple.port, u3a4.tuple.my, u3a0, c6, 17, c7.1, c8, u3a1⟩ : Segm), ())) <|
      .ret (c7.2, u3a4, u3a5, (⟨u3a4.tuple.port, u3a4.tuple.my, u3a0, c6, 16, c7.1, c8, u3a1⟩ : Segm), ())) fun (u9a0, u9a1, u9a2, u9a3, _) =>
    .cal s_l1Below.c (u9a0, 10, ()) fun c10 =>
    .bnd (β := Curs × Segm × Segm × Unit) (.ite (c10.1 == 0) (.cal s_l9Flags.c (c10.2, ()) fun c11 =>
        .ret (c11.2, u9a2, ({ u9a3 with flags := c11.1 } : Segm), ())) <|
      .ite (c10.1 == 1) (.cal s_l4Near.c (c10.2, u9a1.s.una, ()) fun c12 =>
        .ret (c12.2, u9a2, ({ u9a3 with ack := c12.1 } : Segm), ())) <|
      .ite (c10.1 == 2) (.cal s_l4Near.c (c10.2, u9a1.r.next, ()) fun c13 =>
        .ret (c13.2, u9a2, ({ u9a3 with seq := c13.1 } : Segm), ())) <|
      .ite (c10.1 == 3) (.ret (c10.2, u9a2, ({ u9a3 with body := [] } : Segm), ())) <|
      .ret (c10.2, u9a2, u9a3, ())) fun (u14a0, _, u14a2, _) =>
    .val (s_l4Rest.f (u14a2.seq, ())) fun c15 =>
    .val (s_l4Rest.f (u14a2.ack, ())) fun c16 =>
    .ret (({ u14a2 with seq := c15, ack := c16 } : Segm), u14a0),
  fun (y0, x1, _) hp => by
    refine Tr.C ?_ fun _ _ _ => Tr.C ?_ fun _ _ _ => Tr.B (Q' := fun w => sS w.2.1 ∧ sm_curs w.2.2.2.1 ∧ sm_conn w.2.2.2.2.1 ∧ sm_segm w.2.2.2.2.2.1) (Tr.I (fun _ => Tr.R ?_) fun _ => Tr.R ?_) (fun (u3a0, u3a1, u3a2, u3a3, u3a4, u3a5, _) _ _ => Tr.C ?_ fun _ _ _ => Tr.C ?_ fun _ _ _ => Tr.V fun _ _ => Tr.C ?_ fun _ _ _ => Tr.V fun _ _ => Tr.B (Q' := fun w => sm_curs w.1 ∧ sm_conn w.2.1 ∧ sm_segm w.2.2.1 ∧ sm_segm w.2.2.2.1) (Tr.I (fun _ => Tr.R ?_) fun _ => Tr.R ?_) (fun (u9a0, u9a1, u9a2, u9a3, _) _ _ => Tr.C ?_ fun _ _ _ => Tr.B (Q' := fun w => sm_curs w.1 ∧ sm_segm w.2.1 ∧ sm_segm w.2.2.1) (Tr.I (fun _ => Tr.C ?_ fun _ _ _ => Tr.R ?_) fun _ => Tr.I (fun _ => Tr.C ?_ fun _ _ _ => Tr.R ?_) fun _ => Tr.I (fun _ => Tr.C ?_ fun _ _ _ => Tr.R ?_) fun _ => Tr.I (fun _ => Tr.R ?_) fun _ => Tr.R ?_) (fun (u14a0, u14a1, u14a2, _) _ _ => Tr.V fun _ _ => Tr.V fun _ _ => Tr.R ?_)))
    all_goals ((try simp only [Tr.nice, letK] at *) <;> grind)⟩
noncomputable def s_l19Segment_e := entM st s_l19Segment_x s_l19Segment_o [] [.wr false [.ptr 0], .st .conn] [.box [.st .curs]] (fun x y => (y.1.1, x.2.1, ())) s_l19Segment (fun v => [(true, q_segm v.1)]) (fun x y v => ((v.2, ()), ())) Tryz.func228 (by kernel_rfl) trivial fun _ _ => by kernel_rfl
/-- spec.l19Conn -/
noncomputable def s_l19Conn_o : List (Ent1 Tryz.prog) := [s_l12Tuple_e, s_l2Deep_e, s_l8Options_e, s_l1PickInt_e, s_ConnNew_e, s_l1Below_e, s_l1Bytes_e, s_Write_e, s_TickConn_e, s_l1Once_e, s_Shut_e, s_ReadConn_e, s_l19Segment_e, s_Receive_e]
def s_l19Conn_L0_h : Sh := ⟨[(0, false, [.ptr 0 0]), (2, false, [.ptr 1 0]), (3, false, [.ptr 2 0]), (4, false, [.int .i64]), (5, false, [.int .i64])], [.box [.st .curs [.sl .any]], .box [.st .conn [.nil .piec]], .box [.st .conn [.own 3]], .of false true]⟩
noncomputable def s_l19Conn_x : Fx := ⟨197, Tryz.f197, [(0, la ⟨[0, 2, 3, 4, 5], [], false, 1⟩ ⟨[2, 3], [], false, 1⟩)], 1⟩
noncomputable def s_l19Conn_L0_T (v1 : Int) (a : Curs × Conn × Conn) : Tr (Stp (Curs × Conn × Conn) (Empty)) :=
  .cal s_l1Below.c (a.1, 8, ()) fun c8 =>
  .ite (c8.1 == 0) (.cal s_l1Below.c (c8.2, 20, ()) fun c9 =>
    .cal s_l1Bytes.c (c9.2, c9.1, ()) fun c10 =>
    .cal s_Write.c (a.2.2, (toBytes c10.1), ()) fun c11 =>
    .ret (.next (c10.2, ({ a.2.1 with r.held := [] } : Conn), c11.1))) <|
  .ite (c8.1 == 1) (.cal s_TickConn.c (a.2.2, ()) fun c12 =>
    .ret (.next (c8.2, ({ a.2.1 with r.held := [] } : Conn), c12.1))) <|
  .ite (c8.1 == 2) (.cal s_l1Once.c (c8.2, 2, ()) fun c13 =>
    .ite c13.1 (.cal s_Shut.c (a.2.2, ()) fun c14 =>
      .ret (.next (c13.2, ({ a.2.1 with r.held := [] } : Conn), c14.1))) <|
    .ret (.next (c13.2, ({ a.2.1 with r.held := [] } : Conn), a.2.2))) <|
  .ite (c8.1 == 3) (.cal s_l1Below.c (c8.2, 9, ()) fun c15 =>
    .cal s_ReadConn.c (a.2.2, c15.1, ()) fun c16 =>
    .ret (.next (c15.2, ({ a.2.1 with r.held := [] } : Conn), c16.1))) <|
  .cal s_l19Segment.c (c8.2, a.2.2, ()) fun c17 =>
  .cal s_Receive.c (a.2.2, c17.1, ()) fun c18 =>
  .ret (.next (c17.2, ({ a.2.1 with r.held := [] } : Conn), c18.1))
noncomputable def s_l19Conn_L0_d : s_l19Conn_L0_h.V → LC s_l19Conn_L0_h (Curs × Conn × Conn) (Empty) (Int × (Curs × Conn × Conn)) := fun (v0, v1, v2, v3, v4, _) => ⟨v1, (v2, v3, v4), fun v1 a => (v0, v1, a.1, a.2.1, a.2.2, ()), fun v1 _ => (decide (v1 < v0)), s_l19Conn_L0_T, up, 1, (Int.toNat (v0 - v1)), (fun p => Empty.elim p), fun i a => (i, a), fun _ k x => k (.exit 0) (Sh.enc ⟨[(2, false, [.ptr 1 0]), (3, false, [.ptr 2 0])], [.box [.st .curs [.sl .any]], .box [.st .conn [.nil .piec]], .box [.st .conn [.own 3]], .of false true]⟩ (x.2.1, ({ x.2.2.1 with r.held := [] } : Conn), x.2.2.2, ()))⟩
theorem s_l19Conn_L0_s : LS Tryz.prog s_l19Conn_x [0] (leC 0 s_l19Conn_L0_h s_l19Conn_L0_d) := loopC st (orcOf_ok s_l19Conn_o) _ s_l19Conn_L0_d [] trivial (by kernel_rfl) (fun _ => by kernel_rfl) fun _ _ _ _ _ _ => by kernel_rfl
theorem s_l19Conn_L0_k {v0 v1 : Int} {v2 : Curs} {v3 v4 : Conn} (h0 : 0 ≤ v1) (h1 : v0 ≤ 4611686018427387904) (h2 : sm_curs v2 ∧ sm_conn v3 ∧ sm_conn v4) : (s_l19Conn_L0_d (v0, v1, v2, v3, v4, ())).U v0 (fun v1 a => sm_curs a.1 ∧ sm_conn a.2.1 ∧ sm_conn a.2.2) (fun _ => True) :=
  LC.okU (i := v1) (a := (v2, v3, v4)) (fun _ _ => rfl) (fun _ => rfl) rfl h0 h1 h2 fun v1 (v2, v3, v4) hj hk hv => by
    refine Tr.C ?_ fun _ _ _ => Tr.I (fun _ => Tr.C ?_ fun _ _ _ => Tr.C ?_ fun _ _ _ => Tr.C ?_ fun _ _ _ => Tr.Rn ?_) fun _ => Tr.I (fun _ => Tr.C ?_ fun _ _ _ => Tr.Rn ?_) fun _ => Tr.I (fun _ => Tr.C ?_ fun _ _ _ => Tr.I (fun _ => Tr.C ?_ fun _ _ _ => Tr.Rn ?_) fun _ => Tr.Rn ?_) fun _ => Tr.I (fun _ => Tr.C ?_ fun _ _ _ => Tr.C ?_ fun _ _ _ => Tr.Rn ?_) fun _ => Tr.C ?_ fun _ _ _ => Tr.C ?_ fun _ _ _ => Tr.Rn ?_
    all_goals (grind)
noncomputable def s_l19Conn : FT (Curs × Unit) (Conn × Curs) (fun x => sm_curs x.1) (fun x v => sm_conn v.1 ∧ sm_curs v.2) := ⟨fun (y0, _) =>
    .cal s_l12Tuple.c (y0, ()) fun c1 =>
    .cal s_l2Deep.c (c1.2, ()) fun c2 =>
    .cal s_l2Deep.c (c2.2, ()) fun c3 =>
    .cal s_l8Options.c (c3.2, ()) fun c4 =>
    .cal s_l1PickInt.c (c4.2, [0, 4, 64, 65535], ()) fun c5 =>
    .cal s_ConnNew.c (c1.1, c2.1, c3.1, c4.1, c5.1, ()) fun c6 =>
    .cal s_l1Below.c (c5.2, 9, ()) fun c7 =>
    .lp (s_l19Conn_L0_d (c7.1, 0, c7.2, (⟨⟨0, 0, 0⟩, 0, ⟨0, [], 0, false, false, false⟩, ⟨0, [], [], 0, false⟩, 0, 0, ⟨0, 0, false, false, 0, 0⟩, 0, 0⟩ : Conn), c6, ())).lp fun (_, a19_0, _, a19_2) =>
    .ret (a19_2, a19_0),
  fun (y0, _) hp => by
    refine Tr.C ?_ fun _ _ _ => Tr.C ?_ fun _ _ _ => Tr.C ?_ fun _ _ _ => Tr.C ?_ fun _ _ _ => Tr.C ?_ fun _ _ _ => Tr.C trivial fun _ _ _ => Tr.C ?_ fun _ _ _ => Tr.L (s_l19Conn_L0_k ?_ ?_ ?_) (fun (a19_0, a19_1, a19_2) _ => Tr.R ?_) (fun p => Empty.elim p)
    all_goals ((try simp only [s_l19Conn_L0_d, LC.lp, LC.ct, Ct.lp] at *) <;> grind)⟩
noncomputable def s_l19Conn_e := entM st s_l19Conn_x s_l19Conn_o [(leC 0 s_l19Conn_L0_h s_l19Conn_L0_d)] [.wr false [.ptr 0]] [.box [.st .curs]] (fun x y => (y.1.1, ())) s_l19Conn (fun v => [(true, q_conn (.o true) v.1)]) (fun x y v => ((v.2, ()), ())) Tryz.func197 (by kernel_rfl) ⟨s_l19Conn_L0_s, trivial⟩ fun _ _ => by kernel_rfl
/-- spec.l25Table -/
noncomputable def s_l25Table_o : List (Ent1 Tryz.prog) := [s_l1Below_e, s_l19Conn_e, s_PutConn_e, s_l1Once_e, s_TakeWaiting_e]
def s_l25Table_L0_h : Sh := ⟨[(0, false, [.ptr 0 0]), (3, false, [.ptr 1 0]), (4, false, [.ptr 2 0]), (5, false, [.ptr 3 0]), (6, false, [.int .i64]), (7, false, [.int .i64])], [.box [.st .curs [.sl .any]], .box [.st .limi []], .box [.st .tabl [.nil .conn, .nil .tupl]], .box [.st .tabl [.own 4, .own 5]], .of false true, .of false true]⟩
noncomputable def s_l25Table_x : Fx := ⟨155, Tryz.f155, [(0, la ⟨[0, 3, 4, 5, 6, 7], [.box 5 0 .conn, .box 5 1 .tupl], false, 1⟩ ⟨[4, 5], [], false, 1⟩)], 1⟩
noncomputable def s_l25Table_L0_T (v3 : Limi) (v1 : Int) (a : Curs × Tabl × Tabl) : Tr (Stp (Curs × Tabl × Tabl) (Empty)) :=
  .cal s_l19Conn.c (a.1, ()) fun c6 =>
  .cal s_PutConn.c (a.2.2, c6.1, v3, ()) fun c7 =>
  .cal s_l1Once.c (c6.2, 3, ()) fun c8 =>
  .ite c8.1 (.cal s_TakeWaiting.c (c7.1, ()) fun c9 =>
    .ret (.next (c8.2, (⟨[], []⟩ : Tabl), c9.1))) <|
  .ret (.next (c8.2, (⟨[], []⟩ : Tabl), c7.1))
noncomputable def s_l25Table_L0_d : s_l25Table_L0_h.V → LC s_l25Table_L0_h (Curs × Tabl × Tabl) (Empty) (Int × (Curs × Tabl × Tabl)) := fun (v0, v1, v2, v3, v4, v5, _) => ⟨v1, (v2, v4, v5), fun v1 a => (v0, v1, a.1, v3, a.2.1, a.2.2, ()), fun v1 _ => (decide (v1 < v0)), s_l25Table_L0_T v3, up, 1, (Int.toNat (v0 - v1)), (fun p => Empty.elim p), fun i a => (i, a), fun _ k x => k (.exit 0) (Sh.enc ⟨[(4, false, [.ptr 1 0]), (5, false, [.ptr 2 0])], [.box [.st .curs [.sl .any]], .box [.st .tabl [.nil .conn, .nil .tupl]], .box [.st .tabl [.own 3, .own 4]], .of false true, .of false true]⟩ (x.2.1, (⟨[], []⟩ : Tabl), x.2.2.2, ()))⟩
theorem s_l25Table_L0_s : LS Tryz.prog s_l25Table_x [0] (leC 0 s_l25Table_L0_h s_l25Table_L0_d) := loopC st (orcOf_ok s_l25Table_o) _ s_l25Table_L0_d [] trivial (by kernel_rfl) (fun _ => by kernel_rfl) fun _ _ _ _ _ _ => by kernel_rfl
theorem s_l25Table_L0_k {v0 v1 : Int} {v2 : Curs} {v3 : Limi} {v4 v5 : Tabl} (h0 : 0 ≤ v1) (h1 : v0 ≤ 4611686018427387904) (h2 : sm_curs v2 ∧ sm_tabl v4 ∧ sm_tabl v5 ∧ v5.conns.length ≤ 16 ∧ v5.waiting.length ≤ 16) : (s_l25Table_L0_d (v0, v1, v2, v3, v4, v5, ())).U v0 (fun v1 a => sm_curs a.1 ∧ sm_tabl a.2.1 ∧ sm_tabl a.2.2 ∧ a.2.2.conns.length ≤ 16 ∧ a.2.2.waiting.length ≤ 16) (fun _ => True) :=
  LC.okU (i := v1) (a := (v2, v4, v5)) (fun _ _ => rfl) (fun _ => rfl) rfl h0 h1 h2 fun v1 (v2, v4, v5) hj hk hv => by
    refine Tr.C ?_ fun _ _ _ => Tr.C ?_ fun _ _ _ => Tr.C ?_ fun _ _ _ => Tr.I (fun _ => Tr.C ?_ fun _ _ _ => Tr.Rn ?_) fun _ => Tr.Rn ?_
    all_goals (grind)
noncomputable def s_l25Table : FT (Curs × Limi × Unit) (Tabl × Curs) (fun x => sm_curs x.1) (fun x v => sm_tabl v.1 ∧ sm_curs v.2 ∧ v.1.conns.length ≤ 16 ∧ v.1.waiting.length ≤ 16) := ⟨fun (y0, x1, _) =>
    .cal s_l1Below.c (y0, 4, ()) fun c1 =>
    .lp (s_l25Table_L0_d (c1.1, 0, c1.2, x1, (⟨[], []⟩ : Tabl), (⟨[], []⟩ : Tabl), ())).lp fun (_, a10_0, _, a10_2) =>
    .ret (a10_2, a10_0),
  fun (y0, x1, _) hp => by
    refine Tr.C ?_ fun _ _ _ => Tr.L (s_l25Table_L0_k ?_ ?_ ?_) (fun (a10_0, a10_1, a10_2) _ => Tr.R ?_) (fun p => Empty.elim p)
    all_goals ((try simp only [s_l25Table_L0_d, LC.lp, LC.ct, Ct.lp] at *) <;> grind)⟩
noncomputable def s_l25Table_e := entM st s_l25Table_x s_l25Table_o [(leC 0 s_l25Table_L0_h s_l25Table_L0_d)] [.wr false [.ptr 0], .st .limi] [.box [.st .curs]] (fun x y => (y.1.1, x.2.1, ())) s_l25Table (fun v => [(true, q_tabl (.o true) (.o true) v.1)]) (fun x y v => ((v.2, ()), ())) Tryz.func155 (by kernel_rfl) ⟨s_l25Table_L0_s, trivial⟩ fun _ _ => by kernel_rfl
/-- spec.l17Sender -/
noncomputable def s_l17Sender_o : List (Ent1 Tryz.prog) := [s_l2Deep_e, s_l1Below_e, s_l1Bytes_e, s_Queued_e, s_NextChunk_e, s_SentOff_e, s_l17Flown_e, s_SeqAdd_e, s_Acked_e, s_l1Once_e]
def s_l17Sender_L0_h : Sh := ⟨[(0, false, [.ptr 0 0]), (2, false, [.ptr 1 0]), (3, false, [.ptr 2 0]), (4, false, [.int .i64]), (5, false, [.int .i64])], [.box [.st .curs [.sl .any]], .box [.st .sndr []], .box [.st .sndr []]]⟩
noncomputable def s_l17Sender_x : Fx := ⟨229, Tryz.f229, [(0, la ⟨[0, 2, 3, 4, 5], [], false, 1⟩ ⟨[2, 3], [], false, 1⟩)], 1⟩
noncomputable def s_l17Sender_L0_T (v1 : Int) (a : Curs × Sndr) : Tr (Stp (Curs × Sndr) (Empty)) :=
  .cal s_l1Below.c (a.1, 4, ()) fun c3 =>
  .ite (c3.1 == 0) (.cal s_l1Below.c (c3.2, 20, ()) fun c4 =>
    .cal s_l1Bytes.c (c4.2, c4.1, ()) fun c5 =>
    .cal s_Queued.c (a.2, (toBytes c5.1), ()) fun c6 =>
    .ret (.next (c5.2, c6.1))) <|
  .ite (c3.1 == 1) (.cal s_l1Below.c (c3.2, 40, ()) fun c7 =>
    .cal s_l1Below.c (c7.2, 16, ()) fun c8 =>
    .cal s_NextChunk.c (a.2, (IntKind.wrap .i64 (1 + c7.1)), (IntKind.wrap .i64 (1 + c8.1)), ()) fun c9 =>
    .ite c9.2 (.cal s_SentOff.c (a.2, c9.1, ()) fun c10 =>
      .ret (.next (c8.2, c10))) <|
    .ret (.next (c8.2, a.2))) <|
  .ite (c3.1 == 2) (.cal s_l17Flown.c (a.2, ()) fun c11 =>
    .cal s_l1Below.c (c3.2, (IntKind.wrap .i64 (c11 + 1)), ()) fun c12 =>
    .val (s_SeqAdd.f (a.2.una, c12.1, ())) fun c13 =>
    .cal s_Acked.c (a.2, c13, ()) fun c14 =>
    .ret (.next (c12.2, c14.1))) <|
  .ite a.2.fin (.ret (.next (c3.2, ({ a.2 with fin := true } : Sndr)))) <|
  .cal s_l1Once.c (c3.2, 2, ()) fun c15 =>
  .ret (.next (c15.2, ({ a.2 with fin := c15.1 } : Sndr)))
noncomputable def s_l17Sender_L0_d : s_l17Sender_L0_h.V → LC s_l17Sender_L0_h (Curs × Sndr) (Empty) (Int × (Curs × Sndr)) := fun (v0, v1, v2, v3, v4, _) => ⟨v1, (v2, v4), fun v1 a => (v0, v1, a.1, v3, a.2, ()), fun v1 _ => (decide (v1 < v0)), s_l17Sender_L0_T, up, 1, (Int.toNat (v0 - v1)), (fun p => Empty.elim p), fun i a => (i, a), fun _ k x => k (.exit 0) (Sh.enc ⟨[(2, false, [.ptr 1 0]), (3, false, [.ptr 2 0])], [.box [.st .curs [.sl .any]], .box [.st .sndr []], .box [.st .sndr []]]⟩ (x.2.1, v3, x.2.2, ()))⟩
theorem s_l17Sender_L0_s : LS Tryz.prog s_l17Sender_x [0] (leC 0 s_l17Sender_L0_h s_l17Sender_L0_d) := loopC st (orcOf_ok s_l17Sender_o) _ s_l17Sender_L0_d [] trivial (by kernel_rfl) (fun _ => by kernel_rfl) fun _ _ _ _ _ _ => by kernel_rfl
theorem s_l17Sender_L0_k {v0 v1 : Int} {v2 : Curs} {v3 v4 : Sndr} (h0 : 0 ≤ v1) (h1 : v0 ≤ 4611686018427387904) (h2 : sm_curs v2 ∧ sm_sndr v4) : (s_l17Sender_L0_d (v0, v1, v2, v3, v4, ())).U v0 (fun v1 a => sm_curs a.1 ∧ sm_sndr a.2) (fun _ => True) :=
  LC.okU (i := v1) (a := (v2, v4)) (fun _ _ => rfl) (fun _ => rfl) rfl h0 h1 h2 fun v1 (v2, v4) hj hk hv => by
    refine Tr.C ?_ fun _ _ _ => Tr.I (fun _ => Tr.C ?_ fun _ _ _ => Tr.C ?_ fun _ _ _ => Tr.C ?_ fun _ _ _ => Tr.Rn ?_) fun _ => Tr.I (fun _ => Tr.C ?_ fun _ _ _ => Tr.C ?_ fun _ _ _ => Tr.C ?_ fun _ _ _ => Tr.I (fun _ => Tr.C ?_ fun _ _ _ => Tr.Rn ?_) fun _ => Tr.Rn ?_) fun _ => Tr.I (fun _ => Tr.C ?_ fun _ _ _ => Tr.C ?_ fun _ _ _ => Tr.V fun _ _ => Tr.C ?_ fun _ _ _ => Tr.Rn ?_) fun _ => Tr.I (fun _ => Tr.Rn ?_) fun _ => Tr.C ?_ fun _ _ _ => Tr.Rn ?_
    all_goals (grind)
noncomputable def s_l17Sender : FT (Curs × Unit) (Sndr × Curs) (fun x => sm_curs x.1) (fun x v => sm_sndr v.1 ∧ sm_curs v.2) := ⟨fun (y0, _) =>
    .cal s_l2Deep.c (y0, ()) fun c1 =>
    .cal s_l1Below.c (c1.2, 6, ()) fun c2 =>
    .lp (s_l17Sender_L0_d (c2.1, 0, c2.2, (⟨0, [], 0, false, false, false⟩ : Sndr), (⟨c1.1, [], 0, false, false, false⟩ : Sndr), ())).lp fun (_, a16_0, a16_1) =>
    .ret (a16_1, a16_0),
  fun (y0, _) hp => by
    refine Tr.C ?_ fun _ _ _ => Tr.C ?_ fun _ _ _ => Tr.L (s_l17Sender_L0_k ?_ ?_ ?_) (fun (a16_0, a16_1) _ => Tr.R ?_) (fun p => Empty.elim p)
    all_goals ((try simp only [s_l17Sender_L0_d, LC.lp, LC.ct, Ct.lp] at *) <;> grind)⟩
noncomputable def s_l17Sender_e := entM st s_l17Sender_x s_l17Sender_o [(leC 0 s_l17Sender_L0_h s_l17Sender_L0_d)] [.wr false [.ptr 0]] [.box [.st .curs]] (fun x y => (y.1.1, ())) s_l17Sender (fun v => [(true, q_sndr v.1)]) (fun x y v => ((v.2, ()), ())) Tryz.func229 (by kernel_rfl) ⟨s_l17Sender_L0_s, trivial⟩ fun _ _ => by kernel_rfl
/-- spec.l17Bent -/
noncomputable def s_l17Bent : FT (Curs × Unit) (Sndr × Curs) (fun x => sm_curs x.1) (fun x v => sm_sndr v.1 ∧ sm_curs v.2) := ⟨fun (y0, _) =>
    .cal s_l17Sender.c (y0, ()) fun c1 =>
    .cal s_l1Below.c (c1.2, 10, ()) fun c2 =>
    .ite (c2.1 == 0) (.cal s_l2Word.c (c2.2, ()) fun c3 =>
      .ret (({ c1.1 with una := c3.1 } : Sndr), c3.2)) <|
    .ite (c2.1 == 1) (.cal s_l1PickInt.c (c2.2, [(-1), 0, 48, 49, (IntKind.wrap .i64 ((c1.1.data.length : Int) + 1))], ()) fun c4 =>
      .ret (({ c1.1 with sent := c4.1 } : Sndr), c4.2)) <|
    .ite (c2.1 == 2) (.ret (({ c1.1 with finSent := (!c1.1.finSent) } : Sndr), c2.2)) <|
    .ite (c2.1 == 3) (.ret (({ c1.1 with done := (!c1.1.done) } : Sndr), c2.2)) <|
    .ite (c2.1 == 4) (.cal s_l1Below.c (c2.2, 3, ()) fun c5 =>
      .cal s_l5Long.c ((IntKind.wrap .i64 (47 + c5.1)), ()) fun c6 =>
      .ret (({ c1.1 with data := c6 } : Sndr), c5.2)) <|
    .ret (c1.1, c2.2),
  fun (y0, _) hp => by
    refine Tr.C ?_ fun _ _ _ => Tr.C ?_ fun _ _ _ => Tr.I (fun _ => Tr.C ?_ fun _ _ _ => Tr.R ?_) fun _ => Tr.I (fun _ => Tr.C ?_ fun _ _ _ => Tr.R ?_) fun _ => Tr.I (fun _ => Tr.R ?_) fun _ => Tr.I (fun _ => Tr.R ?_) fun _ => Tr.I (fun _ => Tr.C ?_ fun _ _ _ => Tr.C ?_ fun _ _ _ => Tr.R ?_) fun _ => Tr.R ?_
    all_goals (grind)⟩
noncomputable def s_l17Bent_e := entM st ⟨200, Tryz.f200, [], 1⟩ [s_l17Sender_e, s_l1Below_e, s_l2Word_e, s_l1PickInt_e, s_l5Long_e] [] [.wr false [.ptr 0]] [.box [.st .curs]] (fun x y => (y.1.1, ())) s_l17Bent (fun v => [(true, q_sndr v.1)]) (fun x y v => ((v.2, ()), ())) Tryz.func200 (by kernel_rfl) trivial fun _ _ => by kernel_rfl
/-- spec.l18Receiver -/
noncomputable def s_l18Receiver_o : List (Ent1 Tryz.prog) := [s_l2Deep_e, s_ReceiverNew_e, s_l1Below_e, s_l18Stream_e, s_Arrived_e, s_l1Once_e, s_TakenIn_e]
def s_l18Receiver_L0_h : Sh := ⟨[(0, false, [.ptr 0 0]), (2, false, [.ptr 1 0]), (3, false, [.ptr 2 0]), (4, false, [.int .i64]), (5, false, [.int .i64])], [.box [.st .curs [.sl .any]], .box [.st .recv [.nil .piec]], .box [.st .recv [.own 3]], .of false true]⟩
noncomputable def s_l18Receiver_x : Fx := ⟨230, Tryz.f230, [(0, la ⟨[0, 2, 3, 4, 5], [], false, 1⟩ ⟨[2, 3], [], false, 1⟩)], 1⟩
noncomputable def s_l18Receiver_L0_T (v1 : Int) (a : Curs × Recv × Recv) : Tr (Stp (Curs × Recv × Recv) (Empty)) :=
  .cal s_l18Stream.c (a.1, a.2.2, ()) fun c4 =>
  .cal s_Arrived.c (a.2.2, c4.1, c4.2.1, c4.2.2.1, ()) fun c5 =>
  .cal s_l1Once.c (c4.2.2.2, 3, ()) fun c6 =>
  .ite c6.1 (.cal s_l1Below.c (c6.2, 20, ()) fun c7 =>
    .cal s_TakenIn.c (c5, c7.1, ()) fun c8 =>
    .ret (.next (c7.2, ({ a.2.1 with held := [] } : Recv), c8.1))) <|
  .ret (.next (c6.2, ({ a.2.1 with held := [] } : Recv), c5))
noncomputable def s_l18Receiver_L0_d : s_l18Receiver_L0_h.V → LC s_l18Receiver_L0_h (Curs × Recv × Recv) (Empty) (Int × (Curs × Recv × Recv)) := fun (v0, v1, v2, v3, v4, _) => ⟨v1, (v2, v3, v4), fun v1 a => (v0, v1, a.1, a.2.1, a.2.2, ()), fun v1 _ => (decide (v1 < v0)), s_l18Receiver_L0_T, up, 1, (Int.toNat (v0 - v1)), (fun p => Empty.elim p), fun i a => (i, a), fun _ k x => k (.exit 0) (Sh.enc ⟨[(2, false, [.ptr 1 0]), (3, false, [.ptr 2 0])], [.box [.st .curs [.sl .any]], .box [.st .recv [.nil .piec]], .box [.st .recv [.own 3]], .of false true]⟩ (x.2.1, ({ x.2.2.1 with held := [] } : Recv), x.2.2.2, ()))⟩
theorem s_l18Receiver_L0_s : LS Tryz.prog s_l18Receiver_x [0] (leC 0 s_l18Receiver_L0_h s_l18Receiver_L0_d) := loopC st (orcOf_ok s_l18Receiver_o) _ s_l18Receiver_L0_d [] trivial (by kernel_rfl) (fun _ => by kernel_rfl) fun _ _ _ _ _ _ => by kernel_rfl
theorem s_l18Receiver_L0_k {v0 v1 : Int} {v2 : Curs} {v3 v4 : Recv} (h0 : 0 ≤ v1) (h1 : v0 ≤ 4611686018427387904) (h2 : sm_curs v2 ∧ sm_recv v3 ∧ sm_recv v4 ∧ v4.held.length ≤ 3) : (s_l18Receiver_L0_d (v0, v1, v2, v3, v4, ())).U v0 (fun v1 a => sm_curs a.1 ∧ sm_recv a.2.1 ∧ sm_recv a.2.2 ∧ a.2.2.held.length ≤ 3) (fun _ => True) :=
  LC.okU (i := v1) (a := (v2, v3, v4)) (fun _ _ => rfl) (fun _ => rfl) rfl h0 h1 h2 fun v1 (v2, v3, v4) hj hk hv => by
    refine Tr.C ?_ fun _ _ _ => Tr.C ?_ fun _ _ _ => Tr.C ?_ fun _ _ _ => Tr.I (fun _ => Tr.C ?_ fun _ _ _ => Tr.C ?_ fun _ _ _ => Tr.Rn ?_) fun _ => Tr.Rn ?_
    all_goals (grind)
noncomputable def s_l18Receiver : FT (Curs × Unit) (Recv × Curs) (fun x => sm_curs x.1) (fun x v => sm_recv v.1 ∧ sm_curs v.2 ∧ v.1.held.length ≤ 3) := ⟨fun (y0, _) =>
    .cal s_l2Deep.c (y0, ()) fun c1 =>
    .cal s_ReceiverNew.c (c1.1, ()) fun c2 =>
    .cal s_l1Below.c (c1.2, 7, ()) fun c3 =>
    .lp (s_l18Receiver_L0_d (c3.1, 0, c3.2, (⟨0, [], [], 0, false⟩ : Recv), c2, ())).lp fun (_, a9_0, _, a9_2) =>
    .ret (a9_2, a9_0),
  fun (y0, _) hp => by
    refine Tr.C ?_ fun _ _ _ => Tr.C trivial fun _ _ _ => Tr.C ?_ fun _ _ _ => Tr.L (s_l18Receiver_L0_k ?_ ?_ ?_) (fun (a9_0, a9_1, a9_2) _ => Tr.R ?_) (fun p => Empty.elim p)
    all_goals ((try simp only [s_l18Receiver_L0_d, LC.lp, LC.ct, Ct.lp] at *) <;> grind)⟩
noncomputable def s_l18Receiver_e := entM st s_l18Receiver_x s_l18Receiver_o [(leC 0 s_l18Receiver_L0_h s_l18Receiver_L0_d)] [.wr false [.ptr 0]] [.box [.st .curs]] (fun x y => (y.1.1, ())) s_l18Receiver (fun v => [(true, q_recv (.o true) v.1)]) (fun x y v => ((v.2, ()), ())) Tryz.func230 (by kernel_rfl) ⟨s_l18Receiver_L0_s, trivial⟩ fun _ _ => by kernel_rfl
/-- spec.l18Bent -/
noncomputable def s_l18Bent : FT (Curs × Unit) (Recv × Curs) (fun x => sm_curs x.1) (fun x v => sm_recv v.1 ∧ sm_curs v.2) := ⟨fun (y0, _) =>
    .cal s_l18Receiver.c (y0, ()) fun c1 =>
    .cal s_l1Below.c (c1.2, 12, ()) fun c2 =>
    .ite (c2.1 == 0) (.cal s_l2Word.c (c2.2, ()) fun c3 =>
      .ret (({ c1.1 with next := c3.1 } : Recv), c3.2)) <|
    .ite (c2.1 == 1) (.cal s_l1PickInt.c (c2.2, [(-2), (-1), 0, 5, 32, 33], ()) fun c4 =>
      .ret (({ c1.1 with fin := c4.1 } : Recv), c4.2)) <|
    .ite (c2.1 == 2) (.ret (({ c1.1 with done := (!c1.1.done) } : Recv), c2.2)) <|
    .ite (c2.1 == 3) (.cal s_l1PickInt.c (c2.2, [0, 1, 20, 31, 32, (-1), 9223372036854775807], ()) fun c5 =>
      .cal s_l1Pick.c (c5.2, [[], [120], [121, 122]], ()) fun c6 =>
      .grd (Nat.ble ((2 * (c1.1.held.length + 1) + 1024) * 24) maxSl) <|
      .ret (({ c1.1 with held := (c1.1.held ++ [(⟨c5.1, c6.1⟩ : Piec)]) } : Recv), c6.2)) <|
    .ite (c2.1 == 4) (.cal s_l1Below.c (c2.2, 3, ()) fun c7 =>
      .cal s_l5Long.c ((IntKind.wrap .i64 (31 + c7.1)), ()) fun c8 =>
      .ret (({ c1.1 with data := c8 } : Recv), c7.2)) <|
    .ret (c1.1, c2.2),
  fun (y0, _) hp => by
    refine Tr.C ?_ fun _ _ _ => Tr.C ?_ fun _ _ _ => Tr.I (fun _ => Tr.C ?_ fun _ _ _ => Tr.R ?_) fun _ => Tr.I (fun _ => Tr.C ?_ fun _ _ _ => Tr.R ?_) fun _ => Tr.I (fun _ => Tr.R ?_) fun _ => Tr.I (fun _ => Tr.C ?_ fun _ _ _ => Tr.C ?_ fun _ _ _ => Tr.Gb ?_ fun _ => Tr.R ?_) fun _ => Tr.I (fun _ => Tr.C ?_ fun _ _ _ => Tr.C ?_ fun _ _ _ => Tr.R ?_) fun _ => Tr.R ?_
    all_goals (grind)⟩
noncomputable def s_l18Bent_e := entM st ⟨201, Tryz.f201, [], 1⟩ [s_l18Receiver_e, s_l1Below_e, s_l2Word_e, s_l1PickInt_e, s_l1Pick_e, s_l5Long_e] [] [.wr false [.ptr 0]] [.box [.st .curs]] (fun x y => (y.1.1, ())) s_l18Bent (fun v => [(true, q_recv (.o true) v.1)]) (fun x y v => ((v.2, ()), ())) Tryz.func201 (by kernel_rfl) trivial fun _ _ => by kernel_rfl
/-- spec.l19Bent -/
noncomputable def s_l19Bent_o : List (Ent1 Tryz.prog) := [s_l19Conn_e, s_l1Below_e, s_l17Bent_e, s_l18Bent_e, s_l1PickInt_e, s_l8Bent_e, s_l12Bent_e]
def s_l19Bent_J8_a : An := ⟨⟨[], [], false, 1⟩, ⟨[2, 3], [], false, 1⟩, ⟨[], []⟩, [(.normal, ⟨[(2, false, [.ptr 1 0]), (3, false, [.ptr 2 0])], [.box [.st .curs [.sl .any]], .box [.st .conn [.nil .piec]], .box [.st .conn [.own 3]], .of false true]⟩)]⟩
noncomputable def s_l19Bent_x : Fx := ⟨156, Tryz.f156, [(1000008, s_l19Bent_J8_a)], 1⟩
noncomputable def s_l19Bent : FT (Curs × Unit) (Conn × Curs) (fun x => sm_curs x.1) (fun x v => sm_conn v.1 ∧ sm_curs v.2) := ⟨fun (y0, _) =>
    .cal s_l19Conn.c (y0, ()) fun c1 =>
    .cal s_l1Below.c (c1.2, 16, ()) fun c2 =>
    .bnd (β := WT s_l19Bent_J8_a.es) (.ite (c2.1 == 0) (.cal s_l1Below.c (c2.2, 11, ()) fun c3 =>
        .ret (c3.2, (⟨⟨0, 0, 0⟩, 0, ⟨0, [], 0, false, false, false⟩, ⟨0, [], [], 0, false⟩, 0, 0, ⟨0, 0, false, false, 0, 0⟩, 0, 0⟩ : Conn), ({ c1.1 with state := (IntKind.wrap .i64 (c3.1 - 1)) } : Conn), ())) <|
      .ite (c2.1 == 1) (.cal s_l17Bent.c (c2.2, ()) fun c4 =>
        .ret (c4.2, (⟨⟨0, 0, 0⟩, 0, ⟨0, [], 0, false, false, false⟩, ⟨0, [], [], 0, false⟩, 0, 0, ⟨0, 0, false, false, 0, 0⟩, 0, 0⟩ : Conn), ({ c1.1 with s.una := c4.1.una, s.data := c4.1.data, s.sent := c4.1.sent, s.fin := c4.1.fin, s.finSent := c4.1.finSent, s.done := c4.1.done } : Conn), ())) <|
      .ite (c2.1 == 2) (.cal s_l18Bent.c (c2.2, ()) fun c5 =>
        .ret (c5.2, (⟨⟨0, 0, 0⟩, 0, ⟨0, [], 0, false, false, false⟩, ⟨0, [], [], 0, false⟩, 0, 0, ⟨0, 0, false, false, 0, 0⟩, 0, 0⟩ : Conn), ({ c1.1 with r.next := c5.1.next, r.data := c5.1.data, r.held := c5.1.held, r.fin := c5.1.fin, r.done := c5.1.done } : Conn), ())) <|
      .ite (c2.1 == 3) (.cal s_l1PickInt.c (c2.2, [(-1), 0, c1.1.most, (IntKind.wrap .i64 (c1.1.most + 1))], ()) fun c6 =>
        .ret (c6.2, (⟨⟨0, 0, 0⟩, 0, ⟨0, [], 0, false, false, false⟩, ⟨0, [], [], 0, false⟩, 0, 0, ⟨0, 0, false, false, 0, 0⟩, 0, 0⟩ : Conn), ({ c1.1 with window := c6.1 } : Conn), ())) <|
      .ite (c2.1 == 4) (.cal s_l1PickInt.c (c2.2, [(-1), 0, 3, 4, 5], ()) fun c7 =>
        .ret (c7.2, (⟨⟨0, 0, 0⟩, 0, ⟨0, [], 0, false, false, false⟩, ⟨0, [], [], 0, false⟩, 0, 0, ⟨0, 0, false, false, 0, 0⟩, 0, 0⟩ : Conn), ({ c1.1 with timer := c7.1 } : Conn), ())) <|
      .ite (c2.1 == 5) (.cal s_l1PickInt.c (c2.2, [(-1), 0, 3, 4], ()) fun c8 =>
        .ret (c8.2, (⟨⟨0, 0, 0⟩, 0, ⟨0, [], 0, false, false, false⟩, ⟨0, [], [], 0, false⟩, 0, 0, ⟨0, 0, false, false, 0, 0⟩, 0, 0⟩ : Conn), ({ c1.1 with tries := c8.1 } : Conn), ())) <|
      .ite (c2.1 == 6) (.cal s_l8Bent.c (c2.2, ()) fun c9 =>
        .ret (c9.2, (⟨⟨0, 0, 0⟩, 0, ⟨0, [], 0, false, false, false⟩, ⟨0, [], [], 0, false⟩, 0, 0, ⟨0, 0, false, false, 0, 0⟩, 0, 0⟩ : Conn), ({ c1.1 with opts.mss := c9.1.mss, opts.scale := c9.1.scale, opts.sack := c9.1.sack, opts.stamp := c9.1.stamp, opts.val := c9.1.val, opts.echo := c9.1.echo } : Conn), ())) <|
      .ite (c2.1 == 7) (.cal s_l12Bent.c (c2.2, ()) fun c10 =>
        .ret (c10.2, (⟨⟨0, 0, 0⟩, 0, ⟨0, [], 0, false, false, false⟩, ⟨0, [], [], 0, false⟩, 0, 0, ⟨0, 0, false, false, 0, 0⟩, 0, 0⟩ : Conn), ({ c1.1 with tuple.ip := c10.1.ip, tuple.port := c10.1.port, tuple.my := c10.1.my } : Conn), ())) <|
      .ret (c2.2, (⟨⟨0, 0, 0⟩, 0, ⟨0, [], 0, false, false, false⟩, ⟨0, [], [], 0, false⟩, 0, 0, ⟨0, 0, false, false, 0, 0⟩, 0, 0⟩ : Conn), c1.1, ())) fun (u11a0, _, u11a2, _) =>
    .ret (u11a2, u11a0),
  fun (y0, _) hp => by
    refine Tr.C ?_ fun _ _ _ => Tr.C ?_ fun _ _ _ => Tr.B (Q' := fun w => sm_curs w.1 ∧ sm_conn w.2.1 ∧ sm_conn w.2.2.1) (Tr.I (fun _ => Tr.C ?_ fun _ _ _ => Tr.R ?_) fun _ => Tr.I (fun _ => Tr.C ?_ fun _ _ _ => Tr.R ?_) fun _ => Tr.I (fun _ => Tr.C ?_ fun _ _ _ => Tr.R ?_) fun _ => Tr.I (fun _ => Tr.C ?_ fun _ _ _ => Tr.R ?_) fun _ => Tr.I (fun _ => Tr.C ?_ fun _ _ _ => Tr.R ?_) fun _ => Tr.I (fun _ => Tr.C ?_ fun _ _ _ => Tr.R ?_) fun _ => Tr.I (fun _ => Tr.C ?_ fun _ _ _ => Tr.R ?_) fun _ => Tr.I (fun _ => Tr.C ?_ fun _ _ _ => Tr.R ?_) fun _ => Tr.R ?_) (fun (u11a0, u11a1, u11a2, _) _ _ => Tr.R ?_)
    all_goals ((try simp only [Tr.nice, letK] at *) <;> grind)⟩
noncomputable def s_l19Bent_e := entM st s_l19Bent_x s_l19Bent_o [] [.wr false [.ptr 0]] [.box [.st .curs]] (fun x y => (y.1.1, ())) s_l19Bent (fun v => [(true, q_conn (.o true) v.1)]) (fun x y v => ((v.2, ()), ())) Tryz.func156 (by kernel_rfl) trivial fun _ _ => by kernel_rfl
/-- spec.l25Bent -/
noncomputable def s_l25Bent_o : List (Ent1 Tryz.prog) := [s_l25Limits_e, s_l25Table_e, s_l1Below_e, s_l19Bent_e, s_l12Tuple_e, s_l1PickInt_e]
def s_l25Bent_J13_a : An := ⟨⟨[], [], false, 1⟩, ⟨[2, 3, 4, 5], [], false, 1⟩, ⟨[], []⟩, [(.normal, ⟨[(2, false, [.ptr 1 0]), (3, false, [.ptr 2 0]), (4, false, [.ptr 3 0]), (5, false, [.ptr 4 0])], [.box [.st .curs [.sl .any]], .box [.st .tabl [.nil .conn, .nil .tupl]], .box [.st .limi []], .box [.st .limi []], .box [.st .tabl [.own 5, .own 6]], .of false true, .of false true]⟩)]⟩
noncomputable def s_l25Bent_x : Fx := ⟨108, Tryz.f108, [(1000013, s_l25Bent_J13_a)], 1⟩
noncomputable def s_l25Bent : FT (Curs × Unit) (Tabl × Limi × Curs) (fun x => sm_curs x.1) (fun x v => sm_tabl v.1 ∧ sm_curs v.2.2) := ⟨fun (y0, _) =>
    .cal s_l25Limits.c (y0, ()) fun c1 =>
    .cal s_l25Table.c (c1.2, c1.1, ()) fun c2 =>
    .cal s_l1Below.c (c2.2, 10, ()) fun c3 =>
    .bnd (β := WT s_l25Bent_J13_a.es) (.ite (c3.1 == 0) (.cal s_l19Bent.c (c3.2, ()) fun c4 =>
        .grd (Nat.ble ((2 * (c2.1.conns.length + 1) + 1024) * 208) maxSl) <|
        .ret (c4.2, (⟨[], []⟩ : Tabl), (⟨0, 0, 0, 0⟩ : Limi), c1.1, (⟨(c2.1.conns ++ [c4.1]), c2.1.waiting⟩ : Tabl), ())) <|
      .ite (c3.1 == 1) (.cal s_l12Tuple.c (c3.2, ()) fun c5 =>
        .grd (Nat.ble ((2 * (c2.1.waiting.length + 1) + 1024) * 24) maxSl) <|
        .ret (c5.2, (⟨[], []⟩ : Tabl), (⟨0, 0, 0, 0⟩ : Limi), c1.1, (⟨c2.1.conns, (c2.1.waiting ++ [c5.1])⟩ : Tabl), ())) <|
      .ite (c3.1 == 2) (.cal s_l1PickInt.c (c3.2, [0, 16, 17, 1], ()) fun c6 =>
        .ret (c6.2, (⟨[], []⟩ : Tabl), (⟨0, 0, 0, 0⟩ : Limi), ({ c1.1 with conns := c6.1 } : Limi), c2.1, ())) <|
      .ite (c3.1 == 3) (.cal s_l1PickInt.c (c3.2, [(-1), 1000, 1001], ()) fun c7 =>
        .ret (c7.2, (⟨[], []⟩ : Tabl), (⟨0, 0, 0, 0⟩ : Limi), ({ c1.1 with chal := c7.1 } : Limi), c2.1, ())) <|
      .ite (c3.1 == 4) (.ite (decide (0 < (c2.1.conns.length : Int))) (.grd (decide (0 < (c2.1.conns.length : Int))) <|
          .grd (Nat.ble ((2 * (c2.1.conns.length + 1) + 1024) * 208) maxSl) <|
          .ret (c3.2, (⟨[], []⟩ : Tabl), (⟨0, 0, 0, 0⟩ : Limi), c1.1, (⟨(c2.1.conns ++ [(c2.1.conns.getD 0 (Ty.zero .conn))]), c2.1.waiting⟩ : Tabl), ())) <|
        .ret (c3.2, (⟨[], []⟩ : Tabl), (⟨0, 0, 0, 0⟩ : Limi), c1.1, c2.1, ())) <|
      .ret (c3.2, (⟨[], []⟩ : Tabl), (⟨0, 0, 0, 0⟩ : Limi), c1.1, c2.1, ())) fun (u8a0, _, _, u8a3, u8a4, _) =>
    .ret (u8a4, u8a3, u8a0),
  fun (y0, _) hp => by
    refine Tr.C ?_ fun _ _ _ => Tr.C ?_ fun _ _ _ => Tr.C ?_ fun _ _ _ => Tr.B (Q' := fun w => sm_curs w.1 ∧ sm_tabl w.2.1 ∧ sm_tabl w.2.2.2.2.1) (Tr.I (fun _ => Tr.C ?_ fun _ _ _ => Tr.Gb ?_ fun _ => Tr.R ?_) fun _ => Tr.I (fun _ => Tr.C ?_ fun _ _ _ => Tr.Gb ?_ fun _ => Tr.R ?_) fun _ => Tr.I (fun _ => Tr.C ?_ fun _ _ _ => Tr.R ?_) fun _ => Tr.I (fun _ => Tr.C ?_ fun _ _ _ => Tr.R ?_) fun _ => Tr.I (fun _ => Tr.I (fun _ => Tr.G1 ?_ fun _ => Tr.Gb ?_ fun _ => Tr.R ?_) fun _ => Tr.R ?_) fun _ => Tr.R ?_) (fun (u8a0, u8a1, u8a2, u8a3, u8a4, _) _ _ => Tr.R ?_)
    all_goals ((try simp only [Tr.nice, letK] at *) <;> grind)⟩
noncomputable def s_l25Bent_e := entM st s_l25Bent_x s_l25Bent_o [] [.wr false [.ptr 0]] [.box [.st .curs]] (fun x y => (y.1.1, ())) s_l25Bent (fun v => [(true, q_tabl (.o true) (.o true) v.1), (true, q_limi v.2.1)]) (fun x y v => ((v.2.2, ()), ())) Tryz.func108 (by kernel_rfl) trivial fun _ _ => by kernel_rfl
/-- spec.l26Bent -/
noncomputable def s_l26Bent : FT (Curs × Unit) (Door × Curs) (fun x => sm_curs x.1) (fun x v => sm_door v.1 ∧ sm_curs v.2) := ⟨fun (y0, _) =>
    .cal s_l26Door.c (y0, ()) fun c1 =>
    .cal s_l1Below.c (c1.2, 16, ()) fun c2 =>
    .ite (c2.1 == 0) (.cal s_l2Word.c (c2.2, ()) fun c3 =>
      .ret (({ c1.1 with port := c3.1 } : Door), c3.2)) <|
    .ite (c2.1 == 1) (.cal s_l13Bent.c (c2.2, ()) fun c4 =>
      .ret ((⟨c1.1.port, c1.1.clock, c4.1, c1.1.limits, c1.1.halves, c1.1.table, c1.1.chal⟩ : Door), c4.2)) <|
    .ite (c2.1 == 2) (.cal s_l24Bent.c (c2.2, ()) fun c5 =>
      .ret (({ c1.1 with halves := c5.1 } : Door), c5.2)) <|
    .ite (c2.1 == 3) (.cal s_l25Bent.c (c2.2, ()) fun c6 =>
      .ret (({ c1.1 with table.conns := c6.1.conns, table.waiting := c6.1.waiting } : Door), c6.2.2)) <|
    .ite (c2.1 == 4) (.cal s_l1PickInt.c (c2.2, [(-1), 0, c1.1.limits.chal, (IntKind.wrap .i64 (c1.1.limits.chal + 1))], ()) fun c7 =>
      .ret (({ c1.1 with chal := c7.1 } : Door), c7.2)) <|
    .ite (c2.1 == 5) (.cal s_l1PickInt.c (c2.2, [(-1), 4294967295, 4294967296], ()) fun c8 =>
      .ret (({ c1.1 with clock := c8.1 } : Door), c8.2)) <|
    .ret (c1.1, c2.2),
  fun (y0, _) hp => by
    refine Tr.C ?_ fun _ _ _ => Tr.C ?_ fun _ _ _ => Tr.I (fun _ => Tr.C ?_ fun _ _ _ => Tr.R ?_) fun _ => Tr.I (fun _ => Tr.C ?_ fun _ _ _ => Tr.R ?_) fun _ => Tr.I (fun _ => Tr.C ?_ fun _ _ _ => Tr.R ?_) fun _ => Tr.I (fun _ => Tr.C ?_ fun _ _ _ => Tr.R ?_) fun _ => Tr.I (fun _ => Tr.C ?_ fun _ _ _ => Tr.R ?_) fun _ => Tr.I (fun _ => Tr.C ?_ fun _ _ _ => Tr.R ?_) fun _ => Tr.R ?_
    all_goals (grind)⟩
noncomputable def s_l26Bent_e := entM st ⟨59, Tryz.f59, [], 1⟩ [s_l26Door_e, s_l1Below_e, s_l2Word_e, s_l13Bent_e, s_l24Bent_e, s_l25Bent_e, s_l1PickInt_e] [] [.wr false [.ptr 0]] [.box [.st .curs]] (fun x y => (y.1.1, ())) s_l26Bent (fun v => [(true, q_door (.o true) (.o true) (.o true) (.o true) (.o true) v.1)]) (fun x y v => ((v.2, ()), ())) Tryz.func59 (by kernel_rfl) trivial fun _ _ => by kernel_rfl
/-- spec.DrawTickDoor -/
noncomputable def s_DrawTickDoor : FT (List Int × Unit) (Door) (fun x => sS x.1 ∧ x.1.length ≤ 1048576) (fun x v => sm_door v) := ⟨fun (x0, _) =>
    .cal s_l1New.c (x0, ()) fun c1 =>
    .cal s_l26Bent.c (c1, ()) fun c2 =>
    .ret c2.1,
  fun (x0, _) hp => by
    refine Tr.C ?_ fun _ _ _ => Tr.C ?_ fun _ _ _ => Tr.R ?_
    all_goals (grind)⟩
noncomputable def s_DrawTickDoor_e := ent0 st Tryz.func19 [s_l1New_e, s_l26Bent_e] (ks := [.sc (.sl .u8)]) s_DrawTickDoor (fun v => [(true, q_door (.o true) (.o true) (.o true) (.o true) (.o true) v)]) fun _ => by kernel_rfl
/-- laws.FnTickDoor -/
noncomputable def w_FnTickDoor_o : List (Ent1 Tryz.prog) := [w_big_e, s_DrawTickDoor_e, i_TickDoor_e, s_TickDoor_e, s_SameDoor_e, w_sameSegments_e, s_DoorOk_e, i_DoorOk_e, w_place_e, i_Retained_e, i_RetainedMost_e]
noncomputable def w_FnTickDoor_x : Fx := ⟨4, Tryz.f4, [(3000006, rA 0 31)], 0⟩
noncomputable def w_FnTickDoor : FX (List Int × Unit) (Bool) (fun _ => True) (FactP [.sc (.sl .u8)]) := ⟨fun (x0, _) =>
    .val (w_big.f (x0, ())) fun c1 =>
    .ite c1 (.ret true) <|
    .cal s_DrawTickDoor.c (x0, ()) fun c2 =>
    .cal i_TickDoor.c (c2, ()) fun c3 =>
    .cal s_TickDoor.c (c2, ()) fun c4 =>
    .bnd (β := Bool × Unit) (.cal s_SameDoor.c (c3.1, c4.1, ()) fun c5 =>
      .ite (!c5) (.ret (true, ())) <|
      .cal w_sameSegments.c (c3.2, c4.2, ()) fun c6 =>
      .ret ((!c6), ())) fun (u7a0, _) =>
    .ite u7a0 (.ret false) <|
    .cal s_DoorOk.c (c2, ()) fun c8 =>
    .ite (!c8) (.cal s_SameDoor.c (c3.1, c2, ()) fun c9 =>
      .ret c9) <|
    .cal i_DoorOk.c (c3.1, ()) fun c10 =>
    .ite c10 (.ite (c3.1.chal == 0) (.val (w_place.f ((IntKind.wrap .i64 (c2.clock + 1)), ())) fun c11 =>
        .ite (c3.1.clock == c11) (.ite (decide ((c3.1.halves.length : Int) ≤ (c2.halves.length : Int))) (.cal i_Retained.c (c3.1, ()) fun c12 =>
            .cal i_RetainedMost.c (c2.limits, ()) fun c13 =>
            .ret (decide (c12 ≤ c13))) <|
          .ret false) <|
        .ret false) <|
      .ret false) <|
    .ret false,
  fun (x0, _) hp hf => by
    simp only [FactP, Pk.fact, factH, factW, Fl.fact, Ty.fl, Ty.toH] at hf
    refine Tr.V fun _ _ => Tr.I (fun _ => Tr.R trivial) fun _ => Tr.C ?_ fun _ _ _ => Tr.C ?_ fun _ _ _ => Tr.C ?_ fun _ _ _ => Tr.B (Q' := fun _ => True) (Tr.C ?_ fun _ _ _ => Tr.I (fun _ => Tr.R trivial) fun _ => Tr.C ?_ fun _ _ _ => Tr.R trivial) (fun (u7a0, _) _ _ => Tr.I (fun _ => Tr.R trivial) fun _ => Tr.C ?_ fun _ _ _ => Tr.I (fun _ => Tr.C ?_ fun _ _ _ => Tr.R trivial) fun _ => Tr.C ?_ fun _ _ _ => Tr.I (fun _ => Tr.I (fun _ => Tr.V fun _ _ => Tr.I (fun _ => Tr.I (fun _ => Tr.C ?_ fun _ _ _ => Tr.C trivial fun _ _ _ => Tr.R trivial) fun _ => Tr.R trivial) fun _ => Tr.R trivial) fun _ => Tr.R trivial) fun _ => Tr.R trivial)
    all_goals ((try simp only [Tr.nice, letK] at *) <;> grind)⟩
noncomputable def w_FnTickDoor_e := entX st w_FnTickDoor_x w_FnTickDoor_o [] (ks := [.sc (.sl .u8)]) w_FnTickDoor (fun v => [(false, [.c (.bool v)])]) Tryz.func4 trivial fun _ => by kernel_rfl
theorem q_WordOk (n b : Int) : s_WordOk.f (n, b, ()) = i_WordOk.f (n, b, ()) := by
  simp only [PX, s_WordOk, i_WordOk, s_l1In_eq, i_within_eq]
  cases h : (decide (1 ≤ b) && decide (b ≤ 62)) with
  | false => simp only [cond_false]
  | true =>
    have h1 : 1 ≤ b ∧ b ≤ 62 := by simpa using h
    rw [wrapU_id (by omega) (by omega)]
theorem q_TupleOk (x : Tupl) : s_TupleOk.f (x, ()) = i_TupleOk.f (x, ()) := by
  simp only [PX, s_TupleOk, i_TupleOk, q_WordOk]
theorem q_OptionsOk (x : Opti) : s_OptionsOk.f (x, ()) = i_OptionsOk.f (x, ()) := by
  simp only [PX, s_OptionsOk, i_OptionsOk, q_WordOk, s_l1In_eq, i_within_eq]
theorem l4Rest_eq (x : Int) : s_l4Rest.f (x, ()) = x % 4294967296 := by
  simp only [PX, s_l4Rest]
  rcases Int.lt_or_le x 0 with h | h
  · rw [(tmod_pos 4294967296).2 h, wrap64_def]
    cases hd : decide (-(-x % 4294967296) < 0) with
    | true => simp only [decide_eq_true_eq] at hd; simp only [cond_true]; omega
    | false => simp only [decide_eq_false_iff_not] at hd; simp only [cond_false]; omega
  · rw [(tmod_pos 4294967296).1 h, wrap64_def]
    cases hd : decide (x % 4294967296 < 0) with
    | true => simp only [decide_eq_true_eq] at hd; omega
    | false => rfl
theorem iSeqAdd_eq (a b : Int) : i_SeqAdd.f (a, b, ()) = (a + b) % 4294967296 := by
  simp only [PX, i_SeqAdd]
  rw [i64_mask32, wrap64_def]; omega
theorem q_SeqAdd (a b : Int) : s_SeqAdd.f (a, b, ()) = i_SeqAdd.f (a, b, ()) := by
  rw [iSeqAdd_eq]
  simp only [PX, s_SeqAdd, l4Rest_eq, wrap64_def]; omega
theorem q_SameMac (x y : Mac) : s_SameMac.f (x, y, ()) = i_SameMac.f (x, y, ()) := by
  simp only [PX, s_SameMac, i_SameMac, g_Equal_MacRow, s_SameMac_L0_d, g_Equal_MacRow_L0_d, s_SameMac_L0_T, g_Equal_MacRow_L0_T]
  have e1 : (x.k != y.k) = !(x.k == y.k) := rfl
  have e2 : (x.l != y.l) = !(x.l == y.l) := rfl
  rw [e1, e2]
  cases (x.use == y.use) <;> cases (x.k == y.k) <;> cases (x.l == y.l) <;> cases ((x.rows.length : Int) != (y.rows.length : Int)) <;> rfl
theorem MacOk_in (x : Mac) (r : List MacRow) (j : Nat) (hj : j < r.length) (hr : x.rows = r) :
    Stp.elim (γ := Stp Unit Unit) (fun _ => .next ()) (fun _ => .out ()) (forN (fun i a => (s_MacOk_L0_0_T (j : Int) x i a).nice) 1 (Int.toNat ((j : Int) - 0)) 0 ()) =
    bif g_ContainsFunc_MacRow_i_MacOk_1.f (((r.take j).drop 0), (r.getD j (Ty.zero .macRow)), ()) then .out () else .next () := by
  subst hr
  let p : MacRow → Bool := fun y => y.input == (x.rows.getD j (Ty.zero .macRow)).input
  simp only [PX, g_ContainsFunc_MacRow_i_MacOk_1, g_IndexFunc_MacRow_i_MacOk_1, g_IndexFunc_MacRow_i_MacOk_1_L0_d]
  rw [List.drop_zero]
  have hl : (x.rows.take j).length = j := by rw [List.length_take]; omega
  rw [forN_list (x.rows.take j) _ (by rw [hl]; simp) (F := fun q y a => bif p y then .out () else .next ()) (by
    intro q y a h
    have hq : q < j := by
      have := (List.getElem?_eq_some_iff.1 h).1; omega
    have h2 : x.rows[q]? = some y := by rw [List.getElem?_take] at h; simpa [hq] using h
    simp only [PX, s_MacOk_L0_0_T, toNat_cast, getD_some h2, p])]
  rw [forN_list (x.rows.take j) _ (by simp) (F := fun q y a => bif p y then .out (q : Int) else .next ()) (by
    intro q y a h
    simp only [PX, g_IndexFunc_MacRow_i_MacOk_1_L0_T, i_MacOk_1, toNat_cast, getD_some h, p])]
  rw [listN_find (w := fun _ _ => ()), listN_find (w := fun j _ => (j : Int))]
  cases h : (x.rows.take j).findIdx? p with
  | none => simp [PX, Stp.elim]
  | some i =>
    have := (List.findIdx?_eq_some_iff_getElem.1 h).1
    simp only [List.getElem?_eq_getElem this, Stp.elim]
    simp [PX]
theorem q_MacOk (x : Mac) : s_MacOk.f (x, ()) = i_MacOk.f (x, ()) := by
  simp only [PX, s_MacOk, i_MacOk, s_MacOk_L0_d, i_MacOk_L0_d]
  have e : forN (fun j a => (s_MacOk_L0_T x j a).nice) 1 (Int.toNat ((x.rows.length : Int) - 0)) 0 () = forN (fun j a => (i_MacOk_L0_T x.rows x j a).nice) 1 (Int.toNat ((x.rows.length : Int) - 0)) 0 () := by
    rw [toNat_sub0]
    refine forN_ext x.rows.length 0 () (fun j a hj => ?_)
    have := MacOk_in x x.rows j (by omega) rfl
    simp only [PX, s_MacOk_L0_T, i_MacOk_L0_T, s_MacOk_L0_0_d, toNat_cast, s_l1In_eq, i_within_eq] at this ⊢
    rw [this]
  rw [e]
  have e1 : (x.k != 0) = !(x.k == 0) := rfl
  have e2 : (x.l != 0) = !(x.l == 0) := rfl
  have e3 : decide (64 < (x.rows.length : Int)) = !decide ((x.rows.length : Int) ≤ 64) := by
    rcases Int.lt_or_le 64 (x.rows.length : Int) with h | h
    · simp [h, show ¬ ((x.rows.length : Int) ≤ 64) by omega]
    · simp [h, show ¬ (64 < (x.rows.length : Int)) by omega]
  rw [e1, e2, e3]
  generalize forN (fun j a => (i_MacOk_L0_T x.rows x j a).nice) 1 (Int.toNat ((x.rows.length : Int) - 0)) 0 () = z
  cases x.use <;> cases z <;> cases (x.k == 0) <;> cases (x.l == 0) <;> cases decide ((x.rows.length : Int) ≤ 64) <;> simp [PX, Stp.elim]
theorem q_KeysOk (k : Keys) : s_KeysOk.f (k, ()) = i_KeysOk.f (k, ()) := by
  simp only [PX, s_KeysOk, i_KeysOk, q_WordOk, q_MacOk, q_SameMac, i_WordOk_32, i_within_eq]
  cases ht : k.two <;> simp only [PX, cond_true, cond_false, ht] <;> cases i_MacOk.f (k.now, ()) <;> cases i_MacOk.f (k.before, ()) <;> grind
theorem q_l11Copy (m : Mac) : s_l11Copy.f (m, ()) = m := by simp only [PX, s_l11Copy, List.nil_append]
theorem q_cloneMac (m : Mac) : i_cloneMac.f (m, ()) = m := by simp only [PX, i_cloneMac, g_Clone_MacRow]
theorem l1Max0 (x : Int) : s_l1Max.f (0, x, ()) = (if 0 < x then x else 0) := by
  rw [s_l1Max_eq]; grind
def fidx {T : Type} (p : T → Bool) (xs : List T) : Int := match xs.findIdx? p with | none => -1 | some i => (i : Int)
theorem forN_fidx {T : Type} (p : T → Bool) (xs : List T) {f : Int → Unit → Stp Unit Int} (h : ∀ (j : Nat) x a, xs[j]? = some x → f j a = bif p x then .out (j : Int) else .next ()) :
    forN f 1 (Int.toNat ((xs.length : Int) - 0)) 0 () = match xs.findIdx? p with | none => .next () | some i => .out (i : Int) := by
  rw [toNat_sub0, forN_list xs _ rfl h, listN_find (w := fun j _ => (j : Int))]
  cases hf : xs.findIdx? p with
  | none => rfl
  | some i =>
    obtain ⟨h1, _, _⟩ := List.findIdx?_eq_some_iff_getElem.1 hf
    simp only [List.getElem?_eq_getElem h1, Nat.zero_add]
theorem fidx_nn {T : Type} (p : T → Bool) (xs : List T) : decide (0 ≤ fidx p xs) = xs.any p := by
  unfold fidx
  cases h : xs.findIdx? p with
  | none =>
    rw [List.findIdx?_eq_none_iff] at h
    symm
    show xs.any p = false
    rw [List.any_eq_false]
    intro x hx; simp [h x hx]
  | some i =>
    obtain ⟨h1, h2, _⟩ := List.findIdx?_eq_some_iff_getElem.1 h
    have : xs.any p = true := by rw [List.any_eq_true]; exact ⟨xs[i], List.getElem_mem h1, h2⟩
    rw [this]; simp
theorem fidx_lt {T : Type} (p : T → Bool) (xs : List T) : decide (fidx p xs < 0) = !xs.any p := by
  rw [← fidx_nn]
  by_cases h : 0 ≤ fidx p xs
  · rw [decide_eq_true h, decide_eq_false (by omega)]; rfl
  · rw [decide_eq_false h, decide_eq_true (by omega)]; rfl

end
end Go.Proofs.YtjaniojbmkellaaGreat
