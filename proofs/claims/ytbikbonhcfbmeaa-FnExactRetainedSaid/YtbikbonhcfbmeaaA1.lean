/-
  Contracts of functions and plain laws (printed by a program): each theorem says what a function of the program returns; conditions are its hypotheses.
-/
import Derived.Test.YtbikbonhcfbmeaaBase
set_option maxRecDepth 4000
set_option linter.unusedVariables false
set_option linter.unusedSimpArgs false
namespace Go.Proofs.Ytbikbonhcfbmeaa
open Go Go.RowKit

/-- spec.Retained -/
def s_Retained_ann : List (Nat × Keep) := [(2, ⟨[1, 3, 4, 5, 6], [], false, 0⟩), (0, ⟨[1, 3, 4], [], false, 0⟩)]
def s_Retained_L0_0_sh : Sh := ⟨[(1, false, [.ptr 0 0]), (3, false, [.int .i64]), (4, false, [.int .i64]), (5, false, [.ptr 1 0]), (6, false, [.int .i64])], [.box [.int .i64, .int .i64, .int .i64, .bool, .int .u64, .int .u64, .sl .arg .macRow, .bool, .int .u64, .int .u64, .sl .arg .macRow, .bool, .int .i64, .int .i64, .int .i64, .int .i64, .sl .arg .half, .sl .arg .conn, .sl .arg .tupl, .int .i64], .box [.int .i64, .int .i64, .int .i64, .int .i64, .int .i64, .str, .int .i64, .bool, .bool, .bool, .int .i64, .str, .sl .arg .piec, .int .i64, .bool, .int .i64, .int .i64, .int .i64, .int .i64, .bool, .bool, .int .i64, .int .i64, .int .i64, .int .i64]]⟩
def s_Retained_L0_0_es : List (Ex × Sh) := [(.exit 2, ⟨[(1, false, [.ptr 0 0]), (2, false, [.undef]), (3, false, [.int .i64]), (4, false, [.int .i64])], [.box [.int .i64, .int .i64, .int .i64, .bool, .int .u64, .int .u64, .sl .arg .macRow, .bool, .int .u64, .int .u64, .sl .arg .macRow, .bool, .int .i64, .int .i64, .int .i64, .int .i64, .sl .arg .half, .sl .arg .conn, .sl .arg .tupl, .int .i64]]⟩)]
def s_Retained_L0_0_mk (vb0 : Int) (vb1 : Int) (vb2 : Int) (vb3 : Int) (vb4 : Int) (vb5 : Int) (vb6 : Bool) (vb7 : Int) (vb8 : Int) (vb9 : List MacRow) (vb10 : Bool) (vb11 : Int) (vb12 : Int) (vb13 : List MacRow) (vb14 : Bool) (vb15 : Int) (vb16 : Int) (vb17 : Int) (vb18 : Int) (vb19 : List Half) (vb20 : List Conn) (vb21 : List Tupl) (vb22 : Int) (vb23 : Int) (vb24 : Int) (vb25 : Int) (vb26 : Int) (vb27 : Int) (vb28 : Bytes) (vb29 : Int) (vb30 : Bool) (vb31 : Bool) (vb32 : Bool) (vb33 : Int) (vb34 : Bytes) (vb35 : List Piec) (vb36 : Int) (vb37 : Bool) (vb38 : Int) (vb39 : Int) (vb40 : Int) (vb41 : Int) (vb42 : Bool) (vb43 : Bool) (vb44 : Int) (vb45 : Int) (vb46 : Int) (vb47 : Int) : s_Retained_L0_0_sh.T := ((((), ()), ((vb0, ()), ((vb1, ()), (((), ()), ((vb2, ()), ()))))), ((vb3, (vb4, (vb5, (vb6, (vb7, (vb8, (vb9, (vb10, (vb11, (vb12, (vb13, (vb14, (vb15, (vb16, (vb17, (vb18, (vb19, (vb20, (vb21, (vb22, ())))))))))))))))))))), ((vb23, (vb24, (vb25, (vb26, (vb27, (vb28, (vb29, (vb30, (vb31, (vb32, (vb33, (vb34, (vb35, (vb36, (vb37, (vb38, (vb39, (vb40, (vb41, (vb42, (vb43, (vb44, (vb45, (vb46, (vb47, ()))))))))))))))))))))))))), ())))
def s_Retained_L0_0_mx0 (y0 : Int) (y1 : Int) (y2 : Int) (y3 : Int) (y4 : Int) (y5 : Bool) (y6 : Int) (y7 : Int) (y8 : List MacRow) (y9 : Bool) (y10 : Int) (y11 : Int) (y12 : List MacRow) (y13 : Bool) (y14 : Int) (y15 : Int) (y16 : Int) (y17 : Int) (y18 : List Half) (y19 : List Conn) (y20 : List Tupl) (y21 : Int) : Sh.T ⟨[(1, false, [.ptr 0 0]), (2, false, [.undef]), (3, false, [.int .i64]), (4, false, [.int .i64])], [.box [.int .i64, .int .i64, .int .i64, .bool, .int .u64, .int .u64, .sl .arg .macRow, .bool, .int .u64, .int .u64, .sl .arg .macRow, .bool, .int .i64, .int .i64, .int .i64, .int .i64, .sl .arg .half, .sl .arg .conn, .sl .arg .tupl, .int .i64]]⟩ := ((((), ()), (((), ()), ((y0, ()), ((y1, ()), ())))), ((y2, (y3, (y4, (y5, (y6, (y7, (y8, (y9, (y10, (y11, (y12, (y13, (y14, (y15, (y16, (y17, (y18, (y19, (y20, (y21, ())))))))))))))))))))), ()))
def s_Retained_L0_0_B (vb0 : Int) (vb1 : Int) (vb2 : Int) (vb3 : Int) (vb4 : Int) (vb5 : Int) (vb6 : Bool) (vb7 : Int) (vb8 : Int) (vb9 : List MacRow) (vb10 : Bool) (vb11 : Int) (vb12 : Int) (vb13 : List MacRow) (vb14 : Bool) (vb15 : Int) (vb16 : Int) (vb17 : Int) (vb18 : Int) (vb19 : List Half) (vb20 : List Conn) (vb21 : List Tupl) (vb22 : Int) (vb23 : Int) (vb24 : Int) (vb25 : Int) (vb26 : Int) (vb27 : Int) (vb28 : Bytes) (vb29 : Int) (vb30 : Bool) (vb31 : Bool) (vb32 : Bool) (vb33 : Int) (vb34 : Bytes) (vb35 : List Piec) (vb36 : Int) (vb37 : Bool) (vb38 : Int) (vb39 : Int) (vb40 : Int) (vb41 : Int) (vb42 : Bool) (vb43 : Bool) (vb44 : Int) (vb45 : Int) (vb46 : Int) (vb47 : Int) (γ : Type) (fail : γ) (next : s_Retained_L0_0_sh.T → γ) (out : WT s_Retained_L0_0_es → γ) : γ :=
  bif (decide (vb2 < (vb35.length : Int))) then
    bif ((decide (0 ≤ vb2)) && (decide (vb2 < (vb35.length : Int)))) then
    letK (α := Int) (IntKind.wrap .i64 (vb0 + (((vb35.getD vb2.toNat (Ty.zero .piec)).text).length : Int))) fun e4 =>
    next (s_Retained_L0_0_mk e4 vb1 (IntKind.wrap .i64 (vb2 + 1)) vb3 vb4 vb5 vb6 vb7 vb8 vb9 vb10 vb11 vb12 vb13 vb14 vb15 vb16 vb17 vb18 vb19 vb20 vb21 vb22 vb23 vb24 vb25 vb26 vb27 vb28 vb29 vb30 vb31 vb32 vb33 vb34 vb35 vb36 vb37 vb38 vb39 vb40 vb41 vb42 vb43 vb44 vb45 vb46 vb47)
    else fail
  else
  out (s_Retained_L0_0_mx0 vb0 vb1 vb3 vb4 vb5 vb6 vb7 vb8 vb9 vb10 vb11 vb12 vb13 vb14 vb15 vb16 vb17 vb18 vb19 vb20 vb21 vb22)
theorem s_Retained_L0_0_par (vb0 : Int) (vb1 : Int) (vb2 : Int) (vb3 : Int) (vb4 : Int) (vb5 : Int) (vb6 : Bool) (vb7 : Int) (vb8 : Int) (vb9 : List MacRow) (vb10 : Bool) (vb11 : Int) (vb12 : Int) (vb13 : List MacRow) (vb14 : Bool) (vb15 : Int) (vb16 : Int) (vb17 : Int) (vb18 : Int) (vb19 : List Half) (vb20 : List Conn) (vb21 : List Tupl) (vb22 : Int) (vb23 : Int) (vb24 : Int) (vb25 : Int) (vb26 : Int) (vb27 : Int) (vb28 : Bytes) (vb29 : Int) (vb30 : Bool) (vb31 : Bool) (vb32 : Bool) (vb33 : Int) (vb34 : Bytes) (vb35 : List Piec) (vb36 : Int) (vb37 : Bool) (vb38 : Int) (vb39 : Int) (vb40 : Int) (vb41 : Int) (vb42 : Bool) (vb43 : Bool) (vb44 : Int) (vb45 : Int) (vb46 : Int) (vb47 : Int) (γ : Type) (fail : γ) (next : s_Retained_L0_0_sh.T → γ) (out : WT s_Retained_L0_0_es → γ) : s_Retained_L0_0_B vb0 vb1 vb2 vb3 vb4 vb5 vb6 vb7 vb8 vb9 vb10 vb11 vb12 vb13 vb14 vb15 vb16 vb17 vb18 vb19 vb20 vb21 vb22 vb23 vb24 vb25 vb26 vb27 vb28 vb29 vb30 vb31 vb32 vb33 vb34 vb35 vb36 vb37 vb38 vb39 vb40 vb41 vb42 vb43 vb44 vb45 vb46 vb47 γ fail next out = optK (s_Retained_L0_0_B vb0 vb1 vb2 vb3 vb4 vb5 vb6 vb7 vb8 vb9 vb10 vb11 vb12 vb13 vb14 vb15 vb16 vb17 vb18 vb19 vb20 vb21 vb22 vb23 vb24 vb25 vb26 vb27 vb28 vb29 vb30 vb31 vb32 vb33 vb34 vb35 vb36 vb37 vb38 vb39 vb40 vb41 vb42 vb43 vb44 vb45 vb46 vb47 _ none (fun v' => some (.inl v')) (fun w => some (.inr w))) fail (fun r => Sum.elim next out r) := by
  unfold s_Retained_L0_0_B
  exact bifT (f := (fun o => optK o fail (fun r => Sum.elim next out r))) (fun _ => bifT (f := (fun o => optK o fail (fun r => Sum.elim next out r))) (fun _ => letT (f := (fun o => optK o fail (fun r => Sum.elim next out r))) (fun e4 _ => rfl)) (fun _ => rfl))
      (fun _ => rfl)
def s_Retained_L0_0_r : Round s_Retained_L0_0_sh.T (WT s_Retained_L0_0_es) where
  B v γ fail next out := s_Retained_L0_0_B v.1.2.1.1 v.1.2.2.1.1 v.1.2.2.2.2.1.1 v.2.1.1 v.2.1.2.1 v.2.1.2.2.1 v.2.1.2.2.2.1 v.2.1.2.2.2.2.1 v.2.1.2.2.2.2.2.1 v.2.1.2.2.2.2.2.2.1 v.2.1.2.2.2.2.2.2.2.1 v.2.1.2.2.2.2.2.2.2.2.1 v.2.1.2.2.2.2.2.2.2.2.2.1 v.2.1.2.2.2.2.2.2.2.2.2.2.1 v.2.1.2.2.2.2.2.2.2.2.2.2.2.1 v.2.1.2.2.2.2.2.2.2.2.2.2.2.2.1 v.2.1.2.2.2.2.2.2.2.2.2.2.2.2.2.1 v.2.1.2.2.2.2.2.2.2.2.2.2.2.2.2.2.1 v.2.1.2.2.2.2.2.2.2.2.2.2.2.2.2.2.2.1 v.2.1.2.2.2.2.2.2.2.2.2.2.2.2.2.2.2.2.1 v.2.1.2.2.2.2.2.2.2.2.2.2.2.2.2.2.2.2.2.1 v.2.1.2.2.2.2.2.2.2.2.2.2.2.2.2.2.2.2.2.2.1 v.2.1.2.2.2.2.2.2.2.2.2.2.2.2.2.2.2.2.2.2.2.1 v.2.2.1.1 v.2.2.1.2.1 v.2.2.1.2.2.1 v.2.2.1.2.2.2.1 v.2.2.1.2.2.2.2.1 v.2.2.1.2.2.2.2.2.1 v.2.2.1.2.2.2.2.2.2.1 v.2.2.1.2.2.2.2.2.2.2.1 v.2.2.1.2.2.2.2.2.2.2.2.1 v.2.2.1.2.2.2.2.2.2.2.2.2.1 v.2.2.1.2.2.2.2.2.2.2.2.2.2.1 v.2.2.1.2.2.2.2.2.2.2.2.2.2.2.1 v.2.2.1.2.2.2.2.2.2.2.2.2.2.2.2.1 v.2.2.1.2.2.2.2.2.2.2.2.2.2.2.2.2.1 v.2.2.1.2.2.2.2.2.2.2.2.2.2.2.2.2.2.1 v.2.2.1.2.2.2.2.2.2.2.2.2.2.2.2.2.2.2.1 v.2.2.1.2.2.2.2.2.2.2.2.2.2.2.2.2.2.2.2.1 v.2.2.1.2.2.2.2.2.2.2.2.2.2.2.2.2.2.2.2.2.1 v.2.2.1.2.2.2.2.2.2.2.2.2.2.2.2.2.2.2.2.2.2.1 v.2.2.1.2.2.2.2.2.2.2.2.2.2.2.2.2.2.2.2.2.2.2.1 v.2.2.1.2.2.2.2.2.2.2.2.2.2.2.2.2.2.2.2.2.2.2.2.1 v.2.2.1.2.2.2.2.2.2.2.2.2.2.2.2.2.2.2.2.2.2.2.2.2.1 v.2.2.1.2.2.2.2.2.2.2.2.2.2.2.2.2.2.2.2.2.2.2.2.2.2.1 v.2.2.1.2.2.2.2.2.2.2.2.2.2.2.2.2.2.2.2.2.2.2.2.2.2.2.1 v.2.2.1.2.2.2.2.2.2.2.2.2.2.2.2.2.2.2.2.2.2.2.2.2.2.2.2.1 γ fail next out
  par v γ fail next out := s_Retained_L0_0_par v.1.2.1.1 v.1.2.2.1.1 v.1.2.2.2.2.1.1 v.2.1.1 v.2.1.2.1 v.2.1.2.2.1 v.2.1.2.2.2.1 v.2.1.2.2.2.2.1 v.2.1.2.2.2.2.2.1 v.2.1.2.2.2.2.2.2.1 v.2.1.2.2.2.2.2.2.2.1 v.2.1.2.2.2.2.2.2.2.2.1 v.2.1.2.2.2.2.2.2.2.2.2.1 v.2.1.2.2.2.2.2.2.2.2.2.2.1 v.2.1.2.2.2.2.2.2.2.2.2.2.2.1 v.2.1.2.2.2.2.2.2.2.2.2.2.2.2.1 v.2.1.2.2.2.2.2.2.2.2.2.2.2.2.2.1 v.2.1.2.2.2.2.2.2.2.2.2.2.2.2.2.2.1 v.2.1.2.2.2.2.2.2.2.2.2.2.2.2.2.2.2.1 v.2.1.2.2.2.2.2.2.2.2.2.2.2.2.2.2.2.2.1 v.2.1.2.2.2.2.2.2.2.2.2.2.2.2.2.2.2.2.2.1 v.2.1.2.2.2.2.2.2.2.2.2.2.2.2.2.2.2.2.2.2.1 v.2.1.2.2.2.2.2.2.2.2.2.2.2.2.2.2.2.2.2.2.2.1 v.2.2.1.1 v.2.2.1.2.1 v.2.2.1.2.2.1 v.2.2.1.2.2.2.1 v.2.2.1.2.2.2.2.1 v.2.2.1.2.2.2.2.2.1 v.2.2.1.2.2.2.2.2.2.1 v.2.2.1.2.2.2.2.2.2.2.1 v.2.2.1.2.2.2.2.2.2.2.2.1 v.2.2.1.2.2.2.2.2.2.2.2.2.1 v.2.2.1.2.2.2.2.2.2.2.2.2.2.1 v.2.2.1.2.2.2.2.2.2.2.2.2.2.2.1 v.2.2.1.2.2.2.2.2.2.2.2.2.2.2.2.1 v.2.2.1.2.2.2.2.2.2.2.2.2.2.2.2.2.1 v.2.2.1.2.2.2.2.2.2.2.2.2.2.2.2.2.2.1 v.2.2.1.2.2.2.2.2.2.2.2.2.2.2.2.2.2.2.1 v.2.2.1.2.2.2.2.2.2.2.2.2.2.2.2.2.2.2.2.1 v.2.2.1.2.2.2.2.2.2.2.2.2.2.2.2.2.2.2.2.2.1 v.2.2.1.2.2.2.2.2.2.2.2.2.2.2.2.2.2.2.2.2.2.1 v.2.2.1.2.2.2.2.2.2.2.2.2.2.2.2.2.2.2.2.2.2.2.1 v.2.2.1.2.2.2.2.2.2.2.2.2.2.2.2.2.2.2.2.2.2.2.2.1 v.2.2.1.2.2.2.2.2.2.2.2.2.2.2.2.2.2.2.2.2.2.2.2.2.1 v.2.2.1.2.2.2.2.2.2.2.2.2.2.2.2.2.2.2.2.2.2.2.2.2.2.1 v.2.2.1.2.2.2.2.2.2.2.2.2.2.2.2.2.2.2.2.2.2.2.2.2.2.2.1 v.2.2.1.2.2.2.2.2.2.2.2.2.2.2.2.2.2.2.2.2.2.2.2.2.2.2.2.1 γ fail next out
def s_Retained_L0_0_fu (vb0 : Int) (vb1 : Int) (vb2 : Int) (vb3 : Int) (vb4 : Int) (vb5 : Int) (vb6 : Bool) (vb7 : Int) (vb8 : Int) (vb9 : List MacRow) (vb10 : Bool) (vb11 : Int) (vb12 : Int) (vb13 : List MacRow) (vb14 : Bool) (vb15 : Int) (vb16 : Int) (vb17 : Int) (vb18 : Int) (vb19 : List Half) (vb20 : List Conn) (vb21 : List Tupl) (vb22 : Int) (vb23 : Int) (vb24 : Int) (vb25 : Int) (vb26 : Int) (vb27 : Int) (vb28 : Bytes) (vb29 : Int) (vb30 : Bool) (vb31 : Bool) (vb32 : Bool) (vb33 : Int) (vb34 : Bytes) (vb35 : List Piec) (vb36 : Int) (vb37 : Bool) (vb38 : Int) (vb39 : Int) (vb40 : Int) (vb41 : Int) (vb42 : Bool) (vb43 : Bool) (vb44 : Int) (vb45 : Int) (vb46 : Int) (vb47 : Int) : Nat := (Int.toNat ((vb35.length : Int) - vb2)) + 1
theorem s_Retained_L0_0_lk (v : s_Retained_L0_0_sh.T) (next : St → Option Res) (k : Ex → St → Option Res) : evalK te (orcOf (P := Try.prog) []) (lorcOf []) Try.f24.ntmps s_Retained_ann (nthLoop (nthLoop (bodyOf Try.f24) 0 0) 0 0) 2 (s_Retained_L0_0_sh.enc v) (endK ⟨[1, 3, 4, 5, 6], [], false, 0⟩ ⟨[1, 2, 3, 4], [], false, 0⟩ next k) =
  s_Retained_L0_0_r.B v _ none (fun v' => next (s_Retained_L0_0_sh.enc v')) (fun w => outK s_Retained_L0_0_es k w) := by kernel_rfl
def s_Retained_L0_0_le : LE := leOf 2 s_Retained_L0_0_sh s_Retained_L0_0_es s_Retained_L0_0_r.step (fun v => s_Retained_L0_0_fu v.1.2.1.1 v.1.2.2.1.1 v.1.2.2.2.2.1.1 v.2.1.1 v.2.1.2.1 v.2.1.2.2.1 v.2.1.2.2.2.1 v.2.1.2.2.2.2.1 v.2.1.2.2.2.2.2.1 v.2.1.2.2.2.2.2.2.1 v.2.1.2.2.2.2.2.2.2.1 v.2.1.2.2.2.2.2.2.2.2.1 v.2.1.2.2.2.2.2.2.2.2.2.1 v.2.1.2.2.2.2.2.2.2.2.2.2.1 v.2.1.2.2.2.2.2.2.2.2.2.2.2.1 v.2.1.2.2.2.2.2.2.2.2.2.2.2.2.1 v.2.1.2.2.2.2.2.2.2.2.2.2.2.2.2.1 v.2.1.2.2.2.2.2.2.2.2.2.2.2.2.2.2.1 v.2.1.2.2.2.2.2.2.2.2.2.2.2.2.2.2.2.1 v.2.1.2.2.2.2.2.2.2.2.2.2.2.2.2.2.2.2.1 v.2.1.2.2.2.2.2.2.2.2.2.2.2.2.2.2.2.2.2.1 v.2.1.2.2.2.2.2.2.2.2.2.2.2.2.2.2.2.2.2.2.1 v.2.1.2.2.2.2.2.2.2.2.2.2.2.2.2.2.2.2.2.2.2.1 v.2.2.1.1 v.2.2.1.2.1 v.2.2.1.2.2.1 v.2.2.1.2.2.2.1 v.2.2.1.2.2.2.2.1 v.2.2.1.2.2.2.2.2.1 v.2.2.1.2.2.2.2.2.2.1 v.2.2.1.2.2.2.2.2.2.2.1 v.2.2.1.2.2.2.2.2.2.2.2.1 v.2.2.1.2.2.2.2.2.2.2.2.2.1 v.2.2.1.2.2.2.2.2.2.2.2.2.2.1 v.2.2.1.2.2.2.2.2.2.2.2.2.2.2.1 v.2.2.1.2.2.2.2.2.2.2.2.2.2.2.2.1 v.2.2.1.2.2.2.2.2.2.2.2.2.2.2.2.2.1 v.2.2.1.2.2.2.2.2.2.2.2.2.2.2.2.2.2.1 v.2.2.1.2.2.2.2.2.2.2.2.2.2.2.2.2.2.2.1 v.2.2.1.2.2.2.2.2.2.2.2.2.2.2.2.2.2.2.2.1 v.2.2.1.2.2.2.2.2.2.2.2.2.2.2.2.2.2.2.2.2.1 v.2.2.1.2.2.2.2.2.2.2.2.2.2.2.2.2.2.2.2.2.2.1 v.2.2.1.2.2.2.2.2.2.2.2.2.2.2.2.2.2.2.2.2.2.2.1 v.2.2.1.2.2.2.2.2.2.2.2.2.2.2.2.2.2.2.2.2.2.2.2.1 v.2.2.1.2.2.2.2.2.2.2.2.2.2.2.2.2.2.2.2.2.2.2.2.2.1 v.2.2.1.2.2.2.2.2.2.2.2.2.2.2.2.2.2.2.2.2.2.2.2.2.2.1 v.2.2.1.2.2.2.2.2.2.2.2.2.2.2.2.2.2.2.2.2.2.2.2.2.2.2.1 v.2.2.1.2.2.2.2.2.2.2.2.2.2.2.2.2.2.2.2.2.2.2.2.2.2.2.2.1)
theorem s_Retained_L0_0_ls (w0 : World) (mo : Mts) (I0 : Nat → Prop) (hmo : mo.length = 0) : LSem Try.prog (Sim w0 mo Try.f24.ntmps I0) (fun b s k => match Nat.beq 2 b with | true => s_Retained_L0_0_le.run s k | false => none) 2 (nthLoop (nthLoop (bodyOf Try.f24) 0 0) 0 0) :=
  le_sem hmo (lorc := lorcOf []) (ann := s_Retained_ann) (keep := ⟨[1, 3, 4, 5, 6], [], false, 0⟩) (kout := ⟨[1, 2, 3, 4], [], false, 0⟩) teFact mixFact (orcOf_ok _) (by kernel_rfl) (allLoops_of (bs := []) (by kernel_rfl) trivial) s_Retained_L0_0_r _ s_Retained_L0_0_lk
def s_Retained_L0_0_f (vb1 : Int) (vb3 : Int) (vb4 : Int) (vb5 : Int) (vb6 : Bool) (vb7 : Int) (vb8 : Int) (vb9 : List MacRow) (vb10 : Bool) (vb11 : Int) (vb12 : Int) (vb13 : List MacRow) (vb14 : Bool) (vb15 : Int) (vb16 : Int) (vb17 : Int) (vb18 : Int) (vb19 : List Half) (vb20 : List Conn) (vb21 : List Tupl) (vb22 : Int) (vb23 : Int) (vb24 : Int) (vb25 : Int) (vb26 : Int) (vb27 : Int) (vb28 : Bytes) (vb29 : Int) (vb30 : Bool) (vb31 : Bool) (vb32 : Bool) (vb33 : Int) (vb34 : Bytes) (vb35 : List Piec) (vb36 : Int) (vb37 : Bool) (vb38 : Int) (vb39 : Int) (vb40 : Int) (vb41 : Int) (vb42 : Bool) (vb43 : Bool) (vb44 : Int) (vb45 : Int) (vb46 : Int) (vb47 : Int) (vb2 : Int) (a : Int) : Stp (Int) (Empty) :=
  letK (α := Int) (IntKind.wrap .i64 (a + (((vb35.getD vb2.toNat (Ty.zero .piec)).text).length : Int))) fun e4 =>
  .next e4
theorem s_Retained_L0_0_st (vb0 : Int) (vb1 : Int) (vb2 : Int) (vb3 : Int) (vb4 : Int) (vb5 : Int) (vb6 : Bool) (vb7 : Int) (vb8 : Int) (vb9 : List MacRow) (vb10 : Bool) (vb11 : Int) (vb12 : Int) (vb13 : List MacRow) (vb14 : Bool) (vb15 : Int) (vb16 : Int) (vb17 : Int) (vb18 : Int) (vb19 : List Half) (vb20 : List Conn) (vb21 : List Tupl) (vb22 : Int) (vb23 : Int) (vb24 : Int) (vb25 : Int) (vb26 : Int) (vb27 : Int) (vb28 : Bytes) (vb29 : Int) (vb30 : Bool) (vb31 : Bool) (vb32 : Bool) (vb33 : Int) (vb34 : Bytes) (vb35 : List Piec) (vb36 : Int) (vb37 : Bool) (vb38 : Int) (vb39 : Int) (vb40 : Int) (vb41 : Int) (vb42 : Bool) (vb43 : Bool) (vb44 : Int) (vb45 : Int) (vb46 : Int) (vb47 : Int) (hlo : 0 ≤ vb2) (hhi : vb2 < (vb35.length : Int)) (hN : (vb35.length : Int) ≤ 4611686018427387904) : s_Retained_L0_0_r.step (s_Retained_L0_0_mk vb0 vb1 vb2 vb3 vb4 vb5 vb6 vb7 vb8 vb9 vb10 vb11 vb12 vb13 vb14 vb15 vb16 vb17 vb18 vb19 vb20 vb21 vb22 vb23 vb24 vb25 vb26 vb27 vb28 vb29 vb30 vb31 vb32 vb33 vb34 vb35 vb36 vb37 vb38 vb39 vb40 vb41 vb42 vb43 vb44 vb45 vb46 vb47) = Stp.elim (fun a' : Int => some (Sum.inl (s_Retained_L0_0_mk a' vb1 (vb2 + 1) vb3 vb4 vb5 vb6 vb7 vb8 vb9 vb10 vb11 vb12 vb13 vb14 vb15 vb16 vb17 vb18 vb19 vb20 vb21 vb22 vb23 vb24 vb25 vb26 vb27 vb28 vb29 vb30 vb31 vb32 vb33 vb34 vb35 vb36 vb37 vb38 vb39 vb40 vb41 vb42 vb43 vb44 vb45 vb46 vb47))) (fun w => some (Sum.inr ((fun p : Empty => nomatch p) w))) (s_Retained_L0_0_f vb1 vb3 vb4 vb5 vb6 vb7 vb8 vb9 vb10 vb11 vb12 vb13 vb14 vb15 vb16 vb17 vb18 vb19 vb20 vb21 vb22 vb23 vb24 vb25 vb26 vb27 vb28 vb29 vb30 vb31 vb32 vb33 vb34 vb35 vb36 vb37 vb38 vb39 vb40 vb41 vb42 vb43 vb44 vb45 vb46 vb47 vb2 vb0) := by
  have hw : (IntKind.wrap .i64 (vb2 + 1)) = vb2 + 1 := wrap64 (by omega) (by omega)
  show s_Retained_L0_0_B vb0 vb1 vb2 vb3 vb4 vb5 vb6 vb7 vb8 vb9 vb10 vb11 vb12 vb13 vb14 vb15 vb16 vb17 vb18 vb19 vb20 vb21 vb22 vb23 vb24 vb25 vb26 vb27 vb28 vb29 vb30 vb31 vb32 vb33 vb34 vb35 vb36 vb37 vb38 vb39 vb40 vb41 vb42 vb43 vb44 vb45 vb46 vb47 (Option (s_Retained_L0_0_sh.T ⊕ WT s_Retained_L0_0_es)) none (fun v' => some (Sum.inl v')) (fun w => some (Sum.inr w)) = _
  unfold s_Retained_L0_0_B s_Retained_L0_0_f
  exact bifG (by simp only [decide_eq_true_eq]; omega) (bifG (by (try simp only [Nat.ble_eq, Bool.and_eq_true, decide_eq_true_eq]); grind [maxSl, maxStr, toBytes_length, toInts_length, List.length_set, wrap64]) (letT (f := (Stp.elim (fun a' : Int => some (Sum.inl (s_Retained_L0_0_mk a' vb1 (vb2 + 1) vb3 vb4 vb5 vb6 vb7 vb8 vb9 vb10 vb11 vb12 vb13 vb14 vb15 vb16 vb17 vb18 vb19 vb20 vb21 vb22 vb23 vb24 vb25 vb26 vb27 vb28 vb29 vb30 vb31 vb32 vb33 vb34 vb35 vb36 vb37 vb38 vb39 vb40 vb41 vb42 vb43 vb44 vb45 vb46 vb47))) (fun w => some (Sum.inr ((fun p : Empty => nomatch p) w))))) (fun e4 he4 => (by exact congrArg (fun z => some (Sum.inl (s_Retained_L0_0_mk e4 vb1 z vb3 vb4 vb5 vb6 vb7 vb8 vb9 vb10 vb11 vb12 vb13 vb14 vb15 vb16 vb17 vb18 vb19 vb20 vb21 vb22 vb23 vb24 vb25 vb26 vb27 vb28 vb29 vb30 vb31 vb32 vb33 vb34 vb35 vb36 vb37 vb38 vb39 vb40 vb41 vb42 vb43 vb44 vb45 vb46 vb47))) hw))))
theorem s_Retained_L0_0_cl (vb0 : Int) (vb1 : Int) (vb2 : Int) (vb3 : Int) (vb4 : Int) (vb5 : Int) (vb6 : Bool) (vb7 : Int) (vb8 : Int) (vb9 : List MacRow) (vb10 : Bool) (vb11 : Int) (vb12 : Int) (vb13 : List MacRow) (vb14 : Bool) (vb15 : Int) (vb16 : Int) (vb17 : Int) (vb18 : Int) (vb19 : List Half) (vb20 : List Conn) (vb21 : List Tupl) (vb22 : Int) (vb23 : Int) (vb24 : Int) (vb25 : Int) (vb26 : Int) (vb27 : Int) (vb28 : Bytes) (vb29 : Int) (vb30 : Bool) (vb31 : Bool) (vb32 : Bool) (vb33 : Int) (vb34 : Bytes) (vb35 : List Piec) (vb36 : Int) (vb37 : Bool) (vb38 : Int) (vb39 : Int) (vb40 : Int) (vb41 : Int) (vb42 : Bool) (vb43 : Bool) (vb44 : Int) (vb45 : Int) (vb46 : Int) (vb47 : Int) (h0 : 0 ≤ vb2) (h1 : (vb35.length : Int) ≤ 4611686018427387904) : loopF s_Retained_L0_0_r.step (s_Retained_L0_0_fu vb0 vb1 vb2 vb3 vb4 vb5 vb6 vb7 vb8 vb9 vb10 vb11 vb12 vb13 vb14 vb15 vb16 vb17 vb18 vb19 vb20 vb21 vb22 vb23 vb24 vb25 vb26 vb27 vb28 vb29 vb30 vb31 vb32 vb33 vb34 vb35 vb36 vb37 vb38 vb39 vb40 vb41 vb42 vb43 vb44 vb45 vb46 vb47) (s_Retained_L0_0_mk vb0 vb1 vb2 vb3 vb4 vb5 vb6 vb7 vb8 vb9 vb10 vb11 vb12 vb13 vb14 vb15 vb16 vb17 vb18 vb19 vb20 vb21 vb22 vb23 vb24 vb25 vb26 vb27 vb28 vb29 vb30 vb31 vb32 vb33 vb34 vb35 vb36 vb37 vb38 vb39 vb40 vb41 vb42 vb43 vb44 vb45 vb46 vb47) = some (Stp.elim (fun a => (fun i a => s_Retained_L0_0_mx0 a vb1 vb3 vb4 vb5 vb6 vb7 vb8 vb9 vb10 vb11 vb12 vb13 vb14 vb15 vb16 vb17 vb18 vb19 vb20 vb21 vb22) (vb2 + 1 * (((Int.toNat ((vb35.length : Int) - vb2)) : Nat) : Int)) a) (fun p : Empty => nomatch p) (forN (s_Retained_L0_0_f vb1 vb3 vb4 vb5 vb6 vb7 vb8 vb9 vb10 vb11 vb12 vb13 vb14 vb15 vb16 vb17 vb18 vb19 vb20 vb21 vb22 vb23 vb24 vb25 vb26 vb27 vb28 vb29 vb30 vb31 vb32 vb33 vb34 vb35 vb36 vb37 vb38 vb39 vb40 vb41 vb42 vb43 vb44 vb45 vb46 vb47) 1 (Int.toNat ((vb35.length : Int) - vb2)) vb2 vb0)) :=
  forN_loop (step := s_Retained_L0_0_r.step) (mk := fun vb2 a => s_Retained_L0_0_mk a vb1 vb2 vb3 vb4 vb5 vb6 vb7 vb8 vb9 vb10 vb11 vb12 vb13 vb14 vb15 vb16 vb17 vb18 vb19 vb20 vb21 vb22 vb23 vb24 vb25 vb26 vb27 vb28 vb29 vb30 vb31 vb32 vb33 vb34 vb35 vb36 vb37 vb38 vb39 vb40 vb41 vb42 vb43 vb44 vb45 vb46 vb47) (f := s_Retained_L0_0_f vb1 vb3 vb4 vb5 vb6 vb7 vb8 vb9 vb10 vb11 vb12 vb13 vb14 vb15 vb16 vb17 vb18 vb19 vb20 vb21 vb22 vb23 vb24 vb25 vb26 vb27 vb28 vb29 vb30 vb31 vb32 vb33 vb34 vb35 vb36 vb37 vb38 vb39 vb40 vb41 vb42 vb43 vb44 vb45 vb46 vb47) (e := (fun i a => s_Retained_L0_0_mx0 a vb1 vb3 vb4 vb5 vb6 vb7 vb8 vb9 vb10 vb11 vb12 vb13 vb14 vb15 vb16 vb17 vb18 vb19 vb20 vb21 vb22)) (emb := (fun p : Empty => nomatch p)) (st := 1) (Inv := fun vb2 a => True) (Int.toNat ((vb35.length : Int) - vb2)) vb2 vb0 _ (Nat.lt_succ_self _) trivial
    (fun j a hj hv => ⟨s_Retained_L0_0_st a vb1 (vb2 + 1 * (j : Int)) vb3 vb4 vb5 vb6 vb7 vb8 vb9 vb10 vb11 vb12 vb13 vb14 vb15 vb16 vb17 vb18 vb19 vb20 vb21 vb22 vb23 vb24 vb25 vb26 vb27 vb28 vb29 vb30 vb31 vb32 vb33 vb34 vb35 vb36 vb37 vb38 vb39 vb40 vb41 vb42 vb43 vb44 vb45 vb46 vb47 (by omega) (by omega) (by omega), fun _ _ => trivial⟩)
    (fun a hv => by
      show s_Retained_L0_0_B a vb1 (vb2 + 1 * (((Int.toNat ((vb35.length : Int) - vb2)) : Nat) : Int)) vb3 vb4 vb5 vb6 vb7 vb8 vb9 vb10 vb11 vb12 vb13 vb14 vb15 vb16 vb17 vb18 vb19 vb20 vb21 vb22 vb23 vb24 vb25 vb26 vb27 vb28 vb29 vb30 vb31 vb32 vb33 vb34 vb35 vb36 vb37 vb38 vb39 vb40 vb41 vb42 vb43 vb44 vb45 vb46 vb47 (Option (s_Retained_L0_0_sh.T ⊕ WT s_Retained_L0_0_es)) none (fun v' => some (Sum.inl v')) (fun w => some (Sum.inr w)) = _
      unfold s_Retained_L0_0_B
      exact bifN (by simp only [decide_eq_false_iff_not]; omega) rfl)
def s_Retained_L0_sh : Sh := ⟨[(1, false, [.ptr 0 0]), (3, false, [.int .i64]), (4, false, [.int .i64])], [.box [.int .i64, .int .i64, .int .i64, .bool, .int .u64, .int .u64, .sl .arg .macRow, .bool, .int .u64, .int .u64, .sl .arg .macRow, .bool, .int .i64, .int .i64, .int .i64, .int .i64, .sl .arg .half, .sl .arg .conn, .sl .arg .tupl, .int .i64]]⟩
def s_Retained_L0_es : List (Ex × Sh) := [(.exit 0, ⟨[(2, false, [.undef]), (3, false, [.int .i64])], []⟩)]
def s_Retained_L0_mk (v0 : Int) (v1 : Int) (v2 : Int) (v3 : Int) (v4 : Int) (v5 : Bool) (v6 : Int) (v7 : Int) (v8 : List MacRow) (v9 : Bool) (v10 : Int) (v11 : Int) (v12 : List MacRow) (v13 : Bool) (v14 : Int) (v15 : Int) (v16 : Int) (v17 : Int) (v18 : List Half) (v19 : List Conn) (v20 : List Tupl) (v21 : Int) : s_Retained_L0_sh.T := ((((), ()), ((v0, ()), ((v1, ()), ()))), ((v2, (v3, (v4, (v5, (v6, (v7, (v8, (v9, (v10, (v11, (v12, (v13, (v14, (v15, (v16, (v17, (v18, (v19, (v20, (v21, ())))))))))))))))))))), ()))
def s_Retained_L0_mx0 (y0 : Int) : Sh.T ⟨[(2, false, [.undef]), (3, false, [.int .i64])], []⟩ := ((((), ()), ((y0, ()), ())), ())
def s_Retained_L0_B (v0 : Int) (v1 : Int) (v2 : Int) (v3 : Int) (v4 : Int) (v5 : Bool) (v6 : Int) (v7 : Int) (v8 : List MacRow) (v9 : Bool) (v10 : Int) (v11 : Int) (v12 : List MacRow) (v13 : Bool) (v14 : Int) (v15 : Int) (v16 : Int) (v17 : Int) (v18 : List Half) (v19 : List Conn) (v20 : List Tupl) (v21 : Int) (γ : Type) (fail : γ) (next : s_Retained_L0_sh.T → γ) (out : WT s_Retained_L0_es → γ) : γ :=
  bif (decide (v1 < (v19.length : Int))) then
    bif ((decide (0 ≤ v1)) && (decide (v1 < (v19.length : Int)))) then
    letK (α := Int) (IntKind.wrap .i64 ((IntKind.wrap .i64 (v0 + 128)) + (((v19.getD v1.toNat (Ty.zero .conn)).s.data).length : Int))) fun e2 =>
    letK (α := Int) (IntKind.wrap .i64 (e2 + (((v19.getD v1.toNat (Ty.zero .conn)).r.data).length : Int))) fun e3 =>
    optK (loopF s_Retained_L0_0_r.step (s_Retained_L0_0_fu e3 v1 0 v2 v3 v4 v5 v6 v7 v8 v9 v10 v11 v12 v13 v14 v15 v16 v17 v18 v19 v20 v21 ((v19.getD v1.toNat (Ty.zero .conn)).tuple.ip) ((v19.getD v1.toNat (Ty.zero .conn)).tuple.port) ((v19.getD v1.toNat (Ty.zero .conn)).tuple.my) ((v19.getD v1.toNat (Ty.zero .conn)).state) ((v19.getD v1.toNat (Ty.zero .conn)).s.una) ((v19.getD v1.toNat (Ty.zero .conn)).s.data) ((v19.getD v1.toNat (Ty.zero .conn)).s.sent) ((v19.getD v1.toNat (Ty.zero .conn)).s.fin) ((v19.getD v1.toNat (Ty.zero .conn)).s.finSent) ((v19.getD v1.toNat (Ty.zero .conn)).s.done) ((v19.getD v1.toNat (Ty.zero .conn)).r.next) ((v19.getD v1.toNat (Ty.zero .conn)).r.data) ((v19.getD v1.toNat (Ty.zero .conn)).r.held) ((v19.getD v1.toNat (Ty.zero .conn)).r.fin) ((v19.getD v1.toNat (Ty.zero .conn)).r.done) ((v19.getD v1.toNat (Ty.zero .conn)).window) ((v19.getD v1.toNat (Ty.zero .conn)).most) ((v19.getD v1.toNat (Ty.zero .conn)).opts.mss) ((v19.getD v1.toNat (Ty.zero .conn)).opts.scale) ((v19.getD v1.toNat (Ty.zero .conn)).opts.sack) ((v19.getD v1.toNat (Ty.zero .conn)).opts.stamp) ((v19.getD v1.toNat (Ty.zero .conn)).opts.val) ((v19.getD v1.toNat (Ty.zero .conn)).opts.echo) ((v19.getD v1.toNat (Ty.zero .conn)).timer) ((v19.getD v1.toNat (Ty.zero .conn)).tries)) (s_Retained_L0_0_mk e3 v1 0 v2 v3 v4 v5 v6 v7 v8 v9 v10 v11 v12 v13 v14 v15 v16 v17 v18 v19 v20 v21 ((v19.getD v1.toNat (Ty.zero .conn)).tuple.ip) ((v19.getD v1.toNat (Ty.zero .conn)).tuple.port) ((v19.getD v1.toNat (Ty.zero .conn)).tuple.my) ((v19.getD v1.toNat (Ty.zero .conn)).state) ((v19.getD v1.toNat (Ty.zero .conn)).s.una) ((v19.getD v1.toNat (Ty.zero .conn)).s.data) ((v19.getD v1.toNat (Ty.zero .conn)).s.sent) ((v19.getD v1.toNat (Ty.zero .conn)).s.fin) ((v19.getD v1.toNat (Ty.zero .conn)).s.finSent) ((v19.getD v1.toNat (Ty.zero .conn)).s.done) ((v19.getD v1.toNat (Ty.zero .conn)).r.next) ((v19.getD v1.toNat (Ty.zero .conn)).r.data) ((v19.getD v1.toNat (Ty.zero .conn)).r.held) ((v19.getD v1.toNat (Ty.zero .conn)).r.fin) ((v19.getD v1.toNat (Ty.zero .conn)).r.done) ((v19.getD v1.toNat (Ty.zero .conn)).window) ((v19.getD v1.toNat (Ty.zero .conn)).most) ((v19.getD v1.toNat (Ty.zero .conn)).opts.mss) ((v19.getD v1.toNat (Ty.zero .conn)).opts.scale) ((v19.getD v1.toNat (Ty.zero .conn)).opts.sack) ((v19.getD v1.toNat (Ty.zero .conn)).opts.stamp) ((v19.getD v1.toNat (Ty.zero .conn)).opts.val) ((v19.getD v1.toNat (Ty.zero .conn)).opts.echo) ((v19.getD v1.toNat (Ty.zero .conn)).timer) ((v19.getD v1.toNat (Ty.zero .conn)).tries))) fail fun w5 =>
      next (s_Retained_L0_mk w5.1.2.2.1.1 (IntKind.wrap .i64 (w5.1.2.2.2.1.1 + 1)) w5.2.1.1 w5.2.1.2.1 w5.2.1.2.2.1 w5.2.1.2.2.2.1 w5.2.1.2.2.2.2.1 w5.2.1.2.2.2.2.2.1 w5.2.1.2.2.2.2.2.2.1 w5.2.1.2.2.2.2.2.2.2.1 w5.2.1.2.2.2.2.2.2.2.2.1 w5.2.1.2.2.2.2.2.2.2.2.2.1 w5.2.1.2.2.2.2.2.2.2.2.2.2.1 w5.2.1.2.2.2.2.2.2.2.2.2.2.2.1 w5.2.1.2.2.2.2.2.2.2.2.2.2.2.2.1 w5.2.1.2.2.2.2.2.2.2.2.2.2.2.2.2.1 w5.2.1.2.2.2.2.2.2.2.2.2.2.2.2.2.2.1 w5.2.1.2.2.2.2.2.2.2.2.2.2.2.2.2.2.2.1 w5.2.1.2.2.2.2.2.2.2.2.2.2.2.2.2.2.2.2.1 w5.2.1.2.2.2.2.2.2.2.2.2.2.2.2.2.2.2.2.2.1 w5.2.1.2.2.2.2.2.2.2.2.2.2.2.2.2.2.2.2.2.2.1 w5.2.1.2.2.2.2.2.2.2.2.2.2.2.2.2.2.2.2.2.2.2.1)
    else fail
  else
  out (s_Retained_L0_mx0 v0)
theorem s_Retained_L0_par (v0 : Int) (v1 : Int) (v2 : Int) (v3 : Int) (v4 : Int) (v5 : Bool) (v6 : Int) (v7 : Int) (v8 : List MacRow) (v9 : Bool) (v10 : Int) (v11 : Int) (v12 : List MacRow) (v13 : Bool) (v14 : Int) (v15 : Int) (v16 : Int) (v17 : Int) (v18 : List Half) (v19 : List Conn) (v20 : List Tupl) (v21 : Int) (γ : Type) (fail : γ) (next : s_Retained_L0_sh.T → γ) (out : WT s_Retained_L0_es → γ) : s_Retained_L0_B v0 v1 v2 v3 v4 v5 v6 v7 v8 v9 v10 v11 v12 v13 v14 v15 v16 v17 v18 v19 v20 v21 γ fail next out = optK (s_Retained_L0_B v0 v1 v2 v3 v4 v5 v6 v7 v8 v9 v10 v11 v12 v13 v14 v15 v16 v17 v18 v19 v20 v21 _ none (fun v' => some (.inl v')) (fun w => some (.inr w))) fail (fun r => Sum.elim next out r) := by
  unfold s_Retained_L0_B
  exact bifT (f := (fun o => optK o fail (fun r => Sum.elim next out r))) (fun _ => bifT (f := (fun o => optK o fail (fun r => Sum.elim next out r))) (fun _ => letT (f := (fun o => optK o fail (fun r => Sum.elim next out r))) (fun e2 _ => letT (f := (fun o => optK o fail (fun r => Sum.elim next out r))) (fun e3 _ => optT (f := (fun o => optK o fail (fun r => Sum.elim next out r))) rfl (fun w5 => rfl)))) (fun _ => rfl))
      (fun _ => rfl)
def s_Retained_L0_r : Round s_Retained_L0_sh.T (WT s_Retained_L0_es) where
  B v γ fail next out := s_Retained_L0_B v.1.2.1.1 v.1.2.2.1.1 v.2.1.1 v.2.1.2.1 v.2.1.2.2.1 v.2.1.2.2.2.1 v.2.1.2.2.2.2.1 v.2.1.2.2.2.2.2.1 v.2.1.2.2.2.2.2.2.1 v.2.1.2.2.2.2.2.2.2.1 v.2.1.2.2.2.2.2.2.2.2.1 v.2.1.2.2.2.2.2.2.2.2.2.1 v.2.1.2.2.2.2.2.2.2.2.2.2.1 v.2.1.2.2.2.2.2.2.2.2.2.2.2.1 v.2.1.2.2.2.2.2.2.2.2.2.2.2.2.1 v.2.1.2.2.2.2.2.2.2.2.2.2.2.2.2.1 v.2.1.2.2.2.2.2.2.2.2.2.2.2.2.2.2.1 v.2.1.2.2.2.2.2.2.2.2.2.2.2.2.2.2.2.1 v.2.1.2.2.2.2.2.2.2.2.2.2.2.2.2.2.2.2.1 v.2.1.2.2.2.2.2.2.2.2.2.2.2.2.2.2.2.2.2.1 v.2.1.2.2.2.2.2.2.2.2.2.2.2.2.2.2.2.2.2.2.1 v.2.1.2.2.2.2.2.2.2.2.2.2.2.2.2.2.2.2.2.2.2.1 γ fail next out
  par v γ fail next out := s_Retained_L0_par v.1.2.1.1 v.1.2.2.1.1 v.2.1.1 v.2.1.2.1 v.2.1.2.2.1 v.2.1.2.2.2.1 v.2.1.2.2.2.2.1 v.2.1.2.2.2.2.2.1 v.2.1.2.2.2.2.2.2.1 v.2.1.2.2.2.2.2.2.2.1 v.2.1.2.2.2.2.2.2.2.2.1 v.2.1.2.2.2.2.2.2.2.2.2.1 v.2.1.2.2.2.2.2.2.2.2.2.2.1 v.2.1.2.2.2.2.2.2.2.2.2.2.2.1 v.2.1.2.2.2.2.2.2.2.2.2.2.2.2.1 v.2.1.2.2.2.2.2.2.2.2.2.2.2.2.2.1 v.2.1.2.2.2.2.2.2.2.2.2.2.2.2.2.2.1 v.2.1.2.2.2.2.2.2.2.2.2.2.2.2.2.2.2.1 v.2.1.2.2.2.2.2.2.2.2.2.2.2.2.2.2.2.2.1 v.2.1.2.2.2.2.2.2.2.2.2.2.2.2.2.2.2.2.2.1 v.2.1.2.2.2.2.2.2.2.2.2.2.2.2.2.2.2.2.2.2.1 v.2.1.2.2.2.2.2.2.2.2.2.2.2.2.2.2.2.2.2.2.2.1 γ fail next out
def s_Retained_L0_fu (v0 : Int) (v1 : Int) (v2 : Int) (v3 : Int) (v4 : Int) (v5 : Bool) (v6 : Int) (v7 : Int) (v8 : List MacRow) (v9 : Bool) (v10 : Int) (v11 : Int) (v12 : List MacRow) (v13 : Bool) (v14 : Int) (v15 : Int) (v16 : Int) (v17 : Int) (v18 : List Half) (v19 : List Conn) (v20 : List Tupl) (v21 : Int) : Nat := (Int.toNat ((v19.length : Int) - v1)) + 1
theorem s_Retained_L0_lk (v : s_Retained_L0_sh.T) (next : St → Option Res) (k : Ex → St → Option Res) : evalK te (orcOf (P := Try.prog) []) (lorcOf [s_Retained_L0_0_le]) Try.f24.ntmps s_Retained_ann (nthLoop (bodyOf Try.f24) 0 0) 0 (s_Retained_L0_sh.enc v) (endK ⟨[1, 3, 4], [], false, 0⟩ ⟨[2, 3], [], false, 0⟩ next k) =
  s_Retained_L0_r.B v _ none (fun v' => next (s_Retained_L0_sh.enc v')) (fun w => outK s_Retained_L0_es k w) := by kernel_rfl
def s_Retained_L0_le : LE := leOf 0 s_Retained_L0_sh s_Retained_L0_es s_Retained_L0_r.step (fun v => s_Retained_L0_fu v.1.2.1.1 v.1.2.2.1.1 v.2.1.1 v.2.1.2.1 v.2.1.2.2.1 v.2.1.2.2.2.1 v.2.1.2.2.2.2.1 v.2.1.2.2.2.2.2.1 v.2.1.2.2.2.2.2.2.1 v.2.1.2.2.2.2.2.2.2.1 v.2.1.2.2.2.2.2.2.2.2.1 v.2.1.2.2.2.2.2.2.2.2.2.1 v.2.1.2.2.2.2.2.2.2.2.2.2.1 v.2.1.2.2.2.2.2.2.2.2.2.2.2.1 v.2.1.2.2.2.2.2.2.2.2.2.2.2.2.1 v.2.1.2.2.2.2.2.2.2.2.2.2.2.2.2.1 v.2.1.2.2.2.2.2.2.2.2.2.2.2.2.2.2.1 v.2.1.2.2.2.2.2.2.2.2.2.2.2.2.2.2.2.1 v.2.1.2.2.2.2.2.2.2.2.2.2.2.2.2.2.2.2.1 v.2.1.2.2.2.2.2.2.2.2.2.2.2.2.2.2.2.2.2.1 v.2.1.2.2.2.2.2.2.2.2.2.2.2.2.2.2.2.2.2.2.1 v.2.1.2.2.2.2.2.2.2.2.2.2.2.2.2.2.2.2.2.2.2.1)
theorem s_Retained_L0_ls (w0 : World) (mo : Mts) (I0 : Nat → Prop) (hmo : mo.length = 0) : LSem Try.prog (Sim w0 mo Try.f24.ntmps I0) (fun b s k => match Nat.beq 0 b with | true => s_Retained_L0_le.run s k | false => none) 0 (nthLoop (bodyOf Try.f24) 0 0) :=
  le_sem hmo (lorc := lorcOf [s_Retained_L0_0_le]) (ann := s_Retained_ann) (keep := ⟨[1, 3, 4], [], false, 0⟩) (kout := ⟨[2, 3], [], false, 0⟩) teFact mixFact (orcOf_ok _) (by kernel_rfl) (allLoops_of (bs := [2]) (by kernel_rfl) ⟨lsem_of_lorc (s_Retained_L0_0_ls w0 mo I0 hmo) (by kernel_rfl), trivial⟩) s_Retained_L0_r _ s_Retained_L0_lk
def s_Retained_L0_f (v2 : Int) (v3 : Int) (v4 : Int) (v5 : Bool) (v6 : Int) (v7 : Int) (v8 : List MacRow) (v9 : Bool) (v10 : Int) (v11 : Int) (v12 : List MacRow) (v13 : Bool) (v14 : Int) (v15 : Int) (v16 : Int) (v17 : Int) (v18 : List Half) (v19 : List Conn) (v20 : List Tupl) (v21 : Int) (v1 : Int) (a : Int) : Stp (Int) (Empty) :=
  letK (α := Int) (IntKind.wrap .i64 ((IntKind.wrap .i64 (a + 128)) + (((v19.getD v1.toNat (Ty.zero .conn)).s.data).length : Int))) fun e2 =>
  letK (α := Int) (IntKind.wrap .i64 (e2 + (((v19.getD v1.toNat (Ty.zero .conn)).r.data).length : Int))) fun e3 =>
  Stp.elim (fun a6 =>
    .next a6)
    (fun p : Empty => nomatch p)
    (forN (s_Retained_L0_0_f v1 v2 v3 v4 v5 v6 v7 v8 v9 v10 v11 v12 v13 v14 v15 v16 v17 v18 v19 v20 v21 ((v19.getD v1.toNat (Ty.zero .conn)).tuple.ip) ((v19.getD v1.toNat (Ty.zero .conn)).tuple.port) ((v19.getD v1.toNat (Ty.zero .conn)).tuple.my) ((v19.getD v1.toNat (Ty.zero .conn)).state) ((v19.getD v1.toNat (Ty.zero .conn)).s.una) ((v19.getD v1.toNat (Ty.zero .conn)).s.data) ((v19.getD v1.toNat (Ty.zero .conn)).s.sent) ((v19.getD v1.toNat (Ty.zero .conn)).s.fin) ((v19.getD v1.toNat (Ty.zero .conn)).s.finSent) ((v19.getD v1.toNat (Ty.zero .conn)).s.done) ((v19.getD v1.toNat (Ty.zero .conn)).r.next) ((v19.getD v1.toNat (Ty.zero .conn)).r.data) ((v19.getD v1.toNat (Ty.zero .conn)).r.held) ((v19.getD v1.toNat (Ty.zero .conn)).r.fin) ((v19.getD v1.toNat (Ty.zero .conn)).r.done) ((v19.getD v1.toNat (Ty.zero .conn)).window) ((v19.getD v1.toNat (Ty.zero .conn)).most) ((v19.getD v1.toNat (Ty.zero .conn)).opts.mss) ((v19.getD v1.toNat (Ty.zero .conn)).opts.scale) ((v19.getD v1.toNat (Ty.zero .conn)).opts.sack) ((v19.getD v1.toNat (Ty.zero .conn)).opts.stamp) ((v19.getD v1.toNat (Ty.zero .conn)).opts.val) ((v19.getD v1.toNat (Ty.zero .conn)).opts.echo) ((v19.getD v1.toNat (Ty.zero .conn)).timer) ((v19.getD v1.toNat (Ty.zero .conn)).tries)) 1 (Int.toNat ((((v19.getD v1.toNat (Ty.zero .conn)).r.held).length : Int) - 0)) 0 e3)
theorem s_Retained_L0_st (v0 : Int) (v1 : Int) (v2 : Int) (v3 : Int) (v4 : Int) (v5 : Bool) (v6 : Int) (v7 : Int) (v8 : List MacRow) (v9 : Bool) (v10 : Int) (v11 : Int) (v12 : List MacRow) (v13 : Bool) (v14 : Int) (v15 : Int) (v16 : Int) (v17 : Int) (v18 : List Half) (v19 : List Conn) (v20 : List Tupl) (v21 : Int) (hlo : 0 ≤ v1) (hhi : v1 < (v19.length : Int)) (hN : (v19.length : Int) ≤ 4611686018427387904) (hi0 : ∀ y ∈ v19, ∀ c ∈ Ty.cells .conn y, FactC c) : s_Retained_L0_r.step (s_Retained_L0_mk v0 v1 v2 v3 v4 v5 v6 v7 v8 v9 v10 v11 v12 v13 v14 v15 v16 v17 v18 v19 v20 v21) = Stp.elim (fun a' : Int => some (Sum.inl (s_Retained_L0_mk a' (v1 + 1) v2 v3 v4 v5 v6 v7 v8 v9 v10 v11 v12 v13 v14 v15 v16 v17 v18 v19 v20 v21))) (fun w => some (Sum.inr ((fun p : Empty => nomatch p) w))) (s_Retained_L0_f v2 v3 v4 v5 v6 v7 v8 v9 v10 v11 v12 v13 v14 v15 v16 v17 v18 v19 v20 v21 v1 v0) := by
  have hw : (IntKind.wrap .i64 (v1 + 1)) = v1 + 1 := wrap64 (by omega) (by omega)
  show s_Retained_L0_B v0 v1 v2 v3 v4 v5 v6 v7 v8 v9 v10 v11 v12 v13 v14 v15 v16 v17 v18 v19 v20 v21 (Option (s_Retained_L0_sh.T ⊕ WT s_Retained_L0_es)) none (fun v' => some (Sum.inl v')) (fun w => some (Sum.inr w)) = _
  unfold s_Retained_L0_B s_Retained_L0_f
  exact bifG (by simp only [decide_eq_true_eq]; omega) (bifG (by (try simp only [Nat.ble_eq, Bool.and_eq_true, decide_eq_true_eq, s_Retained_L0_0_mx0]); grind [maxSl, maxStr, toBytes_length, toInts_length, List.length_set, wrap64, len_conn_r_held]) (letT (f := (Stp.elim (fun a' : Int => some (Sum.inl (s_Retained_L0_mk a' (v1 + 1) v2 v3 v4 v5 v6 v7 v8 v9 v10 v11 v12 v13 v14 v15 v16 v17 v18 v19 v20 v21))) (fun w => some (Sum.inr ((fun p : Empty => nomatch p) w))))) (fun e2 he2 => letT (f := (Stp.elim (fun a' : Int => some (Sum.inl (s_Retained_L0_mk a' (v1 + 1) v2 v3 v4 v5 v6 v7 v8 v9 v10 v11 v12 v13 v14 v15 v16 v17 v18 v19 v20 v21))) (fun w => some (Sum.inr ((fun p : Empty => nomatch p) w))))) (fun e3 he3 => loopT (f := (Stp.elim (fun a' : Int => some (Sum.inl (s_Retained_L0_mk a' (v1 + 1) v2 v3 v4 v5 v6 v7 v8 v9 v10 v11 v12 v13 v14 v15 v16 v17 v18 v19 v20 v21))) (fun w => some (Sum.inr ((fun p : Empty => nomatch p) w))))) (s_Retained_L0_0_cl e3 v1 0 v2 v3 v4 v5 v6 v7 v8 v9 v10 v11 v12 v13 v14 v15 v16 v17 v18 v19 v20 v21 ((v19.getD v1.toNat (Ty.zero .conn)).tuple.ip) ((v19.getD v1.toNat (Ty.zero .conn)).tuple.port) ((v19.getD v1.toNat (Ty.zero .conn)).tuple.my) ((v19.getD v1.toNat (Ty.zero .conn)).state) ((v19.getD v1.toNat (Ty.zero .conn)).s.una) ((v19.getD v1.toNat (Ty.zero .conn)).s.data) ((v19.getD v1.toNat (Ty.zero .conn)).s.sent) ((v19.getD v1.toNat (Ty.zero .conn)).s.fin) ((v19.getD v1.toNat (Ty.zero .conn)).s.finSent) ((v19.getD v1.toNat (Ty.zero .conn)).s.done) ((v19.getD v1.toNat (Ty.zero .conn)).r.next) ((v19.getD v1.toNat (Ty.zero .conn)).r.data) ((v19.getD v1.toNat (Ty.zero .conn)).r.held) ((v19.getD v1.toNat (Ty.zero .conn)).r.fin) ((v19.getD v1.toNat (Ty.zero .conn)).r.done) ((v19.getD v1.toNat (Ty.zero .conn)).window) ((v19.getD v1.toNat (Ty.zero .conn)).most) ((v19.getD v1.toNat (Ty.zero .conn)).opts.mss) ((v19.getD v1.toNat (Ty.zero .conn)).opts.scale) ((v19.getD v1.toNat (Ty.zero .conn)).opts.sack) ((v19.getD v1.toNat (Ty.zero .conn)).opts.stamp) ((v19.getD v1.toNat (Ty.zero .conn)).opts.val) ((v19.getD v1.toNat (Ty.zero .conn)).opts.echo) ((v19.getD v1.toNat (Ty.zero .conn)).timer) ((v19.getD v1.toNat (Ty.zero .conn)).tries) (by (try simp only [Nat.ble_eq, Bool.and_eq_true, decide_eq_true_eq, s_Retained_L0_0_mx0]); grind [maxSl, maxStr, toBytes_length, toInts_length, List.length_set, wrap64, len_conn_r_held]) (by (try simp only [Nat.ble_eq, Bool.and_eq_true, decide_eq_true_eq, s_Retained_L0_0_mx0]); grind [maxSl, maxStr, toBytes_length, toInts_length, List.length_set, wrap64, len_conn_r_held])) (fun a6 => (by exact congrArg (fun z => some (Sum.inl (s_Retained_L0_mk a6 z v2 v3 v4 v5 v6 v7 v8 v9 v10 v11 v12 v13 v14 v15 v16 v17 v18 v19 v20 v21))) hw))
      (fun p : Empty => nomatch p)))))
theorem s_Retained_L0_cl (v0 : Int) (v1 : Int) (v2 : Int) (v3 : Int) (v4 : Int) (v5 : Bool) (v6 : Int) (v7 : Int) (v8 : List MacRow) (v9 : Bool) (v10 : Int) (v11 : Int) (v12 : List MacRow) (v13 : Bool) (v14 : Int) (v15 : Int) (v16 : Int) (v17 : Int) (v18 : List Half) (v19 : List Conn) (v20 : List Tupl) (v21 : Int) (h0 : 0 ≤ v1) (h1 : (v19.length : Int) ≤ 4611686018427387904) (h2 : ∀ y ∈ v19, ∀ c ∈ Ty.cells .conn y, FactC c) : loopF s_Retained_L0_r.step (s_Retained_L0_fu v0 v1 v2 v3 v4 v5 v6 v7 v8 v9 v10 v11 v12 v13 v14 v15 v16 v17 v18 v19 v20 v21) (s_Retained_L0_mk v0 v1 v2 v3 v4 v5 v6 v7 v8 v9 v10 v11 v12 v13 v14 v15 v16 v17 v18 v19 v20 v21) = some (Stp.elim (fun a => (fun i a => s_Retained_L0_mx0 a) (v1 + 1 * (((Int.toNat ((v19.length : Int) - v1)) : Nat) : Int)) a) (fun p : Empty => nomatch p) (forN (s_Retained_L0_f v2 v3 v4 v5 v6 v7 v8 v9 v10 v11 v12 v13 v14 v15 v16 v17 v18 v19 v20 v21) 1 (Int.toNat ((v19.length : Int) - v1)) v1 v0)) :=
  forN_loop (step := s_Retained_L0_r.step) (mk := fun v1 a => s_Retained_L0_mk a v1 v2 v3 v4 v5 v6 v7 v8 v9 v10 v11 v12 v13 v14 v15 v16 v17 v18 v19 v20 v21) (f := s_Retained_L0_f v2 v3 v4 v5 v6 v7 v8 v9 v10 v11 v12 v13 v14 v15 v16 v17 v18 v19 v20 v21) (e := (fun i a => s_Retained_L0_mx0 a)) (emb := (fun p : Empty => nomatch p)) (st := 1) (Inv := fun v1 a => True) (Int.toNat ((v19.length : Int) - v1)) v1 v0 _ (Nat.lt_succ_self _) trivial
    (fun j a hj hv => ⟨s_Retained_L0_st a (v1 + 1 * (j : Int)) v2 v3 v4 v5 v6 v7 v8 v9 v10 v11 v12 v13 v14 v15 v16 v17 v18 v19 v20 v21 (by omega) (by omega) (by omega) h2, fun _ _ => trivial⟩)
    (fun a hv => by
      show s_Retained_L0_B a (v1 + 1 * (((Int.toNat ((v19.length : Int) - v1)) : Nat) : Int)) v2 v3 v4 v5 v6 v7 v8 v9 v10 v11 v12 v13 v14 v15 v16 v17 v18 v19 v20 v21 (Option (s_Retained_L0_sh.T ⊕ WT s_Retained_L0_es)) none (fun v' => some (Sum.inl v')) (fun w => some (Sum.inr w)) = _
      unfold s_Retained_L0_B
      exact bifN (by simp only [decide_eq_false_iff_not]; omega) rfl)
def s_Retained_N (x0 : Door) (γ : Type) (fail : γ) (k : Int → γ) : γ :=
  letK (α := Int) (IntKind.wrap .i64 ((IntKind.wrap .i64 (64 * (x0.halves.length : Int))) + (IntKind.wrap .i64 (8 * (x0.table.waiting.length : Int))))) fun e1 =>
  optK (loopF s_Retained_L0_r.step (s_Retained_L0_fu e1 0 x0.port x0.clock x0.keys.epoch x0.keys.now.use x0.keys.now.k x0.keys.now.l x0.keys.now.rows x0.keys.before.use x0.keys.before.k x0.keys.before.l x0.keys.before.rows x0.keys.two x0.limits.halves x0.limits.waiting x0.limits.conns x0.limits.chal x0.halves x0.table.conns x0.table.waiting x0.chal) (s_Retained_L0_mk e1 0 x0.port x0.clock x0.keys.epoch x0.keys.now.use x0.keys.now.k x0.keys.now.l x0.keys.now.rows x0.keys.before.use x0.keys.before.k x0.keys.before.l x0.keys.before.rows x0.keys.two x0.limits.halves x0.limits.waiting x0.limits.conns x0.limits.chal x0.halves x0.table.conns x0.table.waiting x0.chal)) fail fun w7 =>
    k w7.1.2.1.1
def s_Retained (x0 : Door) : Int :=
  letK (α := Int) (IntKind.wrap .i64 ((IntKind.wrap .i64 (64 * (x0.halves.length : Int))) + (IntKind.wrap .i64 (8 * (x0.table.waiting.length : Int))))) fun e1 =>
  Stp.elim (fun a8 =>
    a8)
    (fun p : Empty => nomatch p)
    (forN (s_Retained_L0_f x0.port x0.clock x0.keys.epoch x0.keys.now.use x0.keys.now.k x0.keys.now.l x0.keys.now.rows x0.keys.before.use x0.keys.before.k x0.keys.before.l x0.keys.before.rows x0.keys.two x0.limits.halves x0.limits.waiting x0.limits.conns x0.limits.chal x0.halves x0.table.conns x0.table.waiting x0.chal) 1 (Int.toNat ((x0.table.conns.length : Int) - 0)) 0 e1)
theorem s_Retained_lk (x0 : Door) : evalFn te (orcOf (P := Try.prog) []) (lorcOf [s_Retained_L0_le]) s_Retained_ann Try.f24 (pvs [.st .door] (x0, ())) =
  s_Retained_N x0 _ none (fun v => some [(false, [RC.c (.int .i64 v)])]) := by kernel_rfl
theorem s_Retained_p (x0 : Door) (hx0_port : inK .i64 x0.port) (hx0_clock : inK .i64 x0.clock) (hx0_keys_epoch : inK .i64 x0.keys.epoch) (hx0_keys_now_k : inK .u64 x0.keys.now.k) (hx0_keys_now_l : inK .u64 x0.keys.now.l) (hx0_keys_now_rows : x0.keys.now.rows.length ≤ 140737488355328) (hx0_keys_now_rows_e : ∀ y ∈ x0.keys.now.rows, ∀ c ∈ Ty.cells .macRow y, FactC c) (hx0_keys_before_k : inK .u64 x0.keys.before.k) (hx0_keys_before_l : inK .u64 x0.keys.before.l) (hx0_keys_before_rows : x0.keys.before.rows.length ≤ 140737488355328) (hx0_keys_before_rows_e : ∀ y ∈ x0.keys.before.rows, ∀ c ∈ Ty.cells .macRow y, FactC c) (hx0_limits_halves : inK .i64 x0.limits.halves) (hx0_limits_waiting : inK .i64 x0.limits.waiting) (hx0_limits_conns : inK .i64 x0.limits.conns) (hx0_limits_chal : inK .i64 x0.limits.chal) (hx0_halves : x0.halves.length ≤ 140737488355328) (hx0_table_conns : x0.table.conns.length ≤ 140737488355328) (hx0_table_conns_e : ∀ y ∈ x0.table.conns, ∀ c ∈ Ty.cells .conn y, FactC c) (hx0_table_waiting : x0.table.waiting.length ≤ 140737488355328) (hx0_chal : inK .i64 x0.chal)  (γ : Type) (fail : γ) (k : Int → γ) : s_Retained_N x0 γ fail k = k (s_Retained x0) := by
  unfold s_Retained_N s_Retained
  exact letT (f := k) (fun e1 he1 => loopT (f := k) (s_Retained_L0_cl e1 0 x0.port x0.clock x0.keys.epoch x0.keys.now.use x0.keys.now.k x0.keys.now.l x0.keys.now.rows x0.keys.before.use x0.keys.before.k x0.keys.before.l x0.keys.before.rows x0.keys.two x0.limits.halves x0.limits.waiting x0.limits.conns x0.limits.chal x0.halves x0.table.conns x0.table.waiting x0.chal (by (try simp only [Nat.ble_eq, Bool.and_eq_true, decide_eq_true_eq, s_Retained_L0_0_mx0, s_Retained_L0_mx0]); grind [maxSl, maxStr, toBytes_length, toInts_length, List.length_set, wrap64]) (by (try simp only [Nat.ble_eq, Bool.and_eq_true, decide_eq_true_eq, s_Retained_L0_0_mx0, s_Retained_L0_mx0]); grind [maxSl, maxStr, toBytes_length, toInts_length, List.length_set, wrap64]) (by (try simp only [Nat.ble_eq, Bool.and_eq_true, decide_eq_true_eq, s_Retained_L0_0_mx0, s_Retained_L0_mx0]); grind [maxSl, maxStr, toBytes_length, toInts_length, List.length_set, wrap64])) (fun a8 => rfl)
      (fun p : Empty => nomatch p))
theorem s_Retained_c (x0 : Door)  : Con Try.prog 24 (pvs [.st .door] (x0, ())) [rv (.sc (.int .i64)) [] (s_Retained x0)] := by
  refine Con.of_facts (enters_of Try.func24 rfl (by kernel_rfl)) fun hf => ?_
  replace hf := factAt hf
  exact evalFn_conL teFact mixFact (orcOf_ok _) Try.func24 (by kernel_rfl) (bs := [0]) (by kernel_rfl) (by kernel_rfl) (fun w0 mo I0 hmo => ⟨lsem_of_lorc (s_Retained_L0_ls w0 mo I0 hmo) (by kernel_rfl), trivial⟩) ((s_Retained_lk x0).trans (s_Retained_p x0 ((hf 0 0 rfl rfl).rng) ((hf 0 1 rfl rfl).rng) ((hf 0 2 rfl rfl).rng) ((hf 0 4 rfl rfl).rng) ((hf 0 5 rfl rfl).rng) ((hf 0 6 rfl rfl).len) (fun y hy => (hf 0 6 rfl rfl).elem hy) ((hf 0 8 rfl rfl).rng) ((hf 0 9 rfl rfl).rng) ((hf 0 10 rfl rfl).len) (fun y hy => (hf 0 10 rfl rfl).elem hy) ((hf 0 12 rfl rfl).rng) ((hf 0 13 rfl rfl).rng) ((hf 0 14 rfl rfl).rng) ((hf 0 15 rfl rfl).rng) ((hf 0 16 rfl rfl).len) ((hf 0 17 rfl rfl).len) (fun y hy => (hf 0 17 rfl rfl).elem hy) ((hf 0 18 rfl rfl).len) ((hf 0 19 rfl rfl).rng) _ _ _))
noncomputable def s_Retained_e : Ent1 Try.prog := entA 24 [.st .door] (fun x => (s_Retained x.1)) (fun v => [rv (.sc (.int .i64)) [] v]) (fun x => s_Retained_c x.1)


/-- impl.Retained -/
def i_Retained_ann : List (Nat × Keep) := [(2, ⟨[3, 20, 21, 22, 40, 41, 42], [], false, 0⟩), (0, ⟨[3, 20, 21, 22], [], false, 0⟩)]
def i_Retained_L0_0_sh : Sh := ⟨[(3, false, [.int .i64]), (20, false, [.sl .arg .conn]), (21, false, [.int .i64]), (22, false, [.int .i64]), (40, false, [.sl .arg .piec]), (41, false, [.int .i64]), (42, false, [.int .i64])], []⟩
def i_Retained_L0_0_es : List (Ex × Sh) := [(.exit 2, ⟨[(2, false, [.undef]), (3, false, [.int .i64]), (20, false, [.sl .arg .conn]), (21, false, [.int .i64]), (22, false, [.int .i64])], []⟩)]
def i_Retained_L0_0_mk (vb0 : Int) (vb1 : List Conn) (vb2 : Int) (vb3 : Int) (vb4 : List Piec) (vb5 : Int) (vb6 : Int) : i_Retained_L0_0_sh.T := (((vb0, ()), ((vb1, ()), ((vb2, ()), ((vb3, ()), ((vb4, ()), ((vb5, ()), ((vb6, ()), ()))))))), ())
def i_Retained_L0_0_mx0 (y0 : Int) (y1 : List Conn) (y2 : Int) (y3 : Int) : Sh.T ⟨[(2, false, [.undef]), (3, false, [.int .i64]), (20, false, [.sl .arg .conn]), (21, false, [.int .i64]), (22, false, [.int .i64])], []⟩ := ((((), ()), ((y0, ()), ((y1, ()), ((y2, ()), ((y3, ()), ()))))), ())
def i_Retained_L0_0_B (vb0 : Int) (vb1 : List Conn) (vb2 : Int) (vb3 : Int) (vb4 : List Piec) (vb5 : Int) (vb6 : Int) (γ : Type) (fail : γ) (next : i_Retained_L0_0_sh.T → γ) (out : WT i_Retained_L0_0_es → γ) : γ :=
  bif (decide (vb6 < vb5)) then
    bif ((decide (0 ≤ vb6)) && (decide (vb6 < (vb4.length : Int)))) then
    letK (α := Int) (IntKind.wrap .i64 (vb0 + (((vb4.getD vb6.toNat (Ty.zero .piec)).text).length : Int))) fun e4 =>
    next (i_Retained_L0_0_mk e4 vb1 vb2 vb3 vb4 vb5 (IntKind.wrap .i64 (vb6 + 1)))
    else fail
  else
  out (i_Retained_L0_0_mx0 vb0 vb1 vb2 vb3)
theorem i_Retained_L0_0_par (vb0 : Int) (vb1 : List Conn) (vb2 : Int) (vb3 : Int) (vb4 : List Piec) (vb5 : Int) (vb6 : Int) (γ : Type) (fail : γ) (next : i_Retained_L0_0_sh.T → γ) (out : WT i_Retained_L0_0_es → γ) : i_Retained_L0_0_B vb0 vb1 vb2 vb3 vb4 vb5 vb6 γ fail next out = optK (i_Retained_L0_0_B vb0 vb1 vb2 vb3 vb4 vb5 vb6 _ none (fun v' => some (.inl v')) (fun w => some (.inr w))) fail (fun r => Sum.elim next out r) := by
  unfold i_Retained_L0_0_B
  exact bifT (f := (fun o => optK o fail (fun r => Sum.elim next out r))) (fun _ => bifT (f := (fun o => optK o fail (fun r => Sum.elim next out r))) (fun _ => letT (f := (fun o => optK o fail (fun r => Sum.elim next out r))) (fun e4 _ => rfl)) (fun _ => rfl))
      (fun _ => rfl)
def i_Retained_L0_0_r : Round i_Retained_L0_0_sh.T (WT i_Retained_L0_0_es) where
  B v γ fail next out := i_Retained_L0_0_B v.1.1.1 v.1.2.1.1 v.1.2.2.1.1 v.1.2.2.2.1.1 v.1.2.2.2.2.1.1 v.1.2.2.2.2.2.1.1 v.1.2.2.2.2.2.2.1.1 γ fail next out
  par v γ fail next out := i_Retained_L0_0_par v.1.1.1 v.1.2.1.1 v.1.2.2.1.1 v.1.2.2.2.1.1 v.1.2.2.2.2.1.1 v.1.2.2.2.2.2.1.1 v.1.2.2.2.2.2.2.1.1 γ fail next out
def i_Retained_L0_0_fu (vb0 : Int) (vb1 : List Conn) (vb2 : Int) (vb3 : Int) (vb4 : List Piec) (vb5 : Int) (vb6 : Int) : Nat := (Int.toNat (vb5 - vb6)) + 1
theorem i_Retained_L0_0_lk (v : i_Retained_L0_0_sh.T) (next : St → Option Res) (k : Ex → St → Option Res) : evalK te (orcOf (P := Try.prog) []) (lorcOf []) Try.f26.ntmps i_Retained_ann (nthLoop (nthLoop (bodyOf Try.f26) 0 0) 0 0) 2 (i_Retained_L0_0_sh.enc v) (endK ⟨[3, 20, 21, 22, 40, 41, 42], [], false, 0⟩ ⟨[2, 3, 20, 21, 22], [], false, 0⟩ next k) =
  i_Retained_L0_0_r.B v _ none (fun v' => next (i_Retained_L0_0_sh.enc v')) (fun w => outK i_Retained_L0_0_es k w) := by kernel_rfl
def i_Retained_L0_0_le : LE := leOf 2 i_Retained_L0_0_sh i_Retained_L0_0_es i_Retained_L0_0_r.step (fun v => i_Retained_L0_0_fu v.1.1.1 v.1.2.1.1 v.1.2.2.1.1 v.1.2.2.2.1.1 v.1.2.2.2.2.1.1 v.1.2.2.2.2.2.1.1 v.1.2.2.2.2.2.2.1.1)
theorem i_Retained_L0_0_ls (w0 : World) (mo : Mts) (I0 : Nat → Prop) (hmo : mo.length = 0) : LSem Try.prog (Sim w0 mo Try.f26.ntmps I0) (fun b s k => match Nat.beq 2 b with | true => i_Retained_L0_0_le.run s k | false => none) 2 (nthLoop (nthLoop (bodyOf Try.f26) 0 0) 0 0) :=
  le_sem hmo (lorc := lorcOf []) (ann := i_Retained_ann) (keep := ⟨[3, 20, 21, 22, 40, 41, 42], [], false, 0⟩) (kout := ⟨[2, 3, 20, 21, 22], [], false, 0⟩) teFact mixFact (orcOf_ok _) (by kernel_rfl) (allLoops_of (bs := []) (by kernel_rfl) trivial) i_Retained_L0_0_r _ i_Retained_L0_0_lk
def i_Retained_L0_0_f (vb1 : List Conn) (vb2 : Int) (vb3 : Int) (vb4 : List Piec) (vb5 : Int) (vb6 : Int) (a : Int) : Stp (Int) (Empty) :=
  letK (α := Int) (IntKind.wrap .i64 (a + (((vb4.getD vb6.toNat (Ty.zero .piec)).text).length : Int))) fun e4 =>
  .next e4
theorem i_Retained_L0_0_st (vb0 : Int) (vb1 : List Conn) (vb2 : Int) (vb3 : Int) (vb4 : List Piec) (vb5 : Int) (vb6 : Int) (hlo : 0 ≤ vb6) (hhi : vb6 < vb5) (hN : vb5 ≤ 4611686018427387904) (hi0 : vb5 ≤ (vb4.length : Int)) : i_Retained_L0_0_r.step (i_Retained_L0_0_mk vb0 vb1 vb2 vb3 vb4 vb5 vb6) = Stp.elim (fun a' : Int => some (Sum.inl (i_Retained_L0_0_mk a' vb1 vb2 vb3 vb4 vb5 (vb6 + 1)))) (fun w => some (Sum.inr ((fun p : Empty => nomatch p) w))) (i_Retained_L0_0_f vb1 vb2 vb3 vb4 vb5 vb6 vb0) := by
  have hw : (IntKind.wrap .i64 (vb6 + 1)) = vb6 + 1 := wrap64 (by omega) (by omega)
  show i_Retained_L0_0_B vb0 vb1 vb2 vb3 vb4 vb5 vb6 (Option (i_Retained_L0_0_sh.T ⊕ WT i_Retained_L0_0_es)) none (fun v' => some (Sum.inl v')) (fun w => some (Sum.inr w)) = _
  unfold i_Retained_L0_0_B i_Retained_L0_0_f
  exact bifG (by simp only [decide_eq_true_eq]; omega) (bifG (by (try simp only [Nat.ble_eq, Bool.and_eq_true, decide_eq_true_eq]); grind [maxSl, maxStr, toBytes_length, toInts_length, List.length_set, wrap64]) (letT (f := (Stp.elim (fun a' : Int => some (Sum.inl (i_Retained_L0_0_mk a' vb1 vb2 vb3 vb4 vb5 (vb6 + 1)))) (fun w => some (Sum.inr ((fun p : Empty => nomatch p) w))))) (fun e4 he4 => (by exact congrArg (fun z => some (Sum.inl (i_Retained_L0_0_mk e4 vb1 vb2 vb3 vb4 vb5 z))) hw))))
theorem i_Retained_L0_0_cl (vb0 : Int) (vb1 : List Conn) (vb2 : Int) (vb3 : Int) (vb4 : List Piec) (vb5 : Int) (vb6 : Int) (h0 : 0 ≤ vb6) (h1 : vb5 ≤ 4611686018427387904) (h2 : vb5 ≤ (vb4.length : Int)) : loopF i_Retained_L0_0_r.step (i_Retained_L0_0_fu vb0 vb1 vb2 vb3 vb4 vb5 vb6) (i_Retained_L0_0_mk vb0 vb1 vb2 vb3 vb4 vb5 vb6) = some (Stp.elim (fun a => (fun i a => i_Retained_L0_0_mx0 a vb1 vb2 vb3) (vb6 + 1 * (((Int.toNat (vb5 - vb6)) : Nat) : Int)) a) (fun p : Empty => nomatch p) (forN (i_Retained_L0_0_f vb1 vb2 vb3 vb4 vb5) 1 (Int.toNat (vb5 - vb6)) vb6 vb0)) :=
  forN_loop (step := i_Retained_L0_0_r.step) (mk := fun vb6 a => i_Retained_L0_0_mk a vb1 vb2 vb3 vb4 vb5 vb6) (f := i_Retained_L0_0_f vb1 vb2 vb3 vb4 vb5) (e := (fun i a => i_Retained_L0_0_mx0 a vb1 vb2 vb3)) (emb := (fun p : Empty => nomatch p)) (st := 1) (Inv := fun vb6 a => True) (Int.toNat (vb5 - vb6)) vb6 vb0 _ (Nat.lt_succ_self _) trivial
    (fun j a hj hv => ⟨i_Retained_L0_0_st a vb1 vb2 vb3 vb4 vb5 (vb6 + 1 * (j : Int)) (by omega) (by omega) (by omega) h2, fun _ _ => trivial⟩)
    (fun a hv => by
      show i_Retained_L0_0_B a vb1 vb2 vb3 vb4 vb5 (vb6 + 1 * (((Int.toNat (vb5 - vb6)) : Nat) : Int)) (Option (i_Retained_L0_0_sh.T ⊕ WT i_Retained_L0_0_es)) none (fun v' => some (Sum.inl v')) (fun w => some (Sum.inr w)) = _
      unfold i_Retained_L0_0_B
      exact bifN (by simp only [decide_eq_false_iff_not]; omega) rfl)
def i_Retained_L0_sh : Sh := ⟨[(3, false, [.int .i64]), (20, false, [.sl .arg .conn]), (21, false, [.int .i64]), (22, false, [.int .i64])], []⟩
def i_Retained_L0_es : List (Ex × Sh) := [(.exit 0, ⟨[(2, false, [.undef]), (3, false, [.int .i64])], []⟩)]
def i_Retained_L0_mk (v0 : Int) (v1 : List Conn) (v2 : Int) (v3 : Int) : i_Retained_L0_sh.T := (((v0, ()), ((v1, ()), ((v2, ()), ((v3, ()), ())))), ())
def i_Retained_L0_mx0 (y0 : Int) : Sh.T ⟨[(2, false, [.undef]), (3, false, [.int .i64])], []⟩ := ((((), ()), ((y0, ()), ())), ())
def i_Retained_L0_B (v0 : Int) (v1 : List Conn) (v2 : Int) (v3 : Int) (γ : Type) (fail : γ) (next : i_Retained_L0_sh.T → γ) (out : WT i_Retained_L0_es → γ) : γ :=
  bif (decide (v3 < v2)) then
    bif ((decide (0 ≤ v3)) && (decide (v3 < (v1.length : Int)))) then
    letK (α := Int) (IntKind.wrap .i64 (128 + (((v1.getD v3.toNat (Ty.zero .conn)).s.data).length : Int))) fun e2 =>
    letK (α := Int) (IntKind.wrap .i64 (e2 + (((v1.getD v3.toNat (Ty.zero .conn)).r.data).length : Int))) fun e3 =>
    optK (loopF i_Retained_L0_0_r.step (i_Retained_L0_0_fu (IntKind.wrap .i64 (v0 + e3)) v1 v2 v3 ((v1.getD v3.toNat (Ty.zero .conn)).r.held) (((v1.getD v3.toNat (Ty.zero .conn)).r.held).length : Int) 0) (i_Retained_L0_0_mk (IntKind.wrap .i64 (v0 + e3)) v1 v2 v3 ((v1.getD v3.toNat (Ty.zero .conn)).r.held) (((v1.getD v3.toNat (Ty.zero .conn)).r.held).length : Int) 0)) fail fun w5 =>
      next (i_Retained_L0_mk w5.1.2.1.1 w5.1.2.2.1.1 w5.1.2.2.2.1.1 (IntKind.wrap .i64 (w5.1.2.2.2.2.1.1 + 1)))
    else fail
  else
  out (i_Retained_L0_mx0 v0)
theorem i_Retained_L0_par (v0 : Int) (v1 : List Conn) (v2 : Int) (v3 : Int) (γ : Type) (fail : γ) (next : i_Retained_L0_sh.T → γ) (out : WT i_Retained_L0_es → γ) : i_Retained_L0_B v0 v1 v2 v3 γ fail next out = optK (i_Retained_L0_B v0 v1 v2 v3 _ none (fun v' => some (.inl v')) (fun w => some (.inr w))) fail (fun r => Sum.elim next out r) := by
  unfold i_Retained_L0_B
  exact bifT (f := (fun o => optK o fail (fun r => Sum.elim next out r))) (fun _ => bifT (f := (fun o => optK o fail (fun r => Sum.elim next out r))) (fun _ => letT (f := (fun o => optK o fail (fun r => Sum.elim next out r))) (fun e2 _ => letT (f := (fun o => optK o fail (fun r => Sum.elim next out r))) (fun e3 _ => optT (f := (fun o => optK o fail (fun r => Sum.elim next out r))) rfl (fun w5 => rfl)))) (fun _ => rfl))
      (fun _ => rfl)
def i_Retained_L0_r : Round i_Retained_L0_sh.T (WT i_Retained_L0_es) where
  B v γ fail next out := i_Retained_L0_B v.1.1.1 v.1.2.1.1 v.1.2.2.1.1 v.1.2.2.2.1.1 γ fail next out
  par v γ fail next out := i_Retained_L0_par v.1.1.1 v.1.2.1.1 v.1.2.2.1.1 v.1.2.2.2.1.1 γ fail next out
def i_Retained_L0_fu (v0 : Int) (v1 : List Conn) (v2 : Int) (v3 : Int) : Nat := (Int.toNat (v2 - v3)) + 1
theorem i_Retained_L0_lk (v : i_Retained_L0_sh.T) (next : St → Option Res) (k : Ex → St → Option Res) : evalK te (orcOf (P := Try.prog) []) (lorcOf [i_Retained_L0_0_le]) Try.f26.ntmps i_Retained_ann (nthLoop (bodyOf Try.f26) 0 0) 0 (i_Retained_L0_sh.enc v) (endK ⟨[3, 20, 21, 22], [], false, 0⟩ ⟨[2, 3], [], false, 0⟩ next k) =
  i_Retained_L0_r.B v _ none (fun v' => next (i_Retained_L0_sh.enc v')) (fun w => outK i_Retained_L0_es k w) := by kernel_rfl
def i_Retained_L0_le : LE := leOf 0 i_Retained_L0_sh i_Retained_L0_es i_Retained_L0_r.step (fun v => i_Retained_L0_fu v.1.1.1 v.1.2.1.1 v.1.2.2.1.1 v.1.2.2.2.1.1)
theorem i_Retained_L0_ls (w0 : World) (mo : Mts) (I0 : Nat → Prop) (hmo : mo.length = 0) : LSem Try.prog (Sim w0 mo Try.f26.ntmps I0) (fun b s k => match Nat.beq 0 b with | true => i_Retained_L0_le.run s k | false => none) 0 (nthLoop (bodyOf Try.f26) 0 0) :=
  le_sem hmo (lorc := lorcOf [i_Retained_L0_0_le]) (ann := i_Retained_ann) (keep := ⟨[3, 20, 21, 22], [], false, 0⟩) (kout := ⟨[2, 3], [], false, 0⟩) teFact mixFact (orcOf_ok _) (by kernel_rfl) (allLoops_of (bs := [2]) (by kernel_rfl) ⟨lsem_of_lorc (i_Retained_L0_0_ls w0 mo I0 hmo) (by kernel_rfl), trivial⟩) i_Retained_L0_r _ i_Retained_L0_lk
def i_Retained_L0_f (v1 : List Conn) (v2 : Int) (v3 : Int) (a : Int) : Stp (Int) (Empty) :=
  letK (α := Int) (IntKind.wrap .i64 (128 + (((v1.getD v3.toNat (Ty.zero .conn)).s.data).length : Int))) fun e2 =>
  letK (α := Int) (IntKind.wrap .i64 (e2 + (((v1.getD v3.toNat (Ty.zero .conn)).r.data).length : Int))) fun e3 =>
  Stp.elim (fun a6 =>
    .next a6)
    (fun p : Empty => nomatch p)
    (forN (i_Retained_L0_0_f v1 v2 v3 ((v1.getD v3.toNat (Ty.zero .conn)).r.held) (((v1.getD v3.toNat (Ty.zero .conn)).r.held).length : Int)) 1 (Int.toNat ((((v1.getD v3.toNat (Ty.zero .conn)).r.held).length : Int) - 0)) 0 (IntKind.wrap .i64 (a + e3)))
theorem i_Retained_L0_st (v0 : Int) (v1 : List Conn) (v2 : Int) (v3 : Int) (hlo : 0 ≤ v3) (hhi : v3 < v2) (hN : v2 ≤ 4611686018427387904) (hi0 : ∀ y ∈ v1, ∀ c ∈ Ty.cells .conn y, FactC c) (hi1 : v2 ≤ (v1.length : Int)) : i_Retained_L0_r.step (i_Retained_L0_mk v0 v1 v2 v3) = Stp.elim (fun a' : Int => some (Sum.inl (i_Retained_L0_mk a' v1 v2 (v3 + 1)))) (fun w => some (Sum.inr ((fun p : Empty => nomatch p) w))) (i_Retained_L0_f v1 v2 v3 v0) := by
  have hw : (IntKind.wrap .i64 (v3 + 1)) = v3 + 1 := wrap64 (by omega) (by omega)
  show i_Retained_L0_B v0 v1 v2 v3 (Option (i_Retained_L0_sh.T ⊕ WT i_Retained_L0_es)) none (fun v' => some (Sum.inl v')) (fun w => some (Sum.inr w)) = _
  unfold i_Retained_L0_B i_Retained_L0_f
  exact bifG (by simp only [decide_eq_true_eq]; omega) (bifG (by (try simp only [Nat.ble_eq, Bool.and_eq_true, decide_eq_true_eq, i_Retained_L0_0_mx0]); grind [maxSl, maxStr, toBytes_length, toInts_length, List.length_set, wrap64, len_conn_r_held]) (letT (f := (Stp.elim (fun a' : Int => some (Sum.inl (i_Retained_L0_mk a' v1 v2 (v3 + 1)))) (fun w => some (Sum.inr ((fun p : Empty => nomatch p) w))))) (fun e2 he2 => letT (f := (Stp.elim (fun a' : Int => some (Sum.inl (i_Retained_L0_mk a' v1 v2 (v3 + 1)))) (fun w => some (Sum.inr ((fun p : Empty => nomatch p) w))))) (fun e3 he3 => loopT (f := (Stp.elim (fun a' : Int => some (Sum.inl (i_Retained_L0_mk a' v1 v2 (v3 + 1)))) (fun w => some (Sum.inr ((fun p : Empty => nomatch p) w))))) (i_Retained_L0_0_cl (IntKind.wrap .i64 (v0 + e3)) v1 v2 v3 ((v1.getD v3.toNat (Ty.zero .conn)).r.held) (((v1.getD v3.toNat (Ty.zero .conn)).r.held).length : Int) 0 (by (try simp only [Nat.ble_eq, Bool.and_eq_true, decide_eq_true_eq, i_Retained_L0_0_mx0]); grind [maxSl, maxStr, toBytes_length, toInts_length, List.length_set, wrap64, len_conn_r_held]) (by (try simp only [Nat.ble_eq, Bool.and_eq_true, decide_eq_true_eq, i_Retained_L0_0_mx0]); grind [maxSl, maxStr, toBytes_length, toInts_length, List.length_set, wrap64, len_conn_r_held]) (by (try simp only [Nat.ble_eq, Bool.and_eq_true, decide_eq_true_eq, i_Retained_L0_0_mx0]); grind [maxSl, maxStr, toBytes_length, toInts_length, List.length_set, wrap64, len_conn_r_held])) (fun a6 => (by exact congrArg (fun z => some (Sum.inl (i_Retained_L0_mk a6 v1 v2 z))) hw))
      (fun p : Empty => nomatch p)))))
theorem i_Retained_L0_cl (v0 : Int) (v1 : List Conn) (v2 : Int) (v3 : Int) (h0 : 0 ≤ v3) (h1 : v2 ≤ 4611686018427387904) (h2 : ∀ y ∈ v1, ∀ c ∈ Ty.cells .conn y, FactC c) (h3 : v2 ≤ (v1.length : Int)) : loopF i_Retained_L0_r.step (i_Retained_L0_fu v0 v1 v2 v3) (i_Retained_L0_mk v0 v1 v2 v3) = some (Stp.elim (fun a => (fun i a => i_Retained_L0_mx0 a) (v3 + 1 * (((Int.toNat (v2 - v3)) : Nat) : Int)) a) (fun p : Empty => nomatch p) (forN (i_Retained_L0_f v1 v2) 1 (Int.toNat (v2 - v3)) v3 v0)) :=
  forN_loop (step := i_Retained_L0_r.step) (mk := fun v3 a => i_Retained_L0_mk a v1 v2 v3) (f := i_Retained_L0_f v1 v2) (e := (fun i a => i_Retained_L0_mx0 a)) (emb := (fun p : Empty => nomatch p)) (st := 1) (Inv := fun v3 a => True) (Int.toNat (v2 - v3)) v3 v0 _ (Nat.lt_succ_self _) trivial
    (fun j a hj hv => ⟨i_Retained_L0_st a v1 v2 (v3 + 1 * (j : Int)) (by omega) (by omega) (by omega) h2 h3, fun _ _ => trivial⟩)
    (fun a hv => by
      show i_Retained_L0_B a v1 v2 (v3 + 1 * (((Int.toNat (v2 - v3)) : Nat) : Int)) (Option (i_Retained_L0_sh.T ⊕ WT i_Retained_L0_es)) none (fun v' => some (Sum.inl v')) (fun w => some (Sum.inr w)) = _
      unfold i_Retained_L0_B
      exact bifN (by simp only [decide_eq_false_iff_not]; omega) rfl)
def i_Retained_N (x0 : Door) (γ : Type) (fail : γ) (k : Int → γ) : γ :=
  letK (α := Int) (IntKind.wrap .i64 ((IntKind.wrap .i64 (64 * (x0.halves.length : Int))) + (IntKind.wrap .i64 (8 * (x0.table.waiting.length : Int))))) fun e1 =>
  optK (loopF i_Retained_L0_r.step (i_Retained_L0_fu e1 x0.table.conns (x0.table.conns.length : Int) 0) (i_Retained_L0_mk e1 x0.table.conns (x0.table.conns.length : Int) 0)) fail fun w7 =>
    k w7.1.2.1.1
def i_Retained (x0 : Door) : Int :=
  letK (α := Int) (IntKind.wrap .i64 ((IntKind.wrap .i64 (64 * (x0.halves.length : Int))) + (IntKind.wrap .i64 (8 * (x0.table.waiting.length : Int))))) fun e1 =>
  Stp.elim (fun a8 =>
    a8)
    (fun p : Empty => nomatch p)
    (forN (i_Retained_L0_f x0.table.conns (x0.table.conns.length : Int)) 1 (Int.toNat ((x0.table.conns.length : Int) - 0)) 0 e1)
theorem i_Retained_lk (x0 : Door) : evalFn te (orcOf (P := Try.prog) []) (lorcOf [i_Retained_L0_le]) i_Retained_ann Try.f26 (pvs [.st .door] (x0, ())) =
  i_Retained_N x0 _ none (fun v => some [(false, [RC.c (.int .i64 v)])]) := by kernel_rfl
theorem i_Retained_p (x0 : Door) (hx0_port : inK .i64 x0.port) (hx0_clock : inK .i64 x0.clock) (hx0_keys_epoch : inK .i64 x0.keys.epoch) (hx0_keys_now_k : inK .u64 x0.keys.now.k) (hx0_keys_now_l : inK .u64 x0.keys.now.l) (hx0_keys_now_rows : x0.keys.now.rows.length ≤ 140737488355328) (hx0_keys_now_rows_e : ∀ y ∈ x0.keys.now.rows, ∀ c ∈ Ty.cells .macRow y, FactC c) (hx0_keys_before_k : inK .u64 x0.keys.before.k) (hx0_keys_before_l : inK .u64 x0.keys.before.l) (hx0_keys_before_rows : x0.keys.before.rows.length ≤ 140737488355328) (hx0_keys_before_rows_e : ∀ y ∈ x0.keys.before.rows, ∀ c ∈ Ty.cells .macRow y, FactC c) (hx0_limits_halves : inK .i64 x0.limits.halves) (hx0_limits_waiting : inK .i64 x0.limits.waiting) (hx0_limits_conns : inK .i64 x0.limits.conns) (hx0_limits_chal : inK .i64 x0.limits.chal) (hx0_halves : x0.halves.length ≤ 140737488355328) (hx0_table_conns : x0.table.conns.length ≤ 140737488355328) (hx0_table_conns_e : ∀ y ∈ x0.table.conns, ∀ c ∈ Ty.cells .conn y, FactC c) (hx0_table_waiting : x0.table.waiting.length ≤ 140737488355328) (hx0_chal : inK .i64 x0.chal)  (γ : Type) (fail : γ) (k : Int → γ) : i_Retained_N x0 γ fail k = k (i_Retained x0) := by
  unfold i_Retained_N i_Retained
  exact letT (f := k) (fun e1 he1 => loopT (f := k) (i_Retained_L0_cl e1 x0.table.conns (x0.table.conns.length : Int) 0 (by (try simp only [Nat.ble_eq, Bool.and_eq_true, decide_eq_true_eq, i_Retained_L0_0_mx0, i_Retained_L0_mx0]); grind [maxSl, maxStr, toBytes_length, toInts_length, List.length_set, wrap64]) (by (try simp only [Nat.ble_eq, Bool.and_eq_true, decide_eq_true_eq, i_Retained_L0_0_mx0, i_Retained_L0_mx0]); grind [maxSl, maxStr, toBytes_length, toInts_length, List.length_set, wrap64]) (by (try simp only [Nat.ble_eq, Bool.and_eq_true, decide_eq_true_eq, i_Retained_L0_0_mx0, i_Retained_L0_mx0]); grind [maxSl, maxStr, toBytes_length, toInts_length, List.length_set, wrap64]) (by (try simp only [Nat.ble_eq, Bool.and_eq_true, decide_eq_true_eq, i_Retained_L0_0_mx0, i_Retained_L0_mx0]); grind [maxSl, maxStr, toBytes_length, toInts_length, List.length_set, wrap64])) (fun a8 => rfl)
      (fun p : Empty => nomatch p))
theorem i_Retained_c (x0 : Door)  : Con Try.prog 26 (pvs [.st .door] (x0, ())) [rv (.sc (.int .i64)) [] (i_Retained x0)] := by
  refine Con.of_facts (enters_of Try.func26 rfl (by kernel_rfl)) fun hf => ?_
  replace hf := factAt hf
  exact evalFn_conL teFact mixFact (orcOf_ok _) Try.func26 (by kernel_rfl) (bs := [0]) (by kernel_rfl) (by kernel_rfl) (fun w0 mo I0 hmo => ⟨lsem_of_lorc (i_Retained_L0_ls w0 mo I0 hmo) (by kernel_rfl), trivial⟩) ((i_Retained_lk x0).trans (i_Retained_p x0 ((hf 0 0 rfl rfl).rng) ((hf 0 1 rfl rfl).rng) ((hf 0 2 rfl rfl).rng) ((hf 0 4 rfl rfl).rng) ((hf 0 5 rfl rfl).rng) ((hf 0 6 rfl rfl).len) (fun y hy => (hf 0 6 rfl rfl).elem hy) ((hf 0 8 rfl rfl).rng) ((hf 0 9 rfl rfl).rng) ((hf 0 10 rfl rfl).len) (fun y hy => (hf 0 10 rfl rfl).elem hy) ((hf 0 12 rfl rfl).rng) ((hf 0 13 rfl rfl).rng) ((hf 0 14 rfl rfl).rng) ((hf 0 15 rfl rfl).rng) ((hf 0 16 rfl rfl).len) ((hf 0 17 rfl rfl).len) (fun y hy => (hf 0 17 rfl rfl).elem hy) ((hf 0 18 rfl rfl).len) ((hf 0 19 rfl rfl).rng) _ _ _))
noncomputable def i_Retained_e : Ent1 Try.prog := entA 26 [.st .door] (fun x => (i_Retained x.1)) (fun v => [rv (.sc (.int .i64)) [] v]) (fun x => i_Retained_c x.1)


/-- laws.toTuple -/
def w_toTuple_N (x0 : Tupl) (γ : Type) (fail : γ) (k : Tupl → γ) : γ :=
  k x0
def w_toTuple (x0 : Tupl) : Tupl :=
  x0
theorem w_toTuple_lk (x0 : Tupl) : evalFn te (orcOf (P := Try.prog) []) lorc0 [] Try.f35 (pvs [.st .tupl] (x0, ())) =
  w_toTuple_N x0 _ none (fun v => some [(true, [RC.c (.int .i64 v.ip), RC.c (.int .i64 v.port), RC.c (.int .i64 v.my)])]) := by kernel_rfl
theorem w_toTuple_p (x0 : Tupl)   (γ : Type) (fail : γ) (k : Tupl → γ) : w_toTuple_N x0 γ fail k = k (w_toTuple x0) := by
  unfold w_toTuple_N w_toTuple
  exact rfl
theorem w_toTuple_c (x0 : Tupl)  : Con Try.prog 35 (pvs [.st .tupl] (x0, ())) [rv (.st .tupl) [] (w_toTuple x0)] := by
  exact evalFn_con0 teFact mixFact (orcOf_ok _) Try.func35 (by kernel_rfl) ((w_toTuple_lk x0).trans (w_toTuple_p x0  _ _ _))
noncomputable def w_toTuple_e : Ent1 Try.prog := entA 35 [.st .tupl] (fun x => (w_toTuple x.1)) (fun v => [rv (.st .tupl) [] v]) (fun x => w_toTuple_c x.1)


/-- laws.szHalfS -/
def w_szHalfS_N (x0 : List Half) (x1 : Int) (γ : Type) (fail : γ) (k : Int → γ) : γ :=
  bif (decide ((IntKind.wrap .i64 (x1 - (x0.length : Int))) < 0)) then
    k (-1)
  else
  k (IntKind.wrap .i64 (x1 - (x0.length : Int)))
def w_szHalfS (x0 : List Half) (x1 : Int) : Int :=
  bif (decide ((IntKind.wrap .i64 (x1 - (x0.length : Int))) < 0)) then
    (-1)
  else
  (IntKind.wrap .i64 (x1 - (x0.length : Int)))
theorem w_szHalfS_lk (x0 : List Half) (x1 : Int) : evalFn te (orcOf (P := Try.prog) []) lorc0 [] Try.f70 (pvs [.sc (.sl .half), .sc (.int .i64)] (x0, x1, ())) =
  w_szHalfS_N x0 x1 _ none (fun v => some [(false, [RC.c (.int .i64 v)])]) := by kernel_rfl
theorem w_szHalfS_p (x0 : List Half) (x1 : Int)   (γ : Type) (fail : γ) (k : Int → γ) : w_szHalfS_N x0 x1 γ fail k = k (w_szHalfS x0 x1) := by
  unfold w_szHalfS_N w_szHalfS
  exact bifT (f := k) (fun b0 => rfl)
      (fun b0 => rfl)
theorem w_szHalfS_c (x0 : List Half) (x1 : Int)  : Con Try.prog 70 (pvs [.sc (.sl .half), .sc (.int .i64)] (x0, x1, ())) [rv (.sc (.int .i64)) [] (w_szHalfS x0 x1)] := by
  exact evalFn_con0 teFact mixFact (orcOf_ok _) Try.func70 (by kernel_rfl) ((w_szHalfS_lk x0 x1).trans (w_szHalfS_p x0 x1  _ _ _))
noncomputable def w_szHalfS_e : Ent1 Try.prog := entA 70 [.sc (.sl .half), .sc (.int .i64)] (fun x => (w_szHalfS x.1 x.2.1)) (fun v => [rv (.sc (.int .i64)) [] v]) (fun x => w_szHalfS_c x.1 x.2.1)


/-- laws.toLimits -/
def w_toLimits_N (x0 : Limi) (γ : Type) (fail : γ) (k : Limi → γ) : γ :=
  k x0
def w_toLimits (x0 : Limi) : Limi :=
  x0
theorem w_toLimits_lk (x0 : Limi) : evalFn te (orcOf (P := Try.prog) []) lorc0 [] Try.f73 (pvs [.st .limi] (x0, ())) =
  w_toLimits_N x0 _ none (fun v => some [(true, [RC.c (.int .i64 v.halves), RC.c (.int .i64 v.waiting), RC.c (.int .i64 v.conns), RC.c (.int .i64 v.chal)])]) := by kernel_rfl
theorem w_toLimits_p (x0 : Limi)   (γ : Type) (fail : γ) (k : Limi → γ) : w_toLimits_N x0 γ fail k = k (w_toLimits x0) := by
  unfold w_toLimits_N w_toLimits
  exact rfl
theorem w_toLimits_c (x0 : Limi)  : Con Try.prog 73 (pvs [.st .limi] (x0, ())) [rv (.st .limi) [] (w_toLimits x0)] := by
  exact evalFn_con0 teFact mixFact (orcOf_ok _) Try.func73 (by kernel_rfl) ((w_toLimits_lk x0).trans (w_toLimits_p x0  _ _ _))
noncomputable def w_toLimits_e : Ent1 Try.prog := entA 73 [.st .limi] (fun x => (w_toLimits x.1)) (fun v => [rv (.st .limi) [] v]) (fun x => w_toLimits_c x.1)


/-- laws.eqLimits -/
def w_eqLimits_N (x0 : Limi) (x1 : Limi) (γ : Type) (fail : γ) (k : Bool → γ) : γ :=
  bif (x0.halves != x1.halves) then
    k false
  else
  bif (x0.waiting != x1.waiting) then
    k false
  else
  bif (x0.conns != x1.conns) then
    k false
  else
  bif (x0.chal != x1.chal) then
    k false
  else
  k true
def w_eqLimits (x0 : Limi) (x1 : Limi) : Bool :=
  bif (x0.halves != x1.halves) then
    false
  else
  bif (x0.waiting != x1.waiting) then
    false
  else
  bif (x0.conns != x1.conns) then
    false
  else
  bif (x0.chal != x1.chal) then
    false
  else
  true
theorem w_eqLimits_lk (x0 : Limi) (x1 : Limi) : evalFn te (orcOf (P := Try.prog) []) lorc0 [] Try.f77 (pvs [.st .limi, .st .limi] (x0, x1, ())) =
  w_eqLimits_N x0 x1 _ none (fun v => some [(false, [RC.c (.bool v)])]) := by kernel_rfl
theorem w_eqLimits_p (x0 : Limi) (x1 : Limi)   (γ : Type) (fail : γ) (k : Bool → γ) : w_eqLimits_N x0 x1 γ fail k = k (w_eqLimits x0 x1) := by
  unfold w_eqLimits_N w_eqLimits
  exact bifT (f := k) (fun b0 => rfl)
      (fun b0 => bifT (f := k) (fun b1 => rfl)
      (fun b1 => bifT (f := k) (fun b2 => rfl)
      (fun b2 => bifT (f := k) (fun b3 => rfl)
      (fun b3 => rfl))))
theorem w_eqLimits_c (x0 : Limi) (x1 : Limi)  : Con Try.prog 77 (pvs [.st .limi, .st .limi] (x0, x1, ())) [rv (.sc .bool) [] (w_eqLimits x0 x1)] := by
  exact evalFn_con0 teFact mixFact (orcOf_ok _) Try.func77 (by kernel_rfl) ((w_eqLimits_lk x0 x1).trans (w_eqLimits_p x0 x1  _ _ _))
noncomputable def w_eqLimits_e : Ent1 Try.prog := entA 77 [.st .limi, .st .limi] (fun x => (w_eqLimits x.1 x.2.1)) (fun v => [rv (.sc .bool) [] v]) (fun x => w_eqLimits_c x.1 x.2.1)


/-- laws.toOptions -/
def w_toOptions_N (x0 : Opti) (γ : Type) (fail : γ) (k : Opti → γ) : γ :=
  k x0
def w_toOptions (x0 : Opti) : Opti :=
  x0
theorem w_toOptions_lk (x0 : Opti) : evalFn te (orcOf (P := Try.prog) []) lorc0 [] Try.f89 (pvs [.st .opti] (x0, ())) =
  w_toOptions_N x0 _ none (fun v => some [(true, [RC.c (.int .i64 v.mss), RC.c (.int .i64 v.scale), RC.c (.bool v.sack), RC.c (.bool v.stamp), RC.c (.int .i64 v.val), RC.c (.int .i64 v.echo)])]) := by kernel_rfl
theorem w_toOptions_p (x0 : Opti)   (γ : Type) (fail : γ) (k : Opti → γ) : w_toOptions_N x0 γ fail k = k (w_toOptions x0) := by
  unfold w_toOptions_N w_toOptions
  exact rfl
theorem w_toOptions_c (x0 : Opti)  : Con Try.prog 89 (pvs [.st .opti] (x0, ())) [rv (.st .opti) [] (w_toOptions x0)] := by
  exact evalFn_con0 teFact mixFact (orcOf_ok _) Try.func89 (by kernel_rfl) ((w_toOptions_lk x0).trans (w_toOptions_p x0  _ _ _))
noncomputable def w_toOptions_e : Ent1 Try.prog := entA 89 [.st .opti] (fun x => (w_toOptions x.1)) (fun v => [rv (.st .opti) [] v]) (fun x => w_toOptions_c x.1)


/-- laws.eqOptions -/
def w_eqOptions_N (x0 : Opti) (x1 : Opti) (γ : Type) (fail : γ) (k : Bool → γ) : γ :=
  bif (x0.mss != x1.mss) then
    k false
  else
  bif (x0.scale != x1.scale) then
    k false
  else
  bif (!(x0.sack == x1.sack)) then
    k false
  else
  bif (!(x0.stamp == x1.stamp)) then
    k false
  else
  bif (x0.val != x1.val) then
    k false
  else
  bif (x0.echo != x1.echo) then
    k false
  else
  k true
def w_eqOptions (x0 : Opti) (x1 : Opti) : Bool :=
  bif (x0.mss != x1.mss) then
    false
  else
  bif (x0.scale != x1.scale) then
    false
  else
  bif (!(x0.sack == x1.sack)) then
    false
  else
  bif (!(x0.stamp == x1.stamp)) then
    false
  else
  bif (x0.val != x1.val) then
    false
  else
  bif (x0.echo != x1.echo) then
    false
  else
  true
theorem w_eqOptions_lk (x0 : Opti) (x1 : Opti) : evalFn te (orcOf (P := Try.prog) []) lorc0 [] Try.f92 (pvs [.st .opti, .st .opti] (x0, x1, ())) =
  w_eqOptions_N x0 x1 _ none (fun v => some [(false, [RC.c (.bool v)])]) := by kernel_rfl
theorem w_eqOptions_p (x0 : Opti) (x1 : Opti)   (γ : Type) (fail : γ) (k : Bool → γ) : w_eqOptions_N x0 x1 γ fail k = k (w_eqOptions x0 x1) := by
  unfold w_eqOptions_N w_eqOptions
  exact bifT (f := k) (fun b0 => rfl)
      (fun b0 => bifT (f := k) (fun b1 => rfl)
      (fun b1 => bifT (f := k) (fun b2 => rfl)
      (fun b2 => bifT (f := k) (fun b3 => rfl)
      (fun b3 => bifT (f := k) (fun b4 => rfl)
      (fun b4 => bifT (f := k) (fun b5 => rfl)
      (fun b5 => rfl))))))
theorem w_eqOptions_c (x0 : Opti) (x1 : Opti)  : Con Try.prog 92 (pvs [.st .opti, .st .opti] (x0, x1, ())) [rv (.sc .bool) [] (w_eqOptions x0 x1)] := by
  exact evalFn_con0 teFact mixFact (orcOf_ok _) Try.func92 (by kernel_rfl) ((w_eqOptions_lk x0 x1).trans (w_eqOptions_p x0 x1  _ _ _))
noncomputable def w_eqOptions_e : Ent1 Try.prog := entA 92 [.st .opti, .st .opti] (fun x => (w_eqOptions x.1 x.2.1)) (fun v => [rv (.sc .bool) [] v]) (fun x => w_eqOptions_c x.1 x.2.1)


/-- laws.szTupleS -/
def w_szTupleS_N (x0 : List Tupl) (x1 : Int) (γ : Type) (fail : γ) (k : Int → γ) : γ :=
  bif (decide ((IntKind.wrap .i64 (x1 - (x0.length : Int))) < 0)) then
    k (-1)
  else
  k (IntKind.wrap .i64 (x1 - (x0.length : Int)))
def w_szTupleS (x0 : List Tupl) (x1 : Int) : Int :=
  bif (decide ((IntKind.wrap .i64 (x1 - (x0.length : Int))) < 0)) then
    (-1)
  else
  (IntKind.wrap .i64 (x1 - (x0.length : Int)))
theorem w_szTupleS_lk (x0 : List Tupl) (x1 : Int) : evalFn te (orcOf (P := Try.prog) []) lorc0 [] Try.f121 (pvs [.sc (.sl .tupl), .sc (.int .i64)] (x0, x1, ())) =
  w_szTupleS_N x0 x1 _ none (fun v => some [(false, [RC.c (.int .i64 v)])]) := by kernel_rfl
theorem w_szTupleS_p (x0 : List Tupl) (x1 : Int)   (γ : Type) (fail : γ) (k : Int → γ) : w_szTupleS_N x0 x1 γ fail k = k (w_szTupleS x0 x1) := by
  unfold w_szTupleS_N w_szTupleS
  exact bifT (f := k) (fun b0 => rfl)
      (fun b0 => rfl)
theorem w_szTupleS_c (x0 : List Tupl) (x1 : Int)  : Con Try.prog 121 (pvs [.sc (.sl .tupl), .sc (.int .i64)] (x0, x1, ())) [rv (.sc (.int .i64)) [] (w_szTupleS x0 x1)] := by
  exact evalFn_con0 teFact mixFact (orcOf_ok _) Try.func121 (by kernel_rfl) ((w_szTupleS_lk x0 x1).trans (w_szTupleS_p x0 x1  _ _ _))
noncomputable def w_szTupleS_e : Ent1 Try.prog := entA 121 [.sc (.sl .tupl), .sc (.int .i64)] (fun x => (w_szTupleS x.1 x.2.1)) (fun v => [rv (.sc (.int .i64)) [] v]) (fun x => w_szTupleS_c x.1 x.2.1)


/-- laws.toHalf -/
def w_toHalf_N (x0 : Half) (γ : Type) (fail : γ) (k : Half → γ) : γ :=
  letK (α := Tupl) (w_toTuple x0.tuple) fun c1 =>
  letK (α := Opti) (w_toOptions x0.opts) fun c2 =>
  k (⟨c1, x0.iss, x0.irs, c2, x0.age, x0.window⟩ : Half)
def w_toHalf (x0 : Half) : Half :=
  letK (α := Tupl) (w_toTuple x0.tuple) fun c1 =>
  letK (α := Opti) (w_toOptions x0.opts) fun c2 =>
  (⟨c1, x0.iss, x0.irs, c2, x0.age, x0.window⟩ : Half)
theorem w_toHalf_lk (x0 : Half) : evalFn te (orcOf (P := Try.prog) [w_toTuple_e, w_toOptions_e]) lorc0 [] Try.f123 (pvs [.st .half] (x0, ())) =
  w_toHalf_N x0 _ none (fun v => some [(true, [RC.c (.int .i64 v.tuple.ip), RC.c (.int .i64 v.tuple.port), RC.c (.int .i64 v.tuple.my), RC.c (.int .i64 v.iss), RC.c (.int .i64 v.irs), RC.c (.int .i64 v.opts.mss), RC.c (.int .i64 v.opts.scale), RC.c (.bool v.opts.sack), RC.c (.bool v.opts.stamp), RC.c (.int .i64 v.opts.val), RC.c (.int .i64 v.opts.echo), RC.c (.int .i64 v.age), RC.c (.int .i64 v.window)])]) := by kernel_rfl
theorem w_toHalf_p (x0 : Half)   (γ : Type) (fail : γ) (k : Half → γ) : w_toHalf_N x0 γ fail k = k (w_toHalf x0) := by
  unfold w_toHalf_N w_toHalf
  exact letT (f := k) (fun c1 hc1 => letT (f := k) (fun c2 hc2 => rfl))
theorem w_toHalf_c (x0 : Half)  : Con Try.prog 123 (pvs [.st .half] (x0, ())) [rv (.st .half) [] (w_toHalf x0)] := by
  exact evalFn_con0 teFact mixFact (orcOf_ok _) Try.func123 (by kernel_rfl) ((w_toHalf_lk x0).trans (w_toHalf_p x0  _ _ _))
noncomputable def w_toHalf_e : Ent1 Try.prog := entA 123 [.st .half] (fun x => (w_toHalf x.1)) (fun v => [rv (.st .half) [] v]) (fun x => w_toHalf_c x.1)


/-- laws.toTupleS -/
def w_toTupleS_ann : List (Nat × Keep) := [(0, ⟨[0, 3, 4], [], false, 0⟩)]
def w_toTupleS_L0_sh : Sh := ⟨[(0, false, [.sl .arg .tupl]), (3, false, [.own 0]), (4, false, [.int .i64])], [.arr .tupl false true]⟩
def w_toTupleS_L0_es : List (Ex × Sh) := [(.exit 0, ⟨[(2, false, [.undef]), (3, false, [.own 0])], [.arr .tupl false true]⟩)]
def w_toTupleS_L0_mk (v0 : List Tupl) (v1 : Int) (v2 : List Tupl) : w_toTupleS_L0_sh.T := (((v0, ()), (((), ()), ((v1, ()), ()))), (v2, ()))
def w_toTupleS_L0_mx0 (y0 : List Tupl) : Sh.T ⟨[(2, false, [.undef]), (3, false, [.own 0])], [.arr .tupl false true]⟩ := ((((), ()), (((), ()), ())), (y0, ()))
def w_toTupleS_L0_B (v0 : List Tupl) (v1 : Int) (v2 : List Tupl) (γ : Type) (fail : γ) (next : w_toTupleS_L0_sh.T → γ) (out : WT w_toTupleS_L0_es → γ) : γ :=
  bif (decide (v1 < (v0.length : Int))) then
    bif ((decide (0 ≤ v1)) && (decide (v1 < (v0.length : Int)))) then
    letK (α := Tupl) (w_toTuple (v0.getD v1.toNat (Ty.zero .tupl))) fun c1 =>
    bif ((decide (0 ≤ v1)) && (decide (v1 < (v2.length : Int)))) then
    next (w_toTupleS_L0_mk v0 (IntKind.wrap .i64 (v1 + 1)) (v2.set v1.toNat c1))
    else fail
    else fail
  else
  out (w_toTupleS_L0_mx0 v2)
theorem w_toTupleS_L0_par (v0 : List Tupl) (v1 : Int) (v2 : List Tupl) (γ : Type) (fail : γ) (next : w_toTupleS_L0_sh.T → γ) (out : WT w_toTupleS_L0_es → γ) : w_toTupleS_L0_B v0 v1 v2 γ fail next out = optK (w_toTupleS_L0_B v0 v1 v2 _ none (fun v' => some (.inl v')) (fun w => some (.inr w))) fail (fun r => Sum.elim next out r) := by
  unfold w_toTupleS_L0_B
  exact bifT (f := (fun o => optK o fail (fun r => Sum.elim next out r))) (fun _ => bifT (f := (fun o => optK o fail (fun r => Sum.elim next out r))) (fun _ => letT (f := (fun o => optK o fail (fun r => Sum.elim next out r))) (fun c1 _ => bifT (f := (fun o => optK o fail (fun r => Sum.elim next out r))) (fun _ => rfl) (fun _ => rfl))) (fun _ => rfl))
      (fun _ => rfl)
def w_toTupleS_L0_r : Round w_toTupleS_L0_sh.T (WT w_toTupleS_L0_es) where
  B v γ fail next out := w_toTupleS_L0_B v.1.1.1 v.1.2.2.1.1 v.2.1 γ fail next out
  par v γ fail next out := w_toTupleS_L0_par v.1.1.1 v.1.2.2.1.1 v.2.1 γ fail next out
def w_toTupleS_L0_fu (v0 : List Tupl) (v1 : Int) (v2 : List Tupl) : Nat := (Int.toNat ((v0.length : Int) - v1)) + 1
theorem w_toTupleS_L0_lk (v : w_toTupleS_L0_sh.T) (next : St → Option Res) (k : Ex → St → Option Res) : evalK te (orcOf (P := Try.prog) [w_toTuple_e]) (lorcOf []) Try.f125.ntmps w_toTupleS_ann (nthLoop (bodyOf Try.f125) 0 0) 0 (w_toTupleS_L0_sh.enc v) (endK ⟨[0, 3, 4], [], false, 0⟩ ⟨[2, 3], [], false, 0⟩ next k) =
  w_toTupleS_L0_r.B v _ none (fun v' => next (w_toTupleS_L0_sh.enc v')) (fun w => outK w_toTupleS_L0_es k w) := by kernel_rfl
def w_toTupleS_L0_le : LE := leOf 0 w_toTupleS_L0_sh w_toTupleS_L0_es w_toTupleS_L0_r.step (fun v => w_toTupleS_L0_fu v.1.1.1 v.1.2.2.1.1 v.2.1)
theorem w_toTupleS_L0_ls (w0 : World) (mo : Mts) (I0 : Nat → Prop) (hmo : mo.length = 0) : LSem Try.prog (Sim w0 mo Try.f125.ntmps I0) (fun b s k => match Nat.beq 0 b with | true => w_toTupleS_L0_le.run s k | false => none) 0 (nthLoop (bodyOf Try.f125) 0 0) :=
  le_sem hmo (lorc := lorcOf []) (ann := w_toTupleS_ann) (keep := ⟨[0, 3, 4], [], false, 0⟩) (kout := ⟨[2, 3], [], false, 0⟩) teFact mixFact (orcOf_ok _) (by kernel_rfl) (allLoops_of (bs := []) (by kernel_rfl) trivial) w_toTupleS_L0_r _ w_toTupleS_L0_lk
def w_toTupleS_L0_f (v0 : List Tupl) (v1 : Int) (a : List Tupl) : Stp (List Tupl) (Empty) :=
  letK (α := Tupl) (w_toTuple (v0.getD v1.toNat (Ty.zero .tupl))) fun c1 =>
  .next (a.set v1.toNat c1)
theorem w_toTupleS_L0_st (v0 : List Tupl) (v1 : Int) (v2 : List Tupl) (hlo : 0 ≤ v1) (hhi : v1 < (v0.length : Int)) (hN : (v0.length : Int) ≤ 4611686018427387904) (hinv : (v0.length : Int) ≤ (v2.length : Int)) : w_toTupleS_L0_r.step (w_toTupleS_L0_mk v0 v1 v2) = Stp.elim (fun a' : List Tupl => some (Sum.inl (w_toTupleS_L0_mk v0 (v1 + 1) a'))) (fun w => some (Sum.inr ((fun p : Empty => nomatch p) w))) (w_toTupleS_L0_f v0 v1 v2) := by
  have hw : (IntKind.wrap .i64 (v1 + 1)) = v1 + 1 := wrap64 (by omega) (by omega)
  show w_toTupleS_L0_B v0 v1 v2 (Option (w_toTupleS_L0_sh.T ⊕ WT w_toTupleS_L0_es)) none (fun v' => some (Sum.inl v')) (fun w => some (Sum.inr w)) = _
  unfold w_toTupleS_L0_B w_toTupleS_L0_f
  exact bifG (by simp only [decide_eq_true_eq]; omega) (bifG (by (try simp only [Nat.ble_eq, Bool.and_eq_true, decide_eq_true_eq]); grind [maxSl, maxStr, toBytes_length, toInts_length, List.length_set, wrap64]) (letT (f := (Stp.elim (fun a' : List Tupl => some (Sum.inl (w_toTupleS_L0_mk v0 (v1 + 1) a'))) (fun w => some (Sum.inr ((fun p : Empty => nomatch p) w))))) (fun c1 hc1 => bifG (by (try simp only [Nat.ble_eq, Bool.and_eq_true, decide_eq_true_eq]); grind [maxSl, maxStr, toBytes_length, toInts_length, List.length_set, wrap64]) ((by exact congrArg (fun z => some (Sum.inl (w_toTupleS_L0_mk v0 z (v2.set v1.toNat c1)))) hw)))))
theorem w_toTupleS_L0_cl (v0 : List Tupl) (v1 : Int) (v2 : List Tupl) (h0 : 0 ≤ v1) (h1 : (v0.length : Int) ≤ 4611686018427387904) (h2 : (v0.length : Int) ≤ (v2.length : Int)) : loopF w_toTupleS_L0_r.step (w_toTupleS_L0_fu v0 v1 v2) (w_toTupleS_L0_mk v0 v1 v2) = some (Stp.elim (fun a => (fun i a => w_toTupleS_L0_mx0 a) (v1 + 1 * (((Int.toNat ((v0.length : Int) - v1)) : Nat) : Int)) a) (fun p : Empty => nomatch p) (forN (w_toTupleS_L0_f v0) 1 (Int.toNat ((v0.length : Int) - v1)) v1 v2)) :=
  forN_loop (step := w_toTupleS_L0_r.step) (mk := fun v1 a => w_toTupleS_L0_mk v0 v1 a) (f := w_toTupleS_L0_f v0) (e := (fun i a => w_toTupleS_L0_mx0 a)) (emb := (fun p : Empty => nomatch p)) (st := 1) (Inv := fun v1 a => (v0.length : Int) ≤ (a.length : Int)) (Int.toNat ((v0.length : Int) - v1)) v1 v2 _ (Nat.lt_succ_self _) h2
    (fun j a hj hv => ⟨w_toTupleS_L0_st v0 (v1 + 1 * (j : Int)) a (by omega) (by omega) (by omega) hv, by
      intro a' he
      grind [w_toTupleS_L0_f, letK, Stp.elim, wrap64, List.length_set]⟩)
    (fun a hv => by
      show w_toTupleS_L0_B v0 (v1 + 1 * (((Int.toNat ((v0.length : Int) - v1)) : Nat) : Int)) a (Option (w_toTupleS_L0_sh.T ⊕ WT w_toTupleS_L0_es)) none (fun v' => some (Sum.inl v')) (fun w => some (Sum.inr w)) = _
      unfold w_toTupleS_L0_B
      exact bifN (by simp only [decide_eq_false_iff_not]; omega) rfl)
theorem w_toTupleS_L0_nx (v0 : List Tupl) (v1 : Int) (v2 : List Tupl) (h0 : 0 ≤ v1) (h1 : (v0.length : Int) ≤ 4611686018427387904) (h2 : (v0.length : Int) ≤ (v2.length : Int)) : ∀ a', forN (w_toTupleS_L0_f v0) 1 (Int.toNat ((v0.length : Int) - v1)) v1 v2 = .next a' → (v0.length : Int) ≤ (a'.length : Int) :=
  forN_inv (f := w_toTupleS_L0_f v0) (st := 1) (Inv := fun v1 a => (v0.length : Int) ≤ (a.length : Int)) (Int.toNat ((v0.length : Int) - v1)) v1 v2 h2
    (fun j a hj hv => by
      intro a' he
      grind [w_toTupleS_L0_f, letK, Stp.elim, wrap64, List.length_set])
def w_toTupleS_N (x0 : List Tupl) (γ : Type) (fail : γ) (k : List Tupl → γ) : γ :=
  bif ((((decide (0 ≤ (x0.length : Int))) && (decide ((x0.length : Int) = (x0.length : Int)))) && (decide ((x0.length : Int) * 24 ≤ (maxSl : Int)))) && (decide ((x0.length : Int) ≤ (maxSl : Int)))) then
  optK (loopF w_toTupleS_L0_r.step (w_toTupleS_L0_fu x0 0 (List.replicate ((x0.length : Int).toNat) (⟨0, 0, 0⟩ : Tupl))) (w_toTupleS_L0_mk x0 0 (List.replicate ((x0.length : Int).toNat) (⟨0, 0, 0⟩ : Tupl)))) fail fun w2 =>
    k w2.2.1
  else fail
def w_toTupleS (x0 : List Tupl) : List Tupl :=
  Stp.elim (fun a3 =>
    a3)
    (fun p : Empty => nomatch p)
    (forN (w_toTupleS_L0_f x0) 1 (Int.toNat ((x0.length : Int) - 0)) 0 (List.replicate ((x0.length : Int).toNat) (⟨0, 0, 0⟩ : Tupl)))
theorem w_toTupleS_lk (x0 : List Tupl) : evalFn te (orcOf (P := Try.prog) [w_toTuple_e]) (lorcOf [w_toTupleS_L0_le]) w_toTupleS_ann Try.f125 (pvs [.sc (.sl .tupl)] (x0, ())) =
  w_toTupleS_N x0 _ none (fun v => some [(false, [RC.own true .tupl v])]) := by kernel_rfl
theorem w_toTupleS_p (x0 : List Tupl) (hx0 : x0.length ≤ 140737488355328) (hp : x0.length ≤ 4294967296) (γ : Type) (fail : γ) (k : List Tupl → γ) : w_toTupleS_N x0 γ fail k = k (w_toTupleS x0) := by
  unfold w_toTupleS_N w_toTupleS
  exact bifG (by (try simp only [Nat.ble_eq, Bool.and_eq_true, decide_eq_true_eq, w_toTupleS_L0_mx0]); grind [maxSl, maxStr, toBytes_length, toInts_length, List.length_set, wrap64]) (loopX (f := k) (w_toTupleS_L0_cl x0 0 (List.replicate ((x0.length : Int).toNat) (⟨0, 0, 0⟩ : Tupl)) (by (try simp only [Nat.ble_eq, Bool.and_eq_true, decide_eq_true_eq, w_toTupleS_L0_mx0]); grind [maxSl, maxStr, toBytes_length, toInts_length, List.length_set, wrap64]) (by (try simp only [Nat.ble_eq, Bool.and_eq_true, decide_eq_true_eq, w_toTupleS_L0_mx0]); grind [maxSl, maxStr, toBytes_length, toInts_length, List.length_set, wrap64]) (by (try simp only [Nat.ble_eq, Bool.and_eq_true, decide_eq_true_eq, w_toTupleS_L0_mx0]); grind [maxSl, maxStr, toBytes_length, toInts_length, List.length_set, wrap64])) (fun a3 ha3 => have ia3 := w_toTupleS_L0_nx x0 0 (List.replicate ((x0.length : Int).toNat) (⟨0, 0, 0⟩ : Tupl)) (by (try simp only [Nat.ble_eq, Bool.and_eq_true, decide_eq_true_eq, w_toTupleS_L0_mx0]); grind [maxSl, maxStr, toBytes_length, toInts_length, List.length_set, wrap64]) (by (try simp only [Nat.ble_eq, Bool.and_eq_true, decide_eq_true_eq, w_toTupleS_L0_mx0]); grind [maxSl, maxStr, toBytes_length, toInts_length, List.length_set, wrap64]) (by (try simp only [Nat.ble_eq, Bool.and_eq_true, decide_eq_true_eq, w_toTupleS_L0_mx0]); grind [maxSl, maxStr, toBytes_length, toInts_length, List.length_set, wrap64]) _ ha3; rfl)
      (fun p : Empty => nomatch p))
theorem w_toTupleS_c (x0 : List Tupl) (hp : x0.length ≤ 4294967296) : Con Try.prog 125 (pvs [.sc (.sl .tupl)] (x0, ())) [rv (.sc (.sl .tupl)) [.o true] (w_toTupleS x0)] := by
  refine Con.of_facts (enters_of Try.func125 rfl (by kernel_rfl)) fun hf => ?_
  replace hf := factAt hf
  exact evalFn_conL teFact mixFact (orcOf_ok _) Try.func125 (by kernel_rfl) (bs := [0]) (by kernel_rfl) (by kernel_rfl) (fun w0 mo I0 hmo => ⟨lsem_of_lorc (w_toTupleS_L0_ls w0 mo I0 hmo) (by kernel_rfl), trivial⟩) ((w_toTupleS_lk x0).trans (w_toTupleS_p x0 ((hf 0 0 rfl rfl).len) hp _ _ _))
noncomputable def w_toTupleS_e : Ent1 Try.prog := entP 125 [.sc (.sl .tupl)] (fun x => (decide (x.1.length ≤ 4294967296))) (fun x => (w_toTupleS x.1)) (fun v => [rv (.sc (.sl .tupl)) [.o true] v]) (fun x hx => w_toTupleS_c x.1 (of_decide_eq_true hx))


/-- laws.eqTuple -/
def w_eqTuple_N (x0 : Tupl) (x1 : Tupl) (γ : Type) (fail : γ) (k : Bool → γ) : γ :=
  bif (x0.ip != x1.ip) then
    k false
  else
  bif (x0.port != x1.port) then
    k false
  else
  bif (x0.my != x1.my) then
    k false
  else
  k true
def w_eqTuple (x0 : Tupl) (x1 : Tupl) : Bool :=
  bif (x0.ip != x1.ip) then
    false
  else
  bif (x0.port != x1.port) then
    false
  else
  bif (x0.my != x1.my) then
    false
  else
  true
theorem w_eqTuple_lk (x0 : Tupl) (x1 : Tupl) : evalFn te (orcOf (P := Try.prog) []) lorc0 [] Try.f163 (pvs [.st .tupl, .st .tupl] (x0, x1, ())) =
  w_eqTuple_N x0 x1 _ none (fun v => some [(false, [RC.c (.bool v)])]) := by kernel_rfl
theorem w_eqTuple_p (x0 : Tupl) (x1 : Tupl)   (γ : Type) (fail : γ) (k : Bool → γ) : w_eqTuple_N x0 x1 γ fail k = k (w_eqTuple x0 x1) := by
  unfold w_eqTuple_N w_eqTuple
  exact bifT (f := k) (fun b0 => rfl)
      (fun b0 => bifT (f := k) (fun b1 => rfl)
      (fun b1 => bifT (f := k) (fun b2 => rfl)
      (fun b2 => rfl)))
theorem w_eqTuple_c (x0 : Tupl) (x1 : Tupl)  : Con Try.prog 163 (pvs [.st .tupl, .st .tupl] (x0, x1, ())) [rv (.sc .bool) [] (w_eqTuple x0 x1)] := by
  exact evalFn_con0 teFact mixFact (orcOf_ok _) Try.func163 (by kernel_rfl) ((w_eqTuple_lk x0 x1).trans (w_eqTuple_p x0 x1  _ _ _))
noncomputable def w_eqTuple_e : Ent1 Try.prog := entA 163 [.st .tupl, .st .tupl] (fun x => (w_eqTuple x.1 x.2.1)) (fun v => [rv (.sc .bool) [] v]) (fun x => w_eqTuple_c x.1 x.2.1)


/-- laws.szMacRow -/
def w_szMacRow_N (x0 : MacRow) (x1 : Int) (γ : Type) (fail : γ) (k : Int → γ) : γ :=
  bif (decide ((IntKind.wrap .i64 (x1 - (x0.input.length : Int))) < 0)) then
    k (-1)
  else
  k (IntKind.wrap .i64 (x1 - (x0.input.length : Int)))
def w_szMacRow (x0 : MacRow) (x1 : Int) : Int :=
  bif (decide ((IntKind.wrap .i64 (x1 - (x0.input.length : Int))) < 0)) then
    (-1)
  else
  (IntKind.wrap .i64 (x1 - (x0.input.length : Int)))
theorem w_szMacRow_lk (x0 : MacRow) (x1 : Int) : evalFn te (orcOf (P := Try.prog) []) lorc0 [] Try.f181 (pvs [.st .macRow, .sc (.int .i64)] (x0, x1, ())) =
  w_szMacRow_N x0 x1 _ none (fun v => some [(false, [RC.c (.int .i64 v)])]) := by kernel_rfl
theorem w_szMacRow_p (x0 : MacRow) (x1 : Int)   (γ : Type) (fail : γ) (k : Int → γ) : w_szMacRow_N x0 x1 γ fail k = k (w_szMacRow x0 x1) := by
  unfold w_szMacRow_N w_szMacRow
  exact bifT (f := k) (fun b0 => rfl)
      (fun b0 => rfl)
theorem w_szMacRow_c (x0 : MacRow) (x1 : Int)  : Con Try.prog 181 (pvs [.st .macRow, .sc (.int .i64)] (x0, x1, ())) [rv (.sc (.int .i64)) [] (w_szMacRow x0 x1)] := by
  exact evalFn_con0 teFact mixFact (orcOf_ok _) Try.func181 (by kernel_rfl) ((w_szMacRow_lk x0 x1).trans (w_szMacRow_p x0 x1  _ _ _))
noncomputable def w_szMacRow_e : Ent1 Try.prog := entA 181 [.st .macRow, .sc (.int .i64)] (fun x => (w_szMacRow x.1 x.2.1)) (fun v => [rv (.sc (.int .i64)) [] v]) (fun x => w_szMacRow_c x.1 x.2.1)

theorem w_szMacRow_sm (x0 : MacRow) (x1 : Int)  (hn : 0 ≤ x1 ∧ x1 ≤ 1048576) (hx0_input : List.length x0.input ≤ 4611686018427387904) : (fun v : Int => 0 ≤ v → v ≤ 1048576 ∧ List.length x0.input ≤ 1048576) (w_szMacRow x0 x1) := by
  unfold w_szMacRow
  exact bifP (P := (fun v : Int => 0 ≤ v → v ≤ 1048576 ∧ List.length x0.input ≤ 1048576)) (fun b0 => (by (try simp only [Nat.ble_eq, Bool.and_eq_true, decide_eq_true_eq]); grind [maxSl, maxStr, toBytes_length, toInts_length, List.length_set, wrap64]))
      (fun b0 => (by (try simp only [Nat.ble_eq, Bool.and_eq_true, decide_eq_true_eq]); grind [maxSl, maxStr, toBytes_length, toInts_length, List.length_set, wrap64]))

/-- laws.szSender -/
def w_szSender_N (x0 : Sndr) (x1 : Int) (γ : Type) (fail : γ) (k : Int → γ) : γ :=
  bif (decide ((IntKind.wrap .i64 (x1 - (x0.data.length : Int))) < 0)) then
    k (-1)
  else
  k (IntKind.wrap .i64 (x1 - (x0.data.length : Int)))
def w_szSender (x0 : Sndr) (x1 : Int) : Int :=
  bif (decide ((IntKind.wrap .i64 (x1 - (x0.data.length : Int))) < 0)) then
    (-1)
  else
  (IntKind.wrap .i64 (x1 - (x0.data.length : Int)))
theorem w_szSender_lk (x0 : Sndr) (x1 : Int) : evalFn te (orcOf (P := Try.prog) []) lorc0 [] Try.f182 (pvs [.st .sndr, .sc (.int .i64)] (x0, x1, ())) =
  w_szSender_N x0 x1 _ none (fun v => some [(false, [RC.c (.int .i64 v)])]) := by kernel_rfl
theorem w_szSender_p (x0 : Sndr) (x1 : Int)   (γ : Type) (fail : γ) (k : Int → γ) : w_szSender_N x0 x1 γ fail k = k (w_szSender x0 x1) := by
  unfold w_szSender_N w_szSender
  exact bifT (f := k) (fun b0 => rfl)
      (fun b0 => rfl)
theorem w_szSender_c (x0 : Sndr) (x1 : Int)  : Con Try.prog 182 (pvs [.st .sndr, .sc (.int .i64)] (x0, x1, ())) [rv (.sc (.int .i64)) [] (w_szSender x0 x1)] := by
  exact evalFn_con0 teFact mixFact (orcOf_ok _) Try.func182 (by kernel_rfl) ((w_szSender_lk x0 x1).trans (w_szSender_p x0 x1  _ _ _))
noncomputable def w_szSender_e : Ent1 Try.prog := entA 182 [.st .sndr, .sc (.int .i64)] (fun x => (w_szSender x.1 x.2.1)) (fun v => [rv (.sc (.int .i64)) [] v]) (fun x => w_szSender_c x.1 x.2.1)

theorem w_szSender_sm (x0 : Sndr) (x1 : Int)  (hn : 0 ≤ x1 ∧ x1 ≤ 1048576) (hx0_data : List.length x0.data ≤ 4611686018427387904) : (fun v : Int => 0 ≤ v → v ≤ 1048576 ∧ List.length x0.data ≤ 1048576) (w_szSender x0 x1) := by
  unfold w_szSender
  exact bifP (P := (fun v : Int => 0 ≤ v → v ≤ 1048576 ∧ List.length x0.data ≤ 1048576)) (fun b0 => (by (try simp only [Nat.ble_eq, Bool.and_eq_true, decide_eq_true_eq]); grind [maxSl, maxStr, toBytes_length, toInts_length, List.length_set, wrap64]))
      (fun b0 => (by (try simp only [Nat.ble_eq, Bool.and_eq_true, decide_eq_true_eq]); grind [maxSl, maxStr, toBytes_length, toInts_length, List.length_set, wrap64]))

/-- laws.toMacRow -/
def w_toMacRow_N (x0 : MacRow) (γ : Type) (fail : γ) (k : MacRow → γ) : γ :=
  k x0
def w_toMacRow (x0 : MacRow) : MacRow :=
  x0
theorem w_toMacRow_lk (x0 : MacRow) : evalFn te (orcOf (P := Try.prog) []) lorc0 [] Try.f184 (pvs [.st .macRow] (x0, ())) =
  w_toMacRow_N x0 _ none (fun v => some [(true, [RC.c (.str v.input), RC.c (.int .i64 v.value)])]) := by kernel_rfl
theorem w_toMacRow_p (x0 : MacRow)   (γ : Type) (fail : γ) (k : MacRow → γ) : w_toMacRow_N x0 γ fail k = k (w_toMacRow x0) := by
  unfold w_toMacRow_N w_toMacRow
  exact rfl
theorem w_toMacRow_c (x0 : MacRow)  : Con Try.prog 184 (pvs [.st .macRow] (x0, ())) [rv (.st .macRow) [] (w_toMacRow x0)] := by
  exact evalFn_con0 teFact mixFact (orcOf_ok _) Try.func184 (by kernel_rfl) ((w_toMacRow_lk x0).trans (w_toMacRow_p x0  _ _ _))
noncomputable def w_toMacRow_e : Ent1 Try.prog := entA 184 [.st .macRow] (fun x => (w_toMacRow x.1)) (fun v => [rv (.st .macRow) [] v]) (fun x => w_toMacRow_c x.1)


/-- laws.toSender -/
def w_toSender_N (x0 : Sndr) (γ : Type) (fail : γ) (k : Sndr → γ) : γ :=
  k x0
def w_toSender (x0 : Sndr) : Sndr :=
  x0
theorem w_toSender_lk (x0 : Sndr) : evalFn te (orcOf (P := Try.prog) []) lorc0 [] Try.f185 (pvs [.st .sndr] (x0, ())) =
  w_toSender_N x0 _ none (fun v => some [(true, [RC.c (.int .i64 v.una), RC.c (.str v.data), RC.c (.int .i64 v.sent), RC.c (.bool v.fin), RC.c (.bool v.finSent), RC.c (.bool v.done)])]) := by kernel_rfl
theorem w_toSender_p (x0 : Sndr)   (γ : Type) (fail : γ) (k : Sndr → γ) : w_toSender_N x0 γ fail k = k (w_toSender x0) := by
  unfold w_toSender_N w_toSender
  exact rfl
theorem w_toSender_c (x0 : Sndr)  : Con Try.prog 185 (pvs [.st .sndr] (x0, ())) [rv (.st .sndr) [] (w_toSender x0)] := by
  exact evalFn_con0 teFact mixFact (orcOf_ok _) Try.func185 (by kernel_rfl) ((w_toSender_lk x0).trans (w_toSender_p x0  _ _ _))
noncomputable def w_toSender_e : Ent1 Try.prog := entA 185 [.st .sndr] (fun x => (w_toSender x.1)) (fun v => [rv (.st .sndr) [] v]) (fun x => w_toSender_c x.1)


/-- laws.eqMacRow -/
def w_eqMacRow_N (x0 : MacRow) (x1 : MacRow) (γ : Type) (fail : γ) (k : Bool → γ) : γ :=
  bif (!(x0.input == x1.input)) then
    k false
  else
  bif (x0.value != x1.value) then
    k false
  else
  k true
def w_eqMacRow (x0 : MacRow) (x1 : MacRow) : Bool :=
  bif (!(x0.input == x1.input)) then
    false
  else
  bif (x0.value != x1.value) then
    false
  else
  true
theorem w_eqMacRow_lk (x0 : MacRow) (x1 : MacRow) : evalFn te (orcOf (P := Try.prog) []) lorc0 [] Try.f187 (pvs [.st .macRow, .st .macRow] (x0, x1, ())) =
  w_eqMacRow_N x0 x1 _ none (fun v => some [(false, [RC.c (.bool v)])]) := by kernel_rfl
theorem w_eqMacRow_p (x0 : MacRow) (x1 : MacRow)   (γ : Type) (fail : γ) (k : Bool → γ) : w_eqMacRow_N x0 x1 γ fail k = k (w_eqMacRow x0 x1) := by
  unfold w_eqMacRow_N w_eqMacRow
  exact bifT (f := k) (fun b0 => rfl)
      (fun b0 => bifT (f := k) (fun b1 => rfl)
      (fun b1 => rfl))
theorem w_eqMacRow_c (x0 : MacRow) (x1 : MacRow)  : Con Try.prog 187 (pvs [.st .macRow, .st .macRow] (x0, x1, ())) [rv (.sc .bool) [] (w_eqMacRow x0 x1)] := by
  exact evalFn_con0 teFact mixFact (orcOf_ok _) Try.func187 (by kernel_rfl) ((w_eqMacRow_lk x0 x1).trans (w_eqMacRow_p x0 x1  _ _ _))
noncomputable def w_eqMacRow_e : Ent1 Try.prog := entA 187 [.st .macRow, .st .macRow] (fun x => (w_eqMacRow x.1 x.2.1)) (fun v => [rv (.sc .bool) [] v]) (fun x => w_eqMacRow_c x.1 x.2.1)


/-- laws.eqSender -/
def w_eqSender_N (x0 : Sndr) (x1 : Sndr) (γ : Type) (fail : γ) (k : Bool → γ) : γ :=
  bif (x0.una != x1.una) then
    k false
  else
  bif (!(x0.data == x1.data)) then
    k false
  else
  bif (x0.sent != x1.sent) then
    k false
  else
  bif (!(x0.fin == x1.fin)) then
    k false
  else
  bif (!(x0.finSent == x1.finSent)) then
    k false
  else
  bif (!(x0.done == x1.done)) then
    k false
  else
  k true
def w_eqSender (x0 : Sndr) (x1 : Sndr) : Bool :=
  bif (x0.una != x1.una) then
    false
  else
  bif (!(x0.data == x1.data)) then
    false
  else
  bif (x0.sent != x1.sent) then
    false
  else
  bif (!(x0.fin == x1.fin)) then
    false
  else
  bif (!(x0.finSent == x1.finSent)) then
    false
  else
  bif (!(x0.done == x1.done)) then
    false
  else
  true
theorem w_eqSender_lk (x0 : Sndr) (x1 : Sndr) : evalFn te (orcOf (P := Try.prog) []) lorc0 [] Try.f188 (pvs [.st .sndr, .st .sndr] (x0, x1, ())) =
  w_eqSender_N x0 x1 _ none (fun v => some [(false, [RC.c (.bool v)])]) := by kernel_rfl
theorem w_eqSender_p (x0 : Sndr) (x1 : Sndr)   (γ : Type) (fail : γ) (k : Bool → γ) : w_eqSender_N x0 x1 γ fail k = k (w_eqSender x0 x1) := by
  unfold w_eqSender_N w_eqSender
  exact bifT (f := k) (fun b0 => rfl)
      (fun b0 => bifT (f := k) (fun b1 => rfl)
      (fun b1 => bifT (f := k) (fun b2 => rfl)
      (fun b2 => bifT (f := k) (fun b3 => rfl)
      (fun b3 => bifT (f := k) (fun b4 => rfl)
      (fun b4 => bifT (f := k) (fun b5 => rfl)
      (fun b5 => rfl))))))
theorem w_eqSender_c (x0 : Sndr) (x1 : Sndr)  : Con Try.prog 188 (pvs [.st .sndr, .st .sndr] (x0, x1, ())) [rv (.sc .bool) [] (w_eqSender x0 x1)] := by
  exact evalFn_con0 teFact mixFact (orcOf_ok _) Try.func188 (by kernel_rfl) ((w_eqSender_lk x0 x1).trans (w_eqSender_p x0 x1  _ _ _))
noncomputable def w_eqSender_e : Ent1 Try.prog := entA 188 [.st .sndr, .st .sndr] (fun x => (w_eqSender x.1 x.2.1)) (fun v => [rv (.sc .bool) [] v]) (fun x => w_eqSender_c x.1 x.2.1)


/-- laws.szPiece -/
def w_szPiece_N (x0 : Piec) (x1 : Int) (γ : Type) (fail : γ) (k : Int → γ) : γ :=
  bif (decide ((IntKind.wrap .i64 (x1 - (x0.text.length : Int))) < 0)) then
    k (-1)
  else
  k (IntKind.wrap .i64 (x1 - (x0.text.length : Int)))
def w_szPiece (x0 : Piec) (x1 : Int) : Int :=
  bif (decide ((IntKind.wrap .i64 (x1 - (x0.text.length : Int))) < 0)) then
    (-1)
  else
  (IntKind.wrap .i64 (x1 - (x0.text.length : Int)))
theorem w_szPiece_lk (x0 : Piec) (x1 : Int) : evalFn te (orcOf (P := Try.prog) []) lorc0 [] Try.f207 (pvs [.st .piec, .sc (.int .i64)] (x0, x1, ())) =
  w_szPiece_N x0 x1 _ none (fun v => some [(false, [RC.c (.int .i64 v)])]) := by kernel_rfl
theorem w_szPiece_p (x0 : Piec) (x1 : Int)   (γ : Type) (fail : γ) (k : Int → γ) : w_szPiece_N x0 x1 γ fail k = k (w_szPiece x0 x1) := by
  unfold w_szPiece_N w_szPiece
  exact bifT (f := k) (fun b0 => rfl)
      (fun b0 => rfl)
theorem w_szPiece_c (x0 : Piec) (x1 : Int)  : Con Try.prog 207 (pvs [.st .piec, .sc (.int .i64)] (x0, x1, ())) [rv (.sc (.int .i64)) [] (w_szPiece x0 x1)] := by
  exact evalFn_con0 teFact mixFact (orcOf_ok _) Try.func207 (by kernel_rfl) ((w_szPiece_lk x0 x1).trans (w_szPiece_p x0 x1  _ _ _))
noncomputable def w_szPiece_e : Ent1 Try.prog := entA 207 [.st .piec, .sc (.int .i64)] (fun x => (w_szPiece x.1 x.2.1)) (fun v => [rv (.sc (.int .i64)) [] v]) (fun x => w_szPiece_c x.1 x.2.1)

theorem w_szPiece_sm (x0 : Piec) (x1 : Int)  (hn : 0 ≤ x1 ∧ x1 ≤ 1048576) (hx0_text : List.length x0.text ≤ 4611686018427387904) : (fun v : Int => 0 ≤ v → v ≤ 1048576 ∧ List.length x0.text ≤ 1048576) (w_szPiece x0 x1) := by
  unfold w_szPiece
  exact bifP (P := (fun v : Int => 0 ≤ v → v ≤ 1048576 ∧ List.length x0.text ≤ 1048576)) (fun b0 => (by (try simp only [Nat.ble_eq, Bool.and_eq_true, decide_eq_true_eq]); grind [maxSl, maxStr, toBytes_length, toInts_length, List.length_set, wrap64]))
      (fun b0 => (by (try simp only [Nat.ble_eq, Bool.and_eq_true, decide_eq_true_eq]); grind [maxSl, maxStr, toBytes_length, toInts_length, List.length_set, wrap64]))

/-- laws.toPiece -/
def w_toPiece_N (x0 : Piec) (γ : Type) (fail : γ) (k : Piec → γ) : γ :=
  k x0
def w_toPiece (x0 : Piec) : Piec :=
  x0
theorem w_toPiece_lk (x0 : Piec) : evalFn te (orcOf (P := Try.prog) []) lorc0 [] Try.f208 (pvs [.st .piec] (x0, ())) =
  w_toPiece_N x0 _ none (fun v => some [(true, [RC.c (.int .i64 v.off), RC.c (.str v.text)])]) := by kernel_rfl
theorem w_toPiece_p (x0 : Piec)   (γ : Type) (fail : γ) (k : Piec → γ) : w_toPiece_N x0 γ fail k = k (w_toPiece x0) := by
  unfold w_toPiece_N w_toPiece
  exact rfl
theorem w_toPiece_c (x0 : Piec)  : Con Try.prog 208 (pvs [.st .piec] (x0, ())) [rv (.st .piec) [] (w_toPiece x0)] := by
  exact evalFn_con0 teFact mixFact (orcOf_ok _) Try.func208 (by kernel_rfl) ((w_toPiece_lk x0).trans (w_toPiece_p x0  _ _ _))
noncomputable def w_toPiece_e : Ent1 Try.prog := entA 208 [.st .piec] (fun x => (w_toPiece x.1)) (fun v => [rv (.st .piec) [] v]) (fun x => w_toPiece_c x.1)


/-- laws.eqPiece -/
def w_eqPiece_N (x0 : Piec) (x1 : Piec) (γ : Type) (fail : γ) (k : Bool → γ) : γ :=
  bif (x0.off != x1.off) then
    k false
  else
  bif (!(x0.text == x1.text)) then
    k false
  else
  k true
def w_eqPiece (x0 : Piec) (x1 : Piec) : Bool :=
  bif (x0.off != x1.off) then
    false
  else
  bif (!(x0.text == x1.text)) then
    false
  else
  true
theorem w_eqPiece_lk (x0 : Piec) (x1 : Piec) : evalFn te (orcOf (P := Try.prog) []) lorc0 [] Try.f209 (pvs [.st .piec, .st .piec] (x0, x1, ())) =
  w_eqPiece_N x0 x1 _ none (fun v => some [(false, [RC.c (.bool v)])]) := by kernel_rfl
theorem w_eqPiece_p (x0 : Piec) (x1 : Piec)   (γ : Type) (fail : γ) (k : Bool → γ) : w_eqPiece_N x0 x1 γ fail k = k (w_eqPiece x0 x1) := by
  unfold w_eqPiece_N w_eqPiece
  exact bifT (f := k) (fun b0 => rfl)
      (fun b0 => bifT (f := k) (fun b1 => rfl)
      (fun b1 => rfl))
theorem w_eqPiece_c (x0 : Piec) (x1 : Piec)  : Con Try.prog 209 (pvs [.st .piec, .st .piec] (x0, x1, ())) [rv (.sc .bool) [] (w_eqPiece x0 x1)] := by
  exact evalFn_con0 teFact mixFact (orcOf_ok _) Try.func209 (by kernel_rfl) ((w_eqPiece_lk x0 x1).trans (w_eqPiece_p x0 x1  _ _ _))
noncomputable def w_eqPiece_e : Ent1 Try.prog := entA 209 [.st .piec, .st .piec] (fun x => (w_eqPiece x.1 x.2.1)) (fun v => [rv (.sc .bool) [] v]) (fun x => w_eqPiece_c x.1 x.2.1)


/-- laws.toHalfS -/
def w_toHalfS_ann : List (Nat × Keep) := [(0, ⟨[0, 3, 4], [], false, 0⟩)]
def w_toHalfS_L0_sh : Sh := ⟨[(0, false, [.sl .arg .half]), (3, false, [.own 0]), (4, false, [.int .i64])], [.arr .half false true]⟩
def w_toHalfS_L0_es : List (Ex × Sh) := [(.exit 0, ⟨[(2, false, [.undef]), (3, false, [.own 0])], [.arr .half false true]⟩)]
def w_toHalfS_L0_mk (v0 : List Half) (v1 : Int) (v2 : List Half) : w_toHalfS_L0_sh.T := (((v0, ()), (((), ()), ((v1, ()), ()))), (v2, ()))
def w_toHalfS_L0_mx0 (y0 : List Half) : Sh.T ⟨[(2, false, [.undef]), (3, false, [.own 0])], [.arr .half false true]⟩ := ((((), ()), (((), ()), ())), (y0, ()))
def w_toHalfS_L0_B (v0 : List Half) (v1 : Int) (v2 : List Half) (γ : Type) (fail : γ) (next : w_toHalfS_L0_sh.T → γ) (out : WT w_toHalfS_L0_es → γ) : γ :=
  bif (decide (v1 < (v0.length : Int))) then
    bif ((decide (0 ≤ v1)) && (decide (v1 < (v0.length : Int)))) then
    letK (α := Half) (w_toHalf (v0.getD v1.toNat (Ty.zero .half))) fun c2 =>
    bif ((decide (0 ≤ v1)) && (decide (v1 < (v2.length : Int)))) then
    next (w_toHalfS_L0_mk v0 (IntKind.wrap .i64 (v1 + 1)) (v2.set v1.toNat c2))
    else fail
    else fail
  else
  out (w_toHalfS_L0_mx0 v2)
theorem w_toHalfS_L0_par (v0 : List Half) (v1 : Int) (v2 : List Half) (γ : Type) (fail : γ) (next : w_toHalfS_L0_sh.T → γ) (out : WT w_toHalfS_L0_es → γ) : w_toHalfS_L0_B v0 v1 v2 γ fail next out = optK (w_toHalfS_L0_B v0 v1 v2 _ none (fun v' => some (.inl v')) (fun w => some (.inr w))) fail (fun r => Sum.elim next out r) := by
  unfold w_toHalfS_L0_B
  exact bifT (f := (fun o => optK o fail (fun r => Sum.elim next out r))) (fun _ => bifT (f := (fun o => optK o fail (fun r => Sum.elim next out r))) (fun _ => letT (f := (fun o => optK o fail (fun r => Sum.elim next out r))) (fun c2 _ => bifT (f := (fun o => optK o fail (fun r => Sum.elim next out r))) (fun _ => rfl) (fun _ => rfl))) (fun _ => rfl))
      (fun _ => rfl)
def w_toHalfS_L0_r : Round w_toHalfS_L0_sh.T (WT w_toHalfS_L0_es) where
  B v γ fail next out := w_toHalfS_L0_B v.1.1.1 v.1.2.2.1.1 v.2.1 γ fail next out
  par v γ fail next out := w_toHalfS_L0_par v.1.1.1 v.1.2.2.1.1 v.2.1 γ fail next out
def w_toHalfS_L0_fu (v0 : List Half) (v1 : Int) (v2 : List Half) : Nat := (Int.toNat ((v0.length : Int) - v1)) + 1
theorem w_toHalfS_L0_lk (v : w_toHalfS_L0_sh.T) (next : St → Option Res) (k : Ex → St → Option Res) : evalK te (orcOf (P := Try.prog) [w_toHalf_e]) (lorcOf []) Try.f74.ntmps w_toHalfS_ann (nthLoop (bodyOf Try.f74) 0 0) 0 (w_toHalfS_L0_sh.enc v) (endK ⟨[0, 3, 4], [], false, 0⟩ ⟨[2, 3], [], false, 0⟩ next k) =
  w_toHalfS_L0_r.B v _ none (fun v' => next (w_toHalfS_L0_sh.enc v')) (fun w => outK w_toHalfS_L0_es k w) := by kernel_rfl
def w_toHalfS_L0_le : LE := leOf 0 w_toHalfS_L0_sh w_toHalfS_L0_es w_toHalfS_L0_r.step (fun v => w_toHalfS_L0_fu v.1.1.1 v.1.2.2.1.1 v.2.1)
theorem w_toHalfS_L0_ls (w0 : World) (mo : Mts) (I0 : Nat → Prop) (hmo : mo.length = 0) : LSem Try.prog (Sim w0 mo Try.f74.ntmps I0) (fun b s k => match Nat.beq 0 b with | true => w_toHalfS_L0_le.run s k | false => none) 0 (nthLoop (bodyOf Try.f74) 0 0) :=
  le_sem hmo (lorc := lorcOf []) (ann := w_toHalfS_ann) (keep := ⟨[0, 3, 4], [], false, 0⟩) (kout := ⟨[2, 3], [], false, 0⟩) teFact mixFact (orcOf_ok _) (by kernel_rfl) (allLoops_of (bs := []) (by kernel_rfl) trivial) w_toHalfS_L0_r _ w_toHalfS_L0_lk
def w_toHalfS_L0_f (v0 : List Half) (v1 : Int) (a : List Half) : Stp (List Half) (Empty) :=
  letK (α := Half) (w_toHalf (v0.getD v1.toNat (Ty.zero .half))) fun c2 =>
  .next (a.set v1.toNat c2)
theorem w_toHalfS_L0_st (v0 : List Half) (v1 : Int) (v2 : List Half) (hlo : 0 ≤ v1) (hhi : v1 < (v0.length : Int)) (hN : (v0.length : Int) ≤ 4611686018427387904) (hinv : (v0.length : Int) ≤ (v2.length : Int)) : w_toHalfS_L0_r.step (w_toHalfS_L0_mk v0 v1 v2) = Stp.elim (fun a' : List Half => some (Sum.inl (w_toHalfS_L0_mk v0 (v1 + 1) a'))) (fun w => some (Sum.inr ((fun p : Empty => nomatch p) w))) (w_toHalfS_L0_f v0 v1 v2) := by
  have hw : (IntKind.wrap .i64 (v1 + 1)) = v1 + 1 := wrap64 (by omega) (by omega)
  show w_toHalfS_L0_B v0 v1 v2 (Option (w_toHalfS_L0_sh.T ⊕ WT w_toHalfS_L0_es)) none (fun v' => some (Sum.inl v')) (fun w => some (Sum.inr w)) = _
  unfold w_toHalfS_L0_B w_toHalfS_L0_f
  exact bifG (by simp only [decide_eq_true_eq]; omega) (bifG (by (try simp only [Nat.ble_eq, Bool.and_eq_true, decide_eq_true_eq]); grind [maxSl, maxStr, toBytes_length, toInts_length, List.length_set, wrap64]) (letT (f := (Stp.elim (fun a' : List Half => some (Sum.inl (w_toHalfS_L0_mk v0 (v1 + 1) a'))) (fun w => some (Sum.inr ((fun p : Empty => nomatch p) w))))) (fun c2 hc2 => bifG (by (try simp only [Nat.ble_eq, Bool.and_eq_true, decide_eq_true_eq]); grind [maxSl, maxStr, toBytes_length, toInts_length, List.length_set, wrap64]) ((by exact congrArg (fun z => some (Sum.inl (w_toHalfS_L0_mk v0 z (v2.set v1.toNat c2)))) hw)))))
theorem w_toHalfS_L0_cl (v0 : List Half) (v1 : Int) (v2 : List Half) (h0 : 0 ≤ v1) (h1 : (v0.length : Int) ≤ 4611686018427387904) (h2 : (v0.length : Int) ≤ (v2.length : Int)) : loopF w_toHalfS_L0_r.step (w_toHalfS_L0_fu v0 v1 v2) (w_toHalfS_L0_mk v0 v1 v2) = some (Stp.elim (fun a => (fun i a => w_toHalfS_L0_mx0 a) (v1 + 1 * (((Int.toNat ((v0.length : Int) - v1)) : Nat) : Int)) a) (fun p : Empty => nomatch p) (forN (w_toHalfS_L0_f v0) 1 (Int.toNat ((v0.length : Int) - v1)) v1 v2)) :=
  forN_loop (step := w_toHalfS_L0_r.step) (mk := fun v1 a => w_toHalfS_L0_mk v0 v1 a) (f := w_toHalfS_L0_f v0) (e := (fun i a => w_toHalfS_L0_mx0 a)) (emb := (fun p : Empty => nomatch p)) (st := 1) (Inv := fun v1 a => (v0.length : Int) ≤ (a.length : Int)) (Int.toNat ((v0.length : Int) - v1)) v1 v2 _ (Nat.lt_succ_self _) h2
    (fun j a hj hv => ⟨w_toHalfS_L0_st v0 (v1 + 1 * (j : Int)) a (by omega) (by omega) (by omega) hv, by
      intro a' he
      grind [w_toHalfS_L0_f, letK, Stp.elim, wrap64, List.length_set]⟩)
    (fun a hv => by
      show w_toHalfS_L0_B v0 (v1 + 1 * (((Int.toNat ((v0.length : Int) - v1)) : Nat) : Int)) a (Option (w_toHalfS_L0_sh.T ⊕ WT w_toHalfS_L0_es)) none (fun v' => some (Sum.inl v')) (fun w => some (Sum.inr w)) = _
      unfold w_toHalfS_L0_B
      exact bifN (by simp only [decide_eq_false_iff_not]; omega) rfl)
theorem w_toHalfS_L0_nx (v0 : List Half) (v1 : Int) (v2 : List Half) (h0 : 0 ≤ v1) (h1 : (v0.length : Int) ≤ 4611686018427387904) (h2 : (v0.length : Int) ≤ (v2.length : Int)) : ∀ a', forN (w_toHalfS_L0_f v0) 1 (Int.toNat ((v0.length : Int) - v1)) v1 v2 = .next a' → (v0.length : Int) ≤ (a'.length : Int) :=
  forN_inv (f := w_toHalfS_L0_f v0) (st := 1) (Inv := fun v1 a => (v0.length : Int) ≤ (a.length : Int)) (Int.toNat ((v0.length : Int) - v1)) v1 v2 h2
    (fun j a hj hv => by
      intro a' he
      grind [w_toHalfS_L0_f, letK, Stp.elim, wrap64, List.length_set])
def w_toHalfS_N (x0 : List Half) (γ : Type) (fail : γ) (k : List Half → γ) : γ :=
  bif ((((decide (0 ≤ (x0.length : Int))) && (decide ((x0.length : Int) = (x0.length : Int)))) && (decide ((x0.length : Int) * 96 ≤ (maxSl : Int)))) && (decide ((x0.length : Int) ≤ (maxSl : Int)))) then
  letK (α := List Half) (List.replicate ((x0.length : Int).toNat) (⟨⟨0, 0, 0⟩, 0, 0, ⟨0, 0, false, false, 0, 0⟩, 0, 0⟩ : Half)) fun l1 =>
  optK (loopF w_toHalfS_L0_r.step (w_toHalfS_L0_fu x0 0 l1) (w_toHalfS_L0_mk x0 0 l1)) fail fun w3 =>
    k w3.2.1
  else fail
def w_toHalfS (x0 : List Half) : List Half :=
  letK (α := List Half) (List.replicate ((x0.length : Int).toNat) (⟨⟨0, 0, 0⟩, 0, 0, ⟨0, 0, false, false, 0, 0⟩, 0, 0⟩ : Half)) fun l1 =>
  Stp.elim (fun a4 =>
    a4)
    (fun p : Empty => nomatch p)
    (forN (w_toHalfS_L0_f x0) 1 (Int.toNat ((x0.length : Int) - 0)) 0 l1)
theorem w_toHalfS_lk (x0 : List Half) : evalFn te (orcOf (P := Try.prog) [w_toHalf_e]) (lorcOf [w_toHalfS_L0_le]) w_toHalfS_ann Try.f74 (pvs [.sc (.sl .half)] (x0, ())) =
  w_toHalfS_N x0 _ none (fun v => some [(false, [RC.own true .half v])]) := by kernel_rfl
theorem w_toHalfS_p (x0 : List Half) (hx0 : x0.length ≤ 140737488355328) (hp : x0.length ≤ 4294967296) (γ : Type) (fail : γ) (k : List Half → γ) : w_toHalfS_N x0 γ fail k = k (w_toHalfS x0) := by
  unfold w_toHalfS_N w_toHalfS
  exact bifG (by (try simp only [Nat.ble_eq, Bool.and_eq_true, decide_eq_true_eq, w_toHalfS_L0_mx0]); grind [maxSl, maxStr, toBytes_length, toInts_length, List.length_set, wrap64]) (letT (f := k) (fun l1 hl1 => loopX (f := k) (w_toHalfS_L0_cl x0 0 l1 (by (try simp only [Nat.ble_eq, Bool.and_eq_true, decide_eq_true_eq, w_toHalfS_L0_mx0]); grind [maxSl, maxStr, toBytes_length, toInts_length, List.length_set, wrap64]) (by (try simp only [Nat.ble_eq, Bool.and_eq_true, decide_eq_true_eq, w_toHalfS_L0_mx0]); grind [maxSl, maxStr, toBytes_length, toInts_length, List.length_set, wrap64]) (by (try simp only [Nat.ble_eq, Bool.and_eq_true, decide_eq_true_eq, w_toHalfS_L0_mx0]); grind [maxSl, maxStr, toBytes_length, toInts_length, List.length_set, wrap64])) (fun a4 ha4 => have ia4 := w_toHalfS_L0_nx x0 0 l1 (by (try simp only [Nat.ble_eq, Bool.and_eq_true, decide_eq_true_eq, w_toHalfS_L0_mx0]); grind [maxSl, maxStr, toBytes_length, toInts_length, List.length_set, wrap64]) (by (try simp only [Nat.ble_eq, Bool.and_eq_true, decide_eq_true_eq, w_toHalfS_L0_mx0]); grind [maxSl, maxStr, toBytes_length, toInts_length, List.length_set, wrap64]) (by (try simp only [Nat.ble_eq, Bool.and_eq_true, decide_eq_true_eq, w_toHalfS_L0_mx0]); grind [maxSl, maxStr, toBytes_length, toInts_length, List.length_set, wrap64]) _ ha4; rfl)
      (fun p : Empty => nomatch p)))
theorem w_toHalfS_c (x0 : List Half) (hp : x0.length ≤ 4294967296) : Con Try.prog 74 (pvs [.sc (.sl .half)] (x0, ())) [rv (.sc (.sl .half)) [.o true] (w_toHalfS x0)] := by
  refine Con.of_facts (enters_of Try.func74 rfl (by kernel_rfl)) fun hf => ?_
  replace hf := factAt hf
  exact evalFn_conL teFact mixFact (orcOf_ok _) Try.func74 (by kernel_rfl) (bs := [0]) (by kernel_rfl) (by kernel_rfl) (fun w0 mo I0 hmo => ⟨lsem_of_lorc (w_toHalfS_L0_ls w0 mo I0 hmo) (by kernel_rfl), trivial⟩) ((w_toHalfS_lk x0).trans (w_toHalfS_p x0 ((hf 0 0 rfl rfl).len) hp _ _ _))
noncomputable def w_toHalfS_e : Ent1 Try.prog := entP 74 [.sc (.sl .half)] (fun x => (decide (x.1.length ≤ 4294967296))) (fun x => (w_toHalfS x.1)) (fun v => [rv (.sc (.sl .half)) [.o true] v]) (fun x hx => w_toHalfS_c x.1 (of_decide_eq_true hx))


/-- laws.eqHalf -/
def w_eqHalf_N (x0 : Half) (x1 : Half) (γ : Type) (fail : γ) (k : Bool → γ) : γ :=
  letK (α := Bool) (w_eqTuple x0.tuple x1.tuple) fun c1 =>
  bif (!c1) then
    k false
  else
  bif (x0.iss != x1.iss) then
    k false
  else
  bif (x0.irs != x1.irs) then
    k false
  else
  letK (α := Bool) (w_eqOptions x0.opts x1.opts) fun c2 =>
  bif (!c2) then
    k false
  else
  bif (x0.age != x1.age) then
    k false
  else
  bif (x0.window != x1.window) then
    k false
  else
  k true
def w_eqHalf (x0 : Half) (x1 : Half) : Bool :=
  letK (α := Bool) (w_eqTuple x0.tuple x1.tuple) fun c1 =>
  bif (!c1) then
    false
  else
  bif (x0.iss != x1.iss) then
    false
  else
  bif (x0.irs != x1.irs) then
    false
  else
  letK (α := Bool) (w_eqOptions x0.opts x1.opts) fun c2 =>
  bif (!c2) then
    false
  else
  bif (x0.age != x1.age) then
    false
  else
  bif (x0.window != x1.window) then
    false
  else
  true
theorem w_eqHalf_lk (x0 : Half) (x1 : Half) : evalFn te (orcOf (P := Try.prog) [w_eqTuple_e, w_eqOptions_e]) lorc0 [] Try.f127 (pvs [.st .half, .st .half] (x0, x1, ())) =
  w_eqHalf_N x0 x1 _ none (fun v => some [(false, [RC.c (.bool v)])]) := by kernel_rfl
theorem w_eqHalf_p (x0 : Half) (x1 : Half)   (γ : Type) (fail : γ) (k : Bool → γ) : w_eqHalf_N x0 x1 γ fail k = k (w_eqHalf x0 x1) := by
  unfold w_eqHalf_N w_eqHalf
  exact letT (f := k) (fun c1 hc1 => bifT (f := k) (fun b0 => rfl)
      (fun b0 => bifT (f := k) (fun b1 => rfl)
      (fun b1 => bifT (f := k) (fun b2 => rfl)
      (fun b2 => letT (f := k) (fun c2 hc2 => bifT (f := k) (fun b3 => rfl)
      (fun b3 => bifT (f := k) (fun b4 => rfl)
      (fun b4 => bifT (f := k) (fun b5 => rfl)
      (fun b5 => rfl))))))))
theorem w_eqHalf_c (x0 : Half) (x1 : Half)  : Con Try.prog 127 (pvs [.st .half, .st .half] (x0, x1, ())) [rv (.sc .bool) [] (w_eqHalf x0 x1)] := by
  exact evalFn_con0 teFact mixFact (orcOf_ok _) Try.func127 (by kernel_rfl) ((w_eqHalf_lk x0 x1).trans (w_eqHalf_p x0 x1  _ _ _))
noncomputable def w_eqHalf_e : Ent1 Try.prog := entA 127 [.st .half, .st .half] (fun x => (w_eqHalf x.1 x.2.1)) (fun v => [rv (.sc .bool) [] v]) (fun x => w_eqHalf_c x.1 x.2.1)


/-- laws.eqTupleS -/
def w_eqTupleS_ann : List (Nat × Keep) := [(0, ⟨[0, 1, 5], [], false, 0⟩)]
def w_eqTupleS_L0_sh : Sh := ⟨[(0, false, [.sl .arg .tupl]), (1, false, [.sl .arg .tupl]), (5, false, [.int .i64])], []⟩
def w_eqTupleS_L0_es : List (Ex × Sh) := [(.ret, ⟨[(4, false, [.bool])], []⟩), (.exit 0, ⟨[(4, false, [.undef])], []⟩)]
def w_eqTupleS_L0_mk (v0 : List Tupl) (v1 : List Tupl) (v2 : Int) : w_eqTupleS_L0_sh.T := (((v0, ()), ((v1, ()), ((v2, ()), ()))), ())
def w_eqTupleS_L0_mx0 (y0 : Bool) : Sh.T ⟨[(4, false, [.bool])], []⟩ := (((y0, ()), ()), ())
def w_eqTupleS_L0_mx1  : Sh.T ⟨[(4, false, [.undef])], []⟩ := ((((), ()), ()), ())
def w_eqTupleS_L0_B (v0 : List Tupl) (v1 : List Tupl) (v2 : Int) (γ : Type) (fail : γ) (next : w_eqTupleS_L0_sh.T → γ) (out : WT w_eqTupleS_L0_es → γ) : γ :=
  bif (decide (v2 < (v0.length : Int))) then
    bif ((decide (0 ≤ v2)) && (decide (v2 < (v0.length : Int)))) then
    bif ((decide (0 ≤ v2)) && (decide (v2 < (v1.length : Int)))) then
    letK (α := Bool) (w_eqTuple (v0.getD v2.toNat (Ty.zero .tupl)) (v1.getD v2.toNat (Ty.zero .tupl))) fun c1 =>
    bif (!c1) then
      out (Sum.inl (w_eqTupleS_L0_mx0 false))
    else
    next (w_eqTupleS_L0_mk v0 v1 (IntKind.wrap .i64 (v2 + 1)))
    else fail
    else fail
  else
  out (Sum.inr (w_eqTupleS_L0_mx1 ))
theorem w_eqTupleS_L0_par (v0 : List Tupl) (v1 : List Tupl) (v2 : Int) (γ : Type) (fail : γ) (next : w_eqTupleS_L0_sh.T → γ) (out : WT w_eqTupleS_L0_es → γ) : w_eqTupleS_L0_B v0 v1 v2 γ fail next out = optK (w_eqTupleS_L0_B v0 v1 v2 _ none (fun v' => some (.inl v')) (fun w => some (.inr w))) fail (fun r => Sum.elim next out r) := by
  unfold w_eqTupleS_L0_B
  exact bifT (f := (fun o => optK o fail (fun r => Sum.elim next out r))) (fun _ => bifT (f := (fun o => optK o fail (fun r => Sum.elim next out r))) (fun _ => bifT (f := (fun o => optK o fail (fun r => Sum.elim next out r))) (fun _ => letT (f := (fun o => optK o fail (fun r => Sum.elim next out r))) (fun c1 _ => bifT (f := (fun o => optK o fail (fun r => Sum.elim next out r))) (fun _ => rfl)
      (fun _ => rfl))) (fun _ => rfl)) (fun _ => rfl))
      (fun _ => rfl)
def w_eqTupleS_L0_r : Round w_eqTupleS_L0_sh.T (WT w_eqTupleS_L0_es) where
  B v γ fail next out := w_eqTupleS_L0_B v.1.1.1 v.1.2.1.1 v.1.2.2.1.1 γ fail next out
  par v γ fail next out := w_eqTupleS_L0_par v.1.1.1 v.1.2.1.1 v.1.2.2.1.1 γ fail next out
def w_eqTupleS_L0_fu (v0 : List Tupl) (v1 : List Tupl) (v2 : Int) : Nat := (Int.toNat ((v0.length : Int) - v2)) + 1
theorem w_eqTupleS_L0_lk (v : w_eqTupleS_L0_sh.T) (next : St → Option Res) (k : Ex → St → Option Res) : evalK te (orcOf (P := Try.prog) [w_eqTuple_e]) (lorcOf []) Try.f129.ntmps w_eqTupleS_ann (nthLoop (bodyOf Try.f129) 0 0) 0 (w_eqTupleS_L0_sh.enc v) (endK ⟨[0, 1, 5], [], false, 0⟩ ⟨[4], [], false, 0⟩ next k) =
  w_eqTupleS_L0_r.B v _ none (fun v' => next (w_eqTupleS_L0_sh.enc v')) (fun w => outK w_eqTupleS_L0_es k w) := by kernel_rfl
def w_eqTupleS_L0_le : LE := leOf 0 w_eqTupleS_L0_sh w_eqTupleS_L0_es w_eqTupleS_L0_r.step (fun v => w_eqTupleS_L0_fu v.1.1.1 v.1.2.1.1 v.1.2.2.1.1)
theorem w_eqTupleS_L0_ls (w0 : World) (mo : Mts) (I0 : Nat → Prop) (hmo : mo.length = 0) : LSem Try.prog (Sim w0 mo Try.f129.ntmps I0) (fun b s k => match Nat.beq 0 b with | true => w_eqTupleS_L0_le.run s k | false => none) 0 (nthLoop (bodyOf Try.f129) 0 0) :=
  le_sem hmo (lorc := lorcOf []) (ann := w_eqTupleS_ann) (keep := ⟨[0, 1, 5], [], false, 0⟩) (kout := ⟨[4], [], false, 0⟩) teFact mixFact (orcOf_ok _) (by kernel_rfl) (allLoops_of (bs := []) (by kernel_rfl) trivial) w_eqTupleS_L0_r _ w_eqTupleS_L0_lk
def w_eqTupleS_L0_f (v0 : List Tupl) (v1 : List Tupl) (v2 : Int) (a : Unit) : Stp (Unit) ((Unit)) :=
  letK (α := Bool) (w_eqTuple (v0.getD v2.toNat (Ty.zero .tupl)) (v1.getD v2.toNat (Ty.zero .tupl))) fun c1 =>
  bif (!c1) then
    .out (())
  else
  .next ()
theorem w_eqTupleS_L0_st (v0 : List Tupl) (v1 : List Tupl) (v2 : Int) (hlo : 0 ≤ v2) (hhi : v2 < (v0.length : Int)) (hN : (v0.length : Int) ≤ 4611686018427387904) (hi0 : (v0.length : Int) ≤ (v1.length : Int)) : w_eqTupleS_L0_r.step (w_eqTupleS_L0_mk v0 v1 v2) = Stp.elim (fun a' : Unit => some (Sum.inl (w_eqTupleS_L0_mk v0 v1 (v2 + 1)))) (fun w => some (Sum.inr ((fun p : Unit => Sum.inl (w_eqTupleS_L0_mx0 false)) w))) (w_eqTupleS_L0_f v0 v1 v2 ()) := by
  have hw : (IntKind.wrap .i64 (v2 + 1)) = v2 + 1 := wrap64 (by omega) (by omega)
  show w_eqTupleS_L0_B v0 v1 v2 (Option (w_eqTupleS_L0_sh.T ⊕ WT w_eqTupleS_L0_es)) none (fun v' => some (Sum.inl v')) (fun w => some (Sum.inr w)) = _
  unfold w_eqTupleS_L0_B w_eqTupleS_L0_f
  exact bifG (by simp only [decide_eq_true_eq]; omega) (bifG (by (try simp only [Nat.ble_eq, Bool.and_eq_true, decide_eq_true_eq]); grind [maxSl, maxStr, toBytes_length, toInts_length, List.length_set, wrap64]) (bifG (by (try simp only [Nat.ble_eq, Bool.and_eq_true, decide_eq_true_eq]); grind [maxSl, maxStr, toBytes_length, toInts_length, List.length_set, wrap64]) (letT (f := (Stp.elim (fun a' : Unit => some (Sum.inl (w_eqTupleS_L0_mk v0 v1 (v2 + 1)))) (fun w => some (Sum.inr ((fun p : Unit => Sum.inl (w_eqTupleS_L0_mx0 false)) w))))) (fun c1 hc1 => bifT (f := (Stp.elim (fun a' : Unit => some (Sum.inl (w_eqTupleS_L0_mk v0 v1 (v2 + 1)))) (fun w => some (Sum.inr ((fun p : Unit => Sum.inl (w_eqTupleS_L0_mx0 false)) w))))) (fun b0 => rfl)
      (fun b0 => (by exact congrArg (fun z => some (Sum.inl (w_eqTupleS_L0_mk v0 v1 z))) hw))))))
theorem w_eqTupleS_L0_cl (v0 : List Tupl) (v1 : List Tupl) (v2 : Int) (h0 : 0 ≤ v2) (h1 : (v0.length : Int) ≤ 4611686018427387904) (h2 : (v0.length : Int) ≤ (v1.length : Int)) : loopF w_eqTupleS_L0_r.step (w_eqTupleS_L0_fu v0 v1 v2) (w_eqTupleS_L0_mk v0 v1 v2) = some (Stp.elim (fun a => (fun i a => Sum.inr (w_eqTupleS_L0_mx1 )) (v2 + 1 * (((Int.toNat ((v0.length : Int) - v2)) : Nat) : Int)) a) (fun p : Unit => Sum.inl (w_eqTupleS_L0_mx0 false)) (forN (w_eqTupleS_L0_f v0 v1) 1 (Int.toNat ((v0.length : Int) - v2)) v2 ())) :=
  forN_loop (step := w_eqTupleS_L0_r.step) (mk := fun v2 a => w_eqTupleS_L0_mk v0 v1 v2) (f := w_eqTupleS_L0_f v0 v1) (e := (fun i a => Sum.inr (w_eqTupleS_L0_mx1 ))) (emb := (fun p : Unit => Sum.inl (w_eqTupleS_L0_mx0 false))) (st := 1) (Inv := fun v2 a => True) (Int.toNat ((v0.length : Int) - v2)) v2 () _ (Nat.lt_succ_self _) trivial
    (fun j a hj hv => ⟨w_eqTupleS_L0_st v0 v1 (v2 + 1 * (j : Int)) (by omega) (by omega) (by omega) h2, fun _ _ => trivial⟩)
    (fun a hv => by
      show w_eqTupleS_L0_B v0 v1 (v2 + 1 * (((Int.toNat ((v0.length : Int) - v2)) : Nat) : Int)) (Option (w_eqTupleS_L0_sh.T ⊕ WT w_eqTupleS_L0_es)) none (fun v' => some (Sum.inl v')) (fun w => some (Sum.inr w)) = _
      unfold w_eqTupleS_L0_B
      exact bifN (by simp only [decide_eq_false_iff_not]; omega) rfl)
def w_eqTupleS_N (x0 : List Tupl) (x1 : List Tupl) (γ : Type) (fail : γ) (k : Bool → γ) : γ :=
  bif ((x0.length : Int) != (x1.length : Int)) then
    k false
  else
  optK (loopF w_eqTupleS_L0_r.step (w_eqTupleS_L0_fu x0 x1 0) (w_eqTupleS_L0_mk x0 x1 0)) fail fun w2 =>
    Sum.elim (fun w2 =>
      k w2.1.1.1)
    (fun w2 =>
      k true) w2
def w_eqTupleS (x0 : List Tupl) (x1 : List Tupl) : Bool :=
  bif ((x0.length : Int) != (x1.length : Int)) then
    false
  else
  Stp.elim (fun a3 =>
    true)
    (fun p3 =>
      false)
    (forN (w_eqTupleS_L0_f x0 x1) 1 (Int.toNat ((x0.length : Int) - 0)) 0 ())
theorem w_eqTupleS_lk (x0 : List Tupl) (x1 : List Tupl) : evalFn te (orcOf (P := Try.prog) [w_eqTuple_e]) (lorcOf [w_eqTupleS_L0_le]) w_eqTupleS_ann Try.f129 (pvs [.sc (.sl .tupl), .sc (.sl .tupl)] (x0, x1, ())) =
  w_eqTupleS_N x0 x1 _ none (fun v => some [(false, [RC.c (.bool v)])]) := by kernel_rfl
theorem w_eqTupleS_p (x0 : List Tupl) (x1 : List Tupl) (hx0 : x0.length ≤ 140737488355328) (hx1 : x1.length ≤ 140737488355328)  (γ : Type) (fail : γ) (k : Bool → γ) : w_eqTupleS_N x0 x1 γ fail k = k (w_eqTupleS x0 x1) := by
  unfold w_eqTupleS_N w_eqTupleS
  exact bifT (f := k) (fun b0 => rfl)
      (fun b0 => loopT (f := k) (w_eqTupleS_L0_cl x0 x1 0 (by (try simp only [Nat.ble_eq, Bool.and_eq_true, decide_eq_true_eq, w_eqTupleS_L0_mx0, w_eqTupleS_L0_mx1]); grind [maxSl, maxStr, toBytes_length, toInts_length, List.length_set, wrap64]) (by (try simp only [Nat.ble_eq, Bool.and_eq_true, decide_eq_true_eq, w_eqTupleS_L0_mx0, w_eqTupleS_L0_mx1]); grind [maxSl, maxStr, toBytes_length, toInts_length, List.length_set, wrap64]) (by (try simp only [Nat.ble_eq, Bool.and_eq_true, decide_eq_true_eq, w_eqTupleS_L0_mx0, w_eqTupleS_L0_mx1]); grind [maxSl, maxStr, toBytes_length, toInts_length, List.length_set, wrap64])) (fun a3 => rfl)
      (fun p3 => rfl))
theorem w_eqTupleS_c (x0 : List Tupl) (x1 : List Tupl)  : Con Try.prog 129 (pvs [.sc (.sl .tupl), .sc (.sl .tupl)] (x0, x1, ())) [rv (.sc .bool) [] (w_eqTupleS x0 x1)] := by
  refine Con.of_facts (enters_of Try.func129 rfl (by kernel_rfl)) fun hf => ?_
  replace hf := factAt hf
  exact evalFn_conL teFact mixFact (orcOf_ok _) Try.func129 (by kernel_rfl) (bs := [0]) (by kernel_rfl) (by kernel_rfl) (fun w0 mo I0 hmo => ⟨lsem_of_lorc (w_eqTupleS_L0_ls w0 mo I0 hmo) (by kernel_rfl), trivial⟩) ((w_eqTupleS_lk x0 x1).trans (w_eqTupleS_p x0 x1 ((hf 0 0 rfl rfl).len) ((hf 1 0 rfl rfl).len) _ _ _))
noncomputable def w_eqTupleS_e : Ent1 Try.prog := entA 129 [.sc (.sl .tupl), .sc (.sl .tupl)] (fun x => (w_eqTupleS x.1 x.2.1)) (fun v => [rv (.sc .bool) [] v]) (fun x => w_eqTupleS_c x.1 x.2.1)


/-- laws.szMacRowS -/
def w_szMacRowS_ann : List (Nat × Keep) := [(0, ⟨[0, 1, 5], [], false, 0⟩)]
def w_szMacRowS_L0_sh : Sh := ⟨[(0, false, [.sl .arg .macRow]), (1, false, [.int .i64]), (5, false, [.int .i64])], []⟩
def w_szMacRowS_L0_es : List (Ex × Sh) := [(.ret, ⟨[(1, false, [.int .i64]), (4, false, [.int .i64])], []⟩), (.exit 0, ⟨[(1, false, [.int .i64]), (4, false, [.undef])], []⟩)]
def w_szMacRowS_L0_mk (v0 : List MacRow) (v1 : Int) (v2 : Int) : w_szMacRowS_L0_sh.T := (((v0, ()), ((v1, ()), ((v2, ()), ()))), ())
def w_szMacRowS_L0_mx0 (y0 : Int) (y1 : Int) : Sh.T ⟨[(1, false, [.int .i64]), (4, false, [.int .i64])], []⟩ := (((y0, ()), ((y1, ()), ())), ())
def w_szMacRowS_L0_mx1 (y0 : Int) : Sh.T ⟨[(1, false, [.int .i64]), (4, false, [.undef])], []⟩ := (((y0, ()), (((), ()), ())), ())
def w_szMacRowS_L0_B (v0 : List MacRow) (v1 : Int) (v2 : Int) (γ : Type) (fail : γ) (next : w_szMacRowS_L0_sh.T → γ) (out : WT w_szMacRowS_L0_es → γ) : γ :=
  bif (decide (v2 < (v0.length : Int))) then
    bif ((decide (0 ≤ v2)) && (decide (v2 < (v0.length : Int)))) then
    letK (α := Int) (w_szMacRow (v0.getD v2.toNat (Ty.zero .macRow)) v1) fun c1 =>
    bif (decide (c1 < 0)) then
      out (Sum.inl (w_szMacRowS_L0_mx0 c1 (-1)))
    else
    next (w_szMacRowS_L0_mk v0 c1 (IntKind.wrap .i64 (v2 + 1)))
    else fail
  else
  out (Sum.inr (w_szMacRowS_L0_mx1 v1))
theorem w_szMacRowS_L0_par (v0 : List MacRow) (v1 : Int) (v2 : Int) (γ : Type) (fail : γ) (next : w_szMacRowS_L0_sh.T → γ) (out : WT w_szMacRowS_L0_es → γ) : w_szMacRowS_L0_B v0 v1 v2 γ fail next out = optK (w_szMacRowS_L0_B v0 v1 v2 _ none (fun v' => some (.inl v')) (fun w => some (.inr w))) fail (fun r => Sum.elim next out r) := by
  unfold w_szMacRowS_L0_B
  exact bifT (f := (fun o => optK o fail (fun r => Sum.elim next out r))) (fun _ => bifT (f := (fun o => optK o fail (fun r => Sum.elim next out r))) (fun _ => letT (f := (fun o => optK o fail (fun r => Sum.elim next out r))) (fun c1 _ => bifT (f := (fun o => optK o fail (fun r => Sum.elim next out r))) (fun _ => rfl)
      (fun _ => rfl))) (fun _ => rfl))
      (fun _ => rfl)
def w_szMacRowS_L0_r : Round w_szMacRowS_L0_sh.T (WT w_szMacRowS_L0_es) where
  B v γ fail next out := w_szMacRowS_L0_B v.1.1.1 v.1.2.1.1 v.1.2.2.1.1 γ fail next out
  par v γ fail next out := w_szMacRowS_L0_par v.1.1.1 v.1.2.1.1 v.1.2.2.1.1 γ fail next out
def w_szMacRowS_L0_fu (v0 : List MacRow) (v1 : Int) (v2 : Int) : Nat := (Int.toNat ((v0.length : Int) - v2)) + 1
theorem w_szMacRowS_L0_lk (v : w_szMacRowS_L0_sh.T) (next : St → Option Res) (k : Ex → St → Option Res) : evalK te (orcOf (P := Try.prog) [w_szMacRow_e]) (lorcOf []) Try.f158.ntmps w_szMacRowS_ann (nthLoop (bodyOf Try.f158) 0 0) 0 (w_szMacRowS_L0_sh.enc v) (endK ⟨[0, 1, 5], [], false, 0⟩ ⟨[1, 4], [], false, 0⟩ next k) =
  w_szMacRowS_L0_r.B v _ none (fun v' => next (w_szMacRowS_L0_sh.enc v')) (fun w => outK w_szMacRowS_L0_es k w) := by kernel_rfl
def w_szMacRowS_L0_le : LE := leOf 0 w_szMacRowS_L0_sh w_szMacRowS_L0_es w_szMacRowS_L0_r.step (fun v => w_szMacRowS_L0_fu v.1.1.1 v.1.2.1.1 v.1.2.2.1.1)
theorem w_szMacRowS_L0_ls (w0 : World) (mo : Mts) (I0 : Nat → Prop) (hmo : mo.length = 0) : LSem Try.prog (Sim w0 mo Try.f158.ntmps I0) (fun b s k => match Nat.beq 0 b with | true => w_szMacRowS_L0_le.run s k | false => none) 0 (nthLoop (bodyOf Try.f158) 0 0) :=
  le_sem hmo (lorc := lorcOf []) (ann := w_szMacRowS_ann) (keep := ⟨[0, 1, 5], [], false, 0⟩) (kout := ⟨[1, 4], [], false, 0⟩) teFact mixFact (orcOf_ok _) (by kernel_rfl) (allLoops_of (bs := []) (by kernel_rfl) trivial) w_szMacRowS_L0_r _ w_szMacRowS_L0_lk
def w_szMacRowS_L0_f (v0 : List MacRow) (v2 : Int) (a : Int) : Stp (Int) ((Int)) :=
  letK (α := Int) (w_szMacRow (v0.getD v2.toNat (Ty.zero .macRow)) a) fun c1 =>
  bif (decide (c1 < 0)) then
    .out (c1)
  else
  .next c1
theorem w_szMacRowS_L0_st (v0 : List MacRow) (v1 : Int) (v2 : Int) (hlo : 0 ≤ v2) (hhi : v2 < (v0.length : Int)) (hN : (v0.length : Int) ≤ 4611686018427387904) : w_szMacRowS_L0_r.step (w_szMacRowS_L0_mk v0 v1 v2) = Stp.elim (fun a' : Int => some (Sum.inl (w_szMacRowS_L0_mk v0 a' (v2 + 1)))) (fun w => some (Sum.inr ((fun p : Int => Sum.inl (w_szMacRowS_L0_mx0 p (-1))) w))) (w_szMacRowS_L0_f v0 v2 v1) := by
  have hw : (IntKind.wrap .i64 (v2 + 1)) = v2 + 1 := wrap64 (by omega) (by omega)
  show w_szMacRowS_L0_B v0 v1 v2 (Option (w_szMacRowS_L0_sh.T ⊕ WT w_szMacRowS_L0_es)) none (fun v' => some (Sum.inl v')) (fun w => some (Sum.inr w)) = _
  unfold w_szMacRowS_L0_B w_szMacRowS_L0_f
  exact bifG (by simp only [decide_eq_true_eq]; omega) (bifG (by (try simp only [Nat.ble_eq, Bool.and_eq_true, decide_eq_true_eq]); grind [maxSl, maxStr, toBytes_length, toInts_length, List.length_set, wrap64, w_szMacRow_sm]) (letT (f := (Stp.elim (fun a' : Int => some (Sum.inl (w_szMacRowS_L0_mk v0 a' (v2 + 1)))) (fun w => some (Sum.inr ((fun p : Int => Sum.inl (w_szMacRowS_L0_mx0 p (-1))) w))))) (fun c1 hc1 => bifT (f := (Stp.elim (fun a' : Int => some (Sum.inl (w_szMacRowS_L0_mk v0 a' (v2 + 1)))) (fun w => some (Sum.inr ((fun p : Int => Sum.inl (w_szMacRowS_L0_mx0 p (-1))) w))))) (fun b0 => rfl)
      (fun b0 => (by exact congrArg (fun z => some (Sum.inl (w_szMacRowS_L0_mk v0 c1 z))) hw)))))
theorem w_szMacRowS_L0_cl (v0 : List MacRow) (v1 : Int) (v2 : Int) (h0 : 0 ≤ v2) (h1 : (v0.length : Int) ≤ 4611686018427387904) : loopF w_szMacRowS_L0_r.step (w_szMacRowS_L0_fu v0 v1 v2) (w_szMacRowS_L0_mk v0 v1 v2) = some (Stp.elim (fun a => (fun i a => Sum.inr (w_szMacRowS_L0_mx1 a)) (v2 + 1 * (((Int.toNat ((v0.length : Int) - v2)) : Nat) : Int)) a) (fun p : Int => Sum.inl (w_szMacRowS_L0_mx0 p (-1))) (forN (w_szMacRowS_L0_f v0) 1 (Int.toNat ((v0.length : Int) - v2)) v2 v1)) :=
  forN_loop (step := w_szMacRowS_L0_r.step) (mk := fun v2 a => w_szMacRowS_L0_mk v0 a v2) (f := w_szMacRowS_L0_f v0) (e := (fun i a => Sum.inr (w_szMacRowS_L0_mx1 a))) (emb := (fun p : Int => Sum.inl (w_szMacRowS_L0_mx0 p (-1)))) (st := 1) (Inv := fun v2 a => True) (Int.toNat ((v0.length : Int) - v2)) v2 v1 _ (Nat.lt_succ_self _) trivial
    (fun j a hj hv => ⟨w_szMacRowS_L0_st v0 a (v2 + 1 * (j : Int)) (by omega) (by omega) (by omega), fun _ _ => trivial⟩)
    (fun a hv => by
      show w_szMacRowS_L0_B v0 a (v2 + 1 * (((Int.toNat ((v0.length : Int) - v2)) : Nat) : Int)) (Option (w_szMacRowS_L0_sh.T ⊕ WT w_szMacRowS_L0_es)) none (fun v' => some (Sum.inl v')) (fun w => some (Sum.inr w)) = _
      unfold w_szMacRowS_L0_B
      exact bifN (by simp only [decide_eq_false_iff_not]; omega) rfl)
def w_szMacRowS_N (x0 : List MacRow) (x1 : Int) (γ : Type) (fail : γ) (k : Int → γ) : γ :=
  bif (decide ((IntKind.wrap .i64 (x1 - (x0.length : Int))) < 0)) then
    k (-1)
  else
  optK (loopF w_szMacRowS_L0_r.step (w_szMacRowS_L0_fu x0 (IntKind.wrap .i64 (x1 - (x0.length : Int))) 0) (w_szMacRowS_L0_mk x0 (IntKind.wrap .i64 (x1 - (x0.length : Int))) 0)) fail fun w2 =>
    Sum.elim (fun w2 =>
      k w2.1.2.1.1)
    (fun w2 =>
      k w2.1.1.1) w2
def w_szMacRowS (x0 : List MacRow) (x1 : Int) : Int :=
  bif (decide ((IntKind.wrap .i64 (x1 - (x0.length : Int))) < 0)) then
    (-1)
  else
  Stp.elim (fun a3 =>
    a3)
    (fun p3 =>
      (-1))
    (forN (w_szMacRowS_L0_f x0) 1 (Int.toNat ((x0.length : Int) - 0)) 0 (IntKind.wrap .i64 (x1 - (x0.length : Int))))
theorem w_szMacRowS_lk (x0 : List MacRow) (x1 : Int) : evalFn te (orcOf (P := Try.prog) [w_szMacRow_e]) (lorcOf [w_szMacRowS_L0_le]) w_szMacRowS_ann Try.f158 (pvs [.sc (.sl .macRow), .sc (.int .i64)] (x0, x1, ())) =
  w_szMacRowS_N x0 x1 _ none (fun v => some [(false, [RC.c (.int .i64 v)])]) := by kernel_rfl
theorem w_szMacRowS_p (x0 : List MacRow) (x1 : Int) (hx0 : x0.length ≤ 140737488355328) (hx0_e : ∀ y ∈ x0, ∀ c ∈ Ty.cells .macRow y, FactC c) (hx1 : inK .i64 x1)  (γ : Type) (fail : γ) (k : Int → γ) : w_szMacRowS_N x0 x1 γ fail k = k (w_szMacRowS x0 x1) := by
  unfold w_szMacRowS_N w_szMacRowS
  exact bifT (f := k) (fun b0 => rfl)
      (fun b0 => loopT (f := k) (w_szMacRowS_L0_cl x0 (IntKind.wrap .i64 (x1 - (x0.length : Int))) 0 (by (try simp only [Nat.ble_eq, Bool.and_eq_true, decide_eq_true_eq, w_szMacRowS_L0_mx0, w_szMacRowS_L0_mx1]); grind [maxSl, maxStr, toBytes_length, toInts_length, List.length_set, wrap64, w_szMacRow_sm]) (by (try simp only [Nat.ble_eq, Bool.and_eq_true, decide_eq_true_eq, w_szMacRowS_L0_mx0, w_szMacRowS_L0_mx1]); grind [maxSl, maxStr, toBytes_length, toInts_length, List.length_set, wrap64, w_szMacRow_sm])) (fun a3 => rfl)
      (fun p3 => rfl))
theorem w_szMacRowS_c (x0 : List MacRow) (x1 : Int)  : Con Try.prog 158 (pvs [.sc (.sl .macRow), .sc (.int .i64)] (x0, x1, ())) [rv (.sc (.int .i64)) [] (w_szMacRowS x0 x1)] := by
  refine Con.of_facts (enters_of Try.func158 rfl (by kernel_rfl)) fun hf => ?_
  replace hf := factAt hf
  exact evalFn_conL teFact mixFact (orcOf_ok _) Try.func158 (by kernel_rfl) (bs := [0]) (by kernel_rfl) (by kernel_rfl) (fun w0 mo I0 hmo => ⟨lsem_of_lorc (w_szMacRowS_L0_ls w0 mo I0 hmo) (by kernel_rfl), trivial⟩) ((w_szMacRowS_lk x0 x1).trans (w_szMacRowS_p x0 x1 ((hf 0 0 rfl rfl).len) (fun y hy => (hf 0 0 rfl rfl).elem hy) ((hf 1 0 rfl rfl).rng) _ _ _))
noncomputable def w_szMacRowS_e : Ent1 Try.prog := entA 158 [.sc (.sl .macRow), .sc (.int .i64)] (fun x => (w_szMacRowS x.1 x.2.1)) (fun v => [rv (.sc (.int .i64)) [] v]) (fun x => w_szMacRowS_c x.1 x.2.1)


/-- laws.toMacRowS -/
def w_toMacRowS_ann : List (Nat × Keep) := [(0, ⟨[0, 3, 4], [], false, 0⟩)]
def w_toMacRowS_L0_sh : Sh := ⟨[(0, false, [.sl .arg .macRow]), (3, false, [.own 0]), (4, false, [.int .i64])], [.arr .macRow false true]⟩
def w_toMacRowS_L0_es : List (Ex × Sh) := [(.exit 0, ⟨[(2, false, [.undef]), (3, false, [.own 0])], [.arr .macRow false true]⟩)]
def w_toMacRowS_L0_mk (v0 : List MacRow) (v1 : Int) (v2 : List MacRow) : w_toMacRowS_L0_sh.T := (((v0, ()), (((), ()), ((v1, ()), ()))), (v2, ()))
def w_toMacRowS_L0_mx0 (y0 : List MacRow) : Sh.T ⟨[(2, false, [.undef]), (3, false, [.own 0])], [.arr .macRow false true]⟩ := ((((), ()), (((), ()), ())), (y0, ()))
def w_toMacRowS_L0_B (v0 : List MacRow) (v1 : Int) (v2 : List MacRow) (γ : Type) (fail : γ) (next : w_toMacRowS_L0_sh.T → γ) (out : WT w_toMacRowS_L0_es → γ) : γ :=
  bif (decide (v1 < (v0.length : Int))) then
    bif ((decide (0 ≤ v1)) && (decide (v1 < (v0.length : Int)))) then
    letK (α := MacRow) (w_toMacRow (v0.getD v1.toNat (Ty.zero .macRow))) fun c1 =>
    bif ((decide (0 ≤ v1)) && (decide (v1 < (v2.length : Int)))) then
    next (w_toMacRowS_L0_mk v0 (IntKind.wrap .i64 (v1 + 1)) (v2.set v1.toNat c1))
    else fail
    else fail
  else
  out (w_toMacRowS_L0_mx0 v2)
theorem w_toMacRowS_L0_par (v0 : List MacRow) (v1 : Int) (v2 : List MacRow) (γ : Type) (fail : γ) (next : w_toMacRowS_L0_sh.T → γ) (out : WT w_toMacRowS_L0_es → γ) : w_toMacRowS_L0_B v0 v1 v2 γ fail next out = optK (w_toMacRowS_L0_B v0 v1 v2 _ none (fun v' => some (.inl v')) (fun w => some (.inr w))) fail (fun r => Sum.elim next out r) := by
  unfold w_toMacRowS_L0_B
  exact bifT (f := (fun o => optK o fail (fun r => Sum.elim next out r))) (fun _ => bifT (f := (fun o => optK o fail (fun r => Sum.elim next out r))) (fun _ => letT (f := (fun o => optK o fail (fun r => Sum.elim next out r))) (fun c1 _ => bifT (f := (fun o => optK o fail (fun r => Sum.elim next out r))) (fun _ => rfl) (fun _ => rfl))) (fun _ => rfl))
      (fun _ => rfl)
def w_toMacRowS_L0_r : Round w_toMacRowS_L0_sh.T (WT w_toMacRowS_L0_es) where
  B v γ fail next out := w_toMacRowS_L0_B v.1.1.1 v.1.2.2.1.1 v.2.1 γ fail next out
  par v γ fail next out := w_toMacRowS_L0_par v.1.1.1 v.1.2.2.1.1 v.2.1 γ fail next out
def w_toMacRowS_L0_fu (v0 : List MacRow) (v1 : Int) (v2 : List MacRow) : Nat := (Int.toNat ((v0.length : Int) - v1)) + 1
theorem w_toMacRowS_L0_lk (v : w_toMacRowS_L0_sh.T) (next : St → Option Res) (k : Ex → St → Option Res) : evalK te (orcOf (P := Try.prog) [w_toMacRow_e]) (lorcOf []) Try.f160.ntmps w_toMacRowS_ann (nthLoop (bodyOf Try.f160) 0 0) 0 (w_toMacRowS_L0_sh.enc v) (endK ⟨[0, 3, 4], [], false, 0⟩ ⟨[2, 3], [], false, 0⟩ next k) =
  w_toMacRowS_L0_r.B v _ none (fun v' => next (w_toMacRowS_L0_sh.enc v')) (fun w => outK w_toMacRowS_L0_es k w) := by kernel_rfl
def w_toMacRowS_L0_le : LE := leOf 0 w_toMacRowS_L0_sh w_toMacRowS_L0_es w_toMacRowS_L0_r.step (fun v => w_toMacRowS_L0_fu v.1.1.1 v.1.2.2.1.1 v.2.1)
theorem w_toMacRowS_L0_ls (w0 : World) (mo : Mts) (I0 : Nat → Prop) (hmo : mo.length = 0) : LSem Try.prog (Sim w0 mo Try.f160.ntmps I0) (fun b s k => match Nat.beq 0 b with | true => w_toMacRowS_L0_le.run s k | false => none) 0 (nthLoop (bodyOf Try.f160) 0 0) :=
  le_sem hmo (lorc := lorcOf []) (ann := w_toMacRowS_ann) (keep := ⟨[0, 3, 4], [], false, 0⟩) (kout := ⟨[2, 3], [], false, 0⟩) teFact mixFact (orcOf_ok _) (by kernel_rfl) (allLoops_of (bs := []) (by kernel_rfl) trivial) w_toMacRowS_L0_r _ w_toMacRowS_L0_lk
def w_toMacRowS_L0_f (v0 : List MacRow) (v1 : Int) (a : List MacRow) : Stp (List MacRow) (Empty) :=
  letK (α := MacRow) (w_toMacRow (v0.getD v1.toNat (Ty.zero .macRow))) fun c1 =>
  .next (a.set v1.toNat c1)
theorem w_toMacRowS_L0_st (v0 : List MacRow) (v1 : Int) (v2 : List MacRow) (hlo : 0 ≤ v1) (hhi : v1 < (v0.length : Int)) (hN : (v0.length : Int) ≤ 4611686018427387904) (hinv : (v0.length : Int) ≤ (v2.length : Int)) : w_toMacRowS_L0_r.step (w_toMacRowS_L0_mk v0 v1 v2) = Stp.elim (fun a' : List MacRow => some (Sum.inl (w_toMacRowS_L0_mk v0 (v1 + 1) a'))) (fun w => some (Sum.inr ((fun p : Empty => nomatch p) w))) (w_toMacRowS_L0_f v0 v1 v2) := by
  have hw : (IntKind.wrap .i64 (v1 + 1)) = v1 + 1 := wrap64 (by omega) (by omega)
  show w_toMacRowS_L0_B v0 v1 v2 (Option (w_toMacRowS_L0_sh.T ⊕ WT w_toMacRowS_L0_es)) none (fun v' => some (Sum.inl v')) (fun w => some (Sum.inr w)) = _
  unfold w_toMacRowS_L0_B w_toMacRowS_L0_f
  exact bifG (by simp only [decide_eq_true_eq]; omega) (bifG (by (try simp only [Nat.ble_eq, Bool.and_eq_true, decide_eq_true_eq]); grind [maxSl, maxStr, toBytes_length, toInts_length, List.length_set, wrap64]) (letT (f := (Stp.elim (fun a' : List MacRow => some (Sum.inl (w_toMacRowS_L0_mk v0 (v1 + 1) a'))) (fun w => some (Sum.inr ((fun p : Empty => nomatch p) w))))) (fun c1 hc1 => bifG (by (try simp only [Nat.ble_eq, Bool.and_eq_true, decide_eq_true_eq]); grind [maxSl, maxStr, toBytes_length, toInts_length, List.length_set, wrap64]) ((by exact congrArg (fun z => some (Sum.inl (w_toMacRowS_L0_mk v0 z (v2.set v1.toNat c1)))) hw)))))
theorem w_toMacRowS_L0_cl (v0 : List MacRow) (v1 : Int) (v2 : List MacRow) (h0 : 0 ≤ v1) (h1 : (v0.length : Int) ≤ 4611686018427387904) (h2 : (v0.length : Int) ≤ (v2.length : Int)) : loopF w_toMacRowS_L0_r.step (w_toMacRowS_L0_fu v0 v1 v2) (w_toMacRowS_L0_mk v0 v1 v2) = some (Stp.elim (fun a => (fun i a => w_toMacRowS_L0_mx0 a) (v1 + 1 * (((Int.toNat ((v0.length : Int) - v1)) : Nat) : Int)) a) (fun p : Empty => nomatch p) (forN (w_toMacRowS_L0_f v0) 1 (Int.toNat ((v0.length : Int) - v1)) v1 v2)) :=
  forN_loop (step := w_toMacRowS_L0_r.step) (mk := fun v1 a => w_toMacRowS_L0_mk v0 v1 a) (f := w_toMacRowS_L0_f v0) (e := (fun i a => w_toMacRowS_L0_mx0 a)) (emb := (fun p : Empty => nomatch p)) (st := 1) (Inv := fun v1 a => (v0.length : Int) ≤ (a.length : Int)) (Int.toNat ((v0.length : Int) - v1)) v1 v2 _ (Nat.lt_succ_self _) h2
    (fun j a hj hv => ⟨w_toMacRowS_L0_st v0 (v1 + 1 * (j : Int)) a (by omega) (by omega) (by omega) hv, by
      intro a' he
      grind [w_toMacRowS_L0_f, letK, Stp.elim, wrap64, List.length_set]⟩)
    (fun a hv => by
      show w_toMacRowS_L0_B v0 (v1 + 1 * (((Int.toNat ((v0.length : Int) - v1)) : Nat) : Int)) a (Option (w_toMacRowS_L0_sh.T ⊕ WT w_toMacRowS_L0_es)) none (fun v' => some (Sum.inl v')) (fun w => some (Sum.inr w)) = _
      unfold w_toMacRowS_L0_B
      exact bifN (by simp only [decide_eq_false_iff_not]; omega) rfl)
theorem w_toMacRowS_L0_nx (v0 : List MacRow) (v1 : Int) (v2 : List MacRow) (h0 : 0 ≤ v1) (h1 : (v0.length : Int) ≤ 4611686018427387904) (h2 : (v0.length : Int) ≤ (v2.length : Int)) : ∀ a', forN (w_toMacRowS_L0_f v0) 1 (Int.toNat ((v0.length : Int) - v1)) v1 v2 = .next a' → (v0.length : Int) ≤ (a'.length : Int) :=
  forN_inv (f := w_toMacRowS_L0_f v0) (st := 1) (Inv := fun v1 a => (v0.length : Int) ≤ (a.length : Int)) (Int.toNat ((v0.length : Int) - v1)) v1 v2 h2
    (fun j a hj hv => by
      intro a' he
      grind [w_toMacRowS_L0_f, letK, Stp.elim, wrap64, List.length_set])
def w_toMacRowS_N (x0 : List MacRow) (γ : Type) (fail : γ) (k : List MacRow → γ) : γ :=
  bif ((((decide (0 ≤ (x0.length : Int))) && (decide ((x0.length : Int) = (x0.length : Int)))) && (decide ((x0.length : Int) * 24 ≤ (maxSl : Int)))) && (decide ((x0.length : Int) ≤ (maxSl : Int)))) then
  optK (loopF w_toMacRowS_L0_r.step (w_toMacRowS_L0_fu x0 0 (List.replicate ((x0.length : Int).toNat) (⟨[], 0⟩ : MacRow))) (w_toMacRowS_L0_mk x0 0 (List.replicate ((x0.length : Int).toNat) (⟨[], 0⟩ : MacRow)))) fail fun w2 =>
    k w2.2.1
  else fail
def w_toMacRowS (x0 : List MacRow) : List MacRow :=
  Stp.elim (fun a3 =>
    a3)
    (fun p : Empty => nomatch p)
    (forN (w_toMacRowS_L0_f x0) 1 (Int.toNat ((x0.length : Int) - 0)) 0 (List.replicate ((x0.length : Int).toNat) (⟨[], 0⟩ : MacRow)))
theorem w_toMacRowS_lk (x0 : List MacRow) : evalFn te (orcOf (P := Try.prog) [w_toMacRow_e]) (lorcOf [w_toMacRowS_L0_le]) w_toMacRowS_ann Try.f160 (pvs [.sc (.sl .macRow)] (x0, ())) =
  w_toMacRowS_N x0 _ none (fun v => some [(false, [RC.own true .macRow v])]) := by kernel_rfl
theorem w_toMacRowS_p (x0 : List MacRow) (hx0 : x0.length ≤ 140737488355328) (hx0_e : ∀ y ∈ x0, ∀ c ∈ Ty.cells .macRow y, FactC c) (hp : x0.length ≤ 4294967296) (γ : Type) (fail : γ) (k : List MacRow → γ) : w_toMacRowS_N x0 γ fail k = k (w_toMacRowS x0) := by
  unfold w_toMacRowS_N w_toMacRowS
  exact bifG (by (try simp only [Nat.ble_eq, Bool.and_eq_true, decide_eq_true_eq, w_toMacRowS_L0_mx0]); grind [maxSl, maxStr, toBytes_length, toInts_length, List.length_set, wrap64]) (loopX (f := k) (w_toMacRowS_L0_cl x0 0 (List.replicate ((x0.length : Int).toNat) (⟨[], 0⟩ : MacRow)) (by (try simp only [Nat.ble_eq, Bool.and_eq_true, decide_eq_true_eq, w_toMacRowS_L0_mx0]); grind [maxSl, maxStr, toBytes_length, toInts_length, List.length_set, wrap64]) (by (try simp only [Nat.ble_eq, Bool.and_eq_true, decide_eq_true_eq, w_toMacRowS_L0_mx0]); grind [maxSl, maxStr, toBytes_length, toInts_length, List.length_set, wrap64]) (by (try simp only [Nat.ble_eq, Bool.and_eq_true, decide_eq_true_eq, w_toMacRowS_L0_mx0]); grind [maxSl, maxStr, toBytes_length, toInts_length, List.length_set, wrap64])) (fun a3 ha3 => have ia3 := w_toMacRowS_L0_nx x0 0 (List.replicate ((x0.length : Int).toNat) (⟨[], 0⟩ : MacRow)) (by (try simp only [Nat.ble_eq, Bool.and_eq_true, decide_eq_true_eq, w_toMacRowS_L0_mx0]); grind [maxSl, maxStr, toBytes_length, toInts_length, List.length_set, wrap64]) (by (try simp only [Nat.ble_eq, Bool.and_eq_true, decide_eq_true_eq, w_toMacRowS_L0_mx0]); grind [maxSl, maxStr, toBytes_length, toInts_length, List.length_set, wrap64]) (by (try simp only [Nat.ble_eq, Bool.and_eq_true, decide_eq_true_eq, w_toMacRowS_L0_mx0]); grind [maxSl, maxStr, toBytes_length, toInts_length, List.length_set, wrap64]) _ ha3; rfl)
      (fun p : Empty => nomatch p))
theorem w_toMacRowS_c (x0 : List MacRow) (hp : x0.length ≤ 4294967296) : Con Try.prog 160 (pvs [.sc (.sl .macRow)] (x0, ())) [rv (.sc (.sl .macRow)) [.o true] (w_toMacRowS x0)] := by
  refine Con.of_facts (enters_of Try.func160 rfl (by kernel_rfl)) fun hf => ?_
  replace hf := factAt hf
  exact evalFn_conL teFact mixFact (orcOf_ok _) Try.func160 (by kernel_rfl) (bs := [0]) (by kernel_rfl) (by kernel_rfl) (fun w0 mo I0 hmo => ⟨lsem_of_lorc (w_toMacRowS_L0_ls w0 mo I0 hmo) (by kernel_rfl), trivial⟩) ((w_toMacRowS_lk x0).trans (w_toMacRowS_p x0 ((hf 0 0 rfl rfl).len) (fun y hy => (hf 0 0 rfl rfl).elem hy) hp _ _ _))
noncomputable def w_toMacRowS_e : Ent1 Try.prog := entP 160 [.sc (.sl .macRow)] (fun x => (decide (x.1.length ≤ 4294967296))) (fun x => (w_toMacRowS x.1)) (fun v => [rv (.sc (.sl .macRow)) [.o true] v]) (fun x hx => w_toMacRowS_c x.1 (of_decide_eq_true hx))


/-- laws.eqMacRowS -/
def w_eqMacRowS_ann : List (Nat × Keep) := [(0, ⟨[0, 1, 5], [], false, 0⟩)]
def w_eqMacRowS_L0_sh : Sh := ⟨[(0, false, [.sl .arg .macRow]), (1, false, [.sl .arg .macRow]), (5, false, [.int .i64])], []⟩
def w_eqMacRowS_L0_es : List (Ex × Sh) := [(.ret, ⟨[(4, false, [.bool])], []⟩), (.exit 0, ⟨[(4, false, [.undef])], []⟩)]
def w_eqMacRowS_L0_mk (v0 : List MacRow) (v1 : List MacRow) (v2 : Int) : w_eqMacRowS_L0_sh.T := (((v0, ()), ((v1, ()), ((v2, ()), ()))), ())
def w_eqMacRowS_L0_mx0 (y0 : Bool) : Sh.T ⟨[(4, false, [.bool])], []⟩ := (((y0, ()), ()), ())
def w_eqMacRowS_L0_mx1  : Sh.T ⟨[(4, false, [.undef])], []⟩ := ((((), ()), ()), ())
def w_eqMacRowS_L0_B (v0 : List MacRow) (v1 : List MacRow) (v2 : Int) (γ : Type) (fail : γ) (next : w_eqMacRowS_L0_sh.T → γ) (out : WT w_eqMacRowS_L0_es → γ) : γ :=
  bif (decide (v2 < (v0.length : Int))) then
    bif ((decide (0 ≤ v2)) && (decide (v2 < (v0.length : Int)))) then
    bif ((decide (0 ≤ v2)) && (decide (v2 < (v1.length : Int)))) then
    letK (α := Bool) (w_eqMacRow (v0.getD v2.toNat (Ty.zero .macRow)) (v1.getD v2.toNat (Ty.zero .macRow))) fun c1 =>
    bif (!c1) then
      out (Sum.inl (w_eqMacRowS_L0_mx0 false))
    else
    next (w_eqMacRowS_L0_mk v0 v1 (IntKind.wrap .i64 (v2 + 1)))
    else fail
    else fail
  else
  out (Sum.inr (w_eqMacRowS_L0_mx1 ))
theorem w_eqMacRowS_L0_par (v0 : List MacRow) (v1 : List MacRow) (v2 : Int) (γ : Type) (fail : γ) (next : w_eqMacRowS_L0_sh.T → γ) (out : WT w_eqMacRowS_L0_es → γ) : w_eqMacRowS_L0_B v0 v1 v2 γ fail next out = optK (w_eqMacRowS_L0_B v0 v1 v2 _ none (fun v' => some (.inl v')) (fun w => some (.inr w))) fail (fun r => Sum.elim next out r) := by
  unfold w_eqMacRowS_L0_B
  exact bifT (f := (fun o => optK o fail (fun r => Sum.elim next out r))) (fun _ => bifT (f := (fun o => optK o fail (fun r => Sum.elim next out r))) (fun _ => bifT (f := (fun o => optK o fail (fun r => Sum.elim next out r))) (fun _ => letT (f := (fun o => optK o fail (fun r => Sum.elim next out r))) (fun c1 _ => bifT (f := (fun o => optK o fail (fun r => Sum.elim next out r))) (fun _ => rfl)
      (fun _ => rfl))) (fun _ => rfl)) (fun _ => rfl))
      (fun _ => rfl)
def w_eqMacRowS_L0_r : Round w_eqMacRowS_L0_sh.T (WT w_eqMacRowS_L0_es) where
  B v γ fail next out := w_eqMacRowS_L0_B v.1.1.1 v.1.2.1.1 v.1.2.2.1.1 γ fail next out
  par v γ fail next out := w_eqMacRowS_L0_par v.1.1.1 v.1.2.1.1 v.1.2.2.1.1 γ fail next out
def w_eqMacRowS_L0_fu (v0 : List MacRow) (v1 : List MacRow) (v2 : Int) : Nat := (Int.toNat ((v0.length : Int) - v2)) + 1
theorem w_eqMacRowS_L0_lk (v : w_eqMacRowS_L0_sh.T) (next : St → Option Res) (k : Ex → St → Option Res) : evalK te (orcOf (P := Try.prog) [w_eqMacRow_e]) (lorcOf []) Try.f162.ntmps w_eqMacRowS_ann (nthLoop (bodyOf Try.f162) 0 0) 0 (w_eqMacRowS_L0_sh.enc v) (endK ⟨[0, 1, 5], [], false, 0⟩ ⟨[4], [], false, 0⟩ next k) =
  w_eqMacRowS_L0_r.B v _ none (fun v' => next (w_eqMacRowS_L0_sh.enc v')) (fun w => outK w_eqMacRowS_L0_es k w) := by kernel_rfl
def w_eqMacRowS_L0_le : LE := leOf 0 w_eqMacRowS_L0_sh w_eqMacRowS_L0_es w_eqMacRowS_L0_r.step (fun v => w_eqMacRowS_L0_fu v.1.1.1 v.1.2.1.1 v.1.2.2.1.1)
theorem w_eqMacRowS_L0_ls (w0 : World) (mo : Mts) (I0 : Nat → Prop) (hmo : mo.length = 0) : LSem Try.prog (Sim w0 mo Try.f162.ntmps I0) (fun b s k => match Nat.beq 0 b with | true => w_eqMacRowS_L0_le.run s k | false => none) 0 (nthLoop (bodyOf Try.f162) 0 0) :=
  le_sem hmo (lorc := lorcOf []) (ann := w_eqMacRowS_ann) (keep := ⟨[0, 1, 5], [], false, 0⟩) (kout := ⟨[4], [], false, 0⟩) teFact mixFact (orcOf_ok _) (by kernel_rfl) (allLoops_of (bs := []) (by kernel_rfl) trivial) w_eqMacRowS_L0_r _ w_eqMacRowS_L0_lk
def w_eqMacRowS_L0_f (v0 : List MacRow) (v1 : List MacRow) (v2 : Int) (a : Unit) : Stp (Unit) ((Unit)) :=
  letK (α := Bool) (w_eqMacRow (v0.getD v2.toNat (Ty.zero .macRow)) (v1.getD v2.toNat (Ty.zero .macRow))) fun c1 =>
  bif (!c1) then
    .out (())
  else
  .next ()
theorem w_eqMacRowS_L0_st (v0 : List MacRow) (v1 : List MacRow) (v2 : Int) (hlo : 0 ≤ v2) (hhi : v2 < (v0.length : Int)) (hN : (v0.length : Int) ≤ 4611686018427387904) (hi0 : (v0.length : Int) ≤ (v1.length : Int)) : w_eqMacRowS_L0_r.step (w_eqMacRowS_L0_mk v0 v1 v2) = Stp.elim (fun a' : Unit => some (Sum.inl (w_eqMacRowS_L0_mk v0 v1 (v2 + 1)))) (fun w => some (Sum.inr ((fun p : Unit => Sum.inl (w_eqMacRowS_L0_mx0 false)) w))) (w_eqMacRowS_L0_f v0 v1 v2 ()) := by
  have hw : (IntKind.wrap .i64 (v2 + 1)) = v2 + 1 := wrap64 (by omega) (by omega)
  show w_eqMacRowS_L0_B v0 v1 v2 (Option (w_eqMacRowS_L0_sh.T ⊕ WT w_eqMacRowS_L0_es)) none (fun v' => some (Sum.inl v')) (fun w => some (Sum.inr w)) = _
  unfold w_eqMacRowS_L0_B w_eqMacRowS_L0_f
  exact bifG (by simp only [decide_eq_true_eq]; omega) (bifG (by (try simp only [Nat.ble_eq, Bool.and_eq_true, decide_eq_true_eq]); grind [maxSl, maxStr, toBytes_length, toInts_length, List.length_set, wrap64]) (bifG (by (try simp only [Nat.ble_eq, Bool.and_eq_true, decide_eq_true_eq]); grind [maxSl, maxStr, toBytes_length, toInts_length, List.length_set, wrap64]) (letT (f := (Stp.elim (fun a' : Unit => some (Sum.inl (w_eqMacRowS_L0_mk v0 v1 (v2 + 1)))) (fun w => some (Sum.inr ((fun p : Unit => Sum.inl (w_eqMacRowS_L0_mx0 false)) w))))) (fun c1 hc1 => bifT (f := (Stp.elim (fun a' : Unit => some (Sum.inl (w_eqMacRowS_L0_mk v0 v1 (v2 + 1)))) (fun w => some (Sum.inr ((fun p : Unit => Sum.inl (w_eqMacRowS_L0_mx0 false)) w))))) (fun b0 => rfl)
      (fun b0 => (by exact congrArg (fun z => some (Sum.inl (w_eqMacRowS_L0_mk v0 v1 z))) hw))))))
theorem w_eqMacRowS_L0_cl (v0 : List MacRow) (v1 : List MacRow) (v2 : Int) (h0 : 0 ≤ v2) (h1 : (v0.length : Int) ≤ 4611686018427387904) (h2 : (v0.length : Int) ≤ (v1.length : Int)) : loopF w_eqMacRowS_L0_r.step (w_eqMacRowS_L0_fu v0 v1 v2) (w_eqMacRowS_L0_mk v0 v1 v2) = some (Stp.elim (fun a => (fun i a => Sum.inr (w_eqMacRowS_L0_mx1 )) (v2 + 1 * (((Int.toNat ((v0.length : Int) - v2)) : Nat) : Int)) a) (fun p : Unit => Sum.inl (w_eqMacRowS_L0_mx0 false)) (forN (w_eqMacRowS_L0_f v0 v1) 1 (Int.toNat ((v0.length : Int) - v2)) v2 ())) :=
  forN_loop (step := w_eqMacRowS_L0_r.step) (mk := fun v2 a => w_eqMacRowS_L0_mk v0 v1 v2) (f := w_eqMacRowS_L0_f v0 v1) (e := (fun i a => Sum.inr (w_eqMacRowS_L0_mx1 ))) (emb := (fun p : Unit => Sum.inl (w_eqMacRowS_L0_mx0 false))) (st := 1) (Inv := fun v2 a => True) (Int.toNat ((v0.length : Int) - v2)) v2 () _ (Nat.lt_succ_self _) trivial
    (fun j a hj hv => ⟨w_eqMacRowS_L0_st v0 v1 (v2 + 1 * (j : Int)) (by omega) (by omega) (by omega) h2, fun _ _ => trivial⟩)
    (fun a hv => by
      show w_eqMacRowS_L0_B v0 v1 (v2 + 1 * (((Int.toNat ((v0.length : Int) - v2)) : Nat) : Int)) (Option (w_eqMacRowS_L0_sh.T ⊕ WT w_eqMacRowS_L0_es)) none (fun v' => some (Sum.inl v')) (fun w => some (Sum.inr w)) = _
      unfold w_eqMacRowS_L0_B
      exact bifN (by simp only [decide_eq_false_iff_not]; omega) rfl)
def w_eqMacRowS_N (x0 : List MacRow) (x1 : List MacRow) (γ : Type) (fail : γ) (k : Bool → γ) : γ :=
  bif ((x0.length : Int) != (x1.length : Int)) then
    k false
  else
  optK (loopF w_eqMacRowS_L0_r.step (w_eqMacRowS_L0_fu x0 x1 0) (w_eqMacRowS_L0_mk x0 x1 0)) fail fun w2 =>
    Sum.elim (fun w2 =>
      k w2.1.1.1)
    (fun w2 =>
      k true) w2
def w_eqMacRowS (x0 : List MacRow) (x1 : List MacRow) : Bool :=
  bif ((x0.length : Int) != (x1.length : Int)) then
    false
  else
  Stp.elim (fun a3 =>
    true)
    (fun p3 =>
      false)
    (forN (w_eqMacRowS_L0_f x0 x1) 1 (Int.toNat ((x0.length : Int) - 0)) 0 ())
theorem w_eqMacRowS_lk (x0 : List MacRow) (x1 : List MacRow) : evalFn te (orcOf (P := Try.prog) [w_eqMacRow_e]) (lorcOf [w_eqMacRowS_L0_le]) w_eqMacRowS_ann Try.f162 (pvs [.sc (.sl .macRow), .sc (.sl .macRow)] (x0, x1, ())) =
  w_eqMacRowS_N x0 x1 _ none (fun v => some [(false, [RC.c (.bool v)])]) := by kernel_rfl
theorem w_eqMacRowS_p (x0 : List MacRow) (x1 : List MacRow) (hx0 : x0.length ≤ 140737488355328) (hx0_e : ∀ y ∈ x0, ∀ c ∈ Ty.cells .macRow y, FactC c) (hx1 : x1.length ≤ 140737488355328) (hx1_e : ∀ y ∈ x1, ∀ c ∈ Ty.cells .macRow y, FactC c)  (γ : Type) (fail : γ) (k : Bool → γ) : w_eqMacRowS_N x0 x1 γ fail k = k (w_eqMacRowS x0 x1) := by
  unfold w_eqMacRowS_N w_eqMacRowS
  exact bifT (f := k) (fun b0 => rfl)
      (fun b0 => loopT (f := k) (w_eqMacRowS_L0_cl x0 x1 0 (by (try simp only [Nat.ble_eq, Bool.and_eq_true, decide_eq_true_eq, w_eqMacRowS_L0_mx0, w_eqMacRowS_L0_mx1]); grind [maxSl, maxStr, toBytes_length, toInts_length, List.length_set, wrap64]) (by (try simp only [Nat.ble_eq, Bool.and_eq_true, decide_eq_true_eq, w_eqMacRowS_L0_mx0, w_eqMacRowS_L0_mx1]); grind [maxSl, maxStr, toBytes_length, toInts_length, List.length_set, wrap64]) (by (try simp only [Nat.ble_eq, Bool.and_eq_true, decide_eq_true_eq, w_eqMacRowS_L0_mx0, w_eqMacRowS_L0_mx1]); grind [maxSl, maxStr, toBytes_length, toInts_length, List.length_set, wrap64])) (fun a3 => rfl)
      (fun p3 => rfl))
theorem w_eqMacRowS_c (x0 : List MacRow) (x1 : List MacRow)  : Con Try.prog 162 (pvs [.sc (.sl .macRow), .sc (.sl .macRow)] (x0, x1, ())) [rv (.sc .bool) [] (w_eqMacRowS x0 x1)] := by
  refine Con.of_facts (enters_of Try.func162 rfl (by kernel_rfl)) fun hf => ?_
  replace hf := factAt hf
  exact evalFn_conL teFact mixFact (orcOf_ok _) Try.func162 (by kernel_rfl) (bs := [0]) (by kernel_rfl) (by kernel_rfl) (fun w0 mo I0 hmo => ⟨lsem_of_lorc (w_eqMacRowS_L0_ls w0 mo I0 hmo) (by kernel_rfl), trivial⟩) ((w_eqMacRowS_lk x0 x1).trans (w_eqMacRowS_p x0 x1 ((hf 0 0 rfl rfl).len) (fun y hy => (hf 0 0 rfl rfl).elem hy) ((hf 1 0 rfl rfl).len) (fun y hy => (hf 1 0 rfl rfl).elem hy) _ _ _))
noncomputable def w_eqMacRowS_e : Ent1 Try.prog := entA 162 [.sc (.sl .macRow), .sc (.sl .macRow)] (fun x => (w_eqMacRowS x.1 x.2.1)) (fun v => [rv (.sc .bool) [] v]) (fun x => w_eqMacRowS_c x.1 x.2.1)


/-- laws.szPieceS -/
def w_szPieceS_ann : List (Nat × Keep) := [(0, ⟨[0, 1, 5], [], false, 0⟩)]
def w_szPieceS_L0_sh : Sh := ⟨[(0, false, [.sl .arg .piec]), (1, false, [.int .i64]), (5, false, [.int .i64])], []⟩
def w_szPieceS_L0_es : List (Ex × Sh) := [(.ret, ⟨[(1, false, [.int .i64]), (4, false, [.int .i64])], []⟩), (.exit 0, ⟨[(1, false, [.int .i64]), (4, false, [.undef])], []⟩)]
def w_szPieceS_L0_mk (v0 : List Piec) (v1 : Int) (v2 : Int) : w_szPieceS_L0_sh.T := (((v0, ()), ((v1, ()), ((v2, ()), ()))), ())
def w_szPieceS_L0_mx0 (y0 : Int) (y1 : Int) : Sh.T ⟨[(1, false, [.int .i64]), (4, false, [.int .i64])], []⟩ := (((y0, ()), ((y1, ()), ())), ())
def w_szPieceS_L0_mx1 (y0 : Int) : Sh.T ⟨[(1, false, [.int .i64]), (4, false, [.undef])], []⟩ := (((y0, ()), (((), ()), ())), ())
def w_szPieceS_L0_B (v0 : List Piec) (v1 : Int) (v2 : Int) (γ : Type) (fail : γ) (next : w_szPieceS_L0_sh.T → γ) (out : WT w_szPieceS_L0_es → γ) : γ :=
  bif (decide (v2 < (v0.length : Int))) then
    bif ((decide (0 ≤ v2)) && (decide (v2 < (v0.length : Int)))) then
    letK (α := Int) (w_szPiece (v0.getD v2.toNat (Ty.zero .piec)) v1) fun c1 =>
    bif (decide (c1 < 0)) then
      out (Sum.inl (w_szPieceS_L0_mx0 c1 (-1)))
    else
    next (w_szPieceS_L0_mk v0 c1 (IntKind.wrap .i64 (v2 + 1)))
    else fail
  else
  out (Sum.inr (w_szPieceS_L0_mx1 v1))
theorem w_szPieceS_L0_par (v0 : List Piec) (v1 : Int) (v2 : Int) (γ : Type) (fail : γ) (next : w_szPieceS_L0_sh.T → γ) (out : WT w_szPieceS_L0_es → γ) : w_szPieceS_L0_B v0 v1 v2 γ fail next out = optK (w_szPieceS_L0_B v0 v1 v2 _ none (fun v' => some (.inl v')) (fun w => some (.inr w))) fail (fun r => Sum.elim next out r) := by
  unfold w_szPieceS_L0_B
  exact bifT (f := (fun o => optK o fail (fun r => Sum.elim next out r))) (fun _ => bifT (f := (fun o => optK o fail (fun r => Sum.elim next out r))) (fun _ => letT (f := (fun o => optK o fail (fun r => Sum.elim next out r))) (fun c1 _ => bifT (f := (fun o => optK o fail (fun r => Sum.elim next out r))) (fun _ => rfl)
      (fun _ => rfl))) (fun _ => rfl))
      (fun _ => rfl)
def w_szPieceS_L0_r : Round w_szPieceS_L0_sh.T (WT w_szPieceS_L0_es) where
  B v γ fail next out := w_szPieceS_L0_B v.1.1.1 v.1.2.1.1 v.1.2.2.1.1 γ fail next out
  par v γ fail next out := w_szPieceS_L0_par v.1.1.1 v.1.2.1.1 v.1.2.2.1.1 γ fail next out
def w_szPieceS_L0_fu (v0 : List Piec) (v1 : Int) (v2 : Int) : Nat := (Int.toNat ((v0.length : Int) - v2)) + 1
theorem w_szPieceS_L0_lk (v : w_szPieceS_L0_sh.T) (next : St → Option Res) (k : Ex → St → Option Res) : evalK te (orcOf (P := Try.prog) [w_szPiece_e]) (lorcOf []) Try.f201.ntmps w_szPieceS_ann (nthLoop (bodyOf Try.f201) 0 0) 0 (w_szPieceS_L0_sh.enc v) (endK ⟨[0, 1, 5], [], false, 0⟩ ⟨[1, 4], [], false, 0⟩ next k) =
  w_szPieceS_L0_r.B v _ none (fun v' => next (w_szPieceS_L0_sh.enc v')) (fun w => outK w_szPieceS_L0_es k w) := by kernel_rfl
def w_szPieceS_L0_le : LE := leOf 0 w_szPieceS_L0_sh w_szPieceS_L0_es w_szPieceS_L0_r.step (fun v => w_szPieceS_L0_fu v.1.1.1 v.1.2.1.1 v.1.2.2.1.1)
theorem w_szPieceS_L0_ls (w0 : World) (mo : Mts) (I0 : Nat → Prop) (hmo : mo.length = 0) : LSem Try.prog (Sim w0 mo Try.f201.ntmps I0) (fun b s k => match Nat.beq 0 b with | true => w_szPieceS_L0_le.run s k | false => none) 0 (nthLoop (bodyOf Try.f201) 0 0) :=
  le_sem hmo (lorc := lorcOf []) (ann := w_szPieceS_ann) (keep := ⟨[0, 1, 5], [], false, 0⟩) (kout := ⟨[1, 4], [], false, 0⟩) teFact mixFact (orcOf_ok _) (by kernel_rfl) (allLoops_of (bs := []) (by kernel_rfl) trivial) w_szPieceS_L0_r _ w_szPieceS_L0_lk
def w_szPieceS_L0_f (v0 : List Piec) (v2 : Int) (a : Int) : Stp (Int) ((Int)) :=
  letK (α := Int) (w_szPiece (v0.getD v2.toNat (Ty.zero .piec)) a) fun c1 =>
  bif (decide (c1 < 0)) then
    .out (c1)
  else
  .next c1
theorem w_szPieceS_L0_st (v0 : List Piec) (v1 : Int) (v2 : Int) (hlo : 0 ≤ v2) (hhi : v2 < (v0.length : Int)) (hN : (v0.length : Int) ≤ 4611686018427387904) : w_szPieceS_L0_r.step (w_szPieceS_L0_mk v0 v1 v2) = Stp.elim (fun a' : Int => some (Sum.inl (w_szPieceS_L0_mk v0 a' (v2 + 1)))) (fun w => some (Sum.inr ((fun p : Int => Sum.inl (w_szPieceS_L0_mx0 p (-1))) w))) (w_szPieceS_L0_f v0 v2 v1) := by
  have hw : (IntKind.wrap .i64 (v2 + 1)) = v2 + 1 := wrap64 (by omega) (by omega)
  show w_szPieceS_L0_B v0 v1 v2 (Option (w_szPieceS_L0_sh.T ⊕ WT w_szPieceS_L0_es)) none (fun v' => some (Sum.inl v')) (fun w => some (Sum.inr w)) = _
  unfold w_szPieceS_L0_B w_szPieceS_L0_f
  exact bifG (by simp only [decide_eq_true_eq]; omega) (bifG (by (try simp only [Nat.ble_eq, Bool.and_eq_true, decide_eq_true_eq]); grind [maxSl, maxStr, toBytes_length, toInts_length, List.length_set, wrap64, w_szPiece_sm]) (letT (f := (Stp.elim (fun a' : Int => some (Sum.inl (w_szPieceS_L0_mk v0 a' (v2 + 1)))) (fun w => some (Sum.inr ((fun p : Int => Sum.inl (w_szPieceS_L0_mx0 p (-1))) w))))) (fun c1 hc1 => bifT (f := (Stp.elim (fun a' : Int => some (Sum.inl (w_szPieceS_L0_mk v0 a' (v2 + 1)))) (fun w => some (Sum.inr ((fun p : Int => Sum.inl (w_szPieceS_L0_mx0 p (-1))) w))))) (fun b0 => rfl)
      (fun b0 => (by exact congrArg (fun z => some (Sum.inl (w_szPieceS_L0_mk v0 c1 z))) hw)))))
theorem w_szPieceS_L0_cl (v0 : List Piec) (v1 : Int) (v2 : Int) (h0 : 0 ≤ v2) (h1 : (v0.length : Int) ≤ 4611686018427387904) : loopF w_szPieceS_L0_r.step (w_szPieceS_L0_fu v0 v1 v2) (w_szPieceS_L0_mk v0 v1 v2) = some (Stp.elim (fun a => (fun i a => Sum.inr (w_szPieceS_L0_mx1 a)) (v2 + 1 * (((Int.toNat ((v0.length : Int) - v2)) : Nat) : Int)) a) (fun p : Int => Sum.inl (w_szPieceS_L0_mx0 p (-1))) (forN (w_szPieceS_L0_f v0) 1 (Int.toNat ((v0.length : Int) - v2)) v2 v1)) :=
  forN_loop (step := w_szPieceS_L0_r.step) (mk := fun v2 a => w_szPieceS_L0_mk v0 a v2) (f := w_szPieceS_L0_f v0) (e := (fun i a => Sum.inr (w_szPieceS_L0_mx1 a))) (emb := (fun p : Int => Sum.inl (w_szPieceS_L0_mx0 p (-1)))) (st := 1) (Inv := fun v2 a => True) (Int.toNat ((v0.length : Int) - v2)) v2 v1 _ (Nat.lt_succ_self _) trivial
    (fun j a hj hv => ⟨w_szPieceS_L0_st v0 a (v2 + 1 * (j : Int)) (by omega) (by omega) (by omega), fun _ _ => trivial⟩)
    (fun a hv => by
      show w_szPieceS_L0_B v0 a (v2 + 1 * (((Int.toNat ((v0.length : Int) - v2)) : Nat) : Int)) (Option (w_szPieceS_L0_sh.T ⊕ WT w_szPieceS_L0_es)) none (fun v' => some (Sum.inl v')) (fun w => some (Sum.inr w)) = _
      unfold w_szPieceS_L0_B
      exact bifN (by simp only [decide_eq_false_iff_not]; omega) rfl)
def w_szPieceS_N (x0 : List Piec) (x1 : Int) (γ : Type) (fail : γ) (k : Int → γ) : γ :=
  bif (decide ((IntKind.wrap .i64 (x1 - (x0.length : Int))) < 0)) then
    k (-1)
  else
  optK (loopF w_szPieceS_L0_r.step (w_szPieceS_L0_fu x0 (IntKind.wrap .i64 (x1 - (x0.length : Int))) 0) (w_szPieceS_L0_mk x0 (IntKind.wrap .i64 (x1 - (x0.length : Int))) 0)) fail fun w2 =>
    Sum.elim (fun w2 =>
      k w2.1.2.1.1)
    (fun w2 =>
      k w2.1.1.1) w2
def w_szPieceS (x0 : List Piec) (x1 : Int) : Int :=
  bif (decide ((IntKind.wrap .i64 (x1 - (x0.length : Int))) < 0)) then
    (-1)
  else
  Stp.elim (fun a3 =>
    a3)
    (fun p3 =>
      (-1))
    (forN (w_szPieceS_L0_f x0) 1 (Int.toNat ((x0.length : Int) - 0)) 0 (IntKind.wrap .i64 (x1 - (x0.length : Int))))
theorem w_szPieceS_lk (x0 : List Piec) (x1 : Int) : evalFn te (orcOf (P := Try.prog) [w_szPiece_e]) (lorcOf [w_szPieceS_L0_le]) w_szPieceS_ann Try.f201 (pvs [.sc (.sl .piec), .sc (.int .i64)] (x0, x1, ())) =
  w_szPieceS_N x0 x1 _ none (fun v => some [(false, [RC.c (.int .i64 v)])]) := by kernel_rfl
theorem w_szPieceS_p (x0 : List Piec) (x1 : Int) (hx0 : x0.length ≤ 140737488355328) (hx0_e : ∀ y ∈ x0, ∀ c ∈ Ty.cells .piec y, FactC c) (hx1 : inK .i64 x1)  (γ : Type) (fail : γ) (k : Int → γ) : w_szPieceS_N x0 x1 γ fail k = k (w_szPieceS x0 x1) := by
  unfold w_szPieceS_N w_szPieceS
  exact bifT (f := k) (fun b0 => rfl)
      (fun b0 => loopT (f := k) (w_szPieceS_L0_cl x0 (IntKind.wrap .i64 (x1 - (x0.length : Int))) 0 (by (try simp only [Nat.ble_eq, Bool.and_eq_true, decide_eq_true_eq, w_szPieceS_L0_mx0, w_szPieceS_L0_mx1]); grind [maxSl, maxStr, toBytes_length, toInts_length, List.length_set, wrap64, w_szPiece_sm]) (by (try simp only [Nat.ble_eq, Bool.and_eq_true, decide_eq_true_eq, w_szPieceS_L0_mx0, w_szPieceS_L0_mx1]); grind [maxSl, maxStr, toBytes_length, toInts_length, List.length_set, wrap64, w_szPiece_sm])) (fun a3 => rfl)
      (fun p3 => rfl))
theorem w_szPieceS_c (x0 : List Piec) (x1 : Int)  : Con Try.prog 201 (pvs [.sc (.sl .piec), .sc (.int .i64)] (x0, x1, ())) [rv (.sc (.int .i64)) [] (w_szPieceS x0 x1)] := by
  refine Con.of_facts (enters_of Try.func201 rfl (by kernel_rfl)) fun hf => ?_
  replace hf := factAt hf
  exact evalFn_conL teFact mixFact (orcOf_ok _) Try.func201 (by kernel_rfl) (bs := [0]) (by kernel_rfl) (by kernel_rfl) (fun w0 mo I0 hmo => ⟨lsem_of_lorc (w_szPieceS_L0_ls w0 mo I0 hmo) (by kernel_rfl), trivial⟩) ((w_szPieceS_lk x0 x1).trans (w_szPieceS_p x0 x1 ((hf 0 0 rfl rfl).len) (fun y hy => (hf 0 0 rfl rfl).elem hy) ((hf 1 0 rfl rfl).rng) _ _ _))
noncomputable def w_szPieceS_e : Ent1 Try.prog := entA 201 [.sc (.sl .piec), .sc (.int .i64)] (fun x => (w_szPieceS x.1 x.2.1)) (fun v => [rv (.sc (.int .i64)) [] v]) (fun x => w_szPieceS_c x.1 x.2.1)


/-- laws.toPieceS -/
def w_toPieceS_ann : List (Nat × Keep) := [(0, ⟨[0, 3, 4], [], false, 0⟩)]
def w_toPieceS_L0_sh : Sh := ⟨[(0, false, [.sl .arg .piec]), (3, false, [.own 0]), (4, false, [.int .i64])], [.arr .piec false true]⟩
def w_toPieceS_L0_es : List (Ex × Sh) := [(.exit 0, ⟨[(2, false, [.undef]), (3, false, [.own 0])], [.arr .piec false true]⟩)]
def w_toPieceS_L0_mk (v0 : List Piec) (v1 : Int) (v2 : List Piec) : w_toPieceS_L0_sh.T := (((v0, ()), (((), ()), ((v1, ()), ()))), (v2, ()))
def w_toPieceS_L0_mx0 (y0 : List Piec) : Sh.T ⟨[(2, false, [.undef]), (3, false, [.own 0])], [.arr .piec false true]⟩ := ((((), ()), (((), ()), ())), (y0, ()))
def w_toPieceS_L0_B (v0 : List Piec) (v1 : Int) (v2 : List Piec) (γ : Type) (fail : γ) (next : w_toPieceS_L0_sh.T → γ) (out : WT w_toPieceS_L0_es → γ) : γ :=
  bif (decide (v1 < (v0.length : Int))) then
    bif ((decide (0 ≤ v1)) && (decide (v1 < (v0.length : Int)))) then
    letK (α := Piec) (w_toPiece (v0.getD v1.toNat (Ty.zero .piec))) fun c1 =>
    bif ((decide (0 ≤ v1)) && (decide (v1 < (v2.length : Int)))) then
    next (w_toPieceS_L0_mk v0 (IntKind.wrap .i64 (v1 + 1)) (v2.set v1.toNat c1))
    else fail
    else fail
  else
  out (w_toPieceS_L0_mx0 v2)
theorem w_toPieceS_L0_par (v0 : List Piec) (v1 : Int) (v2 : List Piec) (γ : Type) (fail : γ) (next : w_toPieceS_L0_sh.T → γ) (out : WT w_toPieceS_L0_es → γ) : w_toPieceS_L0_B v0 v1 v2 γ fail next out = optK (w_toPieceS_L0_B v0 v1 v2 _ none (fun v' => some (.inl v')) (fun w => some (.inr w))) fail (fun r => Sum.elim next out r) := by
  unfold w_toPieceS_L0_B
  exact bifT (f := (fun o => optK o fail (fun r => Sum.elim next out r))) (fun _ => bifT (f := (fun o => optK o fail (fun r => Sum.elim next out r))) (fun _ => letT (f := (fun o => optK o fail (fun r => Sum.elim next out r))) (fun c1 _ => bifT (f := (fun o => optK o fail (fun r => Sum.elim next out r))) (fun _ => rfl) (fun _ => rfl))) (fun _ => rfl))
      (fun _ => rfl)
def w_toPieceS_L0_r : Round w_toPieceS_L0_sh.T (WT w_toPieceS_L0_es) where
  B v γ fail next out := w_toPieceS_L0_B v.1.1.1 v.1.2.2.1.1 v.2.1 γ fail next out
  par v γ fail next out := w_toPieceS_L0_par v.1.1.1 v.1.2.2.1.1 v.2.1 γ fail next out
def w_toPieceS_L0_fu (v0 : List Piec) (v1 : Int) (v2 : List Piec) : Nat := (Int.toNat ((v0.length : Int) - v1)) + 1
theorem w_toPieceS_L0_lk (v : w_toPieceS_L0_sh.T) (next : St → Option Res) (k : Ex → St → Option Res) : evalK te (orcOf (P := Try.prog) [w_toPiece_e]) (lorcOf []) Try.f202.ntmps w_toPieceS_ann (nthLoop (bodyOf Try.f202) 0 0) 0 (w_toPieceS_L0_sh.enc v) (endK ⟨[0, 3, 4], [], false, 0⟩ ⟨[2, 3], [], false, 0⟩ next k) =
  w_toPieceS_L0_r.B v _ none (fun v' => next (w_toPieceS_L0_sh.enc v')) (fun w => outK w_toPieceS_L0_es k w) := by kernel_rfl
def w_toPieceS_L0_le : LE := leOf 0 w_toPieceS_L0_sh w_toPieceS_L0_es w_toPieceS_L0_r.step (fun v => w_toPieceS_L0_fu v.1.1.1 v.1.2.2.1.1 v.2.1)
theorem w_toPieceS_L0_ls (w0 : World) (mo : Mts) (I0 : Nat → Prop) (hmo : mo.length = 0) : LSem Try.prog (Sim w0 mo Try.f202.ntmps I0) (fun b s k => match Nat.beq 0 b with | true => w_toPieceS_L0_le.run s k | false => none) 0 (nthLoop (bodyOf Try.f202) 0 0) :=
  le_sem hmo (lorc := lorcOf []) (ann := w_toPieceS_ann) (keep := ⟨[0, 3, 4], [], false, 0⟩) (kout := ⟨[2, 3], [], false, 0⟩) teFact mixFact (orcOf_ok _) (by kernel_rfl) (allLoops_of (bs := []) (by kernel_rfl) trivial) w_toPieceS_L0_r _ w_toPieceS_L0_lk
def w_toPieceS_L0_f (v0 : List Piec) (v1 : Int) (a : List Piec) : Stp (List Piec) (Empty) :=
  letK (α := Piec) (w_toPiece (v0.getD v1.toNat (Ty.zero .piec))) fun c1 =>
  .next (a.set v1.toNat c1)
theorem w_toPieceS_L0_st (v0 : List Piec) (v1 : Int) (v2 : List Piec) (hlo : 0 ≤ v1) (hhi : v1 < (v0.length : Int)) (hN : (v0.length : Int) ≤ 4611686018427387904) (hinv : (v0.length : Int) ≤ (v2.length : Int)) : w_toPieceS_L0_r.step (w_toPieceS_L0_mk v0 v1 v2) = Stp.elim (fun a' : List Piec => some (Sum.inl (w_toPieceS_L0_mk v0 (v1 + 1) a'))) (fun w => some (Sum.inr ((fun p : Empty => nomatch p) w))) (w_toPieceS_L0_f v0 v1 v2) := by
  have hw : (IntKind.wrap .i64 (v1 + 1)) = v1 + 1 := wrap64 (by omega) (by omega)
  show w_toPieceS_L0_B v0 v1 v2 (Option (w_toPieceS_L0_sh.T ⊕ WT w_toPieceS_L0_es)) none (fun v' => some (Sum.inl v')) (fun w => some (Sum.inr w)) = _
  unfold w_toPieceS_L0_B w_toPieceS_L0_f
  exact bifG (by simp only [decide_eq_true_eq]; omega) (bifG (by (try simp only [Nat.ble_eq, Bool.and_eq_true, decide_eq_true_eq]); grind [maxSl, maxStr, toBytes_length, toInts_length, List.length_set, wrap64]) (letT (f := (Stp.elim (fun a' : List Piec => some (Sum.inl (w_toPieceS_L0_mk v0 (v1 + 1) a'))) (fun w => some (Sum.inr ((fun p : Empty => nomatch p) w))))) (fun c1 hc1 => bifG (by (try simp only [Nat.ble_eq, Bool.and_eq_true, decide_eq_true_eq]); grind [maxSl, maxStr, toBytes_length, toInts_length, List.length_set, wrap64]) ((by exact congrArg (fun z => some (Sum.inl (w_toPieceS_L0_mk v0 z (v2.set v1.toNat c1)))) hw)))))
theorem w_toPieceS_L0_cl (v0 : List Piec) (v1 : Int) (v2 : List Piec) (h0 : 0 ≤ v1) (h1 : (v0.length : Int) ≤ 4611686018427387904) (h2 : (v0.length : Int) ≤ (v2.length : Int)) : loopF w_toPieceS_L0_r.step (w_toPieceS_L0_fu v0 v1 v2) (w_toPieceS_L0_mk v0 v1 v2) = some (Stp.elim (fun a => (fun i a => w_toPieceS_L0_mx0 a) (v1 + 1 * (((Int.toNat ((v0.length : Int) - v1)) : Nat) : Int)) a) (fun p : Empty => nomatch p) (forN (w_toPieceS_L0_f v0) 1 (Int.toNat ((v0.length : Int) - v1)) v1 v2)) :=
  forN_loop (step := w_toPieceS_L0_r.step) (mk := fun v1 a => w_toPieceS_L0_mk v0 v1 a) (f := w_toPieceS_L0_f v0) (e := (fun i a => w_toPieceS_L0_mx0 a)) (emb := (fun p : Empty => nomatch p)) (st := 1) (Inv := fun v1 a => (v0.length : Int) ≤ (a.length : Int)) (Int.toNat ((v0.length : Int) - v1)) v1 v2 _ (Nat.lt_succ_self _) h2
    (fun j a hj hv => ⟨w_toPieceS_L0_st v0 (v1 + 1 * (j : Int)) a (by omega) (by omega) (by omega) hv, by
      intro a' he
      grind [w_toPieceS_L0_f, letK, Stp.elim, wrap64, List.length_set]⟩)
    (fun a hv => by
      show w_toPieceS_L0_B v0 (v1 + 1 * (((Int.toNat ((v0.length : Int) - v1)) : Nat) : Int)) a (Option (w_toPieceS_L0_sh.T ⊕ WT w_toPieceS_L0_es)) none (fun v' => some (Sum.inl v')) (fun w => some (Sum.inr w)) = _
      unfold w_toPieceS_L0_B
      exact bifN (by simp only [decide_eq_false_iff_not]; omega) rfl)
theorem w_toPieceS_L0_nx (v0 : List Piec) (v1 : Int) (v2 : List Piec) (h0 : 0 ≤ v1) (h1 : (v0.length : Int) ≤ 4611686018427387904) (h2 : (v0.length : Int) ≤ (v2.length : Int)) : ∀ a', forN (w_toPieceS_L0_f v0) 1 (Int.toNat ((v0.length : Int) - v1)) v1 v2 = .next a' → (v0.length : Int) ≤ (a'.length : Int) :=
  forN_inv (f := w_toPieceS_L0_f v0) (st := 1) (Inv := fun v1 a => (v0.length : Int) ≤ (a.length : Int)) (Int.toNat ((v0.length : Int) - v1)) v1 v2 h2
    (fun j a hj hv => by
      intro a' he
      grind [w_toPieceS_L0_f, letK, Stp.elim, wrap64, List.length_set])
def w_toPieceS_N (x0 : List Piec) (γ : Type) (fail : γ) (k : List Piec → γ) : γ :=
  bif ((((decide (0 ≤ (x0.length : Int))) && (decide ((x0.length : Int) = (x0.length : Int)))) && (decide ((x0.length : Int) * 24 ≤ (maxSl : Int)))) && (decide ((x0.length : Int) ≤ (maxSl : Int)))) then
  optK (loopF w_toPieceS_L0_r.step (w_toPieceS_L0_fu x0 0 (List.replicate ((x0.length : Int).toNat) (⟨0, []⟩ : Piec))) (w_toPieceS_L0_mk x0 0 (List.replicate ((x0.length : Int).toNat) (⟨0, []⟩ : Piec)))) fail fun w2 =>
    k w2.2.1
  else fail
def w_toPieceS (x0 : List Piec) : List Piec :=
  Stp.elim (fun a3 =>
    a3)
    (fun p : Empty => nomatch p)
    (forN (w_toPieceS_L0_f x0) 1 (Int.toNat ((x0.length : Int) - 0)) 0 (List.replicate ((x0.length : Int).toNat) (⟨0, []⟩ : Piec)))
theorem w_toPieceS_lk (x0 : List Piec) : evalFn te (orcOf (P := Try.prog) [w_toPiece_e]) (lorcOf [w_toPieceS_L0_le]) w_toPieceS_ann Try.f202 (pvs [.sc (.sl .piec)] (x0, ())) =
  w_toPieceS_N x0 _ none (fun v => some [(false, [RC.own true .piec v])]) := by kernel_rfl
theorem w_toPieceS_p (x0 : List Piec) (hx0 : x0.length ≤ 140737488355328) (hx0_e : ∀ y ∈ x0, ∀ c ∈ Ty.cells .piec y, FactC c) (hp : x0.length ≤ 4294967296) (γ : Type) (fail : γ) (k : List Piec → γ) : w_toPieceS_N x0 γ fail k = k (w_toPieceS x0) := by
  unfold w_toPieceS_N w_toPieceS
  exact bifG (by (try simp only [Nat.ble_eq, Bool.and_eq_true, decide_eq_true_eq, w_toPieceS_L0_mx0]); grind [maxSl, maxStr, toBytes_length, toInts_length, List.length_set, wrap64]) (loopX (f := k) (w_toPieceS_L0_cl x0 0 (List.replicate ((x0.length : Int).toNat) (⟨0, []⟩ : Piec)) (by (try simp only [Nat.ble_eq, Bool.and_eq_true, decide_eq_true_eq, w_toPieceS_L0_mx0]); grind [maxSl, maxStr, toBytes_length, toInts_length, List.length_set, wrap64]) (by (try simp only [Nat.ble_eq, Bool.and_eq_true, decide_eq_true_eq, w_toPieceS_L0_mx0]); grind [maxSl, maxStr, toBytes_length, toInts_length, List.length_set, wrap64]) (by (try simp only [Nat.ble_eq, Bool.and_eq_true, decide_eq_true_eq, w_toPieceS_L0_mx0]); grind [maxSl, maxStr, toBytes_length, toInts_length, List.length_set, wrap64])) (fun a3 ha3 => have ia3 := w_toPieceS_L0_nx x0 0 (List.replicate ((x0.length : Int).toNat) (⟨0, []⟩ : Piec)) (by (try simp only [Nat.ble_eq, Bool.and_eq_true, decide_eq_true_eq, w_toPieceS_L0_mx0]); grind [maxSl, maxStr, toBytes_length, toInts_length, List.length_set, wrap64]) (by (try simp only [Nat.ble_eq, Bool.and_eq_true, decide_eq_true_eq, w_toPieceS_L0_mx0]); grind [maxSl, maxStr, toBytes_length, toInts_length, List.length_set, wrap64]) (by (try simp only [Nat.ble_eq, Bool.and_eq_true, decide_eq_true_eq, w_toPieceS_L0_mx0]); grind [maxSl, maxStr, toBytes_length, toInts_length, List.length_set, wrap64]) _ ha3; rfl)
      (fun p : Empty => nomatch p))
theorem w_toPieceS_c (x0 : List Piec) (hp : x0.length ≤ 4294967296) : Con Try.prog 202 (pvs [.sc (.sl .piec)] (x0, ())) [rv (.sc (.sl .piec)) [.o true] (w_toPieceS x0)] := by
  refine Con.of_facts (enters_of Try.func202 rfl (by kernel_rfl)) fun hf => ?_
  replace hf := factAt hf
  exact evalFn_conL teFact mixFact (orcOf_ok _) Try.func202 (by kernel_rfl) (bs := [0]) (by kernel_rfl) (by kernel_rfl) (fun w0 mo I0 hmo => ⟨lsem_of_lorc (w_toPieceS_L0_ls w0 mo I0 hmo) (by kernel_rfl), trivial⟩) ((w_toPieceS_lk x0).trans (w_toPieceS_p x0 ((hf 0 0 rfl rfl).len) (fun y hy => (hf 0 0 rfl rfl).elem hy) hp _ _ _))
noncomputable def w_toPieceS_e : Ent1 Try.prog := entP 202 [.sc (.sl .piec)] (fun x => (decide (x.1.length ≤ 4294967296))) (fun x => (w_toPieceS x.1)) (fun v => [rv (.sc (.sl .piec)) [.o true] v]) (fun x hx => w_toPieceS_c x.1 (of_decide_eq_true hx))


/-- laws.eqPieceS -/
def w_eqPieceS_ann : List (Nat × Keep) := [(0, ⟨[0, 1, 5], [], false, 0⟩)]
def w_eqPieceS_L0_sh : Sh := ⟨[(0, false, [.sl .arg .piec]), (1, false, [.sl .arg .piec]), (5, false, [.int .i64])], []⟩
def w_eqPieceS_L0_es : List (Ex × Sh) := [(.ret, ⟨[(4, false, [.bool])], []⟩), (.exit 0, ⟨[(4, false, [.undef])], []⟩)]
def w_eqPieceS_L0_mk (v0 : List Piec) (v1 : List Piec) (v2 : Int) : w_eqPieceS_L0_sh.T := (((v0, ()), ((v1, ()), ((v2, ()), ()))), ())
def w_eqPieceS_L0_mx0 (y0 : Bool) : Sh.T ⟨[(4, false, [.bool])], []⟩ := (((y0, ()), ()), ())
def w_eqPieceS_L0_mx1  : Sh.T ⟨[(4, false, [.undef])], []⟩ := ((((), ()), ()), ())
def w_eqPieceS_L0_B (v0 : List Piec) (v1 : List Piec) (v2 : Int) (γ : Type) (fail : γ) (next : w_eqPieceS_L0_sh.T → γ) (out : WT w_eqPieceS_L0_es → γ) : γ :=
  bif (decide (v2 < (v0.length : Int))) then
    bif ((decide (0 ≤ v2)) && (decide (v2 < (v0.length : Int)))) then
    bif ((decide (0 ≤ v2)) && (decide (v2 < (v1.length : Int)))) then
    letK (α := Bool) (w_eqPiece (v0.getD v2.toNat (Ty.zero .piec)) (v1.getD v2.toNat (Ty.zero .piec))) fun c1 =>
    bif (!c1) then
      out (Sum.inl (w_eqPieceS_L0_mx0 false))
    else
    next (w_eqPieceS_L0_mk v0 v1 (IntKind.wrap .i64 (v2 + 1)))
    else fail
    else fail
  else
  out (Sum.inr (w_eqPieceS_L0_mx1 ))
theorem w_eqPieceS_L0_par (v0 : List Piec) (v1 : List Piec) (v2 : Int) (γ : Type) (fail : γ) (next : w_eqPieceS_L0_sh.T → γ) (out : WT w_eqPieceS_L0_es → γ) : w_eqPieceS_L0_B v0 v1 v2 γ fail next out = optK (w_eqPieceS_L0_B v0 v1 v2 _ none (fun v' => some (.inl v')) (fun w => some (.inr w))) fail (fun r => Sum.elim next out r) := by
  unfold w_eqPieceS_L0_B
  exact bifT (f := (fun o => optK o fail (fun r => Sum.elim next out r))) (fun _ => bifT (f := (fun o => optK o fail (fun r => Sum.elim next out r))) (fun _ => bifT (f := (fun o => optK o fail (fun r => Sum.elim next out r))) (fun _ => letT (f := (fun o => optK o fail (fun r => Sum.elim next out r))) (fun c1 _ => bifT (f := (fun o => optK o fail (fun r => Sum.elim next out r))) (fun _ => rfl)
      (fun _ => rfl))) (fun _ => rfl)) (fun _ => rfl))
      (fun _ => rfl)
def w_eqPieceS_L0_r : Round w_eqPieceS_L0_sh.T (WT w_eqPieceS_L0_es) where
  B v γ fail next out := w_eqPieceS_L0_B v.1.1.1 v.1.2.1.1 v.1.2.2.1.1 γ fail next out
  par v γ fail next out := w_eqPieceS_L0_par v.1.1.1 v.1.2.1.1 v.1.2.2.1.1 γ fail next out
def w_eqPieceS_L0_fu (v0 : List Piec) (v1 : List Piec) (v2 : Int) : Nat := (Int.toNat ((v0.length : Int) - v2)) + 1
theorem w_eqPieceS_L0_lk (v : w_eqPieceS_L0_sh.T) (next : St → Option Res) (k : Ex → St → Option Res) : evalK te (orcOf (P := Try.prog) [w_eqPiece_e]) (lorcOf []) Try.f203.ntmps w_eqPieceS_ann (nthLoop (bodyOf Try.f203) 0 0) 0 (w_eqPieceS_L0_sh.enc v) (endK ⟨[0, 1, 5], [], false, 0⟩ ⟨[4], [], false, 0⟩ next k) =
  w_eqPieceS_L0_r.B v _ none (fun v' => next (w_eqPieceS_L0_sh.enc v')) (fun w => outK w_eqPieceS_L0_es k w) := by kernel_rfl
def w_eqPieceS_L0_le : LE := leOf 0 w_eqPieceS_L0_sh w_eqPieceS_L0_es w_eqPieceS_L0_r.step (fun v => w_eqPieceS_L0_fu v.1.1.1 v.1.2.1.1 v.1.2.2.1.1)
theorem w_eqPieceS_L0_ls (w0 : World) (mo : Mts) (I0 : Nat → Prop) (hmo : mo.length = 0) : LSem Try.prog (Sim w0 mo Try.f203.ntmps I0) (fun b s k => match Nat.beq 0 b with | true => w_eqPieceS_L0_le.run s k | false => none) 0 (nthLoop (bodyOf Try.f203) 0 0) :=
  le_sem hmo (lorc := lorcOf []) (ann := w_eqPieceS_ann) (keep := ⟨[0, 1, 5], [], false, 0⟩) (kout := ⟨[4], [], false, 0⟩) teFact mixFact (orcOf_ok _) (by kernel_rfl) (allLoops_of (bs := []) (by kernel_rfl) trivial) w_eqPieceS_L0_r _ w_eqPieceS_L0_lk
def w_eqPieceS_L0_f (v0 : List Piec) (v1 : List Piec) (v2 : Int) (a : Unit) : Stp (Unit) ((Unit)) :=
  letK (α := Bool) (w_eqPiece (v0.getD v2.toNat (Ty.zero .piec)) (v1.getD v2.toNat (Ty.zero .piec))) fun c1 =>
  bif (!c1) then
    .out (())
  else
  .next ()
theorem w_eqPieceS_L0_st (v0 : List Piec) (v1 : List Piec) (v2 : Int) (hlo : 0 ≤ v2) (hhi : v2 < (v0.length : Int)) (hN : (v0.length : Int) ≤ 4611686018427387904) (hi0 : (v0.length : Int) ≤ (v1.length : Int)) : w_eqPieceS_L0_r.step (w_eqPieceS_L0_mk v0 v1 v2) = Stp.elim (fun a' : Unit => some (Sum.inl (w_eqPieceS_L0_mk v0 v1 (v2 + 1)))) (fun w => some (Sum.inr ((fun p : Unit => Sum.inl (w_eqPieceS_L0_mx0 false)) w))) (w_eqPieceS_L0_f v0 v1 v2 ()) := by
  have hw : (IntKind.wrap .i64 (v2 + 1)) = v2 + 1 := wrap64 (by omega) (by omega)
  show w_eqPieceS_L0_B v0 v1 v2 (Option (w_eqPieceS_L0_sh.T ⊕ WT w_eqPieceS_L0_es)) none (fun v' => some (Sum.inl v')) (fun w => some (Sum.inr w)) = _
  unfold w_eqPieceS_L0_B w_eqPieceS_L0_f
  exact bifG (by simp only [decide_eq_true_eq]; omega) (bifG (by (try simp only [Nat.ble_eq, Bool.and_eq_true, decide_eq_true_eq]); grind [maxSl, maxStr, toBytes_length, toInts_length, List.length_set, wrap64]) (bifG (by (try simp only [Nat.ble_eq, Bool.and_eq_true, decide_eq_true_eq]); grind [maxSl, maxStr, toBytes_length, toInts_length, List.length_set, wrap64]) (letT (f := (Stp.elim (fun a' : Unit => some (Sum.inl (w_eqPieceS_L0_mk v0 v1 (v2 + 1)))) (fun w => some (Sum.inr ((fun p : Unit => Sum.inl (w_eqPieceS_L0_mx0 false)) w))))) (fun c1 hc1 => bifT (f := (Stp.elim (fun a' : Unit => some (Sum.inl (w_eqPieceS_L0_mk v0 v1 (v2 + 1)))) (fun w => some (Sum.inr ((fun p : Unit => Sum.inl (w_eqPieceS_L0_mx0 false)) w))))) (fun b0 => rfl)
      (fun b0 => (by exact congrArg (fun z => some (Sum.inl (w_eqPieceS_L0_mk v0 v1 z))) hw))))))
theorem w_eqPieceS_L0_cl (v0 : List Piec) (v1 : List Piec) (v2 : Int) (h0 : 0 ≤ v2) (h1 : (v0.length : Int) ≤ 4611686018427387904) (h2 : (v0.length : Int) ≤ (v1.length : Int)) : loopF w_eqPieceS_L0_r.step (w_eqPieceS_L0_fu v0 v1 v2) (w_eqPieceS_L0_mk v0 v1 v2) = some (Stp.elim (fun a => (fun i a => Sum.inr (w_eqPieceS_L0_mx1 )) (v2 + 1 * (((Int.toNat ((v0.length : Int) - v2)) : Nat) : Int)) a) (fun p : Unit => Sum.inl (w_eqPieceS_L0_mx0 false)) (forN (w_eqPieceS_L0_f v0 v1) 1 (Int.toNat ((v0.length : Int) - v2)) v2 ())) :=
  forN_loop (step := w_eqPieceS_L0_r.step) (mk := fun v2 a => w_eqPieceS_L0_mk v0 v1 v2) (f := w_eqPieceS_L0_f v0 v1) (e := (fun i a => Sum.inr (w_eqPieceS_L0_mx1 ))) (emb := (fun p : Unit => Sum.inl (w_eqPieceS_L0_mx0 false))) (st := 1) (Inv := fun v2 a => True) (Int.toNat ((v0.length : Int) - v2)) v2 () _ (Nat.lt_succ_self _) trivial
    (fun j a hj hv => ⟨w_eqPieceS_L0_st v0 v1 (v2 + 1 * (j : Int)) (by omega) (by omega) (by omega) h2, fun _ _ => trivial⟩)
    (fun a hv => by
      show w_eqPieceS_L0_B v0 v1 (v2 + 1 * (((Int.toNat ((v0.length : Int) - v2)) : Nat) : Int)) (Option (w_eqPieceS_L0_sh.T ⊕ WT w_eqPieceS_L0_es)) none (fun v' => some (Sum.inl v')) (fun w => some (Sum.inr w)) = _
      unfold w_eqPieceS_L0_B
      exact bifN (by simp only [decide_eq_false_iff_not]; omega) rfl)
def w_eqPieceS_N (x0 : List Piec) (x1 : List Piec) (γ : Type) (fail : γ) (k : Bool → γ) : γ :=
  bif ((x0.length : Int) != (x1.length : Int)) then
    k false
  else
  optK (loopF w_eqPieceS_L0_r.step (w_eqPieceS_L0_fu x0 x1 0) (w_eqPieceS_L0_mk x0 x1 0)) fail fun w2 =>
    Sum.elim (fun w2 =>
      k w2.1.1.1)
    (fun w2 =>
      k true) w2
def w_eqPieceS (x0 : List Piec) (x1 : List Piec) : Bool :=
  bif ((x0.length : Int) != (x1.length : Int)) then
    false
  else
  Stp.elim (fun a3 =>
    true)
    (fun p3 =>
      false)
    (forN (w_eqPieceS_L0_f x0 x1) 1 (Int.toNat ((x0.length : Int) - 0)) 0 ())
theorem w_eqPieceS_lk (x0 : List Piec) (x1 : List Piec) : evalFn te (orcOf (P := Try.prog) [w_eqPiece_e]) (lorcOf [w_eqPieceS_L0_le]) w_eqPieceS_ann Try.f203 (pvs [.sc (.sl .piec), .sc (.sl .piec)] (x0, x1, ())) =
  w_eqPieceS_N x0 x1 _ none (fun v => some [(false, [RC.c (.bool v)])]) := by kernel_rfl
theorem w_eqPieceS_p (x0 : List Piec) (x1 : List Piec) (hx0 : x0.length ≤ 140737488355328) (hx0_e : ∀ y ∈ x0, ∀ c ∈ Ty.cells .piec y, FactC c) (hx1 : x1.length ≤ 140737488355328) (hx1_e : ∀ y ∈ x1, ∀ c ∈ Ty.cells .piec y, FactC c)  (γ : Type) (fail : γ) (k : Bool → γ) : w_eqPieceS_N x0 x1 γ fail k = k (w_eqPieceS x0 x1) := by
  unfold w_eqPieceS_N w_eqPieceS
  exact bifT (f := k) (fun b0 => rfl)
      (fun b0 => loopT (f := k) (w_eqPieceS_L0_cl x0 x1 0 (by (try simp only [Nat.ble_eq, Bool.and_eq_true, decide_eq_true_eq, w_eqPieceS_L0_mx0, w_eqPieceS_L0_mx1]); grind [maxSl, maxStr, toBytes_length, toInts_length, List.length_set, wrap64]) (by (try simp only [Nat.ble_eq, Bool.and_eq_true, decide_eq_true_eq, w_eqPieceS_L0_mx0, w_eqPieceS_L0_mx1]); grind [maxSl, maxStr, toBytes_length, toInts_length, List.length_set, wrap64]) (by (try simp only [Nat.ble_eq, Bool.and_eq_true, decide_eq_true_eq, w_eqPieceS_L0_mx0, w_eqPieceS_L0_mx1]); grind [maxSl, maxStr, toBytes_length, toInts_length, List.length_set, wrap64])) (fun a3 => rfl)
      (fun p3 => rfl))
theorem w_eqPieceS_c (x0 : List Piec) (x1 : List Piec)  : Con Try.prog 203 (pvs [.sc (.sl .piec), .sc (.sl .piec)] (x0, x1, ())) [rv (.sc .bool) [] (w_eqPieceS x0 x1)] := by
  refine Con.of_facts (enters_of Try.func203 rfl (by kernel_rfl)) fun hf => ?_
  replace hf := factAt hf
  exact evalFn_conL teFact mixFact (orcOf_ok _) Try.func203 (by kernel_rfl) (bs := [0]) (by kernel_rfl) (by kernel_rfl) (fun w0 mo I0 hmo => ⟨lsem_of_lorc (w_eqPieceS_L0_ls w0 mo I0 hmo) (by kernel_rfl), trivial⟩) ((w_eqPieceS_lk x0 x1).trans (w_eqPieceS_p x0 x1 ((hf 0 0 rfl rfl).len) (fun y hy => (hf 0 0 rfl rfl).elem hy) ((hf 1 0 rfl rfl).len) (fun y hy => (hf 1 0 rfl rfl).elem hy) _ _ _))
noncomputable def w_eqPieceS_e : Ent1 Try.prog := entA 203 [.sc (.sl .piec), .sc (.sl .piec)] (fun x => (w_eqPieceS x.1 x.2.1)) (fun v => [rv (.sc .bool) [] v]) (fun x => w_eqPieceS_c x.1 x.2.1)


/-- laws.eqHalfS -/
def w_eqHalfS_ann : List (Nat × Keep) := [(0, ⟨[0, 1, 5], [], false, 0⟩)]
def w_eqHalfS_L0_sh : Sh := ⟨[(0, false, [.sl .arg .half]), (1, false, [.sl .arg .half]), (5, false, [.int .i64])], []⟩
def w_eqHalfS_L0_es : List (Ex × Sh) := [(.ret, ⟨[(4, false, [.bool])], []⟩), (.exit 0, ⟨[(4, false, [.undef])], []⟩)]
def w_eqHalfS_L0_mk (v0 : List Half) (v1 : List Half) (v2 : Int) : w_eqHalfS_L0_sh.T := (((v0, ()), ((v1, ()), ((v2, ()), ()))), ())
def w_eqHalfS_L0_mx0 (y0 : Bool) : Sh.T ⟨[(4, false, [.bool])], []⟩ := (((y0, ()), ()), ())
def w_eqHalfS_L0_mx1  : Sh.T ⟨[(4, false, [.undef])], []⟩ := ((((), ()), ()), ())
def w_eqHalfS_L0_B (v0 : List Half) (v1 : List Half) (v2 : Int) (γ : Type) (fail : γ) (next : w_eqHalfS_L0_sh.T → γ) (out : WT w_eqHalfS_L0_es → γ) : γ :=
  bif (decide (v2 < (v0.length : Int))) then
    bif ((decide (0 ≤ v2)) && (decide (v2 < (v0.length : Int)))) then
    bif ((decide (0 ≤ v2)) && (decide (v2 < (v1.length : Int)))) then
    letK (α := Bool) (w_eqHalf (v0.getD v2.toNat (Ty.zero .half)) (v1.getD v2.toNat (Ty.zero .half))) fun c1 =>
    bif (!c1) then
      out (Sum.inl (w_eqHalfS_L0_mx0 false))
    else
    next (w_eqHalfS_L0_mk v0 v1 (IntKind.wrap .i64 (v2 + 1)))
    else fail
    else fail
  else
  out (Sum.inr (w_eqHalfS_L0_mx1 ))
theorem w_eqHalfS_L0_par (v0 : List Half) (v1 : List Half) (v2 : Int) (γ : Type) (fail : γ) (next : w_eqHalfS_L0_sh.T → γ) (out : WT w_eqHalfS_L0_es → γ) : w_eqHalfS_L0_B v0 v1 v2 γ fail next out = optK (w_eqHalfS_L0_B v0 v1 v2 _ none (fun v' => some (.inl v')) (fun w => some (.inr w))) fail (fun r => Sum.elim next out r) := by
  unfold w_eqHalfS_L0_B
  exact bifT (f := (fun o => optK o fail (fun r => Sum.elim next out r))) (fun _ => bifT (f := (fun o => optK o fail (fun r => Sum.elim next out r))) (fun _ => bifT (f := (fun o => optK o fail (fun r => Sum.elim next out r))) (fun _ => letT (f := (fun o => optK o fail (fun r => Sum.elim next out r))) (fun c1 _ => bifT (f := (fun o => optK o fail (fun r => Sum.elim next out r))) (fun _ => rfl)
      (fun _ => rfl))) (fun _ => rfl)) (fun _ => rfl))
      (fun _ => rfl)
def w_eqHalfS_L0_r : Round w_eqHalfS_L0_sh.T (WT w_eqHalfS_L0_es) where
  B v γ fail next out := w_eqHalfS_L0_B v.1.1.1 v.1.2.1.1 v.1.2.2.1.1 γ fail next out
  par v γ fail next out := w_eqHalfS_L0_par v.1.1.1 v.1.2.1.1 v.1.2.2.1.1 γ fail next out
def w_eqHalfS_L0_fu (v0 : List Half) (v1 : List Half) (v2 : Int) : Nat := (Int.toNat ((v0.length : Int) - v2)) + 1
theorem w_eqHalfS_L0_lk (v : w_eqHalfS_L0_sh.T) (next : St → Option Res) (k : Ex → St → Option Res) : evalK te (orcOf (P := Try.prog) [w_eqHalf_e]) (lorcOf []) Try.f78.ntmps w_eqHalfS_ann (nthLoop (bodyOf Try.f78) 0 0) 0 (w_eqHalfS_L0_sh.enc v) (endK ⟨[0, 1, 5], [], false, 0⟩ ⟨[4], [], false, 0⟩ next k) =
  w_eqHalfS_L0_r.B v _ none (fun v' => next (w_eqHalfS_L0_sh.enc v')) (fun w => outK w_eqHalfS_L0_es k w) := by kernel_rfl
def w_eqHalfS_L0_le : LE := leOf 0 w_eqHalfS_L0_sh w_eqHalfS_L0_es w_eqHalfS_L0_r.step (fun v => w_eqHalfS_L0_fu v.1.1.1 v.1.2.1.1 v.1.2.2.1.1)
theorem w_eqHalfS_L0_ls (w0 : World) (mo : Mts) (I0 : Nat → Prop) (hmo : mo.length = 0) : LSem Try.prog (Sim w0 mo Try.f78.ntmps I0) (fun b s k => match Nat.beq 0 b with | true => w_eqHalfS_L0_le.run s k | false => none) 0 (nthLoop (bodyOf Try.f78) 0 0) :=
  le_sem hmo (lorc := lorcOf []) (ann := w_eqHalfS_ann) (keep := ⟨[0, 1, 5], [], false, 0⟩) (kout := ⟨[4], [], false, 0⟩) teFact mixFact (orcOf_ok _) (by kernel_rfl) (allLoops_of (bs := []) (by kernel_rfl) trivial) w_eqHalfS_L0_r _ w_eqHalfS_L0_lk
def w_eqHalfS_L0_f (v0 : List Half) (v1 : List Half) (v2 : Int) (a : Unit) : Stp (Unit) ((Unit)) :=
  letK (α := Bool) (w_eqHalf (v0.getD v2.toNat (Ty.zero .half)) (v1.getD v2.toNat (Ty.zero .half))) fun c1 =>
  bif (!c1) then
    .out (())
  else
  .next ()
theorem w_eqHalfS_L0_st (v0 : List Half) (v1 : List Half) (v2 : Int) (hlo : 0 ≤ v2) (hhi : v2 < (v0.length : Int)) (hN : (v0.length : Int) ≤ 4611686018427387904) (hi0 : (v0.length : Int) ≤ (v1.length : Int)) : w_eqHalfS_L0_r.step (w_eqHalfS_L0_mk v0 v1 v2) = Stp.elim (fun a' : Unit => some (Sum.inl (w_eqHalfS_L0_mk v0 v1 (v2 + 1)))) (fun w => some (Sum.inr ((fun p : Unit => Sum.inl (w_eqHalfS_L0_mx0 false)) w))) (w_eqHalfS_L0_f v0 v1 v2 ()) := by
  have hw : (IntKind.wrap .i64 (v2 + 1)) = v2 + 1 := wrap64 (by omega) (by omega)
  show w_eqHalfS_L0_B v0 v1 v2 (Option (w_eqHalfS_L0_sh.T ⊕ WT w_eqHalfS_L0_es)) none (fun v' => some (Sum.inl v')) (fun w => some (Sum.inr w)) = _
  unfold w_eqHalfS_L0_B w_eqHalfS_L0_f
  exact bifG (by simp only [decide_eq_true_eq]; omega) (bifG (by (try simp only [Nat.ble_eq, Bool.and_eq_true, decide_eq_true_eq]); grind [maxSl, maxStr, toBytes_length, toInts_length, List.length_set, wrap64]) (bifG (by (try simp only [Nat.ble_eq, Bool.and_eq_true, decide_eq_true_eq]); grind [maxSl, maxStr, toBytes_length, toInts_length, List.length_set, wrap64]) (letT (f := (Stp.elim (fun a' : Unit => some (Sum.inl (w_eqHalfS_L0_mk v0 v1 (v2 + 1)))) (fun w => some (Sum.inr ((fun p : Unit => Sum.inl (w_eqHalfS_L0_mx0 false)) w))))) (fun c1 hc1 => bifT (f := (Stp.elim (fun a' : Unit => some (Sum.inl (w_eqHalfS_L0_mk v0 v1 (v2 + 1)))) (fun w => some (Sum.inr ((fun p : Unit => Sum.inl (w_eqHalfS_L0_mx0 false)) w))))) (fun b0 => rfl)
      (fun b0 => (by exact congrArg (fun z => some (Sum.inl (w_eqHalfS_L0_mk v0 v1 z))) hw))))))
theorem w_eqHalfS_L0_cl (v0 : List Half) (v1 : List Half) (v2 : Int) (h0 : 0 ≤ v2) (h1 : (v0.length : Int) ≤ 4611686018427387904) (h2 : (v0.length : Int) ≤ (v1.length : Int)) : loopF w_eqHalfS_L0_r.step (w_eqHalfS_L0_fu v0 v1 v2) (w_eqHalfS_L0_mk v0 v1 v2) = some (Stp.elim (fun a => (fun i a => Sum.inr (w_eqHalfS_L0_mx1 )) (v2 + 1 * (((Int.toNat ((v0.length : Int) - v2)) : Nat) : Int)) a) (fun p : Unit => Sum.inl (w_eqHalfS_L0_mx0 false)) (forN (w_eqHalfS_L0_f v0 v1) 1 (Int.toNat ((v0.length : Int) - v2)) v2 ())) :=
  forN_loop (step := w_eqHalfS_L0_r.step) (mk := fun v2 a => w_eqHalfS_L0_mk v0 v1 v2) (f := w_eqHalfS_L0_f v0 v1) (e := (fun i a => Sum.inr (w_eqHalfS_L0_mx1 ))) (emb := (fun p : Unit => Sum.inl (w_eqHalfS_L0_mx0 false))) (st := 1) (Inv := fun v2 a => True) (Int.toNat ((v0.length : Int) - v2)) v2 () _ (Nat.lt_succ_self _) trivial
    (fun j a hj hv => ⟨w_eqHalfS_L0_st v0 v1 (v2 + 1 * (j : Int)) (by omega) (by omega) (by omega) h2, fun _ _ => trivial⟩)
    (fun a hv => by
      show w_eqHalfS_L0_B v0 v1 (v2 + 1 * (((Int.toNat ((v0.length : Int) - v2)) : Nat) : Int)) (Option (w_eqHalfS_L0_sh.T ⊕ WT w_eqHalfS_L0_es)) none (fun v' => some (Sum.inl v')) (fun w => some (Sum.inr w)) = _
      unfold w_eqHalfS_L0_B
      exact bifN (by simp only [decide_eq_false_iff_not]; omega) rfl)
def w_eqHalfS_N (x0 : List Half) (x1 : List Half) (γ : Type) (fail : γ) (k : Bool → γ) : γ :=
  bif ((x0.length : Int) != (x1.length : Int)) then
    k false
  else
  optK (loopF w_eqHalfS_L0_r.step (w_eqHalfS_L0_fu x0 x1 0) (w_eqHalfS_L0_mk x0 x1 0)) fail fun w2 =>
    Sum.elim (fun w2 =>
      k w2.1.1.1)
    (fun w2 =>
      k true) w2
def w_eqHalfS (x0 : List Half) (x1 : List Half) : Bool :=
  bif ((x0.length : Int) != (x1.length : Int)) then
    false
  else
  Stp.elim (fun a3 =>
    true)
    (fun p3 =>
      false)
    (forN (w_eqHalfS_L0_f x0 x1) 1 (Int.toNat ((x0.length : Int) - 0)) 0 ())
theorem w_eqHalfS_lk (x0 : List Half) (x1 : List Half) : evalFn te (orcOf (P := Try.prog) [w_eqHalf_e]) (lorcOf [w_eqHalfS_L0_le]) w_eqHalfS_ann Try.f78 (pvs [.sc (.sl .half), .sc (.sl .half)] (x0, x1, ())) =
  w_eqHalfS_N x0 x1 _ none (fun v => some [(false, [RC.c (.bool v)])]) := by kernel_rfl
theorem w_eqHalfS_p (x0 : List Half) (x1 : List Half) (hx0 : x0.length ≤ 140737488355328) (hx1 : x1.length ≤ 140737488355328)  (γ : Type) (fail : γ) (k : Bool → γ) : w_eqHalfS_N x0 x1 γ fail k = k (w_eqHalfS x0 x1) := by
  unfold w_eqHalfS_N w_eqHalfS
  exact bifT (f := k) (fun b0 => rfl)
      (fun b0 => loopT (f := k) (w_eqHalfS_L0_cl x0 x1 0 (by (try simp only [Nat.ble_eq, Bool.and_eq_true, decide_eq_true_eq, w_eqHalfS_L0_mx0, w_eqHalfS_L0_mx1]); grind [maxSl, maxStr, toBytes_length, toInts_length, List.length_set, wrap64]) (by (try simp only [Nat.ble_eq, Bool.and_eq_true, decide_eq_true_eq, w_eqHalfS_L0_mx0, w_eqHalfS_L0_mx1]); grind [maxSl, maxStr, toBytes_length, toInts_length, List.length_set, wrap64]) (by (try simp only [Nat.ble_eq, Bool.and_eq_true, decide_eq_true_eq, w_eqHalfS_L0_mx0, w_eqHalfS_L0_mx1]); grind [maxSl, maxStr, toBytes_length, toInts_length, List.length_set, wrap64])) (fun a3 => rfl)
      (fun p3 => rfl))
theorem w_eqHalfS_c (x0 : List Half) (x1 : List Half)  : Con Try.prog 78 (pvs [.sc (.sl .half), .sc (.sl .half)] (x0, x1, ())) [rv (.sc .bool) [] (w_eqHalfS x0 x1)] := by
  refine Con.of_facts (enters_of Try.func78 rfl (by kernel_rfl)) fun hf => ?_
  replace hf := factAt hf
  exact evalFn_conL teFact mixFact (orcOf_ok _) Try.func78 (by kernel_rfl) (bs := [0]) (by kernel_rfl) (by kernel_rfl) (fun w0 mo I0 hmo => ⟨lsem_of_lorc (w_eqHalfS_L0_ls w0 mo I0 hmo) (by kernel_rfl), trivial⟩) ((w_eqHalfS_lk x0 x1).trans (w_eqHalfS_p x0 x1 ((hf 0 0 rfl rfl).len) ((hf 1 0 rfl rfl).len) _ _ _))
noncomputable def w_eqHalfS_e : Ent1 Try.prog := entA 78 [.sc (.sl .half), .sc (.sl .half)] (fun x => (w_eqHalfS x.1 x.2.1)) (fun v => [rv (.sc .bool) [] v]) (fun x => w_eqHalfS_c x.1 x.2.1)


/-- laws.toMac -/
def w_toMac_N (x0 : Mac) (γ : Type) (fail : γ) (k : Mac → γ) : γ :=
  bif (decide (x0.rows.length ≤ 4294967296)) then
  letK (α := List MacRow) (w_toMacRowS x0.rows) fun c1 =>
  k ({ x0 with rows := c1 } : Mac)
  else fail
def w_toMac (x0 : Mac) : Mac :=
  letK (α := List MacRow) (w_toMacRowS x0.rows) fun c1 =>
  ({ x0 with rows := c1 } : Mac)
theorem w_toMac_lk (x0 : Mac) : evalFn te (orcOf (P := Try.prog) [w_toMacRowS_e]) lorc0 [] Try.f122 (pvs [.st .mac] (x0, ())) =
  w_toMac_N x0 _ none (fun v => some [(true, [RC.c (.bool v.use), RC.c (.int .u64 v.k), RC.c (.int .u64 v.l), RC.own true .macRow v.rows])]) := by kernel_rfl
theorem w_toMac_p (x0 : Mac) (hx0_k : inK .u64 x0.k) (hx0_l : inK .u64 x0.l) (hx0_rows : x0.rows.length ≤ 140737488355328) (hx0_rows_e : ∀ y ∈ x0.rows, ∀ c ∈ Ty.cells .macRow y, FactC c) (hp : x0.rows.length ≤ 4294967296) (γ : Type) (fail : γ) (k : Mac → γ) : w_toMac_N x0 γ fail k = k (w_toMac x0) := by
  unfold w_toMac_N w_toMac
  exact bifG (by (try simp only [Nat.ble_eq, Bool.and_eq_true, decide_eq_true_eq]); grind [maxSl, maxStr, toBytes_length, toInts_length, List.length_set, wrap64]) (letT (f := k) (fun c1 hc1 => rfl))
theorem w_toMac_c (x0 : Mac) (hp : x0.rows.length ≤ 4294967296) : Con Try.prog 122 (pvs [.st .mac] (x0, ())) [rv (.st .mac) [.c, .c, .c, .o true] (w_toMac x0)] := by
  refine Con.of_facts (enters_of Try.func122 rfl (by kernel_rfl)) fun hf => ?_
  replace hf := factAt hf
  exact evalFn_con0 teFact mixFact (orcOf_ok _) Try.func122 (by kernel_rfl) ((w_toMac_lk x0).trans (w_toMac_p x0 ((hf 0 1 rfl rfl).rng) ((hf 0 2 rfl rfl).rng) ((hf 0 3 rfl rfl).len) (fun y hy => (hf 0 3 rfl rfl).elem hy) hp _ _ _))
noncomputable def w_toMac_e : Ent1 Try.prog := entP 122 [.st .mac] (fun x => (decide (x.1.rows.length ≤ 4294967296))) (fun x => (w_toMac x.1)) (fun v => [rv (.st .mac) [.c, .c, .c, .o true] v]) (fun x hx => w_toMac_c x.1 (of_decide_eq_true hx))


/-- laws.eqMac -/
def w_eqMac_N (x0 : Mac) (x1 : Mac) (γ : Type) (fail : γ) (k : Bool → γ) : γ :=
  bif (!(x0.use == x1.use)) then
    k false
  else
  bif (x0.k != x1.k) then
    k false
  else
  bif (x0.l != x1.l) then
    k false
  else
  letK (α := Bool) (w_eqMacRowS x0.rows x1.rows) fun c1 =>
  bif (!c1) then
    k false
  else
  k true
def w_eqMac (x0 : Mac) (x1 : Mac) : Bool :=
  bif (!(x0.use == x1.use)) then
    false
  else
  bif (x0.k != x1.k) then
    false
  else
  bif (x0.l != x1.l) then
    false
  else
  letK (α := Bool) (w_eqMacRowS x0.rows x1.rows) fun c1 =>
  bif (!c1) then
    false
  else
  true
theorem w_eqMac_lk (x0 : Mac) (x1 : Mac) : evalFn te (orcOf (P := Try.prog) [w_eqMacRowS_e]) lorc0 [] Try.f126 (pvs [.st .mac, .st .mac] (x0, x1, ())) =
  w_eqMac_N x0 x1 _ none (fun v => some [(false, [RC.c (.bool v)])]) := by kernel_rfl
theorem w_eqMac_p (x0 : Mac) (x1 : Mac)   (γ : Type) (fail : γ) (k : Bool → γ) : w_eqMac_N x0 x1 γ fail k = k (w_eqMac x0 x1) := by
  unfold w_eqMac_N w_eqMac
  exact bifT (f := k) (fun b0 => rfl)
      (fun b0 => bifT (f := k) (fun b1 => rfl)
      (fun b1 => bifT (f := k) (fun b2 => rfl)
      (fun b2 => letT (f := k) (fun c1 hc1 => bifT (f := k) (fun b3 => rfl)
      (fun b3 => rfl)))))
theorem w_eqMac_c (x0 : Mac) (x1 : Mac)  : Con Try.prog 126 (pvs [.st .mac, .st .mac] (x0, x1, ())) [rv (.sc .bool) [] (w_eqMac x0 x1)] := by
  exact evalFn_con0 teFact mixFact (orcOf_ok _) Try.func126 (by kernel_rfl) ((w_eqMac_lk x0 x1).trans (w_eqMac_p x0 x1  _ _ _))
noncomputable def w_eqMac_e : Ent1 Try.prog := entA 126 [.st .mac, .st .mac] (fun x => (w_eqMac x.1 x.2.1)) (fun v => [rv (.sc .bool) [] v]) (fun x => w_eqMac_c x.1 x.2.1)


/-- laws.toReceiver -/
def w_toReceiver_N (x0 : Recv) (γ : Type) (fail : γ) (k : Recv → γ) : γ :=
  bif (decide (x0.held.length ≤ 4294967296)) then
  letK (α := List Piec) (w_toPieceS x0.held) fun c1 =>
  k ({ x0 with held := c1 } : Recv)
  else fail
def w_toReceiver (x0 : Recv) : Recv :=
  letK (α := List Piec) (w_toPieceS x0.held) fun c1 =>
  ({ x0 with held := c1 } : Recv)
theorem w_toReceiver_lk (x0 : Recv) : evalFn te (orcOf (P := Try.prog) [w_toPieceS_e]) lorc0 [] Try.f186 (pvs [.st .recv] (x0, ())) =
  w_toReceiver_N x0 _ none (fun v => some [(true, [RC.c (.int .i64 v.next), RC.c (.str v.data), RC.own true .piec v.held, RC.c (.int .i64 v.fin), RC.c (.bool v.done)])]) := by kernel_rfl
theorem w_toReceiver_p (x0 : Recv) (hx0_next : inK .i64 x0.next) (hx0_data : List.length x0.data ≤ 4611686018427387904) (hx0_held : x0.held.length ≤ 140737488355328) (hx0_held_e : ∀ y ∈ x0.held, ∀ c ∈ Ty.cells .piec y, FactC c) (hx0_fin : inK .i64 x0.fin) (hp : x0.data.length ≤ 4294967296 ∧ x0.held.length ≤ 4294967296) (γ : Type) (fail : γ) (k : Recv → γ) : w_toReceiver_N x0 γ fail k = k (w_toReceiver x0) := by
  unfold w_toReceiver_N w_toReceiver
  exact bifG (by (try simp only [Nat.ble_eq, Bool.and_eq_true, decide_eq_true_eq]); grind [maxSl, maxStr, toBytes_length, toInts_length, List.length_set, wrap64]) (letT (f := k) (fun c1 hc1 => rfl))
theorem w_toReceiver_c (x0 : Recv) (hp : x0.data.length ≤ 4294967296 ∧ x0.held.length ≤ 4294967296) : Con Try.prog 186 (pvs [.st .recv] (x0, ())) [rv (.st .recv) [.c, .c, .o true, .c, .c] (w_toReceiver x0)] := by
  refine Con.of_facts (enters_of Try.func186 rfl (by kernel_rfl)) fun hf => ?_
  replace hf := factAt hf
  exact evalFn_con0 teFact mixFact (orcOf_ok _) Try.func186 (by kernel_rfl) ((w_toReceiver_lk x0).trans (w_toReceiver_p x0 ((hf 0 0 rfl rfl).rng) ((hf 0 1 rfl rfl).slen) ((hf 0 2 rfl rfl).len) (fun y hy => (hf 0 2 rfl rfl).elem hy) ((hf 0 3 rfl rfl).rng) hp _ _ _))
noncomputable def w_toReceiver_e : Ent1 Try.prog := entP 186 [.st .recv] (fun x => (decide (x.1.data.length ≤ 4294967296 ∧ x.1.held.length ≤ 4294967296))) (fun x => (w_toReceiver x.1)) (fun v => [rv (.st .recv) [.c, .c, .o true, .c, .c] v]) (fun x hx => w_toReceiver_c x.1 (of_decide_eq_true hx))


/-- laws.eqReceiver -/
def w_eqReceiver_N (x0 : Recv) (x1 : Recv) (γ : Type) (fail : γ) (k : Bool → γ) : γ :=
  bif (x0.next != x1.next) then
    k false
  else
  bif (!(x0.data == x1.data)) then
    k false
  else
  letK (α := Bool) (w_eqPieceS x0.held x1.held) fun c1 =>
  bif (!c1) then
    k false
  else
  bif (x0.fin != x1.fin) then
    k false
  else
  bif (!(x0.done == x1.done)) then
    k false
  else
  k true
def w_eqReceiver (x0 : Recv) (x1 : Recv) : Bool :=
  bif (x0.next != x1.next) then
    false
  else
  bif (!(x0.data == x1.data)) then
    false
  else
  letK (α := Bool) (w_eqPieceS x0.held x1.held) fun c1 =>
  bif (!c1) then
    false
  else
  bif (x0.fin != x1.fin) then
    false
  else
  bif (!(x0.done == x1.done)) then
    false
  else
  true
theorem w_eqReceiver_lk (x0 : Recv) (x1 : Recv) : evalFn te (orcOf (P := Try.prog) [w_eqPieceS_e]) lorc0 [] Try.f189 (pvs [.st .recv, .st .recv] (x0, x1, ())) =
  w_eqReceiver_N x0 x1 _ none (fun v => some [(false, [RC.c (.bool v)])]) := by kernel_rfl
theorem w_eqReceiver_p (x0 : Recv) (x1 : Recv)   (γ : Type) (fail : γ) (k : Bool → γ) : w_eqReceiver_N x0 x1 γ fail k = k (w_eqReceiver x0 x1) := by
  unfold w_eqReceiver_N w_eqReceiver
  exact bifT (f := k) (fun b0 => rfl)
      (fun b0 => bifT (f := k) (fun b1 => rfl)
      (fun b1 => letT (f := k) (fun c1 hc1 => bifT (f := k) (fun b2 => rfl)
      (fun b2 => bifT (f := k) (fun b3 => rfl)
      (fun b3 => bifT (f := k) (fun b4 => rfl)
      (fun b4 => rfl))))))
theorem w_eqReceiver_c (x0 : Recv) (x1 : Recv)  : Con Try.prog 189 (pvs [.st .recv, .st .recv] (x0, x1, ())) [rv (.sc .bool) [] (w_eqReceiver x0 x1)] := by
  exact evalFn_con0 teFact mixFact (orcOf_ok _) Try.func189 (by kernel_rfl) ((w_eqReceiver_lk x0 x1).trans (w_eqReceiver_p x0 x1  _ _ _))
noncomputable def w_eqReceiver_e : Ent1 Try.prog := entA 189 [.st .recv, .st .recv] (fun x => (w_eqReceiver x.1 x.2.1)) (fun v => [rv (.sc .bool) [] v]) (fun x => w_eqReceiver_c x.1 x.2.1)


/-- laws.toKeys -/
def w_toKeys_N (x0 : Keys) (γ : Type) (fail : γ) (k : Keys → γ) : γ :=
  bif (decide (x0.now.rows.length ≤ 4294967296)) then
  letK (α := Mac) (w_toMac x0.now) fun c1 =>
  bif (decide (x0.before.rows.length ≤ 4294967296)) then
  letK (α := Mac) (w_toMac x0.before) fun c2 =>
  k (⟨x0.epoch, c1, c2, x0.two⟩ : Keys)
  else fail
  else fail
def w_toKeys (x0 : Keys) : Keys :=
  letK (α := Mac) (w_toMac x0.now) fun c1 =>
  letK (α := Mac) (w_toMac x0.before) fun c2 =>
  (⟨x0.epoch, c1, c2, x0.two⟩ : Keys)
theorem w_toKeys_lk (x0 : Keys) : evalFn te (orcOf (P := Try.prog) [w_toMac_e]) lorc0 [] Try.f72 (pvs [.st .keys] (x0, ())) =
  w_toKeys_N x0 _ none (fun v => some [(true, [RC.c (.int .i64 v.epoch), RC.c (.bool v.now.use), RC.c (.int .u64 v.now.k), RC.c (.int .u64 v.now.l), RC.own true .macRow v.now.rows, RC.c (.bool v.before.use), RC.c (.int .u64 v.before.k), RC.c (.int .u64 v.before.l), RC.own true .macRow v.before.rows, RC.c (.bool v.two)])]) := by kernel_rfl
theorem w_toKeys_p (x0 : Keys) (hx0_epoch : inK .i64 x0.epoch) (hx0_now_k : inK .u64 x0.now.k) (hx0_now_l : inK .u64 x0.now.l) (hx0_now_rows : x0.now.rows.length ≤ 140737488355328) (hx0_now_rows_e : ∀ y ∈ x0.now.rows, ∀ c ∈ Ty.cells .macRow y, FactC c) (hx0_before_k : inK .u64 x0.before.k) (hx0_before_l : inK .u64 x0.before.l) (hx0_before_rows : x0.before.rows.length ≤ 140737488355328) (hx0_before_rows_e : ∀ y ∈ x0.before.rows, ∀ c ∈ Ty.cells .macRow y, FactC c) (hp : x0.now.rows.length ≤ 4294967296 ∧ x0.before.rows.length ≤ 4294967296) (γ : Type) (fail : γ) (k : Keys → γ) : w_toKeys_N x0 γ fail k = k (w_toKeys x0) := by
  unfold w_toKeys_N w_toKeys
  exact bifG (by (try simp only [Nat.ble_eq, Bool.and_eq_true, decide_eq_true_eq]); grind [maxSl, maxStr, toBytes_length, toInts_length, List.length_set, wrap64]) (letT (f := k) (fun c1 hc1 => bifG (by (try simp only [Nat.ble_eq, Bool.and_eq_true, decide_eq_true_eq]); grind [maxSl, maxStr, toBytes_length, toInts_length, List.length_set, wrap64]) (letT (f := k) (fun c2 hc2 => rfl))))
theorem w_toKeys_c (x0 : Keys) (hp : x0.now.rows.length ≤ 4294967296 ∧ x0.before.rows.length ≤ 4294967296) : Con Try.prog 72 (pvs [.st .keys] (x0, ())) [rv (.st .keys) [.c, .c, .c, .c, .o true, .c, .c, .c, .o true, .c] (w_toKeys x0)] := by
  refine Con.of_facts (enters_of Try.func72 rfl (by kernel_rfl)) fun hf => ?_
  replace hf := factAt hf
  exact evalFn_con0 teFact mixFact (orcOf_ok _) Try.func72 (by kernel_rfl) ((w_toKeys_lk x0).trans (w_toKeys_p x0 ((hf 0 0 rfl rfl).rng) ((hf 0 2 rfl rfl).rng) ((hf 0 3 rfl rfl).rng) ((hf 0 4 rfl rfl).len) (fun y hy => (hf 0 4 rfl rfl).elem hy) ((hf 0 6 rfl rfl).rng) ((hf 0 7 rfl rfl).rng) ((hf 0 8 rfl rfl).len) (fun y hy => (hf 0 8 rfl rfl).elem hy) hp _ _ _))
noncomputable def w_toKeys_e : Ent1 Try.prog := entP 72 [.st .keys] (fun x => (decide (x.1.now.rows.length ≤ 4294967296 ∧ x.1.before.rows.length ≤ 4294967296))) (fun x => (w_toKeys x.1)) (fun v => [rv (.st .keys) [.c, .c, .c, .c, .o true, .c, .c, .c, .o true, .c] v]) (fun x hx => w_toKeys_c x.1 (of_decide_eq_true hx))


/-- laws.eqKeys -/
def w_eqKeys_N (x0 : Keys) (x1 : Keys) (γ : Type) (fail : γ) (k : Bool → γ) : γ :=
  bif (x0.epoch != x1.epoch) then
    k false
  else
  letK (α := Bool) (w_eqMac x0.now x1.now) fun c1 =>
  bif (!c1) then
    k false
  else
  letK (α := Bool) (w_eqMac x0.before x1.before) fun c2 =>
  bif (!c2) then
    k false
  else
  bif (!(x0.two == x1.two)) then
    k false
  else
  k true
def w_eqKeys (x0 : Keys) (x1 : Keys) : Bool :=
  bif (x0.epoch != x1.epoch) then
    false
  else
  letK (α := Bool) (w_eqMac x0.now x1.now) fun c1 =>
  bif (!c1) then
    false
  else
  letK (α := Bool) (w_eqMac x0.before x1.before) fun c2 =>
  bif (!c2) then
    false
  else
  bif (!(x0.two == x1.two)) then
    false
  else
  true
theorem w_eqKeys_lk (x0 : Keys) (x1 : Keys) : evalFn te (orcOf (P := Try.prog) [w_eqMac_e]) lorc0 [] Try.f76 (pvs [.st .keys, .st .keys] (x0, x1, ())) =
  w_eqKeys_N x0 x1 _ none (fun v => some [(false, [RC.c (.bool v)])]) := by kernel_rfl
theorem w_eqKeys_p (x0 : Keys) (x1 : Keys)   (γ : Type) (fail : γ) (k : Bool → γ) : w_eqKeys_N x0 x1 γ fail k = k (w_eqKeys x0 x1) := by
  unfold w_eqKeys_N w_eqKeys
  exact bifT (f := k) (fun b0 => rfl)
      (fun b0 => letT (f := k) (fun c1 hc1 => bifT (f := k) (fun b1 => rfl)
      (fun b1 => letT (f := k) (fun c2 hc2 => bifT (f := k) (fun b2 => rfl)
      (fun b2 => bifT (f := k) (fun b3 => rfl)
      (fun b3 => rfl))))))
theorem w_eqKeys_c (x0 : Keys) (x1 : Keys)  : Con Try.prog 76 (pvs [.st .keys, .st .keys] (x0, x1, ())) [rv (.sc .bool) [] (w_eqKeys x0 x1)] := by
  exact evalFn_con0 teFact mixFact (orcOf_ok _) Try.func76 (by kernel_rfl) ((w_eqKeys_lk x0 x1).trans (w_eqKeys_p x0 x1  _ _ _))
noncomputable def w_eqKeys_e : Ent1 Try.prog := entA 76 [.st .keys, .st .keys] (fun x => (w_eqKeys x.1 x.2.1)) (fun v => [rv (.sc .bool) [] v]) (fun x => w_eqKeys_c x.1 x.2.1)


/-- laws.toConn -/
def w_toConn_N (x0 : Conn) (γ : Type) (fail : γ) (k : Conn → γ) : γ :=
  letK (α := Tupl) (w_toTuple x0.tuple) fun c1 =>
  letK (α := Sndr) (w_toSender x0.s) fun c2 =>
  bif (decide (x0.r.data.length ≤ 4294967296 ∧ x0.r.held.length ≤ 4294967296)) then
  letK (α := Recv) (w_toReceiver x0.r) fun c3 =>
  letK (α := Opti) (w_toOptions x0.opts) fun c4 =>
  k (⟨c1, x0.state, c2, c3, x0.window, x0.most, c4, x0.timer, x0.tries⟩ : Conn)
  else fail
def w_toConn (x0 : Conn) : Conn :=
  letK (α := Tupl) (w_toTuple x0.tuple) fun c1 =>
  letK (α := Sndr) (w_toSender x0.s) fun c2 =>
  letK (α := Recv) (w_toReceiver x0.r) fun c3 =>
  letK (α := Opti) (w_toOptions x0.opts) fun c4 =>
  (⟨c1, x0.state, c2, c3, x0.window, x0.most, c4, x0.timer, x0.tries⟩ : Conn)
theorem w_toConn_lk (x0 : Conn) : evalFn te (orcOf (P := Try.prog) [w_toTuple_e, w_toSender_e, w_toReceiver_e, w_toOptions_e]) lorc0 [] Try.f161 (pvs [.st .conn] (x0, ())) =
  w_toConn_N x0 _ none (fun v => some [(true, [RC.c (.int .i64 v.tuple.ip), RC.c (.int .i64 v.tuple.port), RC.c (.int .i64 v.tuple.my), RC.c (.int .i64 v.state), RC.c (.int .i64 v.s.una), RC.c (.str v.s.data), RC.c (.int .i64 v.s.sent), RC.c (.bool v.s.fin), RC.c (.bool v.s.finSent), RC.c (.bool v.s.done), RC.c (.int .i64 v.r.next), RC.c (.str v.r.data), RC.own true .piec v.r.held, RC.c (.int .i64 v.r.fin), RC.c (.bool v.r.done), RC.c (.int .i64 v.window), RC.c (.int .i64 v.most), RC.c (.int .i64 v.opts.mss), RC.c (.int .i64 v.opts.scale), RC.c (.bool v.opts.sack), RC.c (.bool v.opts.stamp), RC.c (.int .i64 v.opts.val), RC.c (.int .i64 v.opts.echo), RC.c (.int .i64 v.timer), RC.c (.int .i64 v.tries)])]) := by kernel_rfl
theorem w_toConn_p (x0 : Conn) (hx0_tuple_ip : inK .i64 x0.tuple.ip) (hx0_tuple_port : inK .i64 x0.tuple.port) (hx0_tuple_my : inK .i64 x0.tuple.my) (hx0_state : inK .i64 x0.state) (hx0_s_una : inK .i64 x0.s.una) (hx0_s_data : List.length x0.s.data ≤ 4611686018427387904) (hx0_s_sent : inK .i64 x0.s.sent) (hx0_r_next : inK .i64 x0.r.next) (hx0_r_data : List.length x0.r.data ≤ 4611686018427387904) (hx0_r_held : x0.r.held.length ≤ 140737488355328) (hx0_r_held_e : ∀ y ∈ x0.r.held, ∀ c ∈ Ty.cells .piec y, FactC c) (hx0_r_fin : inK .i64 x0.r.fin) (hx0_window : inK .i64 x0.window) (hx0_most : inK .i64 x0.most) (hx0_opts_mss : inK .i64 x0.opts.mss) (hx0_opts_scale : inK .i64 x0.opts.scale) (hx0_opts_val : inK .i64 x0.opts.val) (hx0_opts_echo : inK .i64 x0.opts.echo) (hx0_timer : inK .i64 x0.timer) (hx0_tries : inK .i64 x0.tries) (hp : x0.s.data.length ≤ 4294967296 ∧ x0.r.data.length ≤ 4294967296 ∧ x0.r.held.length ≤ 4294967296) (γ : Type) (fail : γ) (k : Conn → γ) : w_toConn_N x0 γ fail k = k (w_toConn x0) := by
  unfold w_toConn_N w_toConn
  exact letT (f := k) (fun c1 hc1 => letT (f := k) (fun c2 hc2 => bifG (by (try simp only [Nat.ble_eq, Bool.and_eq_true, decide_eq_true_eq]); grind [maxSl, maxStr, toBytes_length, toInts_length, List.length_set, wrap64]) (letT (f := k) (fun c3 hc3 => letT (f := k) (fun c4 hc4 => rfl)))))
theorem w_toConn_c (x0 : Conn) (hp : x0.s.data.length ≤ 4294967296 ∧ x0.r.data.length ≤ 4294967296 ∧ x0.r.held.length ≤ 4294967296) : Con Try.prog 161 (pvs [.st .conn] (x0, ())) [rv (.st .conn) [.c, .c, .c, .c, .c, .c, .c, .c, .c, .c, .c, .c, .o true, .c, .c, .c, .c, .c, .c, .c, .c, .c, .c, .c, .c] (w_toConn x0)] := by
  refine Con.of_facts (enters_of Try.func161 rfl (by kernel_rfl)) fun hf => ?_
  replace hf := factAt hf
  exact evalFn_con0 teFact mixFact (orcOf_ok _) Try.func161 (by kernel_rfl) ((w_toConn_lk x0).trans (w_toConn_p x0 ((hf 0 0 rfl rfl).rng) ((hf 0 1 rfl rfl).rng) ((hf 0 2 rfl rfl).rng) ((hf 0 3 rfl rfl).rng) ((hf 0 4 rfl rfl).rng) ((hf 0 5 rfl rfl).slen) ((hf 0 6 rfl rfl).rng) ((hf 0 10 rfl rfl).rng) ((hf 0 11 rfl rfl).slen) ((hf 0 12 rfl rfl).len) (fun y hy => (hf 0 12 rfl rfl).elem hy) ((hf 0 13 rfl rfl).rng) ((hf 0 15 rfl rfl).rng) ((hf 0 16 rfl rfl).rng) ((hf 0 17 rfl rfl).rng) ((hf 0 18 rfl rfl).rng) ((hf 0 21 rfl rfl).rng) ((hf 0 22 rfl rfl).rng) ((hf 0 23 rfl rfl).rng) ((hf 0 24 rfl rfl).rng) hp _ _ _))
noncomputable def w_toConn_e : Ent1 Try.prog := entP 161 [.st .conn] (fun x => (decide (x.1.s.data.length ≤ 4294967296 ∧ x.1.r.data.length ≤ 4294967296 ∧ x.1.r.held.length ≤ 4294967296))) (fun x => (w_toConn x.1)) (fun v => [rv (.st .conn) [.c, .c, .c, .c, .c, .c, .c, .c, .c, .c, .c, .c, .o true, .c, .c, .c, .c, .c, .c, .c, .c, .c, .c, .c, .c] v]) (fun x hx => w_toConn_c x.1 (of_decide_eq_true hx))


/-- laws.eqConn -/
def w_eqConn_N (x0 : Conn) (x1 : Conn) (γ : Type) (fail : γ) (k : Bool → γ) : γ :=
  letK (α := Bool) (w_eqTuple x0.tuple x1.tuple) fun c1 =>
  bif (!c1) then
    k false
  else
  bif (x0.state != x1.state) then
    k false
  else
  letK (α := Bool) (w_eqSender x0.s x1.s) fun c2 =>
  bif (!c2) then
    k false
  else
  letK (α := Bool) (w_eqReceiver x0.r x1.r) fun c3 =>
  bif (!c3) then
    k false
  else
  bif (x0.window != x1.window) then
    k false
  else
  bif (x0.most != x1.most) then
    k false
  else
  letK (α := Bool) (w_eqOptions x0.opts x1.opts) fun c4 =>
  bif (!c4) then
    k false
  else
  bif (x0.timer != x1.timer) then
    k false
  else
  bif (x0.tries != x1.tries) then
    k false
  else
  k true
def w_eqConn (x0 : Conn) (x1 : Conn) : Bool :=
  letK (α := Bool) (w_eqTuple x0.tuple x1.tuple) fun c1 =>
  bif (!c1) then
    false
  else
  bif (x0.state != x1.state) then
    false
  else
  letK (α := Bool) (w_eqSender x0.s x1.s) fun c2 =>
  bif (!c2) then
    false
  else
  letK (α := Bool) (w_eqReceiver x0.r x1.r) fun c3 =>
  bif (!c3) then
    false
  else
  bif (x0.window != x1.window) then
    false
  else
  bif (x0.most != x1.most) then
    false
  else
  letK (α := Bool) (w_eqOptions x0.opts x1.opts) fun c4 =>
  bif (!c4) then
    false
  else
  bif (x0.timer != x1.timer) then
    false
  else
  bif (x0.tries != x1.tries) then
    false
  else
  true
theorem w_eqConn_lk (x0 : Conn) (x1 : Conn) : evalFn te (orcOf (P := Try.prog) [w_eqTuple_e, w_eqSender_e, w_eqReceiver_e, w_eqOptions_e]) lorc0 [] Try.f164 (pvs [.st .conn, .st .conn] (x0, x1, ())) =
  w_eqConn_N x0 x1 _ none (fun v => some [(false, [RC.c (.bool v)])]) := by kernel_rfl
theorem w_eqConn_p (x0 : Conn) (x1 : Conn)   (γ : Type) (fail : γ) (k : Bool → γ) : w_eqConn_N x0 x1 γ fail k = k (w_eqConn x0 x1) := by
  unfold w_eqConn_N w_eqConn
  exact letT (f := k) (fun c1 hc1 => bifT (f := k) (fun b0 => rfl)
      (fun b0 => bifT (f := k) (fun b1 => rfl)
      (fun b1 => letT (f := k) (fun c2 hc2 => bifT (f := k) (fun b2 => rfl)
      (fun b2 => letT (f := k) (fun c3 hc3 => bifT (f := k) (fun b3 => rfl)
      (fun b3 => bifT (f := k) (fun b4 => rfl)
      (fun b4 => bifT (f := k) (fun b5 => rfl)
      (fun b5 => letT (f := k) (fun c4 hc4 => bifT (f := k) (fun b6 => rfl)
      (fun b6 => bifT (f := k) (fun b7 => rfl)
      (fun b7 => bifT (f := k) (fun b8 => rfl)
      (fun b8 => rfl)))))))))))))
theorem w_eqConn_c (x0 : Conn) (x1 : Conn)  : Con Try.prog 164 (pvs [.st .conn, .st .conn] (x0, x1, ())) [rv (.sc .bool) [] (w_eqConn x0 x1)] := by
  exact evalFn_con0 teFact mixFact (orcOf_ok _) Try.func164 (by kernel_rfl) ((w_eqConn_lk x0 x1).trans (w_eqConn_p x0 x1  _ _ _))
noncomputable def w_eqConn_e : Ent1 Try.prog := entA 164 [.st .conn, .st .conn] (fun x => (w_eqConn x.1 x.2.1)) (fun v => [rv (.sc .bool) [] v]) (fun x => w_eqConn_c x.1 x.2.1)


/-- laws.toConnS -/
def w_toConnS_ann : List (Nat × Keep) := [(0, ⟨[0, 3, 4], [], false, 0⟩)]
def w_toConnS_L0_sh : Sh := ⟨[(0, false, [.sl .arg .conn]), (3, false, [.own 0]), (4, false, [.int .i64])], [.arr .conn false true]⟩
def w_toConnS_L0_es : List (Ex × Sh) := [(.exit 0, ⟨[(2, false, [.undef]), (3, false, [.own 0])], [.arr .conn false true]⟩)]
def w_toConnS_L0_mk (v0 : List Conn) (v1 : Int) (v2 : List Conn) : w_toConnS_L0_sh.T := (((v0, ()), (((), ()), ((v1, ()), ()))), (v2, ()))
def w_toConnS_L0_mx0 (y0 : List Conn) : Sh.T ⟨[(2, false, [.undef]), (3, false, [.own 0])], [.arr .conn false true]⟩ := ((((), ()), (((), ()), ())), (y0, ()))
def w_toConnS_L0_B (v0 : List Conn) (v1 : Int) (v2 : List Conn) (γ : Type) (fail : γ) (next : w_toConnS_L0_sh.T → γ) (out : WT w_toConnS_L0_es → γ) : γ :=
  bif (decide (v1 < (v0.length : Int))) then
    bif ((decide (0 ≤ v1)) && (decide (v1 < (v0.length : Int)))) then
    bif (decide ((v0.getD v1.toNat (Ty.zero .conn)).s.data.length ≤ 4294967296 ∧ (v0.getD v1.toNat (Ty.zero .conn)).r.data.length ≤ 4294967296 ∧ (v0.getD v1.toNat (Ty.zero .conn)).r.held.length ≤ 4294967296)) then
    letK (α := Conn) (w_toConn (v0.getD v1.toNat (Ty.zero .conn))) fun c2 =>
    bif ((decide (0 ≤ v1)) && (decide (v1 < (v2.length : Int)))) then
    next (w_toConnS_L0_mk v0 (IntKind.wrap .i64 (v1 + 1)) (v2.set v1.toNat c2))
    else fail
    else fail
    else fail
  else
  out (w_toConnS_L0_mx0 v2)
theorem w_toConnS_L0_par (v0 : List Conn) (v1 : Int) (v2 : List Conn) (γ : Type) (fail : γ) (next : w_toConnS_L0_sh.T → γ) (out : WT w_toConnS_L0_es → γ) : w_toConnS_L0_B v0 v1 v2 γ fail next out = optK (w_toConnS_L0_B v0 v1 v2 _ none (fun v' => some (.inl v')) (fun w => some (.inr w))) fail (fun r => Sum.elim next out r) := by
  unfold w_toConnS_L0_B
  exact bifT (f := (fun o => optK o fail (fun r => Sum.elim next out r))) (fun _ => bifT (f := (fun o => optK o fail (fun r => Sum.elim next out r))) (fun _ => bifT (f := (fun o => optK o fail (fun r => Sum.elim next out r))) (fun _ => letT (f := (fun o => optK o fail (fun r => Sum.elim next out r))) (fun c2 _ => bifT (f := (fun o => optK o fail (fun r => Sum.elim next out r))) (fun _ => rfl) (fun _ => rfl))) (fun _ => rfl)) (fun _ => rfl))
      (fun _ => rfl)
def w_toConnS_L0_r : Round w_toConnS_L0_sh.T (WT w_toConnS_L0_es) where
  B v γ fail next out := w_toConnS_L0_B v.1.1.1 v.1.2.2.1.1 v.2.1 γ fail next out
  par v γ fail next out := w_toConnS_L0_par v.1.1.1 v.1.2.2.1.1 v.2.1 γ fail next out
def w_toConnS_L0_fu (v0 : List Conn) (v1 : Int) (v2 : List Conn) : Nat := (Int.toNat ((v0.length : Int) - v1)) + 1
theorem w_toConnS_L0_lk (v : w_toConnS_L0_sh.T) (next : St → Option Res) (k : Ex → St → Option Res) : evalK te (orcOf (P := Try.prog) [w_toConn_e]) (lorcOf []) Try.f124.ntmps w_toConnS_ann (nthLoop (bodyOf Try.f124) 0 0) 0 (w_toConnS_L0_sh.enc v) (endK ⟨[0, 3, 4], [], false, 0⟩ ⟨[2, 3], [], false, 0⟩ next k) =
  w_toConnS_L0_r.B v _ none (fun v' => next (w_toConnS_L0_sh.enc v')) (fun w => outK w_toConnS_L0_es k w) := by kernel_rfl
def w_toConnS_L0_le : LE := leOf 0 w_toConnS_L0_sh w_toConnS_L0_es w_toConnS_L0_r.step (fun v => w_toConnS_L0_fu v.1.1.1 v.1.2.2.1.1 v.2.1)
theorem w_toConnS_L0_ls (w0 : World) (mo : Mts) (I0 : Nat → Prop) (hmo : mo.length = 0) : LSem Try.prog (Sim w0 mo Try.f124.ntmps I0) (fun b s k => match Nat.beq 0 b with | true => w_toConnS_L0_le.run s k | false => none) 0 (nthLoop (bodyOf Try.f124) 0 0) :=
  le_sem hmo (lorc := lorcOf []) (ann := w_toConnS_ann) (keep := ⟨[0, 3, 4], [], false, 0⟩) (kout := ⟨[2, 3], [], false, 0⟩) teFact mixFact (orcOf_ok _) (by kernel_rfl) (allLoops_of (bs := []) (by kernel_rfl) trivial) w_toConnS_L0_r _ w_toConnS_L0_lk
def w_toConnS_L0_f (v0 : List Conn) (v1 : Int) (a : List Conn) : Stp (List Conn) (Empty) :=
  letK (α := Conn) (w_toConn (v0.getD v1.toNat (Ty.zero .conn))) fun c2 =>
  .next (a.set v1.toNat c2)
theorem w_toConnS_L0_st (v0 : List Conn) (v1 : Int) (v2 : List Conn) (hlo : 0 ≤ v1) (hhi : v1 < (v0.length : Int)) (hN : (v0.length : Int) ≤ 4611686018427387904) (hi0 : sm_conn v0 = true) (hinv : (v0.length : Int) ≤ (v2.length : Int)) : w_toConnS_L0_r.step (w_toConnS_L0_mk v0 v1 v2) = Stp.elim (fun a' : List Conn => some (Sum.inl (w_toConnS_L0_mk v0 (v1 + 1) a'))) (fun w => some (Sum.inr ((fun p : Empty => nomatch p) w))) (w_toConnS_L0_f v0 v1 v2) := by
  have hw : (IntKind.wrap .i64 (v1 + 1)) = v1 + 1 := wrap64 (by omega) (by omega)
  show w_toConnS_L0_B v0 v1 v2 (Option (w_toConnS_L0_sh.T ⊕ WT w_toConnS_L0_es)) none (fun v' => some (Sum.inl v')) (fun w => some (Sum.inr w)) = _
  unfold w_toConnS_L0_B w_toConnS_L0_f
  exact bifG (by simp only [decide_eq_true_eq]; omega) (bifG (by (try simp only [Nat.ble_eq, Bool.and_eq_true, decide_eq_true_eq]); grind [maxSl, maxStr, toBytes_length, toInts_length, List.length_set, wrap64, sm_conn_at]) (bifG (by (try simp only [Nat.ble_eq, Bool.and_eq_true, decide_eq_true_eq]); grind [maxSl, maxStr, toBytes_length, toInts_length, List.length_set, wrap64, sm_conn_at]) (letT (f := (Stp.elim (fun a' : List Conn => some (Sum.inl (w_toConnS_L0_mk v0 (v1 + 1) a'))) (fun w => some (Sum.inr ((fun p : Empty => nomatch p) w))))) (fun c2 hc2 => bifG (by (try simp only [Nat.ble_eq, Bool.and_eq_true, decide_eq_true_eq]); grind [maxSl, maxStr, toBytes_length, toInts_length, List.length_set, wrap64, sm_conn_at]) ((by exact congrArg (fun z => some (Sum.inl (w_toConnS_L0_mk v0 z (v2.set v1.toNat c2)))) hw))))))
theorem w_toConnS_L0_cl (v0 : List Conn) (v1 : Int) (v2 : List Conn) (h0 : 0 ≤ v1) (h1 : (v0.length : Int) ≤ 4611686018427387904) (h2 : sm_conn v0 = true) (h3 : (v0.length : Int) ≤ (v2.length : Int)) : loopF w_toConnS_L0_r.step (w_toConnS_L0_fu v0 v1 v2) (w_toConnS_L0_mk v0 v1 v2) = some (Stp.elim (fun a => (fun i a => w_toConnS_L0_mx0 a) (v1 + 1 * (((Int.toNat ((v0.length : Int) - v1)) : Nat) : Int)) a) (fun p : Empty => nomatch p) (forN (w_toConnS_L0_f v0) 1 (Int.toNat ((v0.length : Int) - v1)) v1 v2)) :=
  forN_loop (step := w_toConnS_L0_r.step) (mk := fun v1 a => w_toConnS_L0_mk v0 v1 a) (f := w_toConnS_L0_f v0) (e := (fun i a => w_toConnS_L0_mx0 a)) (emb := (fun p : Empty => nomatch p)) (st := 1) (Inv := fun v1 a => (v0.length : Int) ≤ (a.length : Int)) (Int.toNat ((v0.length : Int) - v1)) v1 v2 _ (Nat.lt_succ_self _) h3
    (fun j a hj hv => ⟨w_toConnS_L0_st v0 (v1 + 1 * (j : Int)) a (by omega) (by omega) (by omega) h2 hv, by
      intro a' he
      grind [w_toConnS_L0_f, letK, Stp.elim, wrap64, List.length_set]⟩)
    (fun a hv => by
      show w_toConnS_L0_B v0 (v1 + 1 * (((Int.toNat ((v0.length : Int) - v1)) : Nat) : Int)) a (Option (w_toConnS_L0_sh.T ⊕ WT w_toConnS_L0_es)) none (fun v' => some (Sum.inl v')) (fun w => some (Sum.inr w)) = _
      unfold w_toConnS_L0_B
      exact bifN (by simp only [decide_eq_false_iff_not]; omega) rfl)
theorem w_toConnS_L0_nx (v0 : List Conn) (v1 : Int) (v2 : List Conn) (h0 : 0 ≤ v1) (h1 : (v0.length : Int) ≤ 4611686018427387904) (h2 : sm_conn v0 = true) (h3 : (v0.length : Int) ≤ (v2.length : Int)) : ∀ a', forN (w_toConnS_L0_f v0) 1 (Int.toNat ((v0.length : Int) - v1)) v1 v2 = .next a' → (v0.length : Int) ≤ (a'.length : Int) :=
  forN_inv (f := w_toConnS_L0_f v0) (st := 1) (Inv := fun v1 a => (v0.length : Int) ≤ (a.length : Int)) (Int.toNat ((v0.length : Int) - v1)) v1 v2 h3
    (fun j a hj hv => by
      intro a' he
      grind [w_toConnS_L0_f, letK, Stp.elim, wrap64, List.length_set])
def w_toConnS_N (x0 : List Conn) (γ : Type) (fail : γ) (k : List Conn → γ) : γ :=
  bif ((((decide (0 ≤ (x0.length : Int))) && (decide ((x0.length : Int) = (x0.length : Int)))) && (decide ((x0.length : Int) * 208 ≤ (maxSl : Int)))) && (decide ((x0.length : Int) ≤ (maxSl : Int)))) then
  letK (α := List Conn) (List.replicate ((x0.length : Int).toNat) (⟨⟨0, 0, 0⟩, 0, ⟨0, [], 0, false, false, false⟩, ⟨0, [], [], 0, false⟩, 0, 0, ⟨0, 0, false, false, 0, 0⟩, 0, 0⟩ : Conn)) fun l1 =>
  optK (loopF w_toConnS_L0_r.step (w_toConnS_L0_fu x0 0 l1) (w_toConnS_L0_mk x0 0 l1)) fail fun w3 =>
    k w3.2.1
  else fail
def w_toConnS (x0 : List Conn) : List Conn :=
  letK (α := List Conn) (List.replicate ((x0.length : Int).toNat) (⟨⟨0, 0, 0⟩, 0, ⟨0, [], 0, false, false, false⟩, ⟨0, [], [], 0, false⟩, 0, 0, ⟨0, 0, false, false, 0, 0⟩, 0, 0⟩ : Conn)) fun l1 =>
  Stp.elim (fun a4 =>
    a4)
    (fun p : Empty => nomatch p)
    (forN (w_toConnS_L0_f x0) 1 (Int.toNat ((x0.length : Int) - 0)) 0 l1)
theorem w_toConnS_lk (x0 : List Conn) : evalFn te (orcOf (P := Try.prog) [w_toConn_e]) (lorcOf [w_toConnS_L0_le]) w_toConnS_ann Try.f124 (pvs [.sc (.sl .conn)] (x0, ())) =
  w_toConnS_N x0 _ none (fun v => some [(false, [RC.own true .conn v])]) := by kernel_rfl
theorem w_toConnS_p (x0 : List Conn) (hx0 : x0.length ≤ 140737488355328) (hx0_e : ∀ y ∈ x0, ∀ c ∈ Ty.cells .conn y, FactC c) (hp : x0.length ≤ 4294967296 ∧ sm_conn x0 = true) (γ : Type) (fail : γ) (k : List Conn → γ) : w_toConnS_N x0 γ fail k = k (w_toConnS x0) := by
  unfold w_toConnS_N w_toConnS
  exact bifG (by (try simp only [Nat.ble_eq, Bool.and_eq_true, decide_eq_true_eq, w_toConnS_L0_mx0]); grind [maxSl, maxStr, toBytes_length, toInts_length, List.length_set, wrap64]) (letT (f := k) (fun l1 hl1 => loopX (f := k) (w_toConnS_L0_cl x0 0 l1 (by (try simp only [Nat.ble_eq, Bool.and_eq_true, decide_eq_true_eq, w_toConnS_L0_mx0]); grind [maxSl, maxStr, toBytes_length, toInts_length, List.length_set, wrap64]) (by (try simp only [Nat.ble_eq, Bool.and_eq_true, decide_eq_true_eq, w_toConnS_L0_mx0]); grind [maxSl, maxStr, toBytes_length, toInts_length, List.length_set, wrap64]) (by (try simp only [Nat.ble_eq, Bool.and_eq_true, decide_eq_true_eq, w_toConnS_L0_mx0]); grind [maxSl, maxStr, toBytes_length, toInts_length, List.length_set, wrap64]) (by (try simp only [Nat.ble_eq, Bool.and_eq_true, decide_eq_true_eq, w_toConnS_L0_mx0]); grind [maxSl, maxStr, toBytes_length, toInts_length, List.length_set, wrap64])) (fun a4 ha4 => have ia4 := w_toConnS_L0_nx x0 0 l1 (by (try simp only [Nat.ble_eq, Bool.and_eq_true, decide_eq_true_eq, w_toConnS_L0_mx0]); grind [maxSl, maxStr, toBytes_length, toInts_length, List.length_set, wrap64]) (by (try simp only [Nat.ble_eq, Bool.and_eq_true, decide_eq_true_eq, w_toConnS_L0_mx0]); grind [maxSl, maxStr, toBytes_length, toInts_length, List.length_set, wrap64]) (by (try simp only [Nat.ble_eq, Bool.and_eq_true, decide_eq_true_eq, w_toConnS_L0_mx0]); grind [maxSl, maxStr, toBytes_length, toInts_length, List.length_set, wrap64]) (by (try simp only [Nat.ble_eq, Bool.and_eq_true, decide_eq_true_eq, w_toConnS_L0_mx0]); grind [maxSl, maxStr, toBytes_length, toInts_length, List.length_set, wrap64]) _ ha4; rfl)
      (fun p : Empty => nomatch p)))
theorem w_toConnS_c (x0 : List Conn) (hp : x0.length ≤ 4294967296 ∧ sm_conn x0 = true) : Con Try.prog 124 (pvs [.sc (.sl .conn)] (x0, ())) [rv (.sc (.sl .conn)) [.o true] (w_toConnS x0)] := by
  refine Con.of_facts (enters_of Try.func124 rfl (by kernel_rfl)) fun hf => ?_
  replace hf := factAt hf
  exact evalFn_conL teFact mixFact (orcOf_ok _) Try.func124 (by kernel_rfl) (bs := [0]) (by kernel_rfl) (by kernel_rfl) (fun w0 mo I0 hmo => ⟨lsem_of_lorc (w_toConnS_L0_ls w0 mo I0 hmo) (by kernel_rfl), trivial⟩) ((w_toConnS_lk x0).trans (w_toConnS_p x0 ((hf 0 0 rfl rfl).len) (fun y hy => (hf 0 0 rfl rfl).elem hy) hp _ _ _))
noncomputable def w_toConnS_e : Ent1 Try.prog := entP 124 [.sc (.sl .conn)] (fun x => (decide (x.1.length ≤ 4294967296 ∧ sm_conn x.1 = true))) (fun x => (w_toConnS x.1)) (fun v => [rv (.sc (.sl .conn)) [.o true] v]) (fun x hx => w_toConnS_c x.1 (of_decide_eq_true hx))


/-- laws.eqConnS -/
def w_eqConnS_ann : List (Nat × Keep) := [(0, ⟨[0, 1, 5], [], false, 0⟩)]
def w_eqConnS_L0_sh : Sh := ⟨[(0, false, [.sl .arg .conn]), (1, false, [.sl .arg .conn]), (5, false, [.int .i64])], []⟩
def w_eqConnS_L0_es : List (Ex × Sh) := [(.ret, ⟨[(4, false, [.bool])], []⟩), (.exit 0, ⟨[(4, false, [.undef])], []⟩)]
def w_eqConnS_L0_mk (v0 : List Conn) (v1 : List Conn) (v2 : Int) : w_eqConnS_L0_sh.T := (((v0, ()), ((v1, ()), ((v2, ()), ()))), ())
def w_eqConnS_L0_mx0 (y0 : Bool) : Sh.T ⟨[(4, false, [.bool])], []⟩ := (((y0, ()), ()), ())
def w_eqConnS_L0_mx1  : Sh.T ⟨[(4, false, [.undef])], []⟩ := ((((), ()), ()), ())
def w_eqConnS_L0_B (v0 : List Conn) (v1 : List Conn) (v2 : Int) (γ : Type) (fail : γ) (next : w_eqConnS_L0_sh.T → γ) (out : WT w_eqConnS_L0_es → γ) : γ :=
  bif (decide (v2 < (v0.length : Int))) then
    bif ((decide (0 ≤ v2)) && (decide (v2 < (v0.length : Int)))) then
    bif ((decide (0 ≤ v2)) && (decide (v2 < (v1.length : Int)))) then
    letK (α := Bool) (w_eqConn (v0.getD v2.toNat (Ty.zero .conn)) (v1.getD v2.toNat (Ty.zero .conn))) fun c1 =>
    bif (!c1) then
      out (Sum.inl (w_eqConnS_L0_mx0 false))
    else
    next (w_eqConnS_L0_mk v0 v1 (IntKind.wrap .i64 (v2 + 1)))
    else fail
    else fail
  else
  out (Sum.inr (w_eqConnS_L0_mx1 ))
theorem w_eqConnS_L0_par (v0 : List Conn) (v1 : List Conn) (v2 : Int) (γ : Type) (fail : γ) (next : w_eqConnS_L0_sh.T → γ) (out : WT w_eqConnS_L0_es → γ) : w_eqConnS_L0_B v0 v1 v2 γ fail next out = optK (w_eqConnS_L0_B v0 v1 v2 _ none (fun v' => some (.inl v')) (fun w => some (.inr w))) fail (fun r => Sum.elim next out r) := by
  unfold w_eqConnS_L0_B
  exact bifT (f := (fun o => optK o fail (fun r => Sum.elim next out r))) (fun _ => bifT (f := (fun o => optK o fail (fun r => Sum.elim next out r))) (fun _ => bifT (f := (fun o => optK o fail (fun r => Sum.elim next out r))) (fun _ => letT (f := (fun o => optK o fail (fun r => Sum.elim next out r))) (fun c1 _ => bifT (f := (fun o => optK o fail (fun r => Sum.elim next out r))) (fun _ => rfl)
      (fun _ => rfl))) (fun _ => rfl)) (fun _ => rfl))
      (fun _ => rfl)
def w_eqConnS_L0_r : Round w_eqConnS_L0_sh.T (WT w_eqConnS_L0_es) where
  B v γ fail next out := w_eqConnS_L0_B v.1.1.1 v.1.2.1.1 v.1.2.2.1.1 γ fail next out
  par v γ fail next out := w_eqConnS_L0_par v.1.1.1 v.1.2.1.1 v.1.2.2.1.1 γ fail next out
def w_eqConnS_L0_fu (v0 : List Conn) (v1 : List Conn) (v2 : Int) : Nat := (Int.toNat ((v0.length : Int) - v2)) + 1
theorem w_eqConnS_L0_lk (v : w_eqConnS_L0_sh.T) (next : St → Option Res) (k : Ex → St → Option Res) : evalK te (orcOf (P := Try.prog) [w_eqConn_e]) (lorcOf []) Try.f128.ntmps w_eqConnS_ann (nthLoop (bodyOf Try.f128) 0 0) 0 (w_eqConnS_L0_sh.enc v) (endK ⟨[0, 1, 5], [], false, 0⟩ ⟨[4], [], false, 0⟩ next k) =
  w_eqConnS_L0_r.B v _ none (fun v' => next (w_eqConnS_L0_sh.enc v')) (fun w => outK w_eqConnS_L0_es k w) := by kernel_rfl
def w_eqConnS_L0_le : LE := leOf 0 w_eqConnS_L0_sh w_eqConnS_L0_es w_eqConnS_L0_r.step (fun v => w_eqConnS_L0_fu v.1.1.1 v.1.2.1.1 v.1.2.2.1.1)
theorem w_eqConnS_L0_ls (w0 : World) (mo : Mts) (I0 : Nat → Prop) (hmo : mo.length = 0) : LSem Try.prog (Sim w0 mo Try.f128.ntmps I0) (fun b s k => match Nat.beq 0 b with | true => w_eqConnS_L0_le.run s k | false => none) 0 (nthLoop (bodyOf Try.f128) 0 0) :=
  le_sem hmo (lorc := lorcOf []) (ann := w_eqConnS_ann) (keep := ⟨[0, 1, 5], [], false, 0⟩) (kout := ⟨[4], [], false, 0⟩) teFact mixFact (orcOf_ok _) (by kernel_rfl) (allLoops_of (bs := []) (by kernel_rfl) trivial) w_eqConnS_L0_r _ w_eqConnS_L0_lk
def w_eqConnS_L0_f (v0 : List Conn) (v1 : List Conn) (v2 : Int) (a : Unit) : Stp (Unit) ((Unit)) :=
  letK (α := Bool) (w_eqConn (v0.getD v2.toNat (Ty.zero .conn)) (v1.getD v2.toNat (Ty.zero .conn))) fun c1 =>
  bif (!c1) then
    .out (())
  else
  .next ()
theorem w_eqConnS_L0_st (v0 : List Conn) (v1 : List Conn) (v2 : Int) (hlo : 0 ≤ v2) (hhi : v2 < (v0.length : Int)) (hN : (v0.length : Int) ≤ 4611686018427387904) (hi0 : (v0.length : Int) ≤ (v1.length : Int)) : w_eqConnS_L0_r.step (w_eqConnS_L0_mk v0 v1 v2) = Stp.elim (fun a' : Unit => some (Sum.inl (w_eqConnS_L0_mk v0 v1 (v2 + 1)))) (fun w => some (Sum.inr ((fun p : Unit => Sum.inl (w_eqConnS_L0_mx0 false)) w))) (w_eqConnS_L0_f v0 v1 v2 ()) := by
  have hw : (IntKind.wrap .i64 (v2 + 1)) = v2 + 1 := wrap64 (by omega) (by omega)
  show w_eqConnS_L0_B v0 v1 v2 (Option (w_eqConnS_L0_sh.T ⊕ WT w_eqConnS_L0_es)) none (fun v' => some (Sum.inl v')) (fun w => some (Sum.inr w)) = _
  unfold w_eqConnS_L0_B w_eqConnS_L0_f
  exact bifG (by simp only [decide_eq_true_eq]; omega) (bifG (by (try simp only [Nat.ble_eq, Bool.and_eq_true, decide_eq_true_eq]); grind [maxSl, maxStr, toBytes_length, toInts_length, List.length_set, wrap64]) (bifG (by (try simp only [Nat.ble_eq, Bool.and_eq_true, decide_eq_true_eq]); grind [maxSl, maxStr, toBytes_length, toInts_length, List.length_set, wrap64]) (letT (f := (Stp.elim (fun a' : Unit => some (Sum.inl (w_eqConnS_L0_mk v0 v1 (v2 + 1)))) (fun w => some (Sum.inr ((fun p : Unit => Sum.inl (w_eqConnS_L0_mx0 false)) w))))) (fun c1 hc1 => bifT (f := (Stp.elim (fun a' : Unit => some (Sum.inl (w_eqConnS_L0_mk v0 v1 (v2 + 1)))) (fun w => some (Sum.inr ((fun p : Unit => Sum.inl (w_eqConnS_L0_mx0 false)) w))))) (fun b0 => rfl)
      (fun b0 => (by exact congrArg (fun z => some (Sum.inl (w_eqConnS_L0_mk v0 v1 z))) hw))))))
theorem w_eqConnS_L0_cl (v0 : List Conn) (v1 : List Conn) (v2 : Int) (h0 : 0 ≤ v2) (h1 : (v0.length : Int) ≤ 4611686018427387904) (h2 : (v0.length : Int) ≤ (v1.length : Int)) : loopF w_eqConnS_L0_r.step (w_eqConnS_L0_fu v0 v1 v2) (w_eqConnS_L0_mk v0 v1 v2) = some (Stp.elim (fun a => (fun i a => Sum.inr (w_eqConnS_L0_mx1 )) (v2 + 1 * (((Int.toNat ((v0.length : Int) - v2)) : Nat) : Int)) a) (fun p : Unit => Sum.inl (w_eqConnS_L0_mx0 false)) (forN (w_eqConnS_L0_f v0 v1) 1 (Int.toNat ((v0.length : Int) - v2)) v2 ())) :=
  forN_loop (step := w_eqConnS_L0_r.step) (mk := fun v2 a => w_eqConnS_L0_mk v0 v1 v2) (f := w_eqConnS_L0_f v0 v1) (e := (fun i a => Sum.inr (w_eqConnS_L0_mx1 ))) (emb := (fun p : Unit => Sum.inl (w_eqConnS_L0_mx0 false))) (st := 1) (Inv := fun v2 a => True) (Int.toNat ((v0.length : Int) - v2)) v2 () _ (Nat.lt_succ_self _) trivial
    (fun j a hj hv => ⟨w_eqConnS_L0_st v0 v1 (v2 + 1 * (j : Int)) (by omega) (by omega) (by omega) h2, fun _ _ => trivial⟩)
    (fun a hv => by
      show w_eqConnS_L0_B v0 v1 (v2 + 1 * (((Int.toNat ((v0.length : Int) - v2)) : Nat) : Int)) (Option (w_eqConnS_L0_sh.T ⊕ WT w_eqConnS_L0_es)) none (fun v' => some (Sum.inl v')) (fun w => some (Sum.inr w)) = _
      unfold w_eqConnS_L0_B
      exact bifN (by simp only [decide_eq_false_iff_not]; omega) rfl)
def w_eqConnS_N (x0 : List Conn) (x1 : List Conn) (γ : Type) (fail : γ) (k : Bool → γ) : γ :=
  bif ((x0.length : Int) != (x1.length : Int)) then
    k false
  else
  optK (loopF w_eqConnS_L0_r.step (w_eqConnS_L0_fu x0 x1 0) (w_eqConnS_L0_mk x0 x1 0)) fail fun w2 =>
    Sum.elim (fun w2 =>
      k w2.1.1.1)
    (fun w2 =>
      k true) w2
def w_eqConnS (x0 : List Conn) (x1 : List Conn) : Bool :=
  bif ((x0.length : Int) != (x1.length : Int)) then
    false
  else
  Stp.elim (fun a3 =>
    true)
    (fun p3 =>
      false)
    (forN (w_eqConnS_L0_f x0 x1) 1 (Int.toNat ((x0.length : Int) - 0)) 0 ())
theorem w_eqConnS_lk (x0 : List Conn) (x1 : List Conn) : evalFn te (orcOf (P := Try.prog) [w_eqConn_e]) (lorcOf [w_eqConnS_L0_le]) w_eqConnS_ann Try.f128 (pvs [.sc (.sl .conn), .sc (.sl .conn)] (x0, x1, ())) =
  w_eqConnS_N x0 x1 _ none (fun v => some [(false, [RC.c (.bool v)])]) := by kernel_rfl
theorem w_eqConnS_p (x0 : List Conn) (x1 : List Conn) (hx0 : x0.length ≤ 140737488355328) (hx0_e : ∀ y ∈ x0, ∀ c ∈ Ty.cells .conn y, FactC c) (hx1 : x1.length ≤ 140737488355328) (hx1_e : ∀ y ∈ x1, ∀ c ∈ Ty.cells .conn y, FactC c)  (γ : Type) (fail : γ) (k : Bool → γ) : w_eqConnS_N x0 x1 γ fail k = k (w_eqConnS x0 x1) := by
  unfold w_eqConnS_N w_eqConnS
  exact bifT (f := k) (fun b0 => rfl)
      (fun b0 => loopT (f := k) (w_eqConnS_L0_cl x0 x1 0 (by (try simp only [Nat.ble_eq, Bool.and_eq_true, decide_eq_true_eq, w_eqConnS_L0_mx0, w_eqConnS_L0_mx1]); grind [maxSl, maxStr, toBytes_length, toInts_length, List.length_set, wrap64]) (by (try simp only [Nat.ble_eq, Bool.and_eq_true, decide_eq_true_eq, w_eqConnS_L0_mx0, w_eqConnS_L0_mx1]); grind [maxSl, maxStr, toBytes_length, toInts_length, List.length_set, wrap64]) (by (try simp only [Nat.ble_eq, Bool.and_eq_true, decide_eq_true_eq, w_eqConnS_L0_mx0, w_eqConnS_L0_mx1]); grind [maxSl, maxStr, toBytes_length, toInts_length, List.length_set, wrap64])) (fun a3 => rfl)
      (fun p3 => rfl))
theorem w_eqConnS_c (x0 : List Conn) (x1 : List Conn)  : Con Try.prog 128 (pvs [.sc (.sl .conn), .sc (.sl .conn)] (x0, x1, ())) [rv (.sc .bool) [] (w_eqConnS x0 x1)] := by
  refine Con.of_facts (enters_of Try.func128 rfl (by kernel_rfl)) fun hf => ?_
  replace hf := factAt hf
  exact evalFn_conL teFact mixFact (orcOf_ok _) Try.func128 (by kernel_rfl) (bs := [0]) (by kernel_rfl) (by kernel_rfl) (fun w0 mo I0 hmo => ⟨lsem_of_lorc (w_eqConnS_L0_ls w0 mo I0 hmo) (by kernel_rfl), trivial⟩) ((w_eqConnS_lk x0 x1).trans (w_eqConnS_p x0 x1 ((hf 0 0 rfl rfl).len) (fun y hy => (hf 0 0 rfl rfl).elem hy) ((hf 1 0 rfl rfl).len) (fun y hy => (hf 1 0 rfl rfl).elem hy) _ _ _))
noncomputable def w_eqConnS_e : Ent1 Try.prog := entA 128 [.sc (.sl .conn), .sc (.sl .conn)] (fun x => (w_eqConnS x.1 x.2.1)) (fun v => [rv (.sc .bool) [] v]) (fun x => w_eqConnS_c x.1 x.2.1)


/-- laws.toTable -/
def w_toTable_N (x0 : Tabl) (γ : Type) (fail : γ) (k : Tabl → γ) : γ :=
  bif (decide (x0.conns.length ≤ 4294967296 ∧ sm_conn x0.conns = true)) then
  letK (α := List Conn) (w_toConnS x0.conns) fun c1 =>
  bif (decide (x0.waiting.length ≤ 4294967296)) then
  letK (α := List Tupl) (w_toTupleS x0.waiting) fun c2 =>
  k (⟨c1, c2⟩ : Tabl)
  else fail
  else fail
def w_toTable (x0 : Tabl) : Tabl :=
  letK (α := List Conn) (w_toConnS x0.conns) fun c1 =>
  letK (α := List Tupl) (w_toTupleS x0.waiting) fun c2 =>
  (⟨c1, c2⟩ : Tabl)
theorem w_toTable_lk (x0 : Tabl) : evalFn te (orcOf (P := Try.prog) [w_toConnS_e, w_toTupleS_e]) lorc0 [] Try.f75 (pvs [.st .tabl] (x0, ())) =
  w_toTable_N x0 _ none (fun v => some [(true, [RC.own true .conn v.conns, RC.own true .tupl v.waiting])]) := by kernel_rfl
theorem w_toTable_p (x0 : Tabl) (hx0_conns : x0.conns.length ≤ 140737488355328) (hx0_conns_e : ∀ y ∈ x0.conns, ∀ c ∈ Ty.cells .conn y, FactC c) (hx0_waiting : x0.waiting.length ≤ 140737488355328) (hp : x0.conns.length ≤ 4294967296 ∧ sm_conn x0.conns = true ∧ x0.waiting.length ≤ 4294967296) (γ : Type) (fail : γ) (k : Tabl → γ) : w_toTable_N x0 γ fail k = k (w_toTable x0) := by
  unfold w_toTable_N w_toTable
  exact bifG (by (try simp only [Nat.ble_eq, Bool.and_eq_true, decide_eq_true_eq]); grind [maxSl, maxStr, toBytes_length, toInts_length, List.length_set, wrap64]) (letT (f := k) (fun c1 hc1 => bifG (by (try simp only [Nat.ble_eq, Bool.and_eq_true, decide_eq_true_eq]); grind [maxSl, maxStr, toBytes_length, toInts_length, List.length_set, wrap64]) (letT (f := k) (fun c2 hc2 => rfl))))
theorem w_toTable_c (x0 : Tabl) (hp : x0.conns.length ≤ 4294967296 ∧ sm_conn x0.conns = true ∧ x0.waiting.length ≤ 4294967296) : Con Try.prog 75 (pvs [.st .tabl] (x0, ())) [rv (.st .tabl) [.o true, .o true] (w_toTable x0)] := by
  refine Con.of_facts (enters_of Try.func75 rfl (by kernel_rfl)) fun hf => ?_
  replace hf := factAt hf
  exact evalFn_con0 teFact mixFact (orcOf_ok _) Try.func75 (by kernel_rfl) ((w_toTable_lk x0).trans (w_toTable_p x0 ((hf 0 0 rfl rfl).len) (fun y hy => (hf 0 0 rfl rfl).elem hy) ((hf 0 1 rfl rfl).len) hp _ _ _))
noncomputable def w_toTable_e : Ent1 Try.prog := entP 75 [.st .tabl] (fun x => (decide (x.1.conns.length ≤ 4294967296 ∧ sm_conn x.1.conns = true ∧ x.1.waiting.length ≤ 4294967296))) (fun x => (w_toTable x.1)) (fun v => [rv (.st .tabl) [.o true, .o true] v]) (fun x hx => w_toTable_c x.1 (of_decide_eq_true hx))


/-- laws.eqTable -/
def w_eqTable_N (x0 : Tabl) (x1 : Tabl) (γ : Type) (fail : γ) (k : Bool → γ) : γ :=
  letK (α := Bool) (w_eqConnS x0.conns x1.conns) fun c1 =>
  bif (!c1) then
    k false
  else
  letK (α := Bool) (w_eqTupleS x0.waiting x1.waiting) fun c2 =>
  bif (!c2) then
    k false
  else
  k true
def w_eqTable (x0 : Tabl) (x1 : Tabl) : Bool :=
  letK (α := Bool) (w_eqConnS x0.conns x1.conns) fun c1 =>
  bif (!c1) then
    false
  else
  letK (α := Bool) (w_eqTupleS x0.waiting x1.waiting) fun c2 =>
  bif (!c2) then
    false
  else
  true
theorem w_eqTable_lk (x0 : Tabl) (x1 : Tabl) : evalFn te (orcOf (P := Try.prog) [w_eqConnS_e, w_eqTupleS_e]) lorc0 [] Try.f79 (pvs [.st .tabl, .st .tabl] (x0, x1, ())) =
  w_eqTable_N x0 x1 _ none (fun v => some [(false, [RC.c (.bool v)])]) := by kernel_rfl
theorem w_eqTable_p (x0 : Tabl) (x1 : Tabl)   (γ : Type) (fail : γ) (k : Bool → γ) : w_eqTable_N x0 x1 γ fail k = k (w_eqTable x0 x1) := by
  unfold w_eqTable_N w_eqTable
  exact letT (f := k) (fun c1 hc1 => bifT (f := k) (fun b0 => rfl)
      (fun b0 => letT (f := k) (fun c2 hc2 => bifT (f := k) (fun b1 => rfl)
      (fun b1 => rfl))))
theorem w_eqTable_c (x0 : Tabl) (x1 : Tabl)  : Con Try.prog 79 (pvs [.st .tabl, .st .tabl] (x0, x1, ())) [rv (.sc .bool) [] (w_eqTable x0 x1)] := by
  exact evalFn_con0 teFact mixFact (orcOf_ok _) Try.func79 (by kernel_rfl) ((w_eqTable_lk x0 x1).trans (w_eqTable_p x0 x1  _ _ _))
noncomputable def w_eqTable_e : Ent1 Try.prog := entA 79 [.st .tabl, .st .tabl] (fun x => (w_eqTable x.1 x.2.1)) (fun v => [rv (.sc .bool) [] v]) (fun x => w_eqTable_c x.1 x.2.1)


/-- laws.toDoor -/
def w_toDoor_N (x0 : Door) (γ : Type) (fail : γ) (k : Door → γ) : γ :=
  bif (decide (x0.keys.now.rows.length ≤ 4294967296 ∧ x0.keys.before.rows.length ≤ 4294967296)) then
  letK (α := Keys) (w_toKeys x0.keys) fun c1 =>
  letK (α := Limi) (w_toLimits x0.limits) fun c2 =>
  bif (decide (x0.halves.length ≤ 4294967296)) then
  letK (α := List Half) (w_toHalfS x0.halves) fun c3 =>
  bif (decide (x0.table.conns.length ≤ 4294967296 ∧ sm_conn x0.table.conns = true ∧ x0.table.waiting.length ≤ 4294967296)) then
  letK (α := Tabl) (w_toTable x0.table) fun c4 =>
  k (⟨x0.port, x0.clock, c1, c2, c3, c4, x0.chal⟩ : Door)
  else fail
  else fail
  else fail
def w_toDoor (x0 : Door) : Door :=
  letK (α := Keys) (w_toKeys x0.keys) fun c1 =>
  letK (α := Limi) (w_toLimits x0.limits) fun c2 =>
  letK (α := List Half) (w_toHalfS x0.halves) fun c3 =>
  letK (α := Tabl) (w_toTable x0.table) fun c4 =>
  (⟨x0.port, x0.clock, c1, c2, c3, c4, x0.chal⟩ : Door)
theorem w_toDoor_lk (x0 : Door) : evalFn te (orcOf (P := Try.prog) [w_toKeys_e, w_toLimits_e, w_toHalfS_e, w_toTable_e]) lorc0 [] Try.f25 (pvs [.st .door] (x0, ())) =
  w_toDoor_N x0 _ none (fun v => some [(true, [RC.c (.int .i64 v.port), RC.c (.int .i64 v.clock), RC.c (.int .i64 v.keys.epoch), RC.c (.bool v.keys.now.use), RC.c (.int .u64 v.keys.now.k), RC.c (.int .u64 v.keys.now.l), RC.own true .macRow v.keys.now.rows, RC.c (.bool v.keys.before.use), RC.c (.int .u64 v.keys.before.k), RC.c (.int .u64 v.keys.before.l), RC.own true .macRow v.keys.before.rows, RC.c (.bool v.keys.two), RC.c (.int .i64 v.limits.halves), RC.c (.int .i64 v.limits.waiting), RC.c (.int .i64 v.limits.conns), RC.c (.int .i64 v.limits.chal), RC.own true .half v.halves, RC.own true .conn v.table.conns, RC.own true .tupl v.table.waiting, RC.c (.int .i64 v.chal)])]) := by kernel_rfl
theorem w_toDoor_p (x0 : Door) (hx0_port : inK .i64 x0.port) (hx0_clock : inK .i64 x0.clock) (hx0_keys_epoch : inK .i64 x0.keys.epoch) (hx0_keys_now_k : inK .u64 x0.keys.now.k) (hx0_keys_now_l : inK .u64 x0.keys.now.l) (hx0_keys_now_rows : x0.keys.now.rows.length ≤ 140737488355328) (hx0_keys_now_rows_e : ∀ y ∈ x0.keys.now.rows, ∀ c ∈ Ty.cells .macRow y, FactC c) (hx0_keys_before_k : inK .u64 x0.keys.before.k) (hx0_keys_before_l : inK .u64 x0.keys.before.l) (hx0_keys_before_rows : x0.keys.before.rows.length ≤ 140737488355328) (hx0_keys_before_rows_e : ∀ y ∈ x0.keys.before.rows, ∀ c ∈ Ty.cells .macRow y, FactC c) (hx0_limits_halves : inK .i64 x0.limits.halves) (hx0_limits_waiting : inK .i64 x0.limits.waiting) (hx0_limits_conns : inK .i64 x0.limits.conns) (hx0_limits_chal : inK .i64 x0.limits.chal) (hx0_halves : x0.halves.length ≤ 140737488355328) (hx0_table_conns : x0.table.conns.length ≤ 140737488355328) (hx0_table_conns_e : ∀ y ∈ x0.table.conns, ∀ c ∈ Ty.cells .conn y, FactC c) (hx0_table_waiting : x0.table.waiting.length ≤ 140737488355328) (hx0_chal : inK .i64 x0.chal) (hp : x0.keys.now.rows.length ≤ 4294967296 ∧ x0.keys.before.rows.length ≤ 4294967296 ∧ x0.halves.length ≤ 4294967296 ∧ x0.table.conns.length ≤ 4294967296 ∧ sm_conn x0.table.conns = true ∧ x0.table.waiting.length ≤ 4294967296) (γ : Type) (fail : γ) (k : Door → γ) : w_toDoor_N x0 γ fail k = k (w_toDoor x0) := by
  unfold w_toDoor_N w_toDoor
  exact bifG (by (try simp only [Nat.ble_eq, Bool.and_eq_true, decide_eq_true_eq]); grind [maxSl, maxStr, toBytes_length, toInts_length, List.length_set, wrap64]) (letT (f := k) (fun c1 hc1 => letT (f := k) (fun c2 hc2 => bifG (by (try simp only [Nat.ble_eq, Bool.and_eq_true, decide_eq_true_eq]); grind [maxSl, maxStr, toBytes_length, toInts_length, List.length_set, wrap64]) (letT (f := k) (fun c3 hc3 => bifG (by (try simp only [Nat.ble_eq, Bool.and_eq_true, decide_eq_true_eq]); grind [maxSl, maxStr, toBytes_length, toInts_length, List.length_set, wrap64]) (letT (f := k) (fun c4 hc4 => rfl)))))))
theorem w_toDoor_c (x0 : Door) (hp : x0.keys.now.rows.length ≤ 4294967296 ∧ x0.keys.before.rows.length ≤ 4294967296 ∧ x0.halves.length ≤ 4294967296 ∧ x0.table.conns.length ≤ 4294967296 ∧ sm_conn x0.table.conns = true ∧ x0.table.waiting.length ≤ 4294967296) : Con Try.prog 25 (pvs [.st .door] (x0, ())) [rv (.st .door) [.c, .c, .c, .c, .c, .c, .o true, .c, .c, .c, .o true, .c, .c, .c, .c, .c, .o true, .o true, .o true, .c] (w_toDoor x0)] := by
  refine Con.of_facts (enters_of Try.func25 rfl (by kernel_rfl)) fun hf => ?_
  replace hf := factAt hf
  exact evalFn_con0 teFact mixFact (orcOf_ok _) Try.func25 (by kernel_rfl) ((w_toDoor_lk x0).trans (w_toDoor_p x0 ((hf 0 0 rfl rfl).rng) ((hf 0 1 rfl rfl).rng) ((hf 0 2 rfl rfl).rng) ((hf 0 4 rfl rfl).rng) ((hf 0 5 rfl rfl).rng) ((hf 0 6 rfl rfl).len) (fun y hy => (hf 0 6 rfl rfl).elem hy) ((hf 0 8 rfl rfl).rng) ((hf 0 9 rfl rfl).rng) ((hf 0 10 rfl rfl).len) (fun y hy => (hf 0 10 rfl rfl).elem hy) ((hf 0 12 rfl rfl).rng) ((hf 0 13 rfl rfl).rng) ((hf 0 14 rfl rfl).rng) ((hf 0 15 rfl rfl).rng) ((hf 0 16 rfl rfl).len) ((hf 0 17 rfl rfl).len) (fun y hy => (hf 0 17 rfl rfl).elem hy) ((hf 0 18 rfl rfl).len) ((hf 0 19 rfl rfl).rng) hp _ _ _))
noncomputable def w_toDoor_e : Ent1 Try.prog := entP 25 [.st .door] (fun x => (decide (x.1.keys.now.rows.length ≤ 4294967296 ∧ x.1.keys.before.rows.length ≤ 4294967296 ∧ x.1.halves.length ≤ 4294967296 ∧ x.1.table.conns.length ≤ 4294967296 ∧ sm_conn x.1.table.conns = true ∧ x.1.table.waiting.length ≤ 4294967296))) (fun x => (w_toDoor x.1)) (fun v => [rv (.st .door) [.c, .c, .c, .c, .c, .c, .o true, .c, .c, .c, .o true, .c, .c, .c, .c, .c, .o true, .o true, .o true, .c] v]) (fun x hx => w_toDoor_c x.1 (of_decide_eq_true hx))


/-- laws.eqDoor -/
def w_eqDoor_N (x0 : Door) (x1 : Door) (γ : Type) (fail : γ) (k : Bool → γ) : γ :=
  bif (x0.port != x1.port) then
    k false
  else
  bif (x0.clock != x1.clock) then
    k false
  else
  letK (α := Bool) (w_eqKeys x0.keys x1.keys) fun c1 =>
  bif (!c1) then
    k false
  else
  letK (α := Bool) (w_eqLimits x0.limits x1.limits) fun c2 =>
  bif (!c2) then
    k false
  else
  letK (α := Bool) (w_eqHalfS x0.halves x1.halves) fun c3 =>
  bif (!c3) then
    k false
  else
  letK (α := Bool) (w_eqTable x0.table x1.table) fun c4 =>
  bif (!c4) then
    k false
  else
  bif (x0.chal != x1.chal) then
    k false
  else
  k true
def w_eqDoor (x0 : Door) (x1 : Door) : Bool :=
  bif (x0.port != x1.port) then
    false
  else
  bif (x0.clock != x1.clock) then
    false
  else
  letK (α := Bool) (w_eqKeys x0.keys x1.keys) fun c1 =>
  bif (!c1) then
    false
  else
  letK (α := Bool) (w_eqLimits x0.limits x1.limits) fun c2 =>
  bif (!c2) then
    false
  else
  letK (α := Bool) (w_eqHalfS x0.halves x1.halves) fun c3 =>
  bif (!c3) then
    false
  else
  letK (α := Bool) (w_eqTable x0.table x1.table) fun c4 =>
  bif (!c4) then
    false
  else
  bif (x0.chal != x1.chal) then
    false
  else
  true
theorem w_eqDoor_lk (x0 : Door) (x1 : Door) : evalFn te (orcOf (P := Try.prog) [w_eqKeys_e, w_eqLimits_e, w_eqHalfS_e, w_eqTable_e]) lorc0 [] Try.f27 (pvs [.st .door, .st .door] (x0, x1, ())) =
  w_eqDoor_N x0 x1 _ none (fun v => some [(false, [RC.c (.bool v)])]) := by kernel_rfl
theorem w_eqDoor_p (x0 : Door) (x1 : Door)   (γ : Type) (fail : γ) (k : Bool → γ) : w_eqDoor_N x0 x1 γ fail k = k (w_eqDoor x0 x1) := by
  unfold w_eqDoor_N w_eqDoor
  exact bifT (f := k) (fun b0 => rfl)
      (fun b0 => bifT (f := k) (fun b1 => rfl)
      (fun b1 => letT (f := k) (fun c1 hc1 => bifT (f := k) (fun b2 => rfl)
      (fun b2 => letT (f := k) (fun c2 hc2 => bifT (f := k) (fun b3 => rfl)
      (fun b3 => letT (f := k) (fun c3 hc3 => bifT (f := k) (fun b4 => rfl)
      (fun b4 => letT (f := k) (fun c4 hc4 => bifT (f := k) (fun b5 => rfl)
      (fun b5 => bifT (f := k) (fun b6 => rfl)
      (fun b6 => rfl)))))))))))
theorem w_eqDoor_c (x0 : Door) (x1 : Door)  : Con Try.prog 27 (pvs [.st .door, .st .door] (x0, x1, ())) [rv (.sc .bool) [] (w_eqDoor x0 x1)] := by
  exact evalFn_con0 teFact mixFact (orcOf_ok _) Try.func27 (by kernel_rfl) ((w_eqDoor_lk x0 x1).trans (w_eqDoor_p x0 x1  _ _ _))
noncomputable def w_eqDoor_e : Ent1 Try.prog := entA 27 [.st .door, .st .door] (fun x => (w_eqDoor x.1 x.2.1)) (fun v => [rv (.sc .bool) [] v]) (fun x => w_eqDoor_c x.1 x.2.1)



theorem factFl (f : Fl) : FactC (f.cell f.zero) := by
  cases f with
  | int k => exact .int _ _ (by cases k <;> exact ⟨by decide, by decide⟩)
  | bool => exact .bool _
  | str => exact .str _ (Nat.zero_le _)
  | sl t => exact .sl _ _ (Nat.zero_le _) (fun x hx => nomatch hx)
theorem factZeroH : ∀ (fs : List Fl), ∀ c ∈ cellsH fs (zeroH fs), FactC c
  | [], c, hc => nomatch hc
  | f :: fs, c, hc => by
    rcases List.mem_cons.1 hc with rfl | h
    · exact factFl f
    · exact factZeroH fs c h
theorem factZero (t : Ty) : ∀ c ∈ Ty.cells t (Ty.zero t), FactC c := by
  have : Ty.cells t (Ty.zero t) = cellsH t.fl (zeroH t.fl) := by simp only [Ty.cells, Ty.zero, Ty.toH_ofH]
  rw [this]
  exact factZeroH _

theorem toTuple_eq (x : Tupl) : w_toTuple x = x := by
  first | rfl | simp only [w_toTuple, letK] | (simp [w_toTuple, letK])

theorem w_szHalfS_sm (x0 : List Half) (x1 : Int) (hn : 0 ≤ x1 ∧ x1 ≤ 1048576) (hx0 : x0.length ≤ 140737488355328) : 0 ≤ w_szHalfS x0 x1 → w_szHalfS x0 x1 ≤ 1048576 ∧ x0.length ≤ 1048576 := by
  unfold w_szHalfS
  rw [wrap64 (by omega) (by omega)]
  cases hd : decide (x1 - (x0.length : Int) < 0) with
  | true => intro h; simp only [cond_true] at h; omega
  | false =>
    simp only [decide_eq_false_iff_not] at hd
    simp only [cond_false]
    intro h; omega

theorem toLimits_eq (x : Limi) : w_toLimits x = x := by
  first | rfl | simp only [w_toLimits, letK] | (simp [w_toLimits, letK])

theorem eqLimits_refl (x : Limi) : w_eqLimits x x = true := by simp [w_eqLimits, letK]

theorem toOptions_eq (x : Opti) : w_toOptions x = x := by
  first | rfl | simp only [w_toOptions, letK] | (simp [w_toOptions, letK])

theorem eqOptions_refl (x : Opti) : w_eqOptions x x = true := by simp [w_eqOptions, letK]

theorem w_szTupleS_sm (x0 : List Tupl) (x1 : Int) (hn : 0 ≤ x1 ∧ x1 ≤ 1048576) (hx0 : x0.length ≤ 140737488355328) : 0 ≤ w_szTupleS x0 x1 → w_szTupleS x0 x1 ≤ 1048576 ∧ x0.length ≤ 1048576 := by
  unfold w_szTupleS
  rw [wrap64 (by omega) (by omega)]
  cases hd : decide (x1 - (x0.length : Int) < 0) with
  | true => intro h; simp only [cond_true] at h; omega
  | false =>
    simp only [decide_eq_false_iff_not] at hd
    simp only [cond_false]
    intro h; omega

theorem toHalf_eq (x : Half) : w_toHalf x = x := by
  first | rfl | simp only [w_toHalf, letK, toTuple_eq, toOptions_eq] | (simp [w_toHalf, letK, toTuple_eq, toOptions_eq])

theorem toTupleS_eq (xs : List Tupl) : w_toTupleS xs = xs := by
  unfold w_toTupleS
  try simp only [letK_eq]
  rw [toNat_sub0, forN_list xs _ rfl (F := fun j x a => .next (a.set j x)) (by
    intro j x a h
    simp only [w_toTupleS_L0_f, letK_eq, toNat_cast, getD_some h, toTuple_eq])]
  have := fun r hr => listN_fill (W := Empty) (fun x => x) xs 0 r hr
  rw [this _ (by simp)]
  simp [Stp.elim]

end Go.Proofs.Ytbikbonhcfbmeaa
