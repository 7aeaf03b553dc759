/-
  Code: what the executor says of it holds of the model's run.
-/
import Derived.Test.YtjioppmfnejlnaaNorm
namespace Go.Proofs.Ytjioppmfnejlnaa
open Go Go.RowKit

def Ex.out : Ex → Exit
  | .normal => .normal
  | .exit id => .exit id
  | .ret => .ret

def Bounded (s : St) : Prop := ∀ id, s.obj id ≠ none → id < s.nx

section
variable {P : Program} {C : Nat → List PV → Res → Prop} {te : TE} {n : Nat} {S : FS → Act → World → Prop} {orc : Orc} {ann : List (Nat × List Nat)} {fuel : Nat} {z : Res}

theorem evalK_sound (H : SimOk P C te n S) (hnorm : ∀ (keep : List Nat) (s : St) (a : Act) (w : World), S s.den a w → S (s.norm keep).den a w) (hmix : P.follows .mixedOrders = true) (ho : OrcOk C orc) :
    ∀ (c : Code) {blk : Nat} {s : St} {k : Ex → St → Option Res}, evalK te orc n ann fuel c blk s k = some z → Bounded s → ∀ {a : Act} {w : World}, S s.den a w →
      ∀ {Q : Exit → Act → World → Prop}, (∀ e s', k e s' = some z → Bounded s' → ∀ a' w', S s'.den a' w' → Q e.out a' w') → c.wp P Q a w
  | .skip, blk, s, k, h, hb, a, w, hs, Q, hQ => wp_skip (hQ .normal s h hb a w hs)
  | .region id ops draw, blk, s, k, h, hb, a, w, hs, Q, hQ => by
    simp only [evalK] at h
    exact region_wp H hmix ho (k := fun s' _ => k .normal s') hb h hs fun s' log hk hb' a' w' hs' => hQ .normal s' hk hb' a' w' hs'
  | .seq x y, blk, s, k, h, hb, a, w, hs, Q, hQ => by
    simp only [evalK] at h
    refine wp_seq (evalK_sound H hnorm hmix ho x h hb hs ?_)
    intro e s' hk hb' a' w' hs'
    cases e with
    | normal => exact evalK_sound H hnorm hmix ho y hk hb' hs' hQ
    | exit id => exact hQ _ s' hk hb' a' w' hs'
    | ret => exact hQ _ s' hk hb' a' w' hs'
  | .cond c x y, blk, s, k, h, hb, a, w, hs, Q, hQ => by
    simp only [evalK] at h
    split at h
    · rename_i t
      split at h
      · rename_i p hp
        have hv : a.eval (.tmp t) = .bool p := by
          have := H.bool s.den a w t p hs hp
          simp [Act.eval, Array.getD_eq_getD_getElem?, this]
        cases p with
        | true => exact wp_cond_true hv (evalK_sound H hnorm hmix ho x h hb hs hQ)
        | false => exact wp_cond_false hv (evalK_sound H hnorm hmix ho y h hb hs hQ)
      · cases h
    · rename_i p
      have hv : a.eval (.const (.bool p)) = .bool p := rfl
      cases p with
      | true => exact wp_cond_true hv (evalK_sound H hnorm hmix ho x h hb hs hQ)
      | false => exact wp_cond_false hv (evalK_sound H hnorm hmix ho y h hb hs hQ)
    · cases h
  | .block id body, blk, s, k, h, hb, a, w, hs, Q, hQ => by
    simp only [evalK] at h
    refine wp_block (evalK_sound H hnorm hmix ho body h hb hs ?_)
    intro e s' hk hb' a' w' hs'
    cases e with
    | normal => exact hQ _ s' hk hb' a' w' hs'
    | ret => exact hQ _ s' hk hb' a' w' hs'
    | exit j =>
      simp only [Ex.out, Exit.inBlock]
      simp only [] at hk
      cases hbq : Nat.beq j id with
      | true =>
        rw [hbq] at hk
        rw [if_pos (Nat.eq_of_beq_eq_true hbq)]
        exact hQ .normal s' hk hb' a' w' hs'
      | false =>
        rw [hbq] at hk
        rw [if_neg (Nat.ne_of_beq_eq_false hbq)]
        exact hQ (.exit j) s' hk hb' a' w' hs'
  | .loop body, blk, s, k, h, hb, a, w, hs, Q, hQ => by
    simp only [evalK] at h
    split at h
    · rename_i keep _
      refine wp_loop_rounds fuel ?_
      have key : ∀ (m : Nat) (s : St), loopK keep (evalK te orc n ann fuel body blk) m s k = some z → Bounded s → ∀ (a : Act) (w : World), S s.den a w → Code.rounds P body Q m a w := by
        intro m
        induction m with
        | zero => intro s h; cases h
        | succ m ih =>
          intro s h hb a w hs
          rw [rounds_succ]
          refine evalK_sound H hnorm hmix ho body h hb hs ?_
          intro e s' hk hb' a' w' hs'
          cases e with
          | normal => exact ih _ hk (norm_bound keep) a' w' (hnorm keep s' a' w' hs')
          | exit id => exact hQ _ s' hk hb' a' w' hs'
          | ret => exact hQ _ s' hk hb' a' w' hs'
      exact key fuel _ h (norm_bound keep) a w (hnorm keep s a w hs)
    · cases h
  | .exit id, blk, s, k, h, hb, a, w, hs, Q, hQ => wp_exit (hQ (.exit id) s h hb a w hs)
  | .ret, blk, s, k, h, hb, a, w, hs, Q, hQ => wp_ret (hQ .ret s h hb a w hs)
  | .rangeFunc _ _ _ _, blk, s, k, h, hb, a, w, hs, Q, hQ => by simp [evalK] at h
  | .scope _, blk, s, k, h, hb, a, w, hs, Q, hQ => by simp [evalK] at h
  | .label _, blk, s, k, h, hb, a, w, hs, Q, hQ => by simp [evalK] at h
  | .goto _, blk, s, k, h, hb, a, w, hs, Q, hQ => by simp [evalK] at h
  | .refuse _, blk, s, k, h, hb, a, w, hs, Q, hQ => by simp [evalK] at h
end
end Go.Proofs.Ytjioppmfnejlnaa
