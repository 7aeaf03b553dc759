/-
  Code: what the executor says of it holds of the model's run.
-/
import Derived.Test.YtcjbalpokdgicaaDoorNorm
namespace Go.Proofs.YtcjbalpokdgicaaDoor
open Go Go.RowKit

def Ex.out : Ex → Exit
  | .normal => .normal
  | .exit id => .exit id
  | .ret => .ret

abbrev Bounded (s : St) : Prop := BoundedS s

section
variable {P : Program} {C : Nat → List PV → List MO → Res → List MO → Prop} {te : TE} {n : Nat} {S : FS → Act → World → Prop} {orc : Orc} {lorc : LOrc} {ann : List (Nat × Keep)} {r : Nat}

/-- what the oracle says of a loop holds of the model's run -/
def LSem (P : Program) (S : FS → Act → World → Prop) (lorc : LOrc) (blk : Nat) (body : Code) : Prop :=
  ∀ (s : St) (k : Ex → St → Option Res) (z : Res), lorc blk s k = some z → Bounded s → ∀ (a : Act) (w : World), S s.den a w →
    ∀ Q : Exit → Act → World → Prop, (∀ e s', k e s' = some z → Bounded s' → ∀ a' w', S s'.den a' w' → Q e.out a' w') → (Code.loop body).wp P Q a w

theorem evalK_sound (hann : ∀ b K, look ann b = some K → K.roots = r) (H : SimOk P C te n S) (hnorm : ∀ (keep : Keep) (s : St) (a : Act) (w : World), keep.roots = r → S s.den a w → Bounded s → S (s.norm keep).den a w) (hmix : P.follows .mixedOrders = true) (ho : OrcOk C orc) :
    ∀ (c : Code) {blk : Nat} {s : St} {k : Ex → St → Option Res} {z : Res}, (∀ p ∈ loopsIn c blk, LSem P S lorc p.1 p.2) → evalK te orc lorc n ann c blk s k = some z → Bounded s → ∀ {a : Act} {w : World}, S s.den a w →
      ∀ {Q : Exit → Act → World → Prop}, (∀ e s', k e s' = some z → Bounded s' → ∀ a' w', S s'.den a' w' → Q e.out a' w') → c.wp P Q a w
  | .skip, blk, s, k, z, hl, h, hb, a, w, hs, Q, hQ => wp_skip (hQ .normal s h hb a w hs)
  | .region id ops draw, blk, s, k, z, hl, h, hb, a, w, hs, Q, hQ => by
    simp only [evalK] at h
    exact region_wp H hmix ho (k := fun s' _ => k .normal s') hb h hs fun s' log hk hb' a' w' hs' => hQ .normal s' hk hb' a' w' hs'
  | .seq x y, blk, s, k, z, hl, h, hb, a, w, hs, Q, hQ => by
    simp only [evalK] at h
    refine wp_seq (evalK_sound hann H hnorm hmix ho x (fun p hp => hl p (List.mem_append_left _ hp)) h hb hs ?_)
    intro e s' hk hb' a' w' hs'
    cases e with
    | normal => exact evalK_sound hann H hnorm hmix ho y (fun p hp => hl p (List.mem_append_right _ hp)) hk hb' hs' hQ
    | exit id => exact hQ _ s' hk hb' a' w' hs'
    | ret => exact hQ _ s' hk hb' a' w' hs'
  | .cond c x y, blk, s, k, z, hl, h, hb, a, w, hs, Q, hQ => by
    simp only [evalK] at h
    split at h
    · rename_i t
      split at h
      · rename_i p hp
        have hv : a.eval (.tmp t) = .bool p := by
          have := H.bool s.den a w t p hs hp
          simp [Act.eval, Array.getD_eq_getD_getElem?, this]
        cases p with
        | true => exact wp_cond_true hv (evalK_sound hann H hnorm hmix ho x (fun p hp => hl p (List.mem_append_left _ hp)) h hb hs hQ)
        | false => exact wp_cond_false hv (evalK_sound hann H hnorm hmix ho y (fun p hp => hl p (List.mem_append_right _ hp)) h hb hs hQ)
      · cases h
    · rename_i p
      have hv : a.eval (.const (.bool p)) = .bool p := rfl
      cases p with
      | true => exact wp_cond_true hv (evalK_sound hann H hnorm hmix ho x (fun p hp => hl p (List.mem_append_left _ hp)) h hb hs hQ)
      | false => exact wp_cond_false hv (evalK_sound hann H hnorm hmix ho y (fun p hp => hl p (List.mem_append_right _ hp)) h hb hs hQ)
    · cases h
  | .block id body, blk, s, k, z, hl, h, hb, a, w, hs, Q, hQ => by
    simp only [evalK] at h
    refine wp_block (evalK_sound hann H hnorm hmix ho body (blk := id) hl h hb hs ?_)
    intro e s' hk hb' a' w' hs'
    cases e with
    | normal => exact hQ _ s' hk hb' a' w' hs'
    | ret => exact hQ _ s' hk hb' a' w' hs'
    | exit j =>
      simp only [Ex.out, Exit.inBlock]
      simp only [] at hk
      cases hbq : Nat.beq j id with
      | true =>
        rw [hbq] at hk
        rw [if_pos (Nat.eq_of_beq_eq_true hbq)]
        exact hQ .normal s' hk hb' a' w' hs'
      | false =>
        rw [hbq] at hk
        rw [if_neg (Nat.ne_of_beq_eq_false hbq)]
        exact hQ (.exit j) s' hk hb' a' w' hs'
  | .loop body, blk, s, k, z, hl, h, hb, a, w, hs, Q, hQ => by
    simp only [evalK] at h
    split at h
    · rename_i keep hkeep
      exact hl (blk, body) (by simp [loopsIn]) _ k z h (norm_bound keep) a w (hnorm keep s a w (hann _ _ hkeep) hs hb) Q hQ
    · cases h
  | .exit id, blk, s, k, z, hl, h, hb, a, w, hs, Q, hQ => wp_exit (hQ (.exit id) s h hb a w hs)
  | .ret, blk, s, k, z, hl, h, hb, a, w, hs, Q, hQ => wp_ret (hQ .ret s h hb a w hs)
  | .rangeFunc _ _ _ _, blk, s, k, z, hl, h, hb, a, w, hs, Q, hQ => by simp [evalK] at h
  | .scope _, blk, s, k, z, hl, h, hb, a, w, hs, Q, hQ => by simp [evalK] at h
  | .label _, blk, s, k, z, hl, h, hb, a, w, hs, Q, hQ => by simp [evalK] at h
  | .goto _, blk, s, k, z, hl, h, hb, a, w, hs, Q, hQ => by simp [evalK] at h
  | .refuse _, blk, s, k, z, hl, h, hb, a, w, hs, Q, hQ => by simp [evalK] at h

/-- a loop, out of its rounds -/
theorem loop_sem (hann : ∀ b K, look ann b = some K → K.roots = r) (H : SimOk P C te n S) (hnorm : ∀ (keep : Keep) (s : St) (a : Act) (w : World), keep.roots = r → S s.den a w → Bounded s → S (s.norm keep).den a w) (hmix : P.follows .mixedOrders = true) (ho : OrcOk C orc) {lorc' : LOrc} {keep kout : Keep} (hk1 : keep.roots = r) (hk2 : kout.roots = r) {blk : Nat} {body : Code}
    (hl : ∀ p ∈ loopsIn body blk, LSem P S lorc p.1 p.2)
    (h : ∀ (s : St) (k : Ex → St → Option Res) (z : Res), lorc' blk s k = some z → ∃ m, loopK keep kout (evalK te orc lorc n ann body blk) m s k = some z) : LSem P S lorc' blk body := by
  intro s k z hz hb a w hs Q hQ
  obtain ⟨m, hm⟩ := h s k z hz
  refine wp_loop_rounds m ?_
  clear hz h
  induction m generalizing s a w with
  | zero => cases hm
  | succ m ih =>
    rw [rounds_succ]
    refine evalK_sound hann H hnorm hmix ho body hl hm hb hs ?_
    intro e s' hk hb' a' w' hs'
    cases e with
    | normal => exact ih _ (norm_bound keep) a' w' (hnorm keep s' a' w' hk1 hs' hb') hk
    | exit id => exact hQ _ _ hk (norm_bound kout) a' w' (hnorm kout s' a' w' hk2 hs' hb')
    | ret => exact hQ _ _ hk (norm_bound kout) a' w' (hnorm kout s' a' w' hk2 hs' hb')
end
end Go.Proofs.YtcjbalpokdgicaaDoor
