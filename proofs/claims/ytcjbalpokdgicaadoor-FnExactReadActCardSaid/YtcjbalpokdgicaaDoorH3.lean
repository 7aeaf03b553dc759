/-
  Contracts of functions and plain laws (printed by a program): each theorem says what a function of the program returns; conditions are its hypotheses.
-/
import Derived.Test.YtcjbalpokdgicaaDoorH2
set_option maxRecDepth 4000
set_option linter.unusedVariables false
set_option linter.unusedSimpArgs false
namespace Go.Proofs.YtcjbalpokdgicaaDoor
open Go Go.RowKit

/-- impl.ActOk -/
def i_ActOk_N (x0 : Acti) (γ : Type) (fail : γ) (k : Bool → γ) : γ :=
  letK (α := Bool) (i_within x0.kind 5 8) fun c1 =>
  letK (α := Bool) (i_within x0.kind 1 8) fun c2 =>
  bif (!c2) then
    bif (!c2) then
      k false
    else
    bif (!(x0.text == [])) then
      bif (x0.kind != 1) then
        bif (x0.kind != 5) then
          k false
        else
        bif (x0.kind != 3) then
          letK (α := Bool) (i_SameMac x0.mac (⟨false, 0, 0, []⟩ : Mac)) fun c3 =>
          bif (!c3) then
            k false
          else
          bif c1 then
            letK (α := Bool) (i_TupleOk x0.tuple) fun c4 =>
            bif (!c4) then
              bif (!c4) then
                k false
              else
              bif (x0.n == 0) then
                k true
              else
              k (x0.kind == 6)
            else
            bif (!c1) then
              bif (!((x0.tuple.ip == 0) && ((x0.tuple.port == 0) && ((x0.tuple.my == 0) && true)))) then
                k false
              else
              bif (x0.n == 0) then
                k true
              else
              k (x0.kind == 6)
            else
            bif (x0.n == 0) then
              k true
            else
            k (x0.kind == 6)
          else
          bif (!c1) then
            bif (!((x0.tuple.ip == 0) && ((x0.tuple.port == 0) && ((x0.tuple.my == 0) && true)))) then
              k false
            else
            bif (x0.n == 0) then
              k true
            else
            k (x0.kind == 6)
          else
          bif (x0.n == 0) then
            k true
          else
          k (x0.kind == 6)
        else
        bif c1 then
          letK (α := Bool) (i_TupleOk x0.tuple) fun c5 =>
          bif (!c5) then
            bif (!c5) then
              k false
            else
            bif (x0.n == 0) then
              k true
            else
            k (x0.kind == 6)
          else
          bif (!c1) then
            bif (!((x0.tuple.ip == 0) && ((x0.tuple.port == 0) && ((x0.tuple.my == 0) && true)))) then
              k false
            else
            bif (x0.n == 0) then
              k true
            else
            k (x0.kind == 6)
          else
          bif (x0.n == 0) then
            k true
          else
          k (x0.kind == 6)
        else
        bif (!c1) then
          bif (!((x0.tuple.ip == 0) && ((x0.tuple.port == 0) && ((x0.tuple.my == 0) && true)))) then
            k false
          else
          bif (x0.n == 0) then
            k true
          else
          k (x0.kind == 6)
        else
        bif (x0.n == 0) then
          k true
        else
        k (x0.kind == 6)
      else
      bif (x0.kind != 3) then
        letK (α := Bool) (i_SameMac x0.mac (⟨false, 0, 0, []⟩ : Mac)) fun c6 =>
        bif (!c6) then
          k false
        else
        bif c1 then
          letK (α := Bool) (i_TupleOk x0.tuple) fun c7 =>
          bif (!c7) then
            bif (!c7) then
              k false
            else
            bif (x0.n == 0) then
              k true
            else
            k (x0.kind == 6)
          else
          bif (!c1) then
            bif (!((x0.tuple.ip == 0) && ((x0.tuple.port == 0) && ((x0.tuple.my == 0) && true)))) then
              k false
            else
            bif (x0.n == 0) then
              k true
            else
            k (x0.kind == 6)
          else
          bif (x0.n == 0) then
            k true
          else
          k (x0.kind == 6)
        else
        bif (!c1) then
          bif (!((x0.tuple.ip == 0) && ((x0.tuple.port == 0) && ((x0.tuple.my == 0) && true)))) then
            k false
          else
          bif (x0.n == 0) then
            k true
          else
          k (x0.kind == 6)
        else
        bif (x0.n == 0) then
          k true
        else
        k (x0.kind == 6)
      else
      bif c1 then
        letK (α := Bool) (i_TupleOk x0.tuple) fun c8 =>
        bif (!c8) then
          bif (!c8) then
            k false
          else
          bif (x0.n == 0) then
            k true
          else
          k (x0.kind == 6)
        else
        bif (!c1) then
          bif (!((x0.tuple.ip == 0) && ((x0.tuple.port == 0) && ((x0.tuple.my == 0) && true)))) then
            k false
          else
          bif (x0.n == 0) then
            k true
          else
          k (x0.kind == 6)
        else
        bif (x0.n == 0) then
          k true
        else
        k (x0.kind == 6)
      else
      bif (!c1) then
        bif (!((x0.tuple.ip == 0) && ((x0.tuple.port == 0) && ((x0.tuple.my == 0) && true)))) then
          k false
        else
        bif (x0.n == 0) then
          k true
        else
        k (x0.kind == 6)
      else
      bif (x0.n == 0) then
        k true
      else
      k (x0.kind == 6)
    else
    bif (x0.kind != 3) then
      letK (α := Bool) (i_SameMac x0.mac (⟨false, 0, 0, []⟩ : Mac)) fun c9 =>
      bif (!c9) then
        k false
      else
      bif c1 then
        letK (α := Bool) (i_TupleOk x0.tuple) fun c10 =>
        bif (!c10) then
          bif (!c10) then
            k false
          else
          bif (x0.n == 0) then
            k true
          else
          k (x0.kind == 6)
        else
        bif (!c1) then
          bif (!((x0.tuple.ip == 0) && ((x0.tuple.port == 0) && ((x0.tuple.my == 0) && true)))) then
            k false
          else
          bif (x0.n == 0) then
            k true
          else
          k (x0.kind == 6)
        else
        bif (x0.n == 0) then
          k true
        else
        k (x0.kind == 6)
      else
      bif (!c1) then
        bif (!((x0.tuple.ip == 0) && ((x0.tuple.port == 0) && ((x0.tuple.my == 0) && true)))) then
          k false
        else
        bif (x0.n == 0) then
          k true
        else
        k (x0.kind == 6)
      else
      bif (x0.n == 0) then
        k true
      else
      k (x0.kind == 6)
    else
    bif c1 then
      letK (α := Bool) (i_TupleOk x0.tuple) fun c11 =>
      bif (!c11) then
        bif (!c11) then
          k false
        else
        bif (x0.n == 0) then
          k true
        else
        k (x0.kind == 6)
      else
      bif (!c1) then
        bif (!((x0.tuple.ip == 0) && ((x0.tuple.port == 0) && ((x0.tuple.my == 0) && true)))) then
          k false
        else
        bif (x0.n == 0) then
          k true
        else
        k (x0.kind == 6)
      else
      bif (x0.n == 0) then
        k true
      else
      k (x0.kind == 6)
    else
    bif (!c1) then
      bif (!((x0.tuple.ip == 0) && ((x0.tuple.port == 0) && ((x0.tuple.my == 0) && true)))) then
        k false
      else
      bif (x0.n == 0) then
        k true
      else
      k (x0.kind == 6)
    else
    bif (x0.n == 0) then
      k true
    else
    k (x0.kind == 6)
  else
  bif (decide (1600 < (x0.text.length : Int))) then
    bif (decide (1600 < (x0.text.length : Int))) then
      k false
    else
    bif (!(x0.text == [])) then
      bif (x0.kind != 1) then
        bif (x0.kind != 5) then
          k false
        else
        bif (x0.kind != 3) then
          letK (α := Bool) (i_SameMac x0.mac (⟨false, 0, 0, []⟩ : Mac)) fun c12 =>
          bif (!c12) then
            k false
          else
          bif c1 then
            letK (α := Bool) (i_TupleOk x0.tuple) fun c13 =>
            bif (!c13) then
              bif (!c13) then
                k false
              else
              bif (x0.n == 0) then
                k true
              else
              k (x0.kind == 6)
            else
            bif (!c1) then
              bif (!((x0.tuple.ip == 0) && ((x0.tuple.port == 0) && ((x0.tuple.my == 0) && true)))) then
                k false
              else
              bif (x0.n == 0) then
                k true
              else
              k (x0.kind == 6)
            else
            bif (x0.n == 0) then
              k true
            else
            k (x0.kind == 6)
          else
          bif (!c1) then
            bif (!((x0.tuple.ip == 0) && ((x0.tuple.port == 0) && ((x0.tuple.my == 0) && true)))) then
              k false
            else
            bif (x0.n == 0) then
              k true
            else
            k (x0.kind == 6)
          else
          bif (x0.n == 0) then
            k true
          else
          k (x0.kind == 6)
        else
        bif c1 then
          letK (α := Bool) (i_TupleOk x0.tuple) fun c14 =>
          bif (!c14) then
            bif (!c14) then
              k false
            else
            bif (x0.n == 0) then
              k true
            else
            k (x0.kind == 6)
          else
          bif (!c1) then
            bif (!((x0.tuple.ip == 0) && ((x0.tuple.port == 0) && ((x0.tuple.my == 0) && true)))) then
              k false
            else
            bif (x0.n == 0) then
              k true
            else
            k (x0.kind == 6)
          else
          bif (x0.n == 0) then
            k true
          else
          k (x0.kind == 6)
        else
        bif (!c1) then
          bif (!((x0.tuple.ip == 0) && ((x0.tuple.port == 0) && ((x0.tuple.my == 0) && true)))) then
            k false
          else
          bif (x0.n == 0) then
            k true
          else
          k (x0.kind == 6)
        else
        bif (x0.n == 0) then
          k true
        else
        k (x0.kind == 6)
      else
      bif (x0.kind != 3) then
        letK (α := Bool) (i_SameMac x0.mac (⟨false, 0, 0, []⟩ : Mac)) fun c15 =>
        bif (!c15) then
          k false
        else
        bif c1 then
          letK (α := Bool) (i_TupleOk x0.tuple) fun c16 =>
          bif (!c16) then
            bif (!c16) then
              k false
            else
            bif (x0.n == 0) then
              k true
            else
            k (x0.kind == 6)
          else
          bif (!c1) then
            bif (!((x0.tuple.ip == 0) && ((x0.tuple.port == 0) && ((x0.tuple.my == 0) && true)))) then
              k false
            else
            bif (x0.n == 0) then
              k true
            else
            k (x0.kind == 6)
          else
          bif (x0.n == 0) then
            k true
          else
          k (x0.kind == 6)
        else
        bif (!c1) then
          bif (!((x0.tuple.ip == 0) && ((x0.tuple.port == 0) && ((x0.tuple.my == 0) && true)))) then
            k false
          else
          bif (x0.n == 0) then
            k true
          else
          k (x0.kind == 6)
        else
        bif (x0.n == 0) then
          k true
        else
        k (x0.kind == 6)
      else
      bif c1 then
        letK (α := Bool) (i_TupleOk x0.tuple) fun c17 =>
        bif (!c17) then
          bif (!c17) then
            k false
          else
          bif (x0.n == 0) then
            k true
          else
          k (x0.kind == 6)
        else
        bif (!c1) then
          bif (!((x0.tuple.ip == 0) && ((x0.tuple.port == 0) && ((x0.tuple.my == 0) && true)))) then
            k false
          else
          bif (x0.n == 0) then
            k true
          else
          k (x0.kind == 6)
        else
        bif (x0.n == 0) then
          k true
        else
        k (x0.kind == 6)
      else
      bif (!c1) then
        bif (!((x0.tuple.ip == 0) && ((x0.tuple.port == 0) && ((x0.tuple.my == 0) && true)))) then
          k false
        else
        bif (x0.n == 0) then
          k true
        else
        k (x0.kind == 6)
      else
      bif (x0.n == 0) then
        k true
      else
      k (x0.kind == 6)
    else
    bif (x0.kind != 3) then
      letK (α := Bool) (i_SameMac x0.mac (⟨false, 0, 0, []⟩ : Mac)) fun c18 =>
      bif (!c18) then
        k false
      else
      bif c1 then
        letK (α := Bool) (i_TupleOk x0.tuple) fun c19 =>
        bif (!c19) then
          bif (!c19) then
            k false
          else
          bif (x0.n == 0) then
            k true
          else
          k (x0.kind == 6)
        else
        bif (!c1) then
          bif (!((x0.tuple.ip == 0) && ((x0.tuple.port == 0) && ((x0.tuple.my == 0) && true)))) then
            k false
          else
          bif (x0.n == 0) then
            k true
          else
          k (x0.kind == 6)
        else
        bif (x0.n == 0) then
          k true
        else
        k (x0.kind == 6)
      else
      bif (!c1) then
        bif (!((x0.tuple.ip == 0) && ((x0.tuple.port == 0) && ((x0.tuple.my == 0) && true)))) then
          k false
        else
        bif (x0.n == 0) then
          k true
        else
        k (x0.kind == 6)
      else
      bif (x0.n == 0) then
        k true
      else
      k (x0.kind == 6)
    else
    bif c1 then
      letK (α := Bool) (i_TupleOk x0.tuple) fun c20 =>
      bif (!c20) then
        bif (!c20) then
          k false
        else
        bif (x0.n == 0) then
          k true
        else
        k (x0.kind == 6)
      else
      bif (!c1) then
        bif (!((x0.tuple.ip == 0) && ((x0.tuple.port == 0) && ((x0.tuple.my == 0) && true)))) then
          k false
        else
        bif (x0.n == 0) then
          k true
        else
        k (x0.kind == 6)
      else
      bif (x0.n == 0) then
        k true
      else
      k (x0.kind == 6)
    else
    bif (!c1) then
      bif (!((x0.tuple.ip == 0) && ((x0.tuple.port == 0) && ((x0.tuple.my == 0) && true)))) then
        k false
      else
      bif (x0.n == 0) then
        k true
      else
      k (x0.kind == 6)
    else
    bif (x0.n == 0) then
      k true
    else
    k (x0.kind == 6)
  else
  letK (α := Bool) (i_MacOk x0.mac) fun c21 =>
  bif (!c21) then
    bif (!c21) then
      k false
    else
    bif (!(x0.text == [])) then
      bif (x0.kind != 1) then
        bif (x0.kind != 5) then
          k false
        else
        bif (x0.kind != 3) then
          letK (α := Bool) (i_SameMac x0.mac (⟨false, 0, 0, []⟩ : Mac)) fun c22 =>
          bif (!c22) then
            k false
          else
          bif c1 then
            letK (α := Bool) (i_TupleOk x0.tuple) fun c23 =>
            bif (!c23) then
              bif (!c23) then
                k false
              else
              bif (x0.n == 0) then
                k true
              else
              k (x0.kind == 6)
            else
            bif (!c1) then
              bif (!((x0.tuple.ip == 0) && ((x0.tuple.port == 0) && ((x0.tuple.my == 0) && true)))) then
                k false
              else
              bif (x0.n == 0) then
                k true
              else
              k (x0.kind == 6)
            else
            bif (x0.n == 0) then
              k true
            else
            k (x0.kind == 6)
          else
          bif (!c1) then
            bif (!((x0.tuple.ip == 0) && ((x0.tuple.port == 0) && ((x0.tuple.my == 0) && true)))) then
              k false
            else
            bif (x0.n == 0) then
              k true
            else
            k (x0.kind == 6)
          else
          bif (x0.n == 0) then
            k true
          else
          k (x0.kind == 6)
        else
        bif c1 then
          letK (α := Bool) (i_TupleOk x0.tuple) fun c24 =>
          bif (!c24) then
            bif (!c24) then
              k false
            else
            bif (x0.n == 0) then
              k true
            else
            k (x0.kind == 6)
          else
          bif (!c1) then
            bif (!((x0.tuple.ip == 0) && ((x0.tuple.port == 0) && ((x0.tuple.my == 0) && true)))) then
              k false
            else
            bif (x0.n == 0) then
              k true
            else
            k (x0.kind == 6)
          else
          bif (x0.n == 0) then
            k true
          else
          k (x0.kind == 6)
        else
        bif (!c1) then
          bif (!((x0.tuple.ip == 0) && ((x0.tuple.port == 0) && ((x0.tuple.my == 0) && true)))) then
            k false
          else
          bif (x0.n == 0) then
            k true
          else
          k (x0.kind == 6)
        else
        bif (x0.n == 0) then
          k true
        else
        k (x0.kind == 6)
      else
      bif (x0.kind != 3) then
        letK (α := Bool) (i_SameMac x0.mac (⟨false, 0, 0, []⟩ : Mac)) fun c25 =>
        bif (!c25) then
          k false
        else
        bif c1 then
          letK (α := Bool) (i_TupleOk x0.tuple) fun c26 =>
          bif (!c26) then
            bif (!c26) then
              k false
            else
            bif (x0.n == 0) then
              k true
            else
            k (x0.kind == 6)
          else
          bif (!c1) then
            bif (!((x0.tuple.ip == 0) && ((x0.tuple.port == 0) && ((x0.tuple.my == 0) && true)))) then
              k false
            else
            bif (x0.n == 0) then
              k true
            else
            k (x0.kind == 6)
          else
          bif (x0.n == 0) then
            k true
          else
          k (x0.kind == 6)
        else
        bif (!c1) then
          bif (!((x0.tuple.ip == 0) && ((x0.tuple.port == 0) && ((x0.tuple.my == 0) && true)))) then
            k false
          else
          bif (x0.n == 0) then
            k true
          else
          k (x0.kind == 6)
        else
        bif (x0.n == 0) then
          k true
        else
        k (x0.kind == 6)
      else
      bif c1 then
        letK (α := Bool) (i_TupleOk x0.tuple) fun c27 =>
        bif (!c27) then
          bif (!c27) then
            k false
          else
          bif (x0.n == 0) then
            k true
          else
          k (x0.kind == 6)
        else
        bif (!c1) then
          bif (!((x0.tuple.ip == 0) && ((x0.tuple.port == 0) && ((x0.tuple.my == 0) && true)))) then
            k false
          else
          bif (x0.n == 0) then
            k true
          else
          k (x0.kind == 6)
        else
        bif (x0.n == 0) then
          k true
        else
        k (x0.kind == 6)
      else
      bif (!c1) then
        bif (!((x0.tuple.ip == 0) && ((x0.tuple.port == 0) && ((x0.tuple.my == 0) && true)))) then
          k false
        else
        bif (x0.n == 0) then
          k true
        else
        k (x0.kind == 6)
      else
      bif (x0.n == 0) then
        k true
      else
      k (x0.kind == 6)
    else
    bif (x0.kind != 3) then
      letK (α := Bool) (i_SameMac x0.mac (⟨false, 0, 0, []⟩ : Mac)) fun c28 =>
      bif (!c28) then
        k false
      else
      bif c1 then
        letK (α := Bool) (i_TupleOk x0.tuple) fun c29 =>
        bif (!c29) then
          bif (!c29) then
            k false
          else
          bif (x0.n == 0) then
            k true
          else
          k (x0.kind == 6)
        else
        bif (!c1) then
          bif (!((x0.tuple.ip == 0) && ((x0.tuple.port == 0) && ((x0.tuple.my == 0) && true)))) then
            k false
          else
          bif (x0.n == 0) then
            k true
          else
          k (x0.kind == 6)
        else
        bif (x0.n == 0) then
          k true
        else
        k (x0.kind == 6)
      else
      bif (!c1) then
        bif (!((x0.tuple.ip == 0) && ((x0.tuple.port == 0) && ((x0.tuple.my == 0) && true)))) then
          k false
        else
        bif (x0.n == 0) then
          k true
        else
        k (x0.kind == 6)
      else
      bif (x0.n == 0) then
        k true
      else
      k (x0.kind == 6)
    else
    bif c1 then
      letK (α := Bool) (i_TupleOk x0.tuple) fun c30 =>
      bif (!c30) then
        bif (!c30) then
          k false
        else
        bif (x0.n == 0) then
          k true
        else
        k (x0.kind == 6)
      else
      bif (!c1) then
        bif (!((x0.tuple.ip == 0) && ((x0.tuple.port == 0) && ((x0.tuple.my == 0) && true)))) then
          k false
        else
        bif (x0.n == 0) then
          k true
        else
        k (x0.kind == 6)
      else
      bif (x0.n == 0) then
        k true
      else
      k (x0.kind == 6)
    else
    bif (!c1) then
      bif (!((x0.tuple.ip == 0) && ((x0.tuple.port == 0) && ((x0.tuple.my == 0) && true)))) then
        k false
      else
      bif (x0.n == 0) then
        k true
      else
      k (x0.kind == 6)
    else
    bif (x0.n == 0) then
      k true
    else
    k (x0.kind == 6)
  else
  letK (α := Bool) (i_within x0.n 0 65535) fun c31 =>
  bif (!c31) then
    k false
  else
  bif (!(x0.text == [])) then
    bif (x0.kind != 1) then
      bif (x0.kind != 5) then
        k false
      else
      bif (x0.kind != 3) then
        letK (α := Bool) (i_SameMac x0.mac (⟨false, 0, 0, []⟩ : Mac)) fun c32 =>
        bif (!c32) then
          k false
        else
        bif c1 then
          letK (α := Bool) (i_TupleOk x0.tuple) fun c33 =>
          bif (!c33) then
            bif (!c33) then
              k false
            else
            bif (x0.n == 0) then
              k true
            else
            k (x0.kind == 6)
          else
          bif (!c1) then
            bif (!((x0.tuple.ip == 0) && ((x0.tuple.port == 0) && ((x0.tuple.my == 0) && true)))) then
              k false
            else
            bif (x0.n == 0) then
              k true
            else
            k (x0.kind == 6)
          else
          bif (x0.n == 0) then
            k true
          else
          k (x0.kind == 6)
        else
        bif (!c1) then
          bif (!((x0.tuple.ip == 0) && ((x0.tuple.port == 0) && ((x0.tuple.my == 0) && true)))) then
            k false
          else
          bif (x0.n == 0) then
            k true
          else
          k (x0.kind == 6)
        else
        bif (x0.n == 0) then
          k true
        else
        k (x0.kind == 6)
      else
      bif c1 then
        letK (α := Bool) (i_TupleOk x0.tuple) fun c34 =>
        bif (!c34) then
          bif (!c34) then
            k false
          else
          bif (x0.n == 0) then
            k true
          else
          k (x0.kind == 6)
        else
        bif (!c1) then
          bif (!((x0.tuple.ip == 0) && ((x0.tuple.port == 0) && ((x0.tuple.my == 0) && true)))) then
            k false
          else
          bif (x0.n == 0) then
            k true
          else
          k (x0.kind == 6)
        else
        bif (x0.n == 0) then
          k true
        else
        k (x0.kind == 6)
      else
      bif (!c1) then
        bif (!((x0.tuple.ip == 0) && ((x0.tuple.port == 0) && ((x0.tuple.my == 0) && true)))) then
          k false
        else
        bif (x0.n == 0) then
          k true
        else
        k (x0.kind == 6)
      else
      bif (x0.n == 0) then
        k true
      else
      k (x0.kind == 6)
    else
    bif (x0.kind != 3) then
      letK (α := Bool) (i_SameMac x0.mac (⟨false, 0, 0, []⟩ : Mac)) fun c35 =>
      bif (!c35) then
        k false
      else
      bif c1 then
        letK (α := Bool) (i_TupleOk x0.tuple) fun c36 =>
        bif (!c36) then
          bif (!c36) then
            k false
          else
          bif (x0.n == 0) then
            k true
          else
          k (x0.kind == 6)
        else
        bif (!c1) then
          bif (!((x0.tuple.ip == 0) && ((x0.tuple.port == 0) && ((x0.tuple.my == 0) && true)))) then
            k false
          else
          bif (x0.n == 0) then
            k true
          else
          k (x0.kind == 6)
        else
        bif (x0.n == 0) then
          k true
        else
        k (x0.kind == 6)
      else
      bif (!c1) then
        bif (!((x0.tuple.ip == 0) && ((x0.tuple.port == 0) && ((x0.tuple.my == 0) && true)))) then
          k false
        else
        bif (x0.n == 0) then
          k true
        else
        k (x0.kind == 6)
      else
      bif (x0.n == 0) then
        k true
      else
      k (x0.kind == 6)
    else
    bif c1 then
      letK (α := Bool) (i_TupleOk x0.tuple) fun c37 =>
      bif (!c37) then
        bif (!c37) then
          k false
        else
        bif (x0.n == 0) then
          k true
        else
        k (x0.kind == 6)
      else
      bif (!c1) then
        bif (!((x0.tuple.ip == 0) && ((x0.tuple.port == 0) && ((x0.tuple.my == 0) && true)))) then
          k false
        else
        bif (x0.n == 0) then
          k true
        else
        k (x0.kind == 6)
      else
      bif (x0.n == 0) then
        k true
      else
      k (x0.kind == 6)
    else
    bif (!c1) then
      bif (!((x0.tuple.ip == 0) && ((x0.tuple.port == 0) && ((x0.tuple.my == 0) && true)))) then
        k false
      else
      bif (x0.n == 0) then
        k true
      else
      k (x0.kind == 6)
    else
    bif (x0.n == 0) then
      k true
    else
    k (x0.kind == 6)
  else
  bif (x0.kind != 3) then
    letK (α := Bool) (i_SameMac x0.mac (⟨false, 0, 0, []⟩ : Mac)) fun c38 =>
    bif (!c38) then
      k false
    else
    bif c1 then
      letK (α := Bool) (i_TupleOk x0.tuple) fun c39 =>
      bif (!c39) then
        bif (!c39) then
          k false
        else
        bif (x0.n == 0) then
          k true
        else
        k (x0.kind == 6)
      else
      bif (!c1) then
        bif (!((x0.tuple.ip == 0) && ((x0.tuple.port == 0) && ((x0.tuple.my == 0) && true)))) then
          k false
        else
        bif (x0.n == 0) then
          k true
        else
        k (x0.kind == 6)
      else
      bif (x0.n == 0) then
        k true
      else
      k (x0.kind == 6)
    else
    bif (!c1) then
      bif (!((x0.tuple.ip == 0) && ((x0.tuple.port == 0) && ((x0.tuple.my == 0) && true)))) then
        k false
      else
      bif (x0.n == 0) then
        k true
      else
      k (x0.kind == 6)
    else
    bif (x0.n == 0) then
      k true
    else
    k (x0.kind == 6)
  else
  bif c1 then
    letK (α := Bool) (i_TupleOk x0.tuple) fun c40 =>
    bif (!c40) then
      bif (!c40) then
        k false
      else
      bif (x0.n == 0) then
        k true
      else
      k (x0.kind == 6)
    else
    bif (!c1) then
      bif (!((x0.tuple.ip == 0) && ((x0.tuple.port == 0) && ((x0.tuple.my == 0) && true)))) then
        k false
      else
      bif (x0.n == 0) then
        k true
      else
      k (x0.kind == 6)
    else
    bif (x0.n == 0) then
      k true
    else
    k (x0.kind == 6)
  else
  bif (!c1) then
    bif (!((x0.tuple.ip == 0) && ((x0.tuple.port == 0) && ((x0.tuple.my == 0) && true)))) then
      k false
    else
    bif (x0.n == 0) then
      k true
    else
    k (x0.kind == 6)
  else
  bif (x0.n == 0) then
    k true
  else
  k (x0.kind == 6)
def i_ActOk (x0 : Acti) : Bool :=
  letK (α := Bool) (i_within x0.kind 5 8) fun c1 =>
  letK (α := Bool) (i_within x0.kind 1 8) fun c2 =>
  bif (!c2) then
    bif (!c2) then
      false
    else
    bif (!(x0.text == [])) then
      bif (x0.kind != 1) then
        bif (x0.kind != 5) then
          false
        else
        bif (x0.kind != 3) then
          letK (α := Bool) (i_SameMac x0.mac (⟨false, 0, 0, []⟩ : Mac)) fun c3 =>
          bif (!c3) then
            false
          else
          bif c1 then
            letK (α := Bool) (i_TupleOk x0.tuple) fun c4 =>
            bif (!c4) then
              bif (!c4) then
                false
              else
              bif (x0.n == 0) then
                true
              else
              (x0.kind == 6)
            else
            bif (!c1) then
              bif (!((x0.tuple.ip == 0) && ((x0.tuple.port == 0) && ((x0.tuple.my == 0) && true)))) then
                false
              else
              bif (x0.n == 0) then
                true
              else
              (x0.kind == 6)
            else
            bif (x0.n == 0) then
              true
            else
            (x0.kind == 6)
          else
          bif (!c1) then
            bif (!((x0.tuple.ip == 0) && ((x0.tuple.port == 0) && ((x0.tuple.my == 0) && true)))) then
              false
            else
            bif (x0.n == 0) then
              true
            else
            (x0.kind == 6)
          else
          bif (x0.n == 0) then
            true
          else
          (x0.kind == 6)
        else
        bif c1 then
          letK (α := Bool) (i_TupleOk x0.tuple) fun c5 =>
          bif (!c5) then
            bif (!c5) then
              false
            else
            bif (x0.n == 0) then
              true
            else
            (x0.kind == 6)
          else
          bif (!c1) then
            bif (!((x0.tuple.ip == 0) && ((x0.tuple.port == 0) && ((x0.tuple.my == 0) && true)))) then
              false
            else
            bif (x0.n == 0) then
              true
            else
            (x0.kind == 6)
          else
          bif (x0.n == 0) then
            true
          else
          (x0.kind == 6)
        else
        bif (!c1) then
          bif (!((x0.tuple.ip == 0) && ((x0.tuple.port == 0) && ((x0.tuple.my == 0) && true)))) then
            false
          else
          bif (x0.n == 0) then
            true
          else
          (x0.kind == 6)
        else
        bif (x0.n == 0) then
          true
        else
        (x0.kind == 6)
      else
      bif (x0.kind != 3) then
        letK (α := Bool) (i_SameMac x0.mac (⟨false, 0, 0, []⟩ : Mac)) fun c6 =>
        bif (!c6) then
          false
        else
        bif c1 then
          letK (α := Bool) (i_TupleOk x0.tuple) fun c7 =>
          bif (!c7) then
            bif (!c7) then
              false
            else
            bif (x0.n == 0) then
              true
            else
            (x0.kind == 6)
          else
          bif (!c1) then
            bif (!((x0.tuple.ip == 0) && ((x0.tuple.port == 0) && ((x0.tuple.my == 0) && true)))) then
              false
            else
            bif (x0.n == 0) then
              true
            else
            (x0.kind == 6)
          else
          bif (x0.n == 0) then
            true
          else
          (x0.kind == 6)
        else
        bif (!c1) then
          bif (!((x0.tuple.ip == 0) && ((x0.tuple.port == 0) && ((x0.tuple.my == 0) && true)))) then
            false
          else
          bif (x0.n == 0) then
            true
          else
          (x0.kind == 6)
        else
        bif (x0.n == 0) then
          true
        else
        (x0.kind == 6)
      else
      bif c1 then
        letK (α := Bool) (i_TupleOk x0.tuple) fun c8 =>
        bif (!c8) then
          bif (!c8) then
            false
          else
          bif (x0.n == 0) then
            true
          else
          (x0.kind == 6)
        else
        bif (!c1) then
          bif (!((x0.tuple.ip == 0) && ((x0.tuple.port == 0) && ((x0.tuple.my == 0) && true)))) then
            false
          else
          bif (x0.n == 0) then
            true
          else
          (x0.kind == 6)
        else
        bif (x0.n == 0) then
          true
        else
        (x0.kind == 6)
      else
      bif (!c1) then
        bif (!((x0.tuple.ip == 0) && ((x0.tuple.port == 0) && ((x0.tuple.my == 0) && true)))) then
          false
        else
        bif (x0.n == 0) then
          true
        else
        (x0.kind == 6)
      else
      bif (x0.n == 0) then
        true
      else
      (x0.kind == 6)
    else
    bif (x0.kind != 3) then
      letK (α := Bool) (i_SameMac x0.mac (⟨false, 0, 0, []⟩ : Mac)) fun c9 =>
      bif (!c9) then
        false
      else
      bif c1 then
        letK (α := Bool) (i_TupleOk x0.tuple) fun c10 =>
        bif (!c10) then
          bif (!c10) then
            false
          else
          bif (x0.n == 0) then
            true
          else
          (x0.kind == 6)
        else
        bif (!c1) then
          bif (!((x0.tuple.ip == 0) && ((x0.tuple.port == 0) && ((x0.tuple.my == 0) && true)))) then
            false
          else
          bif (x0.n == 0) then
            true
          else
          (x0.kind == 6)
        else
        bif (x0.n == 0) then
          true
        else
        (x0.kind == 6)
      else
      bif (!c1) then
        bif (!((x0.tuple.ip == 0) && ((x0.tuple.port == 0) && ((x0.tuple.my == 0) && true)))) then
          false
        else
        bif (x0.n == 0) then
          true
        else
        (x0.kind == 6)
      else
      bif (x0.n == 0) then
        true
      else
      (x0.kind == 6)
    else
    bif c1 then
      letK (α := Bool) (i_TupleOk x0.tuple) fun c11 =>
      bif (!c11) then
        bif (!c11) then
          false
        else
        bif (x0.n == 0) then
          true
        else
        (x0.kind == 6)
      else
      bif (!c1) then
        bif (!((x0.tuple.ip == 0) && ((x0.tuple.port == 0) && ((x0.tuple.my == 0) && true)))) then
          false
        else
        bif (x0.n == 0) then
          true
        else
        (x0.kind == 6)
      else
      bif (x0.n == 0) then
        true
      else
      (x0.kind == 6)
    else
    bif (!c1) then
      bif (!((x0.tuple.ip == 0) && ((x0.tuple.port == 0) && ((x0.tuple.my == 0) && true)))) then
        false
      else
      bif (x0.n == 0) then
        true
      else
      (x0.kind == 6)
    else
    bif (x0.n == 0) then
      true
    else
    (x0.kind == 6)
  else
  bif (decide (1600 < (x0.text.length : Int))) then
    bif (decide (1600 < (x0.text.length : Int))) then
      false
    else
    bif (!(x0.text == [])) then
      bif (x0.kind != 1) then
        bif (x0.kind != 5) then
          false
        else
        bif (x0.kind != 3) then
          letK (α := Bool) (i_SameMac x0.mac (⟨false, 0, 0, []⟩ : Mac)) fun c12 =>
          bif (!c12) then
            false
          else
          bif c1 then
            letK (α := Bool) (i_TupleOk x0.tuple) fun c13 =>
            bif (!c13) then
              bif (!c13) then
                false
              else
              bif (x0.n == 0) then
                true
              else
              (x0.kind == 6)
            else
            bif (!c1) then
              bif (!((x0.tuple.ip == 0) && ((x0.tuple.port == 0) && ((x0.tuple.my == 0) && true)))) then
                false
              else
              bif (x0.n == 0) then
                true
              else
              (x0.kind == 6)
            else
            bif (x0.n == 0) then
              true
            else
            (x0.kind == 6)
          else
          bif (!c1) then
            bif (!((x0.tuple.ip == 0) && ((x0.tuple.port == 0) && ((x0.tuple.my == 0) && true)))) then
              false
            else
            bif (x0.n == 0) then
              true
            else
            (x0.kind == 6)
          else
          bif (x0.n == 0) then
            true
          else
          (x0.kind == 6)
        else
        bif c1 then
          letK (α := Bool) (i_TupleOk x0.tuple) fun c14 =>
          bif (!c14) then
            bif (!c14) then
              false
            else
            bif (x0.n == 0) then
              true
            else
            (x0.kind == 6)
          else
          bif (!c1) then
            bif (!((x0.tuple.ip == 0) && ((x0.tuple.port == 0) && ((x0.tuple.my == 0) && true)))) then
              false
            else
            bif (x0.n == 0) then
              true
            else
            (x0.kind == 6)
          else
          bif (x0.n == 0) then
            true
          else
          (x0.kind == 6)
        else
        bif (!c1) then
          bif (!((x0.tuple.ip == 0) && ((x0.tuple.port == 0) && ((x0.tuple.my == 0) && true)))) then
            false
          else
          bif (x0.n == 0) then
            true
          else
          (x0.kind == 6)
        else
        bif (x0.n == 0) then
          true
        else
        (x0.kind == 6)
      else
      bif (x0.kind != 3) then
        letK (α := Bool) (i_SameMac x0.mac (⟨false, 0, 0, []⟩ : Mac)) fun c15 =>
        bif (!c15) then
          false
        else
        bif c1 then
          letK (α := Bool) (i_TupleOk x0.tuple) fun c16 =>
          bif (!c16) then
            bif (!c16) then
              false
            else
            bif (x0.n == 0) then
              true
            else
            (x0.kind == 6)
          else
          bif (!c1) then
            bif (!((x0.tuple.ip == 0) && ((x0.tuple.port == 0) && ((x0.tuple.my == 0) && true)))) then
              false
            else
            bif (x0.n == 0) then
              true
            else
            (x0.kind == 6)
          else
          bif (x0.n == 0) then
            true
          else
          (x0.kind == 6)
        else
        bif (!c1) then
          bif (!((x0.tuple.ip == 0) && ((x0.tuple.port == 0) && ((x0.tuple.my == 0) && true)))) then
            false
          else
          bif (x0.n == 0) then
            true
          else
          (x0.kind == 6)
        else
        bif (x0.n == 0) then
          true
        else
        (x0.kind == 6)
      else
      bif c1 then
        letK (α := Bool) (i_TupleOk x0.tuple) fun c17 =>
        bif (!c17) then
          bif (!c17) then
            false
          else
          bif (x0.n == 0) then
            true
          else
          (x0.kind == 6)
        else
        bif (!c1) then
          bif (!((x0.tuple.ip == 0) && ((x0.tuple.port == 0) && ((x0.tuple.my == 0) && true)))) then
            false
          else
          bif (x0.n == 0) then
            true
          else
          (x0.kind == 6)
        else
        bif (x0.n == 0) then
          true
        else
        (x0.kind == 6)
      else
      bif (!c1) then
        bif (!((x0.tuple.ip == 0) && ((x0.tuple.port == 0) && ((x0.tuple.my == 0) && true)))) then
          false
        else
        bif (x0.n == 0) then
          true
        else
        (x0.kind == 6)
      else
      bif (x0.n == 0) then
        true
      else
      (x0.kind == 6)
    else
    bif (x0.kind != 3) then
      letK (α := Bool) (i_SameMac x0.mac (⟨false, 0, 0, []⟩ : Mac)) fun c18 =>
      bif (!c18) then
        false
      else
      bif c1 then
        letK (α := Bool) (i_TupleOk x0.tuple) fun c19 =>
        bif (!c19) then
          bif (!c19) then
            false
          else
          bif (x0.n == 0) then
            true
          else
          (x0.kind == 6)
        else
        bif (!c1) then
          bif (!((x0.tuple.ip == 0) && ((x0.tuple.port == 0) && ((x0.tuple.my == 0) && true)))) then
            false
          else
          bif (x0.n == 0) then
            true
          else
          (x0.kind == 6)
        else
        bif (x0.n == 0) then
          true
        else
        (x0.kind == 6)
      else
      bif (!c1) then
        bif (!((x0.tuple.ip == 0) && ((x0.tuple.port == 0) && ((x0.tuple.my == 0) && true)))) then
          false
        else
        bif (x0.n == 0) then
          true
        else
        (x0.kind == 6)
      else
      bif (x0.n == 0) then
        true
      else
      (x0.kind == 6)
    else
    bif c1 then
      letK (α := Bool) (i_TupleOk x0.tuple) fun c20 =>
      bif (!c20) then
        bif (!c20) then
          false
        else
        bif (x0.n == 0) then
          true
        else
        (x0.kind == 6)
      else
      bif (!c1) then
        bif (!((x0.tuple.ip == 0) && ((x0.tuple.port == 0) && ((x0.tuple.my == 0) && true)))) then
          false
        else
        bif (x0.n == 0) then
          true
        else
        (x0.kind == 6)
      else
      bif (x0.n == 0) then
        true
      else
      (x0.kind == 6)
    else
    bif (!c1) then
      bif (!((x0.tuple.ip == 0) && ((x0.tuple.port == 0) && ((x0.tuple.my == 0) && true)))) then
        false
      else
      bif (x0.n == 0) then
        true
      else
      (x0.kind == 6)
    else
    bif (x0.n == 0) then
      true
    else
    (x0.kind == 6)
  else
  letK (α := Bool) (i_MacOk x0.mac) fun c21 =>
  bif (!c21) then
    bif (!c21) then
      false
    else
    bif (!(x0.text == [])) then
      bif (x0.kind != 1) then
        bif (x0.kind != 5) then
          false
        else
        bif (x0.kind != 3) then
          letK (α := Bool) (i_SameMac x0.mac (⟨false, 0, 0, []⟩ : Mac)) fun c22 =>
          bif (!c22) then
            false
          else
          bif c1 then
            letK (α := Bool) (i_TupleOk x0.tuple) fun c23 =>
            bif (!c23) then
              bif (!c23) then
                false
              else
              bif (x0.n == 0) then
                true
              else
              (x0.kind == 6)
            else
            bif (!c1) then
              bif (!((x0.tuple.ip == 0) && ((x0.tuple.port == 0) && ((x0.tuple.my == 0) && true)))) then
                false
              else
              bif (x0.n == 0) then
                true
              else
              (x0.kind == 6)
            else
            bif (x0.n == 0) then
              true
            else
            (x0.kind == 6)
          else
          bif (!c1) then
            bif (!((x0.tuple.ip == 0) && ((x0.tuple.port == 0) && ((x0.tuple.my == 0) && true)))) then
              false
            else
            bif (x0.n == 0) then
              true
            else
            (x0.kind == 6)
          else
          bif (x0.n == 0) then
            true
          else
          (x0.kind == 6)
        else
        bif c1 then
          letK (α := Bool) (i_TupleOk x0.tuple) fun c24 =>
          bif (!c24) then
            bif (!c24) then
              false
            else
            bif (x0.n == 0) then
              true
            else
            (x0.kind == 6)
          else
          bif (!c1) then
            bif (!((x0.tuple.ip == 0) && ((x0.tuple.port == 0) && ((x0.tuple.my == 0) && true)))) then
              false
            else
            bif (x0.n == 0) then
              true
            else
            (x0.kind == 6)
          else
          bif (x0.n == 0) then
            true
          else
          (x0.kind == 6)
        else
        bif (!c1) then
          bif (!((x0.tuple.ip == 0) && ((x0.tuple.port == 0) && ((x0.tuple.my == 0) && true)))) then
            false
          else
          bif (x0.n == 0) then
            true
          else
          (x0.kind == 6)
        else
        bif (x0.n == 0) then
          true
        else
        (x0.kind == 6)
      else
      bif (x0.kind != 3) then
        letK (α := Bool) (i_SameMac x0.mac (⟨false, 0, 0, []⟩ : Mac)) fun c25 =>
        bif (!c25) then
          false
        else
        bif c1 then
          letK (α := Bool) (i_TupleOk x0.tuple) fun c26 =>
          bif (!c26) then
            bif (!c26) then
              false
            else
            bif (x0.n == 0) then
              true
            else
            (x0.kind == 6)
          else
          bif (!c1) then
            bif (!((x0.tuple.ip == 0) && ((x0.tuple.port == 0) && ((x0.tuple.my == 0) && true)))) then
              false
            else
            bif (x0.n == 0) then
              true
            else
            (x0.kind == 6)
          else
          bif (x0.n == 0) then
            true
          else
          (x0.kind == 6)
        else
        bif (!c1) then
          bif (!((x0.tuple.ip == 0) && ((x0.tuple.port == 0) && ((x0.tuple.my == 0) && true)))) then
            false
          else
          bif (x0.n == 0) then
            true
          else
          (x0.kind == 6)
        else
        bif (x0.n == 0) then
          true
        else
        (x0.kind == 6)
      else
      bif c1 then
        letK (α := Bool) (i_TupleOk x0.tuple) fun c27 =>
        bif (!c27) then
          bif (!c27) then
            false
          else
          bif (x0.n == 0) then
            true
          else
          (x0.kind == 6)
        else
        bif (!c1) then
          bif (!((x0.tuple.ip == 0) && ((x0.tuple.port == 0) && ((x0.tuple.my == 0) && true)))) then
            false
          else
          bif (x0.n == 0) then
            true
          else
          (x0.kind == 6)
        else
        bif (x0.n == 0) then
          true
        else
        (x0.kind == 6)
      else
      bif (!c1) then
        bif (!((x0.tuple.ip == 0) && ((x0.tuple.port == 0) && ((x0.tuple.my == 0) && true)))) then
          false
        else
        bif (x0.n == 0) then
          true
        else
        (x0.kind == 6)
      else
      bif (x0.n == 0) then
        true
      else
      (x0.kind == 6)
    else
    bif (x0.kind != 3) then
      letK (α := Bool) (i_SameMac x0.mac (⟨false, 0, 0, []⟩ : Mac)) fun c28 =>
      bif (!c28) then
        false
      else
      bif c1 then
        letK (α := Bool) (i_TupleOk x0.tuple) fun c29 =>
        bif (!c29) then
          bif (!c29) then
            false
          else
          bif (x0.n == 0) then
            true
          else
          (x0.kind == 6)
        else
        bif (!c1) then
          bif (!((x0.tuple.ip == 0) && ((x0.tuple.port == 0) && ((x0.tuple.my == 0) && true)))) then
            false
          else
          bif (x0.n == 0) then
            true
          else
          (x0.kind == 6)
        else
        bif (x0.n == 0) then
          true
        else
        (x0.kind == 6)
      else
      bif (!c1) then
        bif (!((x0.tuple.ip == 0) && ((x0.tuple.port == 0) && ((x0.tuple.my == 0) && true)))) then
          false
        else
        bif (x0.n == 0) then
          true
        else
        (x0.kind == 6)
      else
      bif (x0.n == 0) then
        true
      else
      (x0.kind == 6)
    else
    bif c1 then
      letK (α := Bool) (i_TupleOk x0.tuple) fun c30 =>
      bif (!c30) then
        bif (!c30) then
          false
        else
        bif (x0.n == 0) then
          true
        else
        (x0.kind == 6)
      else
      bif (!c1) then
        bif (!((x0.tuple.ip == 0) && ((x0.tuple.port == 0) && ((x0.tuple.my == 0) && true)))) then
          false
        else
        bif (x0.n == 0) then
          true
        else
        (x0.kind == 6)
      else
      bif (x0.n == 0) then
        true
      else
      (x0.kind == 6)
    else
    bif (!c1) then
      bif (!((x0.tuple.ip == 0) && ((x0.tuple.port == 0) && ((x0.tuple.my == 0) && true)))) then
        false
      else
      bif (x0.n == 0) then
        true
      else
      (x0.kind == 6)
    else
    bif (x0.n == 0) then
      true
    else
    (x0.kind == 6)
  else
  letK (α := Bool) (i_within x0.n 0 65535) fun c31 =>
  bif (!c31) then
    false
  else
  bif (!(x0.text == [])) then
    bif (x0.kind != 1) then
      bif (x0.kind != 5) then
        false
      else
      bif (x0.kind != 3) then
        letK (α := Bool) (i_SameMac x0.mac (⟨false, 0, 0, []⟩ : Mac)) fun c32 =>
        bif (!c32) then
          false
        else
        bif c1 then
          letK (α := Bool) (i_TupleOk x0.tuple) fun c33 =>
          bif (!c33) then
            bif (!c33) then
              false
            else
            bif (x0.n == 0) then
              true
            else
            (x0.kind == 6)
          else
          bif (!c1) then
            bif (!((x0.tuple.ip == 0) && ((x0.tuple.port == 0) && ((x0.tuple.my == 0) && true)))) then
              false
            else
            bif (x0.n == 0) then
              true
            else
            (x0.kind == 6)
          else
          bif (x0.n == 0) then
            true
          else
          (x0.kind == 6)
        else
        bif (!c1) then
          bif (!((x0.tuple.ip == 0) && ((x0.tuple.port == 0) && ((x0.tuple.my == 0) && true)))) then
            false
          else
          bif (x0.n == 0) then
            true
          else
          (x0.kind == 6)
        else
        bif (x0.n == 0) then
          true
        else
        (x0.kind == 6)
      else
      bif c1 then
        letK (α := Bool) (i_TupleOk x0.tuple) fun c34 =>
        bif (!c34) then
          bif (!c34) then
            false
          else
          bif (x0.n == 0) then
            true
          else
          (x0.kind == 6)
        else
        bif (!c1) then
          bif (!((x0.tuple.ip == 0) && ((x0.tuple.port == 0) && ((x0.tuple.my == 0) && true)))) then
            false
          else
          bif (x0.n == 0) then
            true
          else
          (x0.kind == 6)
        else
        bif (x0.n == 0) then
          true
        else
        (x0.kind == 6)
      else
      bif (!c1) then
        bif (!((x0.tuple.ip == 0) && ((x0.tuple.port == 0) && ((x0.tuple.my == 0) && true)))) then
          false
        else
        bif (x0.n == 0) then
          true
        else
        (x0.kind == 6)
      else
      bif (x0.n == 0) then
        true
      else
      (x0.kind == 6)
    else
    bif (x0.kind != 3) then
      letK (α := Bool) (i_SameMac x0.mac (⟨false, 0, 0, []⟩ : Mac)) fun c35 =>
      bif (!c35) then
        false
      else
      bif c1 then
        letK (α := Bool) (i_TupleOk x0.tuple) fun c36 =>
        bif (!c36) then
          bif (!c36) then
            false
          else
          bif (x0.n == 0) then
            true
          else
          (x0.kind == 6)
        else
        bif (!c1) then
          bif (!((x0.tuple.ip == 0) && ((x0.tuple.port == 0) && ((x0.tuple.my == 0) && true)))) then
            false
          else
          bif (x0.n == 0) then
            true
          else
          (x0.kind == 6)
        else
        bif (x0.n == 0) then
          true
        else
        (x0.kind == 6)
      else
      bif (!c1) then
        bif (!((x0.tuple.ip == 0) && ((x0.tuple.port == 0) && ((x0.tuple.my == 0) && true)))) then
          false
        else
        bif (x0.n == 0) then
          true
        else
        (x0.kind == 6)
      else
      bif (x0.n == 0) then
        true
      else
      (x0.kind == 6)
    else
    bif c1 then
      letK (α := Bool) (i_TupleOk x0.tuple) fun c37 =>
      bif (!c37) then
        bif (!c37) then
          false
        else
        bif (x0.n == 0) then
          true
        else
        (x0.kind == 6)
      else
      bif (!c1) then
        bif (!((x0.tuple.ip == 0) && ((x0.tuple.port == 0) && ((x0.tuple.my == 0) && true)))) then
          false
        else
        bif (x0.n == 0) then
          true
        else
        (x0.kind == 6)
      else
      bif (x0.n == 0) then
        true
      else
      (x0.kind == 6)
    else
    bif (!c1) then
      bif (!((x0.tuple.ip == 0) && ((x0.tuple.port == 0) && ((x0.tuple.my == 0) && true)))) then
        false
      else
      bif (x0.n == 0) then
        true
      else
      (x0.kind == 6)
    else
    bif (x0.n == 0) then
      true
    else
    (x0.kind == 6)
  else
  bif (x0.kind != 3) then
    letK (α := Bool) (i_SameMac x0.mac (⟨false, 0, 0, []⟩ : Mac)) fun c38 =>
    bif (!c38) then
      false
    else
    bif c1 then
      letK (α := Bool) (i_TupleOk x0.tuple) fun c39 =>
      bif (!c39) then
        bif (!c39) then
          false
        else
        bif (x0.n == 0) then
          true
        else
        (x0.kind == 6)
      else
      bif (!c1) then
        bif (!((x0.tuple.ip == 0) && ((x0.tuple.port == 0) && ((x0.tuple.my == 0) && true)))) then
          false
        else
        bif (x0.n == 0) then
          true
        else
        (x0.kind == 6)
      else
      bif (x0.n == 0) then
        true
      else
      (x0.kind == 6)
    else
    bif (!c1) then
      bif (!((x0.tuple.ip == 0) && ((x0.tuple.port == 0) && ((x0.tuple.my == 0) && true)))) then
        false
      else
      bif (x0.n == 0) then
        true
      else
      (x0.kind == 6)
    else
    bif (x0.n == 0) then
      true
    else
    (x0.kind == 6)
  else
  bif c1 then
    letK (α := Bool) (i_TupleOk x0.tuple) fun c40 =>
    bif (!c40) then
      bif (!c40) then
        false
      else
      bif (x0.n == 0) then
        true
      else
      (x0.kind == 6)
    else
    bif (!c1) then
      bif (!((x0.tuple.ip == 0) && ((x0.tuple.port == 0) && ((x0.tuple.my == 0) && true)))) then
        false
      else
      bif (x0.n == 0) then
        true
      else
      (x0.kind == 6)
    else
    bif (x0.n == 0) then
      true
    else
    (x0.kind == 6)
  else
  bif (!c1) then
    bif (!((x0.tuple.ip == 0) && ((x0.tuple.port == 0) && ((x0.tuple.my == 0) && true)))) then
      false
    else
    bif (x0.n == 0) then
      true
    else
    (x0.kind == 6)
  else
  bif (x0.n == 0) then
    true
  else
  (x0.kind == 6)
theorem i_ActOk_lk (x0 : Acti) : evalFn te (orcOf (P := Tryd.prog) [i_within_e, i_MacOk_e, i_SameMac_e, i_TupleOk_e]) lorc0 [] Tryd.f41 (pvs [.st .acti] (x0, ())) =
  i_ActOk_N x0 _ none (fun v => some [(false, [RC.c (.bool v)])]) := by kernel_rfl
theorem i_ActOk_p (x0 : Acti)   (γ : Type) (fail : γ) (k : Bool → γ) : i_ActOk_N x0 γ fail k = k (i_ActOk x0) := by
  unfold i_ActOk_N i_ActOk
  exact letT (f := k) (fun c1 hc1 => letT (f := k) (fun c2 hc2 => bifT (f := k) (fun b0 => bifT (f := k) (fun b1 => rfl)
      (fun b1 => bifT (f := k) (fun b2 => bifT (f := k) (fun b3 => bifT (f := k) (fun b4 => rfl)
      (fun b4 => bifT (f := k) (fun b5 => letT (f := k) (fun c3 hc3 => bifT (f := k) (fun b6 => rfl)
      (fun b6 => bifT (f := k) (fun b7 => letT (f := k) (fun c4 hc4 => bifT (f := k) (fun b8 => bifT (f := k) (fun b9 => rfl)
      (fun b9 => bifT (f := k) (fun b10 => rfl)
      (fun b10 => rfl)))
      (fun b8 => bifT (f := k) (fun b9 => bifT (f := k) (fun b10 => rfl)
      (fun b10 => bifT (f := k) (fun b11 => rfl)
      (fun b11 => rfl)))
      (fun b9 => bifT (f := k) (fun b10 => rfl)
      (fun b10 => rfl)))))
      (fun b7 => bifT (f := k) (fun b8 => bifT (f := k) (fun b9 => rfl)
      (fun b9 => bifT (f := k) (fun b10 => rfl)
      (fun b10 => rfl)))
      (fun b8 => bifT (f := k) (fun b9 => rfl)
      (fun b9 => rfl))))))
      (fun b5 => bifT (f := k) (fun b6 => letT (f := k) (fun c5 hc5 => bifT (f := k) (fun b7 => bifT (f := k) (fun b8 => rfl)
      (fun b8 => bifT (f := k) (fun b9 => rfl)
      (fun b9 => rfl)))
      (fun b7 => bifT (f := k) (fun b8 => bifT (f := k) (fun b9 => rfl)
      (fun b9 => bifT (f := k) (fun b10 => rfl)
      (fun b10 => rfl)))
      (fun b8 => bifT (f := k) (fun b9 => rfl)
      (fun b9 => rfl)))))
      (fun b6 => bifT (f := k) (fun b7 => bifT (f := k) (fun b8 => rfl)
      (fun b8 => bifT (f := k) (fun b9 => rfl)
      (fun b9 => rfl)))
      (fun b7 => bifT (f := k) (fun b8 => rfl)
      (fun b8 => rfl))))))
      (fun b3 => bifT (f := k) (fun b4 => letT (f := k) (fun c6 hc6 => bifT (f := k) (fun b5 => rfl)
      (fun b5 => bifT (f := k) (fun b6 => letT (f := k) (fun c7 hc7 => bifT (f := k) (fun b7 => bifT (f := k) (fun b8 => rfl)
      (fun b8 => bifT (f := k) (fun b9 => rfl)
      (fun b9 => rfl)))
      (fun b7 => bifT (f := k) (fun b8 => bifT (f := k) (fun b9 => rfl)
      (fun b9 => bifT (f := k) (fun b10 => rfl)
      (fun b10 => rfl)))
      (fun b8 => bifT (f := k) (fun b9 => rfl)
      (fun b9 => rfl)))))
      (fun b6 => bifT (f := k) (fun b7 => bifT (f := k) (fun b8 => rfl)
      (fun b8 => bifT (f := k) (fun b9 => rfl)
      (fun b9 => rfl)))
      (fun b7 => bifT (f := k) (fun b8 => rfl)
      (fun b8 => rfl))))))
      (fun b4 => bifT (f := k) (fun b5 => letT (f := k) (fun c8 hc8 => bifT (f := k) (fun b6 => bifT (f := k) (fun b7 => rfl)
      (fun b7 => bifT (f := k) (fun b8 => rfl)
      (fun b8 => rfl)))
      (fun b6 => bifT (f := k) (fun b7 => bifT (f := k) (fun b8 => rfl)
      (fun b8 => bifT (f := k) (fun b9 => rfl)
      (fun b9 => rfl)))
      (fun b7 => bifT (f := k) (fun b8 => rfl)
      (fun b8 => rfl)))))
      (fun b5 => bifT (f := k) (fun b6 => bifT (f := k) (fun b7 => rfl)
      (fun b7 => bifT (f := k) (fun b8 => rfl)
      (fun b8 => rfl)))
      (fun b6 => bifT (f := k) (fun b7 => rfl)
      (fun b7 => rfl))))))
      (fun b2 => bifT (f := k) (fun b3 => letT (f := k) (fun c9 hc9 => bifT (f := k) (fun b4 => rfl)
      (fun b4 => bifT (f := k) (fun b5 => letT (f := k) (fun c10 hc10 => bifT (f := k) (fun b6 => bifT (f := k) (fun b7 => rfl)
      (fun b7 => bifT (f := k) (fun b8 => rfl)
      (fun b8 => rfl)))
      (fun b6 => bifT (f := k) (fun b7 => bifT (f := k) (fun b8 => rfl)
      (fun b8 => bifT (f := k) (fun b9 => rfl)
      (fun b9 => rfl)))
      (fun b7 => bifT (f := k) (fun b8 => rfl)
      (fun b8 => rfl)))))
      (fun b5 => bifT (f := k) (fun b6 => bifT (f := k) (fun b7 => rfl)
      (fun b7 => bifT (f := k) (fun b8 => rfl)
      (fun b8 => rfl)))
      (fun b6 => bifT (f := k) (fun b7 => rfl)
      (fun b7 => rfl))))))
      (fun b3 => bifT (f := k) (fun b4 => letT (f := k) (fun c11 hc11 => bifT (f := k) (fun b5 => bifT (f := k) (fun b6 => rfl)
      (fun b6 => bifT (f := k) (fun b7 => rfl)
      (fun b7 => rfl)))
      (fun b5 => bifT (f := k) (fun b6 => bifT (f := k) (fun b7 => rfl)
      (fun b7 => bifT (f := k) (fun b8 => rfl)
      (fun b8 => rfl)))
      (fun b6 => bifT (f := k) (fun b7 => rfl)
      (fun b7 => rfl)))))
      (fun b4 => bifT (f := k) (fun b5 => bifT (f := k) (fun b6 => rfl)
      (fun b6 => bifT (f := k) (fun b7 => rfl)
      (fun b7 => rfl)))
      (fun b5 => bifT (f := k) (fun b6 => rfl)
      (fun b6 => rfl)))))))
      (fun b0 => bifT (f := k) (fun b1 => bifT (f := k) (fun b2 => rfl)
      (fun b2 => bifT (f := k) (fun b3 => bifT (f := k) (fun b4 => bifT (f := k) (fun b5 => rfl)
      (fun b5 => bifT (f := k) (fun b6 => letT (f := k) (fun c12 hc12 => bifT (f := k) (fun b7 => rfl)
      (fun b7 => bifT (f := k) (fun b8 => letT (f := k) (fun c13 hc13 => bifT (f := k) (fun b9 => bifT (f := k) (fun b10 => rfl)
      (fun b10 => bifT (f := k) (fun b11 => rfl)
      (fun b11 => rfl)))
      (fun b9 => bifT (f := k) (fun b10 => bifT (f := k) (fun b11 => rfl)
      (fun b11 => bifT (f := k) (fun b12 => rfl)
      (fun b12 => rfl)))
      (fun b10 => bifT (f := k) (fun b11 => rfl)
      (fun b11 => rfl)))))
      (fun b8 => bifT (f := k) (fun b9 => bifT (f := k) (fun b10 => rfl)
      (fun b10 => bifT (f := k) (fun b11 => rfl)
      (fun b11 => rfl)))
      (fun b9 => bifT (f := k) (fun b10 => rfl)
      (fun b10 => rfl))))))
      (fun b6 => bifT (f := k) (fun b7 => letT (f := k) (fun c14 hc14 => bifT (f := k) (fun b8 => bifT (f := k) (fun b9 => rfl)
      (fun b9 => bifT (f := k) (fun b10 => rfl)
      (fun b10 => rfl)))
      (fun b8 => bifT (f := k) (fun b9 => bifT (f := k) (fun b10 => rfl)
      (fun b10 => bifT (f := k) (fun b11 => rfl)
      (fun b11 => rfl)))
      (fun b9 => bifT (f := k) (fun b10 => rfl)
      (fun b10 => rfl)))))
      (fun b7 => bifT (f := k) (fun b8 => bifT (f := k) (fun b9 => rfl)
      (fun b9 => bifT (f := k) (fun b10 => rfl)
      (fun b10 => rfl)))
      (fun b8 => bifT (f := k) (fun b9 => rfl)
      (fun b9 => rfl))))))
      (fun b4 => bifT (f := k) (fun b5 => letT (f := k) (fun c15 hc15 => bifT (f := k) (fun b6 => rfl)
      (fun b6 => bifT (f := k) (fun b7 => letT (f := k) (fun c16 hc16 => bifT (f := k) (fun b8 => bifT (f := k) (fun b9 => rfl)
      (fun b9 => bifT (f := k) (fun b10 => rfl)
      (fun b10 => rfl)))
      (fun b8 => bifT (f := k) (fun b9 => bifT (f := k) (fun b10 => rfl)
      (fun b10 => bifT (f := k) (fun b11 => rfl)
      (fun b11 => rfl)))
      (fun b9 => bifT (f := k) (fun b10 => rfl)
      (fun b10 => rfl)))))
      (fun b7 => bifT (f := k) (fun b8 => bifT (f := k) (fun b9 => rfl)
      (fun b9 => bifT (f := k) (fun b10 => rfl)
      (fun b10 => rfl)))
      (fun b8 => bifT (f := k) (fun b9 => rfl)
      (fun b9 => rfl))))))
      (fun b5 => bifT (f := k) (fun b6 => letT (f := k) (fun c17 hc17 => bifT (f := k) (fun b7 => bifT (f := k) (fun b8 => rfl)
      (fun b8 => bifT (f := k) (fun b9 => rfl)
      (fun b9 => rfl)))
      (fun b7 => bifT (f := k) (fun b8 => bifT (f := k) (fun b9 => rfl)
      (fun b9 => bifT (f := k) (fun b10 => rfl)
      (fun b10 => rfl)))
      (fun b8 => bifT (f := k) (fun b9 => rfl)
      (fun b9 => rfl)))))
      (fun b6 => bifT (f := k) (fun b7 => bifT (f := k) (fun b8 => rfl)
      (fun b8 => bifT (f := k) (fun b9 => rfl)
      (fun b9 => rfl)))
      (fun b7 => bifT (f := k) (fun b8 => rfl)
      (fun b8 => rfl))))))
      (fun b3 => bifT (f := k) (fun b4 => letT (f := k) (fun c18 hc18 => bifT (f := k) (fun b5 => rfl)
      (fun b5 => bifT (f := k) (fun b6 => letT (f := k) (fun c19 hc19 => bifT (f := k) (fun b7 => bifT (f := k) (fun b8 => rfl)
      (fun b8 => bifT (f := k) (fun b9 => rfl)
      (fun b9 => rfl)))
      (fun b7 => bifT (f := k) (fun b8 => bifT (f := k) (fun b9 => rfl)
      (fun b9 => bifT (f := k) (fun b10 => rfl)
      (fun b10 => rfl)))
      (fun b8 => bifT (f := k) (fun b9 => rfl)
      (fun b9 => rfl)))))
      (fun b6 => bifT (f := k) (fun b7 => bifT (f := k) (fun b8 => rfl)
      (fun b8 => bifT (f := k) (fun b9 => rfl)
      (fun b9 => rfl)))
      (fun b7 => bifT (f := k) (fun b8 => rfl)
      (fun b8 => rfl))))))
      (fun b4 => bifT (f := k) (fun b5 => letT (f := k) (fun c20 hc20 => bifT (f := k) (fun b6 => bifT (f := k) (fun b7 => rfl)
      (fun b7 => bifT (f := k) (fun b8 => rfl)
      (fun b8 => rfl)))
      (fun b6 => bifT (f := k) (fun b7 => bifT (f := k) (fun b8 => rfl)
      (fun b8 => bifT (f := k) (fun b9 => rfl)
      (fun b9 => rfl)))
      (fun b7 => bifT (f := k) (fun b8 => rfl)
      (fun b8 => rfl)))))
      (fun b5 => bifT (f := k) (fun b6 => bifT (f := k) (fun b7 => rfl)
      (fun b7 => bifT (f := k) (fun b8 => rfl)
      (fun b8 => rfl)))
      (fun b6 => bifT (f := k) (fun b7 => rfl)
      (fun b7 => rfl)))))))
      (fun b1 => letT (f := k) (fun c21 hc21 => bifT (f := k) (fun b2 => bifT (f := k) (fun b3 => rfl)
      (fun b3 => bifT (f := k) (fun b4 => bifT (f := k) (fun b5 => bifT (f := k) (fun b6 => rfl)
      (fun b6 => bifT (f := k) (fun b7 => letT (f := k) (fun c22 hc22 => bifT (f := k) (fun b8 => rfl)
      (fun b8 => bifT (f := k) (fun b9 => letT (f := k) (fun c23 hc23 => bifT (f := k) (fun b10 => bifT (f := k) (fun b11 => rfl)
      (fun b11 => bifT (f := k) (fun b12 => rfl)
      (fun b12 => rfl)))
      (fun b10 => bifT (f := k) (fun b11 => bifT (f := k) (fun b12 => rfl)
      (fun b12 => bifT (f := k) (fun b13 => rfl)
      (fun b13 => rfl)))
      (fun b11 => bifT (f := k) (fun b12 => rfl)
      (fun b12 => rfl)))))
      (fun b9 => bifT (f := k) (fun b10 => bifT (f := k) (fun b11 => rfl)
      (fun b11 => bifT (f := k) (fun b12 => rfl)
      (fun b12 => rfl)))
      (fun b10 => bifT (f := k) (fun b11 => rfl)
      (fun b11 => rfl))))))
      (fun b7 => bifT (f := k) (fun b8 => letT (f := k) (fun c24 hc24 => bifT (f := k) (fun b9 => bifT (f := k) (fun b10 => rfl)
      (fun b10 => bifT (f := k) (fun b11 => rfl)
      (fun b11 => rfl)))
      (fun b9 => bifT (f := k) (fun b10 => bifT (f := k) (fun b11 => rfl)
      (fun b11 => bifT (f := k) (fun b12 => rfl)
      (fun b12 => rfl)))
      (fun b10 => bifT (f := k) (fun b11 => rfl)
      (fun b11 => rfl)))))
      (fun b8 => bifT (f := k) (fun b9 => bifT (f := k) (fun b10 => rfl)
      (fun b10 => bifT (f := k) (fun b11 => rfl)
      (fun b11 => rfl)))
      (fun b9 => bifT (f := k) (fun b10 => rfl)
      (fun b10 => rfl))))))
      (fun b5 => bifT (f := k) (fun b6 => letT (f := k) (fun c25 hc25 => bifT (f := k) (fun b7 => rfl)
      (fun b7 => bifT (f := k) (fun b8 => letT (f := k) (fun c26 hc26 => bifT (f := k) (fun b9 => bifT (f := k) (fun b10 => rfl)
      (fun b10 => bifT (f := k) (fun b11 => rfl)
      (fun b11 => rfl)))
      (fun b9 => bifT (f := k) (fun b10 => bifT (f := k) (fun b11 => rfl)
      (fun b11 => bifT (f := k) (fun b12 => rfl)
      (fun b12 => rfl)))
      (fun b10 => bifT (f := k) (fun b11 => rfl)
      (fun b11 => rfl)))))
      (fun b8 => bifT (f := k) (fun b9 => bifT (f := k) (fun b10 => rfl)
      (fun b10 => bifT (f := k) (fun b11 => rfl)
      (fun b11 => rfl)))
      (fun b9 => bifT (f := k) (fun b10 => rfl)
      (fun b10 => rfl))))))
      (fun b6 => bifT (f := k) (fun b7 => letT (f := k) (fun c27 hc27 => bifT (f := k) (fun b8 => bifT (f := k) (fun b9 => rfl)
      (fun b9 => bifT (f := k) (fun b10 => rfl)
      (fun b10 => rfl)))
      (fun b8 => bifT (f := k) (fun b9 => bifT (f := k) (fun b10 => rfl)
      (fun b10 => bifT (f := k) (fun b11 => rfl)
      (fun b11 => rfl)))
      (fun b9 => bifT (f := k) (fun b10 => rfl)
      (fun b10 => rfl)))))
      (fun b7 => bifT (f := k) (fun b8 => bifT (f := k) (fun b9 => rfl)
      (fun b9 => bifT (f := k) (fun b10 => rfl)
      (fun b10 => rfl)))
      (fun b8 => bifT (f := k) (fun b9 => rfl)
      (fun b9 => rfl))))))
      (fun b4 => bifT (f := k) (fun b5 => letT (f := k) (fun c28 hc28 => bifT (f := k) (fun b6 => rfl)
      (fun b6 => bifT (f := k) (fun b7 => letT (f := k) (fun c29 hc29 => bifT (f := k) (fun b8 => bifT (f := k) (fun b9 => rfl)
      (fun b9 => bifT (f := k) (fun b10 => rfl)
      (fun b10 => rfl)))
      (fun b8 => bifT (f := k) (fun b9 => bifT (f := k) (fun b10 => rfl)
      (fun b10 => bifT (f := k) (fun b11 => rfl)
      (fun b11 => rfl)))
      (fun b9 => bifT (f := k) (fun b10 => rfl)
      (fun b10 => rfl)))))
      (fun b7 => bifT (f := k) (fun b8 => bifT (f := k) (fun b9 => rfl)
      (fun b9 => bifT (f := k) (fun b10 => rfl)
      (fun b10 => rfl)))
      (fun b8 => bifT (f := k) (fun b9 => rfl)
      (fun b9 => rfl))))))
      (fun b5 => bifT (f := k) (fun b6 => letT (f := k) (fun c30 hc30 => bifT (f := k) (fun b7 => bifT (f := k) (fun b8 => rfl)
      (fun b8 => bifT (f := k) (fun b9 => rfl)
      (fun b9 => rfl)))
      (fun b7 => bifT (f := k) (fun b8 => bifT (f := k) (fun b9 => rfl)
      (fun b9 => bifT (f := k) (fun b10 => rfl)
      (fun b10 => rfl)))
      (fun b8 => bifT (f := k) (fun b9 => rfl)
      (fun b9 => rfl)))))
      (fun b6 => bifT (f := k) (fun b7 => bifT (f := k) (fun b8 => rfl)
      (fun b8 => bifT (f := k) (fun b9 => rfl)
      (fun b9 => rfl)))
      (fun b7 => bifT (f := k) (fun b8 => rfl)
      (fun b8 => rfl)))))))
      (fun b2 => letT (f := k) (fun c31 hc31 => bifT (f := k) (fun b3 => rfl)
      (fun b3 => bifT (f := k) (fun b4 => bifT (f := k) (fun b5 => bifT (f := k) (fun b6 => rfl)
      (fun b6 => bifT (f := k) (fun b7 => letT (f := k) (fun c32 hc32 => bifT (f := k) (fun b8 => rfl)
      (fun b8 => bifT (f := k) (fun b9 => letT (f := k) (fun c33 hc33 => bifT (f := k) (fun b10 => bifT (f := k) (fun b11 => rfl)
      (fun b11 => bifT (f := k) (fun b12 => rfl)
      (fun b12 => rfl)))
      (fun b10 => bifT (f := k) (fun b11 => bifT (f := k) (fun b12 => rfl)
      (fun b12 => bifT (f := k) (fun b13 => rfl)
      (fun b13 => rfl)))
      (fun b11 => bifT (f := k) (fun b12 => rfl)
      (fun b12 => rfl)))))
      (fun b9 => bifT (f := k) (fun b10 => bifT (f := k) (fun b11 => rfl)
      (fun b11 => bifT (f := k) (fun b12 => rfl)
      (fun b12 => rfl)))
      (fun b10 => bifT (f := k) (fun b11 => rfl)
      (fun b11 => rfl))))))
      (fun b7 => bifT (f := k) (fun b8 => letT (f := k) (fun c34 hc34 => bifT (f := k) (fun b9 => bifT (f := k) (fun b10 => rfl)
      (fun b10 => bifT (f := k) (fun b11 => rfl)
      (fun b11 => rfl)))
      (fun b9 => bifT (f := k) (fun b10 => bifT (f := k) (fun b11 => rfl)
      (fun b11 => bifT (f := k) (fun b12 => rfl)
      (fun b12 => rfl)))
      (fun b10 => bifT (f := k) (fun b11 => rfl)
      (fun b11 => rfl)))))
      (fun b8 => bifT (f := k) (fun b9 => bifT (f := k) (fun b10 => rfl)
      (fun b10 => bifT (f := k) (fun b11 => rfl)
      (fun b11 => rfl)))
      (fun b9 => bifT (f := k) (fun b10 => rfl)
      (fun b10 => rfl))))))
      (fun b5 => bifT (f := k) (fun b6 => letT (f := k) (fun c35 hc35 => bifT (f := k) (fun b7 => rfl)
      (fun b7 => bifT (f := k) (fun b8 => letT (f := k) (fun c36 hc36 => bifT (f := k) (fun b9 => bifT (f := k) (fun b10 => rfl)
      (fun b10 => bifT (f := k) (fun b11 => rfl)
      (fun b11 => rfl)))
      (fun b9 => bifT (f := k) (fun b10 => bifT (f := k) (fun b11 => rfl)
      (fun b11 => bifT (f := k) (fun b12 => rfl)
      (fun b12 => rfl)))
      (fun b10 => bifT (f := k) (fun b11 => rfl)
      (fun b11 => rfl)))))
      (fun b8 => bifT (f := k) (fun b9 => bifT (f := k) (fun b10 => rfl)
      (fun b10 => bifT (f := k) (fun b11 => rfl)
      (fun b11 => rfl)))
      (fun b9 => bifT (f := k) (fun b10 => rfl)
      (fun b10 => rfl))))))
      (fun b6 => bifT (f := k) (fun b7 => letT (f := k) (fun c37 hc37 => bifT (f := k) (fun b8 => bifT (f := k) (fun b9 => rfl)
      (fun b9 => bifT (f := k) (fun b10 => rfl)
      (fun b10 => rfl)))
      (fun b8 => bifT (f := k) (fun b9 => bifT (f := k) (fun b10 => rfl)
      (fun b10 => bifT (f := k) (fun b11 => rfl)
      (fun b11 => rfl)))
      (fun b9 => bifT (f := k) (fun b10 => rfl)
      (fun b10 => rfl)))))
      (fun b7 => bifT (f := k) (fun b8 => bifT (f := k) (fun b9 => rfl)
      (fun b9 => bifT (f := k) (fun b10 => rfl)
      (fun b10 => rfl)))
      (fun b8 => bifT (f := k) (fun b9 => rfl)
      (fun b9 => rfl))))))
      (fun b4 => bifT (f := k) (fun b5 => letT (f := k) (fun c38 hc38 => bifT (f := k) (fun b6 => rfl)
      (fun b6 => bifT (f := k) (fun b7 => letT (f := k) (fun c39 hc39 => bifT (f := k) (fun b8 => bifT (f := k) (fun b9 => rfl)
      (fun b9 => bifT (f := k) (fun b10 => rfl)
      (fun b10 => rfl)))
      (fun b8 => bifT (f := k) (fun b9 => bifT (f := k) (fun b10 => rfl)
      (fun b10 => bifT (f := k) (fun b11 => rfl)
      (fun b11 => rfl)))
      (fun b9 => bifT (f := k) (fun b10 => rfl)
      (fun b10 => rfl)))))
      (fun b7 => bifT (f := k) (fun b8 => bifT (f := k) (fun b9 => rfl)
      (fun b9 => bifT (f := k) (fun b10 => rfl)
      (fun b10 => rfl)))
      (fun b8 => bifT (f := k) (fun b9 => rfl)
      (fun b9 => rfl))))))
      (fun b5 => bifT (f := k) (fun b6 => letT (f := k) (fun c40 hc40 => bifT (f := k) (fun b7 => bifT (f := k) (fun b8 => rfl)
      (fun b8 => bifT (f := k) (fun b9 => rfl)
      (fun b9 => rfl)))
      (fun b7 => bifT (f := k) (fun b8 => bifT (f := k) (fun b9 => rfl)
      (fun b9 => bifT (f := k) (fun b10 => rfl)
      (fun b10 => rfl)))
      (fun b8 => bifT (f := k) (fun b9 => rfl)
      (fun b9 => rfl)))))
      (fun b6 => bifT (f := k) (fun b7 => bifT (f := k) (fun b8 => rfl)
      (fun b8 => bifT (f := k) (fun b9 => rfl)
      (fun b9 => rfl)))
      (fun b7 => bifT (f := k) (fun b8 => rfl)
      (fun b8 => rfl)))))))))))))
theorem i_ActOk_c (x0 : Acti)  : Con Tryd.prog 41 (pvs [.st .acti] (x0, ())) [rv (.sc .bool) [] (i_ActOk x0)] := by
  exact evalFn_con0 teFact mixFact (orcOf_ok _) Tryd.func41 (by kernel_rfl) ((i_ActOk_lk x0).trans (i_ActOk_p x0  _ _ _))
noncomputable def i_ActOk_e : Ent1 Tryd.prog := entA 41 [.st .acti] (fun x => (i_ActOk x.1)) (fun v => [rv (.sc .bool) [] v]) (fun x => i_ActOk_c x.1)


/-- impl.ActLine -/
def i_ActLine_N (x0 : Acti) (γ : Type) (fail : γ) (k : Bytes → γ) : γ :=
  letK (α := Bool) (i_ActOk x0) fun c1 =>
  bif (!c1) then
    k []
  else
  bif x0.mac.use then
    k []
  else
  letK (α := Bytes) (i_ActWord x0.kind) fun c2 =>
  bif (x0.kind == 3) then
    letK (α := Bytes) (i_keyHex x0.mac.k) fun c3 =>
    bif (Nat.ble (1 + c3.length) maxStr) then
    bif (Nat.ble (([32] ++ c3).length + 1) maxStr) then
    letK (α := Bytes) (i_keyHex x0.mac.l) fun c4 =>
    bif (Nat.ble ((([32] ++ c3) ++ [32]).length + c4.length) maxStr) then
    bif (Nat.ble (c2.length + ((([32] ++ c3) ++ [32]) ++ c4).length) maxStr) then
    bif (decide (5 ≤ x0.kind)) then
      letK (α := Bytes) (i_TupleText x0.tuple) fun c5 =>
      bif (Nat.ble (1 + c5.length) maxStr) then
      bif (Nat.ble ((c2 ++ ((([32] ++ c3) ++ [32]) ++ c4)).length + ([32] ++ c5).length) maxStr) then
      bif (x0.kind == 6) then
        letK (α := Bytes) (i_Digits x0.n) fun c6 =>
        bif (Nat.ble (1 + c6.length) maxStr) then
        bif (Nat.ble (((c2 ++ ((([32] ++ c3) ++ [32]) ++ c4)) ++ ([32] ++ c5)).length + ([32] ++ c6).length) maxStr) then
        letK (α := Bytes) (((c2 ++ ((([32] ++ c3) ++ [32]) ++ c4)) ++ ([32] ++ c5)) ++ ([32] ++ c6)) fun e7 =>
        bif (x0.kind == 1) then
          bif (decide (x0.text.length ≤ 4294967296)) then
          letK (α := Bytes) (i_hexOr x0.text) fun c8 =>
          bif (Nat.ble (1 + c8.length) maxStr) then
          bif (Nat.ble (e7.length + ([32] ++ c8).length) maxStr) then
          k (e7 ++ ([32] ++ c8))
          else fail
          else fail
          else fail
        else
        bif (x0.kind == 5) then
          bif (decide (x0.text.length ≤ 4294967296)) then
          letK (α := Bytes) (i_hexOr x0.text) fun c9 =>
          bif (Nat.ble (1 + c9.length) maxStr) then
          bif (Nat.ble (e7.length + ([32] ++ c9).length) maxStr) then
          k (e7 ++ ([32] ++ c9))
          else fail
          else fail
          else fail
        else
        k e7
        else fail
        else fail
      else
      bif (x0.kind == 1) then
        bif (decide (x0.text.length ≤ 4294967296)) then
        letK (α := Bytes) (i_hexOr x0.text) fun c10 =>
        bif (Nat.ble (1 + c10.length) maxStr) then
        bif (Nat.ble (((c2 ++ ((([32] ++ c3) ++ [32]) ++ c4)) ++ ([32] ++ c5)).length + ([32] ++ c10).length) maxStr) then
        letK (α := Bytes) (((c2 ++ ((([32] ++ c3) ++ [32]) ++ c4)) ++ ([32] ++ c5)) ++ ([32] ++ c10)) fun e11 =>
        k e11
        else fail
        else fail
        else fail
      else
      bif (x0.kind == 5) then
        bif (decide (x0.text.length ≤ 4294967296)) then
        letK (α := Bytes) (i_hexOr x0.text) fun c12 =>
        bif (Nat.ble (1 + c12.length) maxStr) then
        bif (Nat.ble (((c2 ++ ((([32] ++ c3) ++ [32]) ++ c4)) ++ ([32] ++ c5)).length + ([32] ++ c12).length) maxStr) then
        letK (α := Bytes) (((c2 ++ ((([32] ++ c3) ++ [32]) ++ c4)) ++ ([32] ++ c5)) ++ ([32] ++ c12)) fun e13 =>
        k e13
        else fail
        else fail
        else fail
      else
      k ((c2 ++ ((([32] ++ c3) ++ [32]) ++ c4)) ++ ([32] ++ c5))
      else fail
      else fail
    else
    bif (x0.kind == 6) then
      letK (α := Bytes) (i_Digits x0.n) fun c14 =>
      bif (Nat.ble (1 + c14.length) maxStr) then
      bif (Nat.ble ((c2 ++ ((([32] ++ c3) ++ [32]) ++ c4)).length + ([32] ++ c14).length) maxStr) then
      bif (x0.kind == 1) then
        bif (decide (x0.text.length ≤ 4294967296)) then
        letK (α := Bytes) (i_hexOr x0.text) fun c15 =>
        bif (Nat.ble (1 + c15.length) maxStr) then
        bif (Nat.ble (((c2 ++ ((([32] ++ c3) ++ [32]) ++ c4)) ++ ([32] ++ c14)).length + ([32] ++ c15).length) maxStr) then
        letK (α := Bytes) (((c2 ++ ((([32] ++ c3) ++ [32]) ++ c4)) ++ ([32] ++ c14)) ++ ([32] ++ c15)) fun e16 =>
        k e16
        else fail
        else fail
        else fail
      else
      bif (x0.kind == 5) then
        bif (decide (x0.text.length ≤ 4294967296)) then
        letK (α := Bytes) (i_hexOr x0.text) fun c17 =>
        bif (Nat.ble (1 + c17.length) maxStr) then
        bif (Nat.ble (((c2 ++ ((([32] ++ c3) ++ [32]) ++ c4)) ++ ([32] ++ c14)).length + ([32] ++ c17).length) maxStr) then
        letK (α := Bytes) (((c2 ++ ((([32] ++ c3) ++ [32]) ++ c4)) ++ ([32] ++ c14)) ++ ([32] ++ c17)) fun e18 =>
        k e18
        else fail
        else fail
        else fail
      else
      k ((c2 ++ ((([32] ++ c3) ++ [32]) ++ c4)) ++ ([32] ++ c14))
      else fail
      else fail
    else
    bif (x0.kind == 1) then
      bif (decide (x0.text.length ≤ 4294967296)) then
      letK (α := Bytes) (i_hexOr x0.text) fun c19 =>
      bif (Nat.ble (1 + c19.length) maxStr) then
      bif (Nat.ble ((c2 ++ ((([32] ++ c3) ++ [32]) ++ c4)).length + ([32] ++ c19).length) maxStr) then
      k ((c2 ++ ((([32] ++ c3) ++ [32]) ++ c4)) ++ ([32] ++ c19))
      else fail
      else fail
      else fail
    else
    bif (x0.kind == 5) then
      bif (decide (x0.text.length ≤ 4294967296)) then
      letK (α := Bytes) (i_hexOr x0.text) fun c20 =>
      bif (Nat.ble (1 + c20.length) maxStr) then
      bif (Nat.ble ((c2 ++ ((([32] ++ c3) ++ [32]) ++ c4)).length + ([32] ++ c20).length) maxStr) then
      k ((c2 ++ ((([32] ++ c3) ++ [32]) ++ c4)) ++ ([32] ++ c20))
      else fail
      else fail
      else fail
    else
    k (c2 ++ ((([32] ++ c3) ++ [32]) ++ c4))
    else fail
    else fail
    else fail
    else fail
  else
  bif (decide (5 ≤ x0.kind)) then
    letK (α := Bytes) (i_TupleText x0.tuple) fun c21 =>
    bif (Nat.ble (1 + c21.length) maxStr) then
    bif (Nat.ble (c2.length + ([32] ++ c21).length) maxStr) then
    bif (x0.kind == 6) then
      letK (α := Bytes) (i_Digits x0.n) fun c22 =>
      bif (Nat.ble (1 + c22.length) maxStr) then
      bif (Nat.ble ((c2 ++ ([32] ++ c21)).length + ([32] ++ c22).length) maxStr) then
      bif (x0.kind == 1) then
        bif (decide (x0.text.length ≤ 4294967296)) then
        letK (α := Bytes) (i_hexOr x0.text) fun c23 =>
        bif (Nat.ble (1 + c23.length) maxStr) then
        bif (Nat.ble (((c2 ++ ([32] ++ c21)) ++ ([32] ++ c22)).length + ([32] ++ c23).length) maxStr) then
        k (((c2 ++ ([32] ++ c21)) ++ ([32] ++ c22)) ++ ([32] ++ c23))
        else fail
        else fail
        else fail
      else
      bif (x0.kind == 5) then
        bif (decide (x0.text.length ≤ 4294967296)) then
        letK (α := Bytes) (i_hexOr x0.text) fun c24 =>
        bif (Nat.ble (1 + c24.length) maxStr) then
        bif (Nat.ble (((c2 ++ ([32] ++ c21)) ++ ([32] ++ c22)).length + ([32] ++ c24).length) maxStr) then
        k (((c2 ++ ([32] ++ c21)) ++ ([32] ++ c22)) ++ ([32] ++ c24))
        else fail
        else fail
        else fail
      else
      k ((c2 ++ ([32] ++ c21)) ++ ([32] ++ c22))
      else fail
      else fail
    else
    bif (x0.kind == 1) then
      bif (decide (x0.text.length ≤ 4294967296)) then
      letK (α := Bytes) (i_hexOr x0.text) fun c25 =>
      bif (Nat.ble (1 + c25.length) maxStr) then
      bif (Nat.ble ((c2 ++ ([32] ++ c21)).length + ([32] ++ c25).length) maxStr) then
      k ((c2 ++ ([32] ++ c21)) ++ ([32] ++ c25))
      else fail
      else fail
      else fail
    else
    bif (x0.kind == 5) then
      bif (decide (x0.text.length ≤ 4294967296)) then
      letK (α := Bytes) (i_hexOr x0.text) fun c26 =>
      bif (Nat.ble (1 + c26.length) maxStr) then
      bif (Nat.ble ((c2 ++ ([32] ++ c21)).length + ([32] ++ c26).length) maxStr) then
      k ((c2 ++ ([32] ++ c21)) ++ ([32] ++ c26))
      else fail
      else fail
      else fail
    else
    k (c2 ++ ([32] ++ c21))
    else fail
    else fail
  else
  bif (x0.kind == 6) then
    letK (α := Bytes) (i_Digits x0.n) fun c27 =>
    bif (Nat.ble (1 + c27.length) maxStr) then
    bif (Nat.ble (c2.length + ([32] ++ c27).length) maxStr) then
    bif (x0.kind == 1) then
      bif (decide (x0.text.length ≤ 4294967296)) then
      letK (α := Bytes) (i_hexOr x0.text) fun c28 =>
      bif (Nat.ble (1 + c28.length) maxStr) then
      bif (Nat.ble ((c2 ++ ([32] ++ c27)).length + ([32] ++ c28).length) maxStr) then
      k ((c2 ++ ([32] ++ c27)) ++ ([32] ++ c28))
      else fail
      else fail
      else fail
    else
    bif (x0.kind == 5) then
      bif (decide (x0.text.length ≤ 4294967296)) then
      letK (α := Bytes) (i_hexOr x0.text) fun c29 =>
      bif (Nat.ble (1 + c29.length) maxStr) then
      bif (Nat.ble ((c2 ++ ([32] ++ c27)).length + ([32] ++ c29).length) maxStr) then
      k ((c2 ++ ([32] ++ c27)) ++ ([32] ++ c29))
      else fail
      else fail
      else fail
    else
    k (c2 ++ ([32] ++ c27))
    else fail
    else fail
  else
  bif (x0.kind == 1) then
    bif (decide (x0.text.length ≤ 4294967296)) then
    letK (α := Bytes) (i_hexOr x0.text) fun c30 =>
    bif (Nat.ble (1 + c30.length) maxStr) then
    bif (Nat.ble (c2.length + ([32] ++ c30).length) maxStr) then
    k (c2 ++ ([32] ++ c30))
    else fail
    else fail
    else fail
  else
  bif (x0.kind == 5) then
    bif (decide (x0.text.length ≤ 4294967296)) then
    letK (α := Bytes) (i_hexOr x0.text) fun c31 =>
    bif (Nat.ble (1 + c31.length) maxStr) then
    bif (Nat.ble (c2.length + ([32] ++ c31).length) maxStr) then
    k (c2 ++ ([32] ++ c31))
    else fail
    else fail
    else fail
  else
  k c2
def i_ActLine (x0 : Acti) : Bytes :=
  letK (α := Bool) (i_ActOk x0) fun c1 =>
  bif (!c1) then
    []
  else
  bif x0.mac.use then
    []
  else
  letK (α := Bytes) (i_ActWord x0.kind) fun c2 =>
  bif (x0.kind == 3) then
    letK (α := Bytes) (i_keyHex x0.mac.k) fun c3 =>
    letK (α := Bytes) (i_keyHex x0.mac.l) fun c4 =>
    bif (decide (5 ≤ x0.kind)) then
      letK (α := Bytes) (i_TupleText x0.tuple) fun c5 =>
      bif (x0.kind == 6) then
        letK (α := Bytes) (i_Digits x0.n) fun c6 =>
        letK (α := Bytes) (((c2 ++ ((([32] ++ c3) ++ [32]) ++ c4)) ++ ([32] ++ c5)) ++ ([32] ++ c6)) fun e7 =>
        bif (x0.kind == 1) then
          letK (α := Bytes) (i_hexOr x0.text) fun c8 =>
          (e7 ++ ([32] ++ c8))
        else
        bif (x0.kind == 5) then
          letK (α := Bytes) (i_hexOr x0.text) fun c9 =>
          (e7 ++ ([32] ++ c9))
        else
        e7
      else
      bif (x0.kind == 1) then
        letK (α := Bytes) (i_hexOr x0.text) fun c10 =>
        letK (α := Bytes) (((c2 ++ ((([32] ++ c3) ++ [32]) ++ c4)) ++ ([32] ++ c5)) ++ ([32] ++ c10)) fun e11 =>
        e11
      else
      bif (x0.kind == 5) then
        letK (α := Bytes) (i_hexOr x0.text) fun c12 =>
        letK (α := Bytes) (((c2 ++ ((([32] ++ c3) ++ [32]) ++ c4)) ++ ([32] ++ c5)) ++ ([32] ++ c12)) fun e13 =>
        e13
      else
      ((c2 ++ ((([32] ++ c3) ++ [32]) ++ c4)) ++ ([32] ++ c5))
    else
    bif (x0.kind == 6) then
      letK (α := Bytes) (i_Digits x0.n) fun c14 =>
      bif (x0.kind == 1) then
        letK (α := Bytes) (i_hexOr x0.text) fun c15 =>
        letK (α := Bytes) (((c2 ++ ((([32] ++ c3) ++ [32]) ++ c4)) ++ ([32] ++ c14)) ++ ([32] ++ c15)) fun e16 =>
        e16
      else
      bif (x0.kind == 5) then
        letK (α := Bytes) (i_hexOr x0.text) fun c17 =>
        letK (α := Bytes) (((c2 ++ ((([32] ++ c3) ++ [32]) ++ c4)) ++ ([32] ++ c14)) ++ ([32] ++ c17)) fun e18 =>
        e18
      else
      ((c2 ++ ((([32] ++ c3) ++ [32]) ++ c4)) ++ ([32] ++ c14))
    else
    bif (x0.kind == 1) then
      letK (α := Bytes) (i_hexOr x0.text) fun c19 =>
      ((c2 ++ ((([32] ++ c3) ++ [32]) ++ c4)) ++ ([32] ++ c19))
    else
    bif (x0.kind == 5) then
      letK (α := Bytes) (i_hexOr x0.text) fun c20 =>
      ((c2 ++ ((([32] ++ c3) ++ [32]) ++ c4)) ++ ([32] ++ c20))
    else
    (c2 ++ ((([32] ++ c3) ++ [32]) ++ c4))
  else
  bif (decide (5 ≤ x0.kind)) then
    letK (α := Bytes) (i_TupleText x0.tuple) fun c21 =>
    bif (x0.kind == 6) then
      letK (α := Bytes) (i_Digits x0.n) fun c22 =>
      bif (x0.kind == 1) then
        letK (α := Bytes) (i_hexOr x0.text) fun c23 =>
        (((c2 ++ ([32] ++ c21)) ++ ([32] ++ c22)) ++ ([32] ++ c23))
      else
      bif (x0.kind == 5) then
        letK (α := Bytes) (i_hexOr x0.text) fun c24 =>
        (((c2 ++ ([32] ++ c21)) ++ ([32] ++ c22)) ++ ([32] ++ c24))
      else
      ((c2 ++ ([32] ++ c21)) ++ ([32] ++ c22))
    else
    bif (x0.kind == 1) then
      letK (α := Bytes) (i_hexOr x0.text) fun c25 =>
      ((c2 ++ ([32] ++ c21)) ++ ([32] ++ c25))
    else
    bif (x0.kind == 5) then
      letK (α := Bytes) (i_hexOr x0.text) fun c26 =>
      ((c2 ++ ([32] ++ c21)) ++ ([32] ++ c26))
    else
    (c2 ++ ([32] ++ c21))
  else
  bif (x0.kind == 6) then
    letK (α := Bytes) (i_Digits x0.n) fun c27 =>
    bif (x0.kind == 1) then
      letK (α := Bytes) (i_hexOr x0.text) fun c28 =>
      ((c2 ++ ([32] ++ c27)) ++ ([32] ++ c28))
    else
    bif (x0.kind == 5) then
      letK (α := Bytes) (i_hexOr x0.text) fun c29 =>
      ((c2 ++ ([32] ++ c27)) ++ ([32] ++ c29))
    else
    (c2 ++ ([32] ++ c27))
  else
  bif (x0.kind == 1) then
    letK (α := Bytes) (i_hexOr x0.text) fun c30 =>
    (c2 ++ ([32] ++ c30))
  else
  bif (x0.kind == 5) then
    letK (α := Bytes) (i_hexOr x0.text) fun c31 =>
    (c2 ++ ([32] ++ c31))
  else
  c2
theorem i_ActLine_lk (x0 : Acti) : evalFn te (orcOf (P := Tryd.prog) [i_ActOk_e, i_ActWord_e, i_keyHex_e, i_TupleText_e, i_Digits_e, i_hexOr_e]) lorc0 [] Tryd.f14 (pvs [.st .acti] (x0, ())) =
  i_ActLine_N x0 _ none (fun v => some [(false, [RC.c (.str v)])]) := by kernel_rfl
theorem i_ActLine_p (x0 : Acti) (hx0_kind : inK .i64 x0.kind) (hx0_tuple_ip : inK .i64 x0.tuple.ip) (hx0_tuple_port : inK .i64 x0.tuple.port) (hx0_tuple_my : inK .i64 x0.tuple.my) (hx0_n : inK .i64 x0.n) (hx0_text : List.length x0.text ≤ 4611686018427387904) (hx0_mac_k : inK .u64 x0.mac.k) (hx0_mac_l : inK .u64 x0.mac.l) (hx0_mac_rows : x0.mac.rows.length ≤ 140737488355328) (hx0_mac_rows_e : ∀ y ∈ x0.mac.rows, ∀ c ∈ Ty.cells .macRow y, FactC c) (hp : x0.text.length ≤ 4294967296 ∧ x0.mac.rows.length ≤ 4294967296) (γ : Type) (fail : γ) (k : Bytes → γ) : i_ActLine_N x0 γ fail k = k (i_ActLine x0) := by
  unfold i_ActLine_N i_ActLine
  refine letT (f := k) (fun c1 hc1 => bifT (f := k) (fun b0 => rfl)
      (fun b0 => bifT (f := k) (fun b1 => rfl)
      (fun b1 => letT (f := k) (fun c2 hc2 => bifT (f := k) (fun b2 => letT (f := k) (fun c3 hc3 => bifG ?_ (bifG ?_ (letT (f := k) (fun c4 hc4 => bifG ?_ (bifG ?_ (bifT (f := k) (fun b3 => letT (f := k) (fun c5 hc5 => bifG ?_ (bifG ?_ (bifT (f := k) (fun b4 => letT (f := k) (fun c6 hc6 => bifG ?_ (bifG ?_ (letT (f := k) (fun e7 he7 => bifT (f := k) (fun b5 => bifG ?_ (letT (f := k) (fun c8 hc8 => bifG ?_ (bifG ?_ (rfl)))))
      (fun b5 => bifT (f := k) (fun b6 => bifG ?_ (letT (f := k) (fun c9 hc9 => bifG ?_ (bifG ?_ (rfl)))))
      (fun b6 => rfl)))))))
      (fun b4 => bifT (f := k) (fun b5 => bifG ?_ (letT (f := k) (fun c10 hc10 => bifG ?_ (bifG ?_ (letT (f := k) (fun e11 he11 => rfl))))))
      (fun b5 => bifT (f := k) (fun b6 => bifG ?_ (letT (f := k) (fun c12 hc12 => bifG ?_ (bifG ?_ (letT (f := k) (fun e13 he13 => rfl))))))
      (fun b6 => rfl)))))))
      (fun b3 => bifT (f := k) (fun b4 => letT (f := k) (fun c14 hc14 => bifG ?_ (bifG ?_ (bifT (f := k) (fun b5 => bifG ?_ (letT (f := k) (fun c15 hc15 => bifG ?_ (bifG ?_ (letT (f := k) (fun e16 he16 => rfl))))))
      (fun b5 => bifT (f := k) (fun b6 => bifG ?_ (letT (f := k) (fun c17 hc17 => bifG ?_ (bifG ?_ (letT (f := k) (fun e18 he18 => rfl))))))
      (fun b6 => rfl))))))
      (fun b4 => bifT (f := k) (fun b5 => bifG ?_ (letT (f := k) (fun c19 hc19 => bifG ?_ (bifG ?_ (rfl)))))
      (fun b5 => bifT (f := k) (fun b6 => bifG ?_ (letT (f := k) (fun c20 hc20 => bifG ?_ (bifG ?_ (rfl)))))
      (fun b6 => rfl)))))))))))
      (fun b2 => bifT (f := k) (fun b3 => letT (f := k) (fun c21 hc21 => bifG ?_ (bifG ?_ (bifT (f := k) (fun b4 => letT (f := k) (fun c22 hc22 => bifG ?_ (bifG ?_ (bifT (f := k) (fun b5 => bifG ?_ (letT (f := k) (fun c23 hc23 => bifG ?_ (bifG ?_ (rfl)))))
      (fun b5 => bifT (f := k) (fun b6 => bifG ?_ (letT (f := k) (fun c24 hc24 => bifG ?_ (bifG ?_ (rfl)))))
      (fun b6 => rfl))))))
      (fun b4 => bifT (f := k) (fun b5 => bifG ?_ (letT (f := k) (fun c25 hc25 => bifG ?_ (bifG ?_ (rfl)))))
      (fun b5 => bifT (f := k) (fun b6 => bifG ?_ (letT (f := k) (fun c26 hc26 => bifG ?_ (bifG ?_ (rfl)))))
      (fun b6 => rfl)))))))
      (fun b3 => bifT (f := k) (fun b4 => letT (f := k) (fun c27 hc27 => bifG ?_ (bifG ?_ (bifT (f := k) (fun b5 => bifG ?_ (letT (f := k) (fun c28 hc28 => bifG ?_ (bifG ?_ (rfl)))))
      (fun b5 => bifT (f := k) (fun b6 => bifG ?_ (letT (f := k) (fun c29 hc29 => bifG ?_ (bifG ?_ (rfl)))))
      (fun b6 => rfl))))))
      (fun b4 => bifT (f := k) (fun b5 => bifG ?_ (letT (f := k) (fun c30 hc30 => bifG ?_ (bifG ?_ (rfl)))))
      (fun b5 => bifT (f := k) (fun b6 => bifG ?_ (letT (f := k) (fun c31 hc31 => bifG ?_ (bifG ?_ (rfl)))))
      (fun b6 => rfl)))))))))
  all_goals ((try simp only [Nat.ble_eq, Bool.and_eq_true, decide_eq_true_eq]); grind [maxSl, maxStr, toBytes_length, toInts_length, List.length_set, wrap64, i_ActWord_len, i_keyHex_len, i_TupleText_len, i_Digits_len, i_hexOr_len])
theorem i_ActLine_c (x0 : Acti) (hp : x0.text.length ≤ 4294967296 ∧ x0.mac.rows.length ≤ 4294967296) : Con Tryd.prog 14 (pvs [.st .acti] (x0, ())) [rv (.sc .str) [] (i_ActLine x0)] := by
  refine Con.of_facts (enters_of Tryd.func14 rfl (by kernel_rfl)) fun hf => ?_
  replace hf := factAt hf
  exact evalFn_con0 teFact mixFact (orcOf_ok _) Tryd.func14 (by kernel_rfl) ((i_ActLine_lk x0).trans (i_ActLine_p x0 ((hf 0 0 rfl rfl).rng) ((hf 0 1 rfl rfl).rng) ((hf 0 2 rfl rfl).rng) ((hf 0 3 rfl rfl).rng) ((hf 0 4 rfl rfl).rng) ((hf 0 5 rfl rfl).slen) ((hf 0 7 rfl rfl).rng) ((hf 0 8 rfl rfl).rng) ((hf 0 9 rfl rfl).len) (fun y hy => (hf 0 9 rfl rfl).elem hy) hp _ _ _))
noncomputable def i_ActLine_e : Ent1 Tryd.prog := entP 14 [.st .acti] (fun x => (decide (x.1.text.length ≤ 4294967296 ∧ x.1.mac.rows.length ≤ 4294967296))) (fun x => (i_ActLine x.1)) (fun v => [rv (.sc .str) [] v]) (fun x hx => i_ActLine_c x.1 (of_decide_eq_true hx))


/-- impl.ReadAct -/
def i_ReadAct_ann : List (Nat × Keep) := [(0, ⟨[0, 2, 4, 5, 6], [], false, 0⟩)]
def i_ReadAct_L0_sh : Sh := ⟨[(0, false, [.str]), (2, false, [.ptr 0 0]), (4, false, [.own 1]), (5, false, [.ptr 2 0]), (6, false, [.int .i64])], [.box [.int .i64, .int .i64, .int .i64, .int .i64, .int .i64, .str, .bool, .int .u64, .int .u64, .nil], .arr .str false true, .box [.int .i64, .int .i64, .int .i64, .int .i64, .int .i64, .str, .bool, .int .u64, .int .u64, .nil]]⟩
def i_ReadAct_L0_es : List (Ex × Sh) := [(.exit 0, ⟨[(0, false, [.str]), (2, false, [.ptr 0 0]), (3, false, [.undef]), (4, false, [.own 1]), (5, false, [.ptr 2 0])], [.box [.int .i64, .int .i64, .int .i64, .int .i64, .int .i64, .str, .bool, .int .u64, .int .u64, .nil], .arr .str false true, .box [.int .i64, .int .i64, .int .i64, .int .i64, .int .i64, .str, .bool, .int .u64, .int .u64, .nil]]⟩)]
def i_ReadAct_L0_mk (v0 : Bytes) (v1 : Int) (v2 : Int) (v3 : Int) (v4 : Int) (v5 : Int) (v6 : Int) (v7 : Bytes) (v8 : Bool) (v9 : Int) (v10 : Int) (v11 : List Bytes) (v12 : Int) (v13 : Int) (v14 : Int) (v15 : Int) (v16 : Int) (v17 : Bytes) (v18 : Bool) (v19 : Int) (v20 : Int) : i_ReadAct_L0_sh.T := (((v0, ()), (((), ()), (((), ()), (((), ()), ((v1, ()), ()))))), ((v2, (v3, (v4, (v5, (v6, (v7, (v8, (v9, (v10, ((), ())))))))))), (v11, ((v12, (v13, (v14, (v15, (v16, (v17, (v18, (v19, (v20, ((), ())))))))))), ()))))
def i_ReadAct_L0_mx0 (y0 : Bytes) (y1 : Int) (y2 : Int) (y3 : Int) (y4 : Int) (y5 : Int) (y6 : Bytes) (y7 : Bool) (y8 : Int) (y9 : Int) (y10 : List Bytes) (y11 : Int) (y12 : Int) (y13 : Int) (y14 : Int) (y15 : Int) (y16 : Bytes) (y17 : Bool) (y18 : Int) (y19 : Int) : Sh.T ⟨[(0, false, [.str]), (2, false, [.ptr 0 0]), (3, false, [.undef]), (4, false, [.own 1]), (5, false, [.ptr 2 0])], [.box [.int .i64, .int .i64, .int .i64, .int .i64, .int .i64, .str, .bool, .int .u64, .int .u64, .nil], .arr .str false true, .box [.int .i64, .int .i64, .int .i64, .int .i64, .int .i64, .str, .bool, .int .u64, .int .u64, .nil]]⟩ := (((y0, ()), (((), ()), (((), ()), (((), ()), (((), ()), ()))))), ((y1, (y2, (y3, (y4, (y5, (y6, (y7, (y8, (y9, ((), ())))))))))), (y10, ((y11, (y12, (y13, (y14, (y15, (y16, (y17, (y18, (y19, ((), ())))))))))), ()))))
def i_ReadAct_L0_B (v0 : Bytes) (v1 : Int) (v2 : Int) (v3 : Int) (v4 : Int) (v5 : Int) (v6 : Int) (v7 : Bytes) (v8 : Bool) (v9 : Int) (v10 : Int) (v11 : List Bytes) (v12 : Int) (v13 : Int) (v14 : Int) (v15 : Int) (v16 : Int) (v17 : Bytes) (v18 : Bool) (v19 : Int) (v20 : Int) (γ : Type) (fail : γ) (next : i_ReadAct_L0_sh.T → γ) (out : WT i_ReadAct_L0_es → γ) : γ :=
  bif (decide (v1 ≤ 8)) then
    letK (α := Bytes) (i_ActWord v1) fun c2 =>
    bif (decide (0 < (v11.length : Int))) then
    bif (c2 == (v11.getD 0 [])) then
      next (i_ReadAct_L0_mk v0 (IntKind.wrap .i64 (v1 + 1)) v2 v3 v4 v5 v6 v7 v8 v9 v10 v11 v1 v13 v14 v15 v16 v17 v18 v19 v20)
    else
    next (i_ReadAct_L0_mk v0 (IntKind.wrap .i64 (v1 + 1)) v2 v3 v4 v5 v6 v7 v8 v9 v10 v11 v12 v13 v14 v15 v16 v17 v18 v19 v20)
    else fail
  else
  out (i_ReadAct_L0_mx0 v0 v2 v3 v4 v5 v6 v7 v8 v9 v10 v11 v12 v13 v14 v15 v16 v17 v18 v19 v20)
theorem i_ReadAct_L0_par (v0 : Bytes) (v1 : Int) (v2 : Int) (v3 : Int) (v4 : Int) (v5 : Int) (v6 : Int) (v7 : Bytes) (v8 : Bool) (v9 : Int) (v10 : Int) (v11 : List Bytes) (v12 : Int) (v13 : Int) (v14 : Int) (v15 : Int) (v16 : Int) (v17 : Bytes) (v18 : Bool) (v19 : Int) (v20 : Int) (γ : Type) (fail : γ) (next : i_ReadAct_L0_sh.T → γ) (out : WT i_ReadAct_L0_es → γ) : i_ReadAct_L0_B v0 v1 v2 v3 v4 v5 v6 v7 v8 v9 v10 v11 v12 v13 v14 v15 v16 v17 v18 v19 v20 γ fail next out = optK (i_ReadAct_L0_B v0 v1 v2 v3 v4 v5 v6 v7 v8 v9 v10 v11 v12 v13 v14 v15 v16 v17 v18 v19 v20 _ none (fun v' => some (.inl v')) (fun w => some (.inr w))) fail (fun r => Sum.elim next out r) := by
  unfold i_ReadAct_L0_B
  repeat' (first | refine letT (f := (fun o => optK o fail (fun r => Sum.elim next out r))) (fun _ _ => ?_) | refine bifT (f := (fun o => optK o fail (fun r => Sum.elim next out r))) (fun _ => ?_) (fun _ => ?_) | rfl)
def i_ReadAct_L0_r : Round i_ReadAct_L0_sh.T (WT i_ReadAct_L0_es) where
  B v γ fail next out := i_ReadAct_L0_B v.1.1.1 v.1.2.2.2.2.1.1 v.2.1.1 v.2.1.2.1 v.2.1.2.2.1 v.2.1.2.2.2.1 v.2.1.2.2.2.2.1 v.2.1.2.2.2.2.2.1 v.2.1.2.2.2.2.2.2.1 v.2.1.2.2.2.2.2.2.2.1 v.2.1.2.2.2.2.2.2.2.2.1 v.2.2.1 v.2.2.2.1.1 v.2.2.2.1.2.1 v.2.2.2.1.2.2.1 v.2.2.2.1.2.2.2.1 v.2.2.2.1.2.2.2.2.1 v.2.2.2.1.2.2.2.2.2.1 v.2.2.2.1.2.2.2.2.2.2.1 v.2.2.2.1.2.2.2.2.2.2.2.1 v.2.2.2.1.2.2.2.2.2.2.2.2.1 γ fail next out
  par v γ fail next out := i_ReadAct_L0_par v.1.1.1 v.1.2.2.2.2.1.1 v.2.1.1 v.2.1.2.1 v.2.1.2.2.1 v.2.1.2.2.2.1 v.2.1.2.2.2.2.1 v.2.1.2.2.2.2.2.1 v.2.1.2.2.2.2.2.2.1 v.2.1.2.2.2.2.2.2.2.1 v.2.1.2.2.2.2.2.2.2.2.1 v.2.2.1 v.2.2.2.1.1 v.2.2.2.1.2.1 v.2.2.2.1.2.2.1 v.2.2.2.1.2.2.2.1 v.2.2.2.1.2.2.2.2.1 v.2.2.2.1.2.2.2.2.2.1 v.2.2.2.1.2.2.2.2.2.2.1 v.2.2.2.1.2.2.2.2.2.2.2.1 v.2.2.2.1.2.2.2.2.2.2.2.2.1 γ fail next out
def i_ReadAct_L0_fu (v0 : Bytes) (v1 : Int) (v2 : Int) (v3 : Int) (v4 : Int) (v5 : Int) (v6 : Int) (v7 : Bytes) (v8 : Bool) (v9 : Int) (v10 : Int) (v11 : List Bytes) (v12 : Int) (v13 : Int) (v14 : Int) (v15 : Int) (v16 : Int) (v17 : Bytes) (v18 : Bool) (v19 : Int) (v20 : Int) : Nat := (Int.toNat (8 - v1 + 1)) + 1
theorem i_ReadAct_L0_lk (v : i_ReadAct_L0_sh.T) (next : St → Option Res) (k : Ex → St → Option Res) : evalK te (orcOf (P := Tryd.prog) [i_Parts_e, i_ActWord_e, i_readText_e, i_readKey_e, i_ReadTuple_e, i_Number_e, i_ActLine_e]) (lorcOf []) Tryd.f17.ntmps i_ReadAct_ann (nthLoop (bodyOf Tryd.f17) 0 0) 0 (i_ReadAct_L0_sh.enc v) (endK ⟨[0, 2, 4, 5, 6], [], false, 0⟩ ⟨[0, 2, 3, 4, 5], [], false, 0⟩ next k) =
  i_ReadAct_L0_r.B v _ none (fun v' => next (i_ReadAct_L0_sh.enc v')) (fun w => outK i_ReadAct_L0_es k w) := by kernel_rfl
def i_ReadAct_L0_le : LE := leOf 0 i_ReadAct_L0_sh i_ReadAct_L0_es i_ReadAct_L0_r.step (fun v => i_ReadAct_L0_fu v.1.1.1 v.1.2.2.2.2.1.1 v.2.1.1 v.2.1.2.1 v.2.1.2.2.1 v.2.1.2.2.2.1 v.2.1.2.2.2.2.1 v.2.1.2.2.2.2.2.1 v.2.1.2.2.2.2.2.2.1 v.2.1.2.2.2.2.2.2.2.1 v.2.1.2.2.2.2.2.2.2.2.1 v.2.2.1 v.2.2.2.1.1 v.2.2.2.1.2.1 v.2.2.2.1.2.2.1 v.2.2.2.1.2.2.2.1 v.2.2.2.1.2.2.2.2.1 v.2.2.2.1.2.2.2.2.2.1 v.2.2.2.1.2.2.2.2.2.2.1 v.2.2.2.1.2.2.2.2.2.2.2.1 v.2.2.2.1.2.2.2.2.2.2.2.2.1)
theorem i_ReadAct_L0_ls (w0 : World) (mo : Mts) (I0 : Nat → Prop) (hmo : mo.length = 0) : LSem Tryd.prog (Sim w0 mo Tryd.f17.ntmps I0) (fun b s k => match Nat.beq 0 b with | true => i_ReadAct_L0_le.run s k | false => none) 0 (nthLoop (bodyOf Tryd.f17) 0 0) :=
  le_sem hmo (lorc := lorcOf []) (ann := i_ReadAct_ann) (keep := ⟨[0, 2, 4, 5, 6], [], false, 0⟩) (kout := ⟨[0, 2, 3, 4, 5], [], false, 0⟩) teFact mixFact (orcOf_ok _) (by kernel_rfl) (allLoops_of (bs := []) (by kernel_rfl) trivial) i_ReadAct_L0_r _ i_ReadAct_L0_lk
def i_ReadAct_L0_f (v0 : Bytes) (v2 : Int) (v3 : Int) (v4 : Int) (v5 : Int) (v6 : Int) (v7 : Bytes) (v8 : Bool) (v9 : Int) (v10 : Int) (v11 : List Bytes) (v13 : Int) (v14 : Int) (v15 : Int) (v16 : Int) (v17 : Bytes) (v18 : Bool) (v19 : Int) (v20 : Int) (v1 : Int) (a : Int) : Stp (Int) (Empty) :=
  letK (α := Bytes) (i_ActWord v1) fun c2 =>
  bif (c2 == (v11.getD 0 [])) then
    .next v1
  else
  .next a
theorem i_ReadAct_L0_st (v0 : Bytes) (v1 : Int) (v2 : Int) (v3 : Int) (v4 : Int) (v5 : Int) (v6 : Int) (v7 : Bytes) (v8 : Bool) (v9 : Int) (v10 : Int) (v11 : List Bytes) (v12 : Int) (v13 : Int) (v14 : Int) (v15 : Int) (v16 : Int) (v17 : Bytes) (v18 : Bool) (v19 : Int) (v20 : Int) (hlo : 0 ≤ v1) (hhi : v1 ≤ 8) (hN : 8 ≤ 4611686018427387904) (hi0 : 0 < (v11.length : Int)) (hinv : 0 ≤ v12 ∧ v12 ≤ 8) : i_ReadAct_L0_r.step (i_ReadAct_L0_mk v0 v1 v2 v3 v4 v5 v6 v7 v8 v9 v10 v11 v12 v13 v14 v15 v16 v17 v18 v19 v20) = Stp.elim (fun a' : Int => some (Sum.inl (i_ReadAct_L0_mk v0 (v1 + 1) v2 v3 v4 v5 v6 v7 v8 v9 v10 v11 a' v13 v14 v15 v16 v17 v18 v19 v20))) (fun w => some (Sum.inr ((fun p : Empty => nomatch p) w))) (i_ReadAct_L0_f v0 v2 v3 v4 v5 v6 v7 v8 v9 v10 v11 v13 v14 v15 v16 v17 v18 v19 v20 v1 v12) := by
  have hw : (IntKind.wrap .i64 (v1 + 1)) = v1 + 1 := wrap64 (by omega) (by omega)
  show i_ReadAct_L0_B v0 v1 v2 v3 v4 v5 v6 v7 v8 v9 v10 v11 v12 v13 v14 v15 v16 v17 v18 v19 v20 (Option (i_ReadAct_L0_sh.T ⊕ WT i_ReadAct_L0_es)) none (fun v' => some (Sum.inl v')) (fun w => some (Sum.inr w)) = _
  unfold i_ReadAct_L0_B i_ReadAct_L0_f
  exact bifG (by simp only [decide_eq_true_eq]; omega) (letT (f := (Stp.elim (fun a' : Int => some (Sum.inl (i_ReadAct_L0_mk v0 (v1 + 1) v2 v3 v4 v5 v6 v7 v8 v9 v10 v11 a' v13 v14 v15 v16 v17 v18 v19 v20))) (fun w => some (Sum.inr ((fun p : Empty => nomatch p) w))))) (fun c2 hc2 => bifG (by (try simp only [Nat.ble_eq, Bool.and_eq_true, decide_eq_true_eq]); grind [maxSl, maxStr, toBytes_length, toInts_length, List.length_set, wrap64, i_Parts_len, i_Parts_el, i_ActWord_len, i_readText_len]) (bifT (f := (Stp.elim (fun a' : Int => some (Sum.inl (i_ReadAct_L0_mk v0 (v1 + 1) v2 v3 v4 v5 v6 v7 v8 v9 v10 v11 a' v13 v14 v15 v16 v17 v18 v19 v20))) (fun w => some (Sum.inr ((fun p : Empty => nomatch p) w))))) (fun b0 => (by exact congrArg (fun z => some (Sum.inl (i_ReadAct_L0_mk v0 z v2 v3 v4 v5 v6 v7 v8 v9 v10 v11 v1 v13 v14 v15 v16 v17 v18 v19 v20))) hw))
      (fun b0 => (by exact congrArg (fun z => some (Sum.inl (i_ReadAct_L0_mk v0 z v2 v3 v4 v5 v6 v7 v8 v9 v10 v11 v12 v13 v14 v15 v16 v17 v18 v19 v20))) hw)))))
theorem i_ReadAct_L0_cl (v0 : Bytes) (v1 : Int) (v2 : Int) (v3 : Int) (v4 : Int) (v5 : Int) (v6 : Int) (v7 : Bytes) (v8 : Bool) (v9 : Int) (v10 : Int) (v11 : List Bytes) (v12 : Int) (v13 : Int) (v14 : Int) (v15 : Int) (v16 : Int) (v17 : Bytes) (v18 : Bool) (v19 : Int) (v20 : Int) (h0 : 0 ≤ v1) (h1 : 8 ≤ 4611686018427387904) (h2 : 0 < (v11.length : Int)) (h3 : 0 ≤ v12 ∧ v12 ≤ 8) : loopF i_ReadAct_L0_r.step (i_ReadAct_L0_fu v0 v1 v2 v3 v4 v5 v6 v7 v8 v9 v10 v11 v12 v13 v14 v15 v16 v17 v18 v19 v20) (i_ReadAct_L0_mk v0 v1 v2 v3 v4 v5 v6 v7 v8 v9 v10 v11 v12 v13 v14 v15 v16 v17 v18 v19 v20) = some (Stp.elim (fun a => (fun i a => i_ReadAct_L0_mx0 v0 v2 v3 v4 v5 v6 v7 v8 v9 v10 v11 a v13 v14 v15 v16 v17 v18 v19 v20) (v1 + 1 * (((Int.toNat (8 - v1 + 1)) : Nat) : Int)) a) (fun p : Empty => nomatch p) (forN (i_ReadAct_L0_f v0 v2 v3 v4 v5 v6 v7 v8 v9 v10 v11 v13 v14 v15 v16 v17 v18 v19 v20) 1 (Int.toNat (8 - v1 + 1)) v1 v12)) :=
  forN_loop (step := i_ReadAct_L0_r.step) (mk := fun v1 a => i_ReadAct_L0_mk v0 v1 v2 v3 v4 v5 v6 v7 v8 v9 v10 v11 a v13 v14 v15 v16 v17 v18 v19 v20) (f := i_ReadAct_L0_f v0 v2 v3 v4 v5 v6 v7 v8 v9 v10 v11 v13 v14 v15 v16 v17 v18 v19 v20) (e := (fun i a => i_ReadAct_L0_mx0 v0 v2 v3 v4 v5 v6 v7 v8 v9 v10 v11 a v13 v14 v15 v16 v17 v18 v19 v20)) (emb := (fun p : Empty => nomatch p)) (st := 1) (Inv := fun v1 a => 0 ≤ a ∧ a ≤ 8) (Int.toNat (8 - v1 + 1)) v1 v12 _ (Nat.lt_succ_self _) h3
    (fun j a hj hv => ⟨i_ReadAct_L0_st v0 (v1 + 1 * (j : Int)) v2 v3 v4 v5 v6 v7 v8 v9 v10 v11 a v13 v14 v15 v16 v17 v18 v19 v20 (by omega) (by omega) (by omega) h2 hv, by
      intro a' he
      grind [i_ReadAct_L0_f, letK, Stp.elim, wrap64, List.length_set, i_Parts_len, i_Parts_el, i_ActWord_len, i_readText_len]⟩)
    (fun a hv => by
      show i_ReadAct_L0_B v0 (v1 + 1 * (((Int.toNat (8 - v1 + 1)) : Nat) : Int)) v2 v3 v4 v5 v6 v7 v8 v9 v10 v11 a v13 v14 v15 v16 v17 v18 v19 v20 (Option (i_ReadAct_L0_sh.T ⊕ WT i_ReadAct_L0_es)) none (fun v' => some (Sum.inl v')) (fun w => some (Sum.inr w)) = _
      unfold i_ReadAct_L0_B
      exact bifN (by simp only [decide_eq_false_iff_not]; omega) rfl)
theorem i_ReadAct_L0_nx (v0 : Bytes) (v1 : Int) (v2 : Int) (v3 : Int) (v4 : Int) (v5 : Int) (v6 : Int) (v7 : Bytes) (v8 : Bool) (v9 : Int) (v10 : Int) (v11 : List Bytes) (v12 : Int) (v13 : Int) (v14 : Int) (v15 : Int) (v16 : Int) (v17 : Bytes) (v18 : Bool) (v19 : Int) (v20 : Int) (h0 : 0 ≤ v1) (h1 : 8 ≤ 4611686018427387904) (h2 : 0 < (v11.length : Int)) (h3 : 0 ≤ v12 ∧ v12 ≤ 8) : ∀ a', forN (i_ReadAct_L0_f v0 v2 v3 v4 v5 v6 v7 v8 v9 v10 v11 v13 v14 v15 v16 v17 v18 v19 v20) 1 (Int.toNat (8 - v1 + 1)) v1 v12 = .next a' → 0 ≤ a' ∧ a' ≤ 8 :=
  forN_inv (f := i_ReadAct_L0_f v0 v2 v3 v4 v5 v6 v7 v8 v9 v10 v11 v13 v14 v15 v16 v17 v18 v19 v20) (st := 1) (Inv := fun v1 a => 0 ≤ a ∧ a ≤ 8) (Int.toNat (8 - v1 + 1)) v1 v12 h3
    (fun j a hj hv => by
      intro a' he
      grind [i_ReadAct_L0_f, letK, Stp.elim, wrap64, List.length_set, i_Parts_len, i_Parts_el, i_ActWord_len, i_readText_len])
def i_ReadAct_N (x0 : Bytes) (γ : Type) (fail : γ) (k : Acti × Bool → γ) : γ :=
  bif (decide (x0.length ≤ 4294967296)) then
  letK (α := List Bytes) (i_Parts x0 32) fun c1 =>
  optK (loopF i_ReadAct_L0_r.step (i_ReadAct_L0_fu x0 1 0 0 0 0 0 [] false 0 0 c1 0 0 0 0 0 [] false 0 0) (i_ReadAct_L0_mk x0 1 0 0 0 0 0 [] false 0 0 c1 0 0 0 0 0 [] false 0 0)) fail fun w3 =>
    bif (w3.2.2.2.1.1 == 0) then
      k ((⟨0, ⟨0, 0, 0⟩, 0, [], ⟨false, 0, 0, []⟩⟩ : Acti), false)
    else
    bif ((decide (0 ≤ w3.2.2.2.1.1)) && (decide (w3.2.2.2.1.1 < 9))) then
    bif ((w3.2.2.1.length : Int) != ([0, 2, 1, 3, 1, 3, 3, 2, 2].getD w3.2.2.2.1.1.toNat 0)) then
      k ((⟨0, ⟨0, 0, 0⟩, 0, [], ⟨false, 0, 0, []⟩⟩ : Acti), false)
    else
    bif (w3.2.2.2.1.1 == 1) then
      bif (decide (1 < (w3.2.2.1.length : Int))) then
      bif (decide ((w3.2.2.1.getD 1 []).length ≤ 4294967296)) then
      letK (α := Bytes × Bool) (i_readText (w3.2.2.1.getD 1 [])) fun c4 =>
      bif (w3.2.2.2.1.1 == 5) then
        bif (decide (2 < (w3.2.2.1.length : Int))) then
        bif (decide ((w3.2.2.1.getD 2 []).length ≤ 4294967296)) then
        letK (α := Bytes × Bool) (i_readText (w3.2.2.1.getD 2 [])) fun c5 =>
        bif (!c4.2) then
          k ((⟨0, ⟨0, 0, 0⟩, 0, [], ⟨false, 0, 0, []⟩⟩ : Acti), false)
        else
        bif (!c5.2) then
          k ((⟨0, ⟨0, 0, 0⟩, 0, [], ⟨false, 0, 0, []⟩⟩ : Acti), false)
        else
        bif (decide ((⟨w3.2.2.2.1.1, ⟨w3.2.2.2.1.2.1, w3.2.2.2.1.2.2.1, w3.2.2.2.1.2.2.2.1⟩, w3.2.2.2.1.2.2.2.2.1, c5.1, ⟨w3.2.2.2.1.2.2.2.2.2.2.1, w3.2.2.2.1.2.2.2.2.2.2.2.1, w3.2.2.2.1.2.2.2.2.2.2.2.2.1, []⟩⟩ : Acti).text.length ≤ 4294967296 ∧ (⟨w3.2.2.2.1.1, ⟨w3.2.2.2.1.2.1, w3.2.2.2.1.2.2.1, w3.2.2.2.1.2.2.2.1⟩, w3.2.2.2.1.2.2.2.2.1, c5.1, ⟨w3.2.2.2.1.2.2.2.2.2.2.1, w3.2.2.2.1.2.2.2.2.2.2.2.1, w3.2.2.2.1.2.2.2.2.2.2.2.2.1, []⟩⟩ : Acti).mac.rows.length ≤ 4294967296)) then
        letK (α := Bytes) (i_ActLine (⟨w3.2.2.2.1.1, ⟨w3.2.2.2.1.2.1, w3.2.2.2.1.2.2.1, w3.2.2.2.1.2.2.2.1⟩, w3.2.2.2.1.2.2.2.2.1, c5.1, ⟨w3.2.2.2.1.2.2.2.2.2.2.1, w3.2.2.2.1.2.2.2.2.2.2.2.1, w3.2.2.2.1.2.2.2.2.2.2.2.2.1, []⟩⟩ : Acti)) fun c6 =>
        bif (!(c6 == w3.1.1.1)) then
          k ((⟨0, ⟨0, 0, 0⟩, 0, [], ⟨false, 0, 0, []⟩⟩ : Acti), false)
        else
        k ((⟨w3.2.2.2.1.1, ⟨w3.2.2.2.1.2.1, w3.2.2.2.1.2.2.1, w3.2.2.2.1.2.2.2.1⟩, w3.2.2.2.1.2.2.2.2.1, c5.1, ⟨w3.2.2.2.1.2.2.2.2.2.2.1, w3.2.2.2.1.2.2.2.2.2.2.2.1, w3.2.2.2.1.2.2.2.2.2.2.2.2.1, []⟩⟩ : Acti), true)
        else fail
        else fail
        else fail
      else
      bif (w3.2.2.2.1.1 == 6) then
        bif (decide (2 < (w3.2.2.1.length : Int))) then
        letK (α := Int × Bool) (i_Number (w3.2.2.1.getD 2 [])) fun c7 =>
        bif (!c4.2) then
          k ((⟨0, ⟨0, 0, 0⟩, 0, [], ⟨false, 0, 0, []⟩⟩ : Acti), false)
        else
        bif (!c7.2) then
          k ((⟨0, ⟨0, 0, 0⟩, 0, [], ⟨false, 0, 0, []⟩⟩ : Acti), false)
        else
        bif (decide ((⟨w3.2.2.2.1.1, ⟨w3.2.2.2.1.2.1, w3.2.2.2.1.2.2.1, w3.2.2.2.1.2.2.2.1⟩, c7.1, c4.1, ⟨w3.2.2.2.1.2.2.2.2.2.2.1, w3.2.2.2.1.2.2.2.2.2.2.2.1, w3.2.2.2.1.2.2.2.2.2.2.2.2.1, []⟩⟩ : Acti).text.length ≤ 4294967296 ∧ (⟨w3.2.2.2.1.1, ⟨w3.2.2.2.1.2.1, w3.2.2.2.1.2.2.1, w3.2.2.2.1.2.2.2.1⟩, c7.1, c4.1, ⟨w3.2.2.2.1.2.2.2.2.2.2.1, w3.2.2.2.1.2.2.2.2.2.2.2.1, w3.2.2.2.1.2.2.2.2.2.2.2.2.1, []⟩⟩ : Acti).mac.rows.length ≤ 4294967296)) then
        letK (α := Bytes) (i_ActLine (⟨w3.2.2.2.1.1, ⟨w3.2.2.2.1.2.1, w3.2.2.2.1.2.2.1, w3.2.2.2.1.2.2.2.1⟩, c7.1, c4.1, ⟨w3.2.2.2.1.2.2.2.2.2.2.1, w3.2.2.2.1.2.2.2.2.2.2.2.1, w3.2.2.2.1.2.2.2.2.2.2.2.2.1, []⟩⟩ : Acti)) fun c8 =>
        bif (!(c8 == w3.1.1.1)) then
          k ((⟨0, ⟨0, 0, 0⟩, 0, [], ⟨false, 0, 0, []⟩⟩ : Acti), false)
        else
        k ((⟨w3.2.2.2.1.1, ⟨w3.2.2.2.1.2.1, w3.2.2.2.1.2.2.1, w3.2.2.2.1.2.2.2.1⟩, c7.1, c4.1, ⟨w3.2.2.2.1.2.2.2.2.2.2.1, w3.2.2.2.1.2.2.2.2.2.2.2.1, w3.2.2.2.1.2.2.2.2.2.2.2.2.1, []⟩⟩ : Acti), true)
        else fail
        else fail
      else
      bif (!c4.2) then
        k ((⟨0, ⟨0, 0, 0⟩, 0, [], ⟨false, 0, 0, []⟩⟩ : Acti), false)
      else
      bif (decide ((⟨w3.2.2.2.1.1, ⟨w3.2.2.2.1.2.1, w3.2.2.2.1.2.2.1, w3.2.2.2.1.2.2.2.1⟩, w3.2.2.2.1.2.2.2.2.1, c4.1, ⟨w3.2.2.2.1.2.2.2.2.2.2.1, w3.2.2.2.1.2.2.2.2.2.2.2.1, w3.2.2.2.1.2.2.2.2.2.2.2.2.1, []⟩⟩ : Acti).text.length ≤ 4294967296 ∧ (⟨w3.2.2.2.1.1, ⟨w3.2.2.2.1.2.1, w3.2.2.2.1.2.2.1, w3.2.2.2.1.2.2.2.1⟩, w3.2.2.2.1.2.2.2.2.1, c4.1, ⟨w3.2.2.2.1.2.2.2.2.2.2.1, w3.2.2.2.1.2.2.2.2.2.2.2.1, w3.2.2.2.1.2.2.2.2.2.2.2.2.1, []⟩⟩ : Acti).mac.rows.length ≤ 4294967296)) then
      letK (α := Bytes) (i_ActLine (⟨w3.2.2.2.1.1, ⟨w3.2.2.2.1.2.1, w3.2.2.2.1.2.2.1, w3.2.2.2.1.2.2.2.1⟩, w3.2.2.2.1.2.2.2.2.1, c4.1, ⟨w3.2.2.2.1.2.2.2.2.2.2.1, w3.2.2.2.1.2.2.2.2.2.2.2.1, w3.2.2.2.1.2.2.2.2.2.2.2.2.1, []⟩⟩ : Acti)) fun c9 =>
      bif (!(c9 == w3.1.1.1)) then
        k ((⟨0, ⟨0, 0, 0⟩, 0, [], ⟨false, 0, 0, []⟩⟩ : Acti), false)
      else
      k ((⟨w3.2.2.2.1.1, ⟨w3.2.2.2.1.2.1, w3.2.2.2.1.2.2.1, w3.2.2.2.1.2.2.2.1⟩, w3.2.2.2.1.2.2.2.2.1, c4.1, ⟨w3.2.2.2.1.2.2.2.2.2.2.1, w3.2.2.2.1.2.2.2.2.2.2.2.1, w3.2.2.2.1.2.2.2.2.2.2.2.2.1, []⟩⟩ : Acti), true)
      else fail
      else fail
      else fail
    else
    bif (w3.2.2.2.1.1 == 3) then
      bif (decide (1 < (w3.2.2.1.length : Int))) then
      bif (decide ((w3.2.2.1.getD 1 []).length ≤ 4294967296)) then
      letK (α := Int × Bool) (i_readKey (w3.2.2.1.getD 1 [])) fun c10 =>
      bif (decide (2 < (w3.2.2.1.length : Int))) then
      bif (decide ((w3.2.2.1.getD 2 []).length ≤ 4294967296)) then
      letK (α := Int × Bool) (i_readKey (w3.2.2.1.getD 2 [])) fun c11 =>
      bif (w3.2.2.2.1.1 == 5) then
        bif (decide (2 < (w3.2.2.1.length : Int))) then
        bif (decide ((w3.2.2.1.getD 2 []).length ≤ 4294967296)) then
        letK (α := Bytes × Bool) (i_readText (w3.2.2.1.getD 2 [])) fun c12 =>
        bif (!c10.2) then
          k ((⟨0, ⟨0, 0, 0⟩, 0, [], ⟨false, 0, 0, []⟩⟩ : Acti), false)
        else
        bif (!c11.2) then
          k ((⟨0, ⟨0, 0, 0⟩, 0, [], ⟨false, 0, 0, []⟩⟩ : Acti), false)
        else
        bif (!c12.2) then
          k ((⟨0, ⟨0, 0, 0⟩, 0, [], ⟨false, 0, 0, []⟩⟩ : Acti), false)
        else
        bif (decide ((⟨w3.2.2.2.1.1, ⟨w3.2.2.2.1.2.1, w3.2.2.2.1.2.2.1, w3.2.2.2.1.2.2.2.1⟩, w3.2.2.2.1.2.2.2.2.1, c12.1, ⟨w3.2.2.2.1.2.2.2.2.2.2.1, c10.1, c11.1, []⟩⟩ : Acti).text.length ≤ 4294967296 ∧ (⟨w3.2.2.2.1.1, ⟨w3.2.2.2.1.2.1, w3.2.2.2.1.2.2.1, w3.2.2.2.1.2.2.2.1⟩, w3.2.2.2.1.2.2.2.2.1, c12.1, ⟨w3.2.2.2.1.2.2.2.2.2.2.1, c10.1, c11.1, []⟩⟩ : Acti).mac.rows.length ≤ 4294967296)) then
        letK (α := Bytes) (i_ActLine (⟨w3.2.2.2.1.1, ⟨w3.2.2.2.1.2.1, w3.2.2.2.1.2.2.1, w3.2.2.2.1.2.2.2.1⟩, w3.2.2.2.1.2.2.2.2.1, c12.1, ⟨w3.2.2.2.1.2.2.2.2.2.2.1, c10.1, c11.1, []⟩⟩ : Acti)) fun c13 =>
        bif (!(c13 == w3.1.1.1)) then
          k ((⟨0, ⟨0, 0, 0⟩, 0, [], ⟨false, 0, 0, []⟩⟩ : Acti), false)
        else
        k ((⟨w3.2.2.2.1.1, ⟨w3.2.2.2.1.2.1, w3.2.2.2.1.2.2.1, w3.2.2.2.1.2.2.2.1⟩, w3.2.2.2.1.2.2.2.2.1, c12.1, ⟨w3.2.2.2.1.2.2.2.2.2.2.1, c10.1, c11.1, []⟩⟩ : Acti), true)
        else fail
        else fail
        else fail
      else
      bif (w3.2.2.2.1.1 == 6) then
        bif (decide (2 < (w3.2.2.1.length : Int))) then
        letK (α := Int × Bool) (i_Number (w3.2.2.1.getD 2 [])) fun c14 =>
        bif (!c10.2) then
          k ((⟨0, ⟨0, 0, 0⟩, 0, [], ⟨false, 0, 0, []⟩⟩ : Acti), false)
        else
        bif (!c11.2) then
          k ((⟨0, ⟨0, 0, 0⟩, 0, [], ⟨false, 0, 0, []⟩⟩ : Acti), false)
        else
        bif (!c14.2) then
          k ((⟨0, ⟨0, 0, 0⟩, 0, [], ⟨false, 0, 0, []⟩⟩ : Acti), false)
        else
        bif (decide ((⟨w3.2.2.2.1.1, ⟨w3.2.2.2.1.2.1, w3.2.2.2.1.2.2.1, w3.2.2.2.1.2.2.2.1⟩, c14.1, w3.2.2.2.1.2.2.2.2.2.1, ⟨w3.2.2.2.1.2.2.2.2.2.2.1, c10.1, c11.1, []⟩⟩ : Acti).text.length ≤ 4294967296 ∧ (⟨w3.2.2.2.1.1, ⟨w3.2.2.2.1.2.1, w3.2.2.2.1.2.2.1, w3.2.2.2.1.2.2.2.1⟩, c14.1, w3.2.2.2.1.2.2.2.2.2.1, ⟨w3.2.2.2.1.2.2.2.2.2.2.1, c10.1, c11.1, []⟩⟩ : Acti).mac.rows.length ≤ 4294967296)) then
        letK (α := Bytes) (i_ActLine (⟨w3.2.2.2.1.1, ⟨w3.2.2.2.1.2.1, w3.2.2.2.1.2.2.1, w3.2.2.2.1.2.2.2.1⟩, c14.1, w3.2.2.2.1.2.2.2.2.2.1, ⟨w3.2.2.2.1.2.2.2.2.2.2.1, c10.1, c11.1, []⟩⟩ : Acti)) fun c15 =>
        bif (!(c15 == w3.1.1.1)) then
          k ((⟨0, ⟨0, 0, 0⟩, 0, [], ⟨false, 0, 0, []⟩⟩ : Acti), false)
        else
        k ((⟨w3.2.2.2.1.1, ⟨w3.2.2.2.1.2.1, w3.2.2.2.1.2.2.1, w3.2.2.2.1.2.2.2.1⟩, c14.1, w3.2.2.2.1.2.2.2.2.2.1, ⟨w3.2.2.2.1.2.2.2.2.2.2.1, c10.1, c11.1, []⟩⟩ : Acti), true)
        else fail
        else fail
      else
      bif (!c10.2) then
        k ((⟨0, ⟨0, 0, 0⟩, 0, [], ⟨false, 0, 0, []⟩⟩ : Acti), false)
      else
      bif (!c11.2) then
        k ((⟨0, ⟨0, 0, 0⟩, 0, [], ⟨false, 0, 0, []⟩⟩ : Acti), false)
      else
      bif (decide ((⟨w3.2.2.2.1.1, ⟨w3.2.2.2.1.2.1, w3.2.2.2.1.2.2.1, w3.2.2.2.1.2.2.2.1⟩, w3.2.2.2.1.2.2.2.2.1, w3.2.2.2.1.2.2.2.2.2.1, ⟨w3.2.2.2.1.2.2.2.2.2.2.1, c10.1, c11.1, []⟩⟩ : Acti).text.length ≤ 4294967296 ∧ (⟨w3.2.2.2.1.1, ⟨w3.2.2.2.1.2.1, w3.2.2.2.1.2.2.1, w3.2.2.2.1.2.2.2.1⟩, w3.2.2.2.1.2.2.2.2.1, w3.2.2.2.1.2.2.2.2.2.1, ⟨w3.2.2.2.1.2.2.2.2.2.2.1, c10.1, c11.1, []⟩⟩ : Acti).mac.rows.length ≤ 4294967296)) then
      letK (α := Bytes) (i_ActLine (⟨w3.2.2.2.1.1, ⟨w3.2.2.2.1.2.1, w3.2.2.2.1.2.2.1, w3.2.2.2.1.2.2.2.1⟩, w3.2.2.2.1.2.2.2.2.1, w3.2.2.2.1.2.2.2.2.2.1, ⟨w3.2.2.2.1.2.2.2.2.2.2.1, c10.1, c11.1, []⟩⟩ : Acti)) fun c16 =>
      bif (!(c16 == w3.1.1.1)) then
        k ((⟨0, ⟨0, 0, 0⟩, 0, [], ⟨false, 0, 0, []⟩⟩ : Acti), false)
      else
      k ((⟨w3.2.2.2.1.1, ⟨w3.2.2.2.1.2.1, w3.2.2.2.1.2.2.1, w3.2.2.2.1.2.2.2.1⟩, w3.2.2.2.1.2.2.2.2.1, w3.2.2.2.1.2.2.2.2.2.1, ⟨w3.2.2.2.1.2.2.2.2.2.2.1, c10.1, c11.1, []⟩⟩ : Acti), true)
      else fail
      else fail
      else fail
      else fail
      else fail
    else
    bif (w3.2.2.2.1.1 == 5) then
      bif (w3.2.2.2.1.1 == 5) then
        bif (decide (1 < (w3.2.2.1.length : Int))) then
        bif (decide ((w3.2.2.1.getD 1 []).length ≤ 4294967296)) then
        letK (α := Tupl × Bool) (i_ReadTuple (w3.2.2.1.getD 1 [])) fun c17 =>
        bif (w3.2.2.2.1.1 == 5) then
          bif (decide (2 < (w3.2.2.1.length : Int))) then
          bif (decide ((w3.2.2.1.getD 2 []).length ≤ 4294967296)) then
          letK (α := Bytes × Bool) (i_readText (w3.2.2.1.getD 2 [])) fun c18 =>
          bif (!c17.2) then
            k ((⟨0, ⟨0, 0, 0⟩, 0, [], ⟨false, 0, 0, []⟩⟩ : Acti), false)
          else
          bif (!c18.2) then
            k ((⟨0, ⟨0, 0, 0⟩, 0, [], ⟨false, 0, 0, []⟩⟩ : Acti), false)
          else
          bif (decide ((⟨w3.2.2.2.1.1, c17.1, w3.2.2.2.1.2.2.2.2.1, c18.1, ⟨w3.2.2.2.1.2.2.2.2.2.2.1, w3.2.2.2.1.2.2.2.2.2.2.2.1, w3.2.2.2.1.2.2.2.2.2.2.2.2.1, []⟩⟩ : Acti).text.length ≤ 4294967296 ∧ (⟨w3.2.2.2.1.1, c17.1, w3.2.2.2.1.2.2.2.2.1, c18.1, ⟨w3.2.2.2.1.2.2.2.2.2.2.1, w3.2.2.2.1.2.2.2.2.2.2.2.1, w3.2.2.2.1.2.2.2.2.2.2.2.2.1, []⟩⟩ : Acti).mac.rows.length ≤ 4294967296)) then
          letK (α := Bytes) (i_ActLine (⟨w3.2.2.2.1.1, c17.1, w3.2.2.2.1.2.2.2.2.1, c18.1, ⟨w3.2.2.2.1.2.2.2.2.2.2.1, w3.2.2.2.1.2.2.2.2.2.2.2.1, w3.2.2.2.1.2.2.2.2.2.2.2.2.1, []⟩⟩ : Acti)) fun c19 =>
          bif (!(c19 == w3.1.1.1)) then
            k ((⟨0, ⟨0, 0, 0⟩, 0, [], ⟨false, 0, 0, []⟩⟩ : Acti), false)
          else
          k ((⟨w3.2.2.2.1.1, c17.1, w3.2.2.2.1.2.2.2.2.1, c18.1, ⟨w3.2.2.2.1.2.2.2.2.2.2.1, w3.2.2.2.1.2.2.2.2.2.2.2.1, w3.2.2.2.1.2.2.2.2.2.2.2.2.1, []⟩⟩ : Acti), true)
          else fail
          else fail
          else fail
        else
        bif (w3.2.2.2.1.1 == 6) then
          bif (decide (2 < (w3.2.2.1.length : Int))) then
          letK (α := Int × Bool) (i_Number (w3.2.2.1.getD 2 [])) fun c20 =>
          bif (!c17.2) then
            k ((⟨0, ⟨0, 0, 0⟩, 0, [], ⟨false, 0, 0, []⟩⟩ : Acti), false)
          else
          bif (!c20.2) then
            k ((⟨0, ⟨0, 0, 0⟩, 0, [], ⟨false, 0, 0, []⟩⟩ : Acti), false)
          else
          bif (decide ((⟨w3.2.2.2.1.1, c17.1, c20.1, w3.2.2.2.1.2.2.2.2.2.1, ⟨w3.2.2.2.1.2.2.2.2.2.2.1, w3.2.2.2.1.2.2.2.2.2.2.2.1, w3.2.2.2.1.2.2.2.2.2.2.2.2.1, []⟩⟩ : Acti).text.length ≤ 4294967296 ∧ (⟨w3.2.2.2.1.1, c17.1, c20.1, w3.2.2.2.1.2.2.2.2.2.1, ⟨w3.2.2.2.1.2.2.2.2.2.2.1, w3.2.2.2.1.2.2.2.2.2.2.2.1, w3.2.2.2.1.2.2.2.2.2.2.2.2.1, []⟩⟩ : Acti).mac.rows.length ≤ 4294967296)) then
          letK (α := Bytes) (i_ActLine (⟨w3.2.2.2.1.1, c17.1, c20.1, w3.2.2.2.1.2.2.2.2.2.1, ⟨w3.2.2.2.1.2.2.2.2.2.2.1, w3.2.2.2.1.2.2.2.2.2.2.2.1, w3.2.2.2.1.2.2.2.2.2.2.2.2.1, []⟩⟩ : Acti)) fun c21 =>
          bif (!(c21 == w3.1.1.1)) then
            k ((⟨0, ⟨0, 0, 0⟩, 0, [], ⟨false, 0, 0, []⟩⟩ : Acti), false)
          else
          k ((⟨w3.2.2.2.1.1, c17.1, c20.1, w3.2.2.2.1.2.2.2.2.2.1, ⟨w3.2.2.2.1.2.2.2.2.2.2.1, w3.2.2.2.1.2.2.2.2.2.2.2.1, w3.2.2.2.1.2.2.2.2.2.2.2.2.1, []⟩⟩ : Acti), true)
          else fail
          else fail
        else
        bif (!c17.2) then
          k ((⟨0, ⟨0, 0, 0⟩, 0, [], ⟨false, 0, 0, []⟩⟩ : Acti), false)
        else
        bif (decide ((⟨w3.2.2.2.1.1, c17.1, w3.2.2.2.1.2.2.2.2.1, w3.2.2.2.1.2.2.2.2.2.1, ⟨w3.2.2.2.1.2.2.2.2.2.2.1, w3.2.2.2.1.2.2.2.2.2.2.2.1, w3.2.2.2.1.2.2.2.2.2.2.2.2.1, []⟩⟩ : Acti).text.length ≤ 4294967296 ∧ (⟨w3.2.2.2.1.1, c17.1, w3.2.2.2.1.2.2.2.2.1, w3.2.2.2.1.2.2.2.2.2.1, ⟨w3.2.2.2.1.2.2.2.2.2.2.1, w3.2.2.2.1.2.2.2.2.2.2.2.1, w3.2.2.2.1.2.2.2.2.2.2.2.2.1, []⟩⟩ : Acti).mac.rows.length ≤ 4294967296)) then
        letK (α := Bytes) (i_ActLine (⟨w3.2.2.2.1.1, c17.1, w3.2.2.2.1.2.2.2.2.1, w3.2.2.2.1.2.2.2.2.2.1, ⟨w3.2.2.2.1.2.2.2.2.2.2.1, w3.2.2.2.1.2.2.2.2.2.2.2.1, w3.2.2.2.1.2.2.2.2.2.2.2.2.1, []⟩⟩ : Acti)) fun c22 =>
        bif (!(c22 == w3.1.1.1)) then
          k ((⟨0, ⟨0, 0, 0⟩, 0, [], ⟨false, 0, 0, []⟩⟩ : Acti), false)
        else
        k ((⟨w3.2.2.2.1.1, c17.1, w3.2.2.2.1.2.2.2.2.1, w3.2.2.2.1.2.2.2.2.2.1, ⟨w3.2.2.2.1.2.2.2.2.2.2.1, w3.2.2.2.1.2.2.2.2.2.2.2.1, w3.2.2.2.1.2.2.2.2.2.2.2.2.1, []⟩⟩ : Acti), true)
        else fail
        else fail
        else fail
      else
      bif (w3.2.2.2.1.1 == 5) then
        bif (decide (2 < (w3.2.2.1.length : Int))) then
        bif (decide ((w3.2.2.1.getD 2 []).length ≤ 4294967296)) then
        letK (α := Bytes × Bool) (i_readText (w3.2.2.1.getD 2 [])) fun c23 =>
        bif (!c23.2) then
          k ((⟨0, ⟨0, 0, 0⟩, 0, [], ⟨false, 0, 0, []⟩⟩ : Acti), false)
        else
        bif (decide ((⟨w3.2.2.2.1.1, ⟨w3.2.2.2.1.2.1, w3.2.2.2.1.2.2.1, w3.2.2.2.1.2.2.2.1⟩, w3.2.2.2.1.2.2.2.2.1, c23.1, ⟨w3.2.2.2.1.2.2.2.2.2.2.1, w3.2.2.2.1.2.2.2.2.2.2.2.1, w3.2.2.2.1.2.2.2.2.2.2.2.2.1, []⟩⟩ : Acti).text.length ≤ 4294967296 ∧ (⟨w3.2.2.2.1.1, ⟨w3.2.2.2.1.2.1, w3.2.2.2.1.2.2.1, w3.2.2.2.1.2.2.2.1⟩, w3.2.2.2.1.2.2.2.2.1, c23.1, ⟨w3.2.2.2.1.2.2.2.2.2.2.1, w3.2.2.2.1.2.2.2.2.2.2.2.1, w3.2.2.2.1.2.2.2.2.2.2.2.2.1, []⟩⟩ : Acti).mac.rows.length ≤ 4294967296)) then
        letK (α := Bytes) (i_ActLine (⟨w3.2.2.2.1.1, ⟨w3.2.2.2.1.2.1, w3.2.2.2.1.2.2.1, w3.2.2.2.1.2.2.2.1⟩, w3.2.2.2.1.2.2.2.2.1, c23.1, ⟨w3.2.2.2.1.2.2.2.2.2.2.1, w3.2.2.2.1.2.2.2.2.2.2.2.1, w3.2.2.2.1.2.2.2.2.2.2.2.2.1, []⟩⟩ : Acti)) fun c24 =>
        bif (!(c24 == w3.1.1.1)) then
          k ((⟨0, ⟨0, 0, 0⟩, 0, [], ⟨false, 0, 0, []⟩⟩ : Acti), false)
        else
        k ((⟨w3.2.2.2.1.1, ⟨w3.2.2.2.1.2.1, w3.2.2.2.1.2.2.1, w3.2.2.2.1.2.2.2.1⟩, w3.2.2.2.1.2.2.2.2.1, c23.1, ⟨w3.2.2.2.1.2.2.2.2.2.2.1, w3.2.2.2.1.2.2.2.2.2.2.2.1, w3.2.2.2.1.2.2.2.2.2.2.2.2.1, []⟩⟩ : Acti), true)
        else fail
        else fail
        else fail
      else
      bif (w3.2.2.2.1.1 == 6) then
        bif (decide (2 < (w3.2.2.1.length : Int))) then
        letK (α := Int × Bool) (i_Number (w3.2.2.1.getD 2 [])) fun c25 =>
        bif (!c25.2) then
          k ((⟨0, ⟨0, 0, 0⟩, 0, [], ⟨false, 0, 0, []⟩⟩ : Acti), false)
        else
        bif (decide ((⟨w3.2.2.2.1.1, ⟨w3.2.2.2.1.2.1, w3.2.2.2.1.2.2.1, w3.2.2.2.1.2.2.2.1⟩, c25.1, w3.2.2.2.1.2.2.2.2.2.1, ⟨w3.2.2.2.1.2.2.2.2.2.2.1, w3.2.2.2.1.2.2.2.2.2.2.2.1, w3.2.2.2.1.2.2.2.2.2.2.2.2.1, []⟩⟩ : Acti).text.length ≤ 4294967296 ∧ (⟨w3.2.2.2.1.1, ⟨w3.2.2.2.1.2.1, w3.2.2.2.1.2.2.1, w3.2.2.2.1.2.2.2.1⟩, c25.1, w3.2.2.2.1.2.2.2.2.2.1, ⟨w3.2.2.2.1.2.2.2.2.2.2.1, w3.2.2.2.1.2.2.2.2.2.2.2.1, w3.2.2.2.1.2.2.2.2.2.2.2.2.1, []⟩⟩ : Acti).mac.rows.length ≤ 4294967296)) then
        letK (α := Bytes) (i_ActLine (⟨w3.2.2.2.1.1, ⟨w3.2.2.2.1.2.1, w3.2.2.2.1.2.2.1, w3.2.2.2.1.2.2.2.1⟩, c25.1, w3.2.2.2.1.2.2.2.2.2.1, ⟨w3.2.2.2.1.2.2.2.2.2.2.1, w3.2.2.2.1.2.2.2.2.2.2.2.1, w3.2.2.2.1.2.2.2.2.2.2.2.2.1, []⟩⟩ : Acti)) fun c26 =>
        bif (!(c26 == w3.1.1.1)) then
          k ((⟨0, ⟨0, 0, 0⟩, 0, [], ⟨false, 0, 0, []⟩⟩ : Acti), false)
        else
        k ((⟨w3.2.2.2.1.1, ⟨w3.2.2.2.1.2.1, w3.2.2.2.1.2.2.1, w3.2.2.2.1.2.2.2.1⟩, c25.1, w3.2.2.2.1.2.2.2.2.2.1, ⟨w3.2.2.2.1.2.2.2.2.2.2.1, w3.2.2.2.1.2.2.2.2.2.2.2.1, w3.2.2.2.1.2.2.2.2.2.2.2.2.1, []⟩⟩ : Acti), true)
        else fail
        else fail
      else
      bif (decide ((⟨w3.2.2.2.1.1, ⟨w3.2.2.2.1.2.1, w3.2.2.2.1.2.2.1, w3.2.2.2.1.2.2.2.1⟩, w3.2.2.2.1.2.2.2.2.1, w3.2.2.2.1.2.2.2.2.2.1, ⟨w3.2.2.2.1.2.2.2.2.2.2.1, w3.2.2.2.1.2.2.2.2.2.2.2.1, w3.2.2.2.1.2.2.2.2.2.2.2.2.1, []⟩⟩ : Acti).text.length ≤ 4294967296 ∧ (⟨w3.2.2.2.1.1, ⟨w3.2.2.2.1.2.1, w3.2.2.2.1.2.2.1, w3.2.2.2.1.2.2.2.1⟩, w3.2.2.2.1.2.2.2.2.1, w3.2.2.2.1.2.2.2.2.2.1, ⟨w3.2.2.2.1.2.2.2.2.2.2.1, w3.2.2.2.1.2.2.2.2.2.2.2.1, w3.2.2.2.1.2.2.2.2.2.2.2.2.1, []⟩⟩ : Acti).mac.rows.length ≤ 4294967296)) then
      letK (α := Bytes) (i_ActLine (⟨w3.2.2.2.1.1, ⟨w3.2.2.2.1.2.1, w3.2.2.2.1.2.2.1, w3.2.2.2.1.2.2.2.1⟩, w3.2.2.2.1.2.2.2.2.1, w3.2.2.2.1.2.2.2.2.2.1, ⟨w3.2.2.2.1.2.2.2.2.2.2.1, w3.2.2.2.1.2.2.2.2.2.2.2.1, w3.2.2.2.1.2.2.2.2.2.2.2.2.1, []⟩⟩ : Acti)) fun c27 =>
      bif (!(c27 == w3.1.1.1)) then
        k ((⟨0, ⟨0, 0, 0⟩, 0, [], ⟨false, 0, 0, []⟩⟩ : Acti), false)
      else
      k ((⟨w3.2.2.2.1.1, ⟨w3.2.2.2.1.2.1, w3.2.2.2.1.2.2.1, w3.2.2.2.1.2.2.2.1⟩, w3.2.2.2.1.2.2.2.2.1, w3.2.2.2.1.2.2.2.2.2.1, ⟨w3.2.2.2.1.2.2.2.2.2.2.1, w3.2.2.2.1.2.2.2.2.2.2.2.1, w3.2.2.2.1.2.2.2.2.2.2.2.2.1, []⟩⟩ : Acti), true)
      else fail
    else
    bif (w3.2.2.2.1.1 == 6) then
      bif (w3.2.2.2.1.1 == 6) then
        bif (decide (1 < (w3.2.2.1.length : Int))) then
        bif (decide ((w3.2.2.1.getD 1 []).length ≤ 4294967296)) then
        letK (α := Tupl × Bool) (i_ReadTuple (w3.2.2.1.getD 1 [])) fun c28 =>
        bif (w3.2.2.2.1.1 == 5) then
          bif (decide (2 < (w3.2.2.1.length : Int))) then
          bif (decide ((w3.2.2.1.getD 2 []).length ≤ 4294967296)) then
          letK (α := Bytes × Bool) (i_readText (w3.2.2.1.getD 2 [])) fun c29 =>
          bif (!c28.2) then
            k ((⟨0, ⟨0, 0, 0⟩, 0, [], ⟨false, 0, 0, []⟩⟩ : Acti), false)
          else
          bif (!c29.2) then
            k ((⟨0, ⟨0, 0, 0⟩, 0, [], ⟨false, 0, 0, []⟩⟩ : Acti), false)
          else
          bif (decide ((⟨w3.2.2.2.1.1, c28.1, w3.2.2.2.1.2.2.2.2.1, c29.1, ⟨w3.2.2.2.1.2.2.2.2.2.2.1, w3.2.2.2.1.2.2.2.2.2.2.2.1, w3.2.2.2.1.2.2.2.2.2.2.2.2.1, []⟩⟩ : Acti).text.length ≤ 4294967296 ∧ (⟨w3.2.2.2.1.1, c28.1, w3.2.2.2.1.2.2.2.2.1, c29.1, ⟨w3.2.2.2.1.2.2.2.2.2.2.1, w3.2.2.2.1.2.2.2.2.2.2.2.1, w3.2.2.2.1.2.2.2.2.2.2.2.2.1, []⟩⟩ : Acti).mac.rows.length ≤ 4294967296)) then
          letK (α := Bytes) (i_ActLine (⟨w3.2.2.2.1.1, c28.1, w3.2.2.2.1.2.2.2.2.1, c29.1, ⟨w3.2.2.2.1.2.2.2.2.2.2.1, w3.2.2.2.1.2.2.2.2.2.2.2.1, w3.2.2.2.1.2.2.2.2.2.2.2.2.1, []⟩⟩ : Acti)) fun c30 =>
          bif (!(c30 == w3.1.1.1)) then
            k ((⟨0, ⟨0, 0, 0⟩, 0, [], ⟨false, 0, 0, []⟩⟩ : Acti), false)
          else
          k ((⟨w3.2.2.2.1.1, c28.1, w3.2.2.2.1.2.2.2.2.1, c29.1, ⟨w3.2.2.2.1.2.2.2.2.2.2.1, w3.2.2.2.1.2.2.2.2.2.2.2.1, w3.2.2.2.1.2.2.2.2.2.2.2.2.1, []⟩⟩ : Acti), true)
          else fail
          else fail
          else fail
        else
        bif (w3.2.2.2.1.1 == 6) then
          bif (decide (2 < (w3.2.2.1.length : Int))) then
          letK (α := Int × Bool) (i_Number (w3.2.2.1.getD 2 [])) fun c31 =>
          bif (!c28.2) then
            k ((⟨0, ⟨0, 0, 0⟩, 0, [], ⟨false, 0, 0, []⟩⟩ : Acti), false)
          else
          bif (!c31.2) then
            k ((⟨0, ⟨0, 0, 0⟩, 0, [], ⟨false, 0, 0, []⟩⟩ : Acti), false)
          else
          bif (decide ((⟨w3.2.2.2.1.1, c28.1, c31.1, w3.2.2.2.1.2.2.2.2.2.1, ⟨w3.2.2.2.1.2.2.2.2.2.2.1, w3.2.2.2.1.2.2.2.2.2.2.2.1, w3.2.2.2.1.2.2.2.2.2.2.2.2.1, []⟩⟩ : Acti).text.length ≤ 4294967296 ∧ (⟨w3.2.2.2.1.1, c28.1, c31.1, w3.2.2.2.1.2.2.2.2.2.1, ⟨w3.2.2.2.1.2.2.2.2.2.2.1, w3.2.2.2.1.2.2.2.2.2.2.2.1, w3.2.2.2.1.2.2.2.2.2.2.2.2.1, []⟩⟩ : Acti).mac.rows.length ≤ 4294967296)) then
          letK (α := Bytes) (i_ActLine (⟨w3.2.2.2.1.1, c28.1, c31.1, w3.2.2.2.1.2.2.2.2.2.1, ⟨w3.2.2.2.1.2.2.2.2.2.2.1, w3.2.2.2.1.2.2.2.2.2.2.2.1, w3.2.2.2.1.2.2.2.2.2.2.2.2.1, []⟩⟩ : Acti)) fun c32 =>
          bif (!(c32 == w3.1.1.1)) then
            k ((⟨0, ⟨0, 0, 0⟩, 0, [], ⟨false, 0, 0, []⟩⟩ : Acti), false)
          else
          k ((⟨w3.2.2.2.1.1, c28.1, c31.1, w3.2.2.2.1.2.2.2.2.2.1, ⟨w3.2.2.2.1.2.2.2.2.2.2.1, w3.2.2.2.1.2.2.2.2.2.2.2.1, w3.2.2.2.1.2.2.2.2.2.2.2.2.1, []⟩⟩ : Acti), true)
          else fail
          else fail
        else
        bif (!c28.2) then
          k ((⟨0, ⟨0, 0, 0⟩, 0, [], ⟨false, 0, 0, []⟩⟩ : Acti), false)
        else
        bif (decide ((⟨w3.2.2.2.1.1, c28.1, w3.2.2.2.1.2.2.2.2.1, w3.2.2.2.1.2.2.2.2.2.1, ⟨w3.2.2.2.1.2.2.2.2.2.2.1, w3.2.2.2.1.2.2.2.2.2.2.2.1, w3.2.2.2.1.2.2.2.2.2.2.2.2.1, []⟩⟩ : Acti).text.length ≤ 4294967296 ∧ (⟨w3.2.2.2.1.1, c28.1, w3.2.2.2.1.2.2.2.2.1, w3.2.2.2.1.2.2.2.2.2.1, ⟨w3.2.2.2.1.2.2.2.2.2.2.1, w3.2.2.2.1.2.2.2.2.2.2.2.1, w3.2.2.2.1.2.2.2.2.2.2.2.2.1, []⟩⟩ : Acti).mac.rows.length ≤ 4294967296)) then
        letK (α := Bytes) (i_ActLine (⟨w3.2.2.2.1.1, c28.1, w3.2.2.2.1.2.2.2.2.1, w3.2.2.2.1.2.2.2.2.2.1, ⟨w3.2.2.2.1.2.2.2.2.2.2.1, w3.2.2.2.1.2.2.2.2.2.2.2.1, w3.2.2.2.1.2.2.2.2.2.2.2.2.1, []⟩⟩ : Acti)) fun c33 =>
        bif (!(c33 == w3.1.1.1)) then
          k ((⟨0, ⟨0, 0, 0⟩, 0, [], ⟨false, 0, 0, []⟩⟩ : Acti), false)
        else
        k ((⟨w3.2.2.2.1.1, c28.1, w3.2.2.2.1.2.2.2.2.1, w3.2.2.2.1.2.2.2.2.2.1, ⟨w3.2.2.2.1.2.2.2.2.2.2.1, w3.2.2.2.1.2.2.2.2.2.2.2.1, w3.2.2.2.1.2.2.2.2.2.2.2.2.1, []⟩⟩ : Acti), true)
        else fail
        else fail
        else fail
      else
      bif (w3.2.2.2.1.1 == 5) then
        bif (decide (2 < (w3.2.2.1.length : Int))) then
        bif (decide ((w3.2.2.1.getD 2 []).length ≤ 4294967296)) then
        letK (α := Bytes × Bool) (i_readText (w3.2.2.1.getD 2 [])) fun c34 =>
        bif (!c34.2) then
          k ((⟨0, ⟨0, 0, 0⟩, 0, [], ⟨false, 0, 0, []⟩⟩ : Acti), false)
        else
        bif (decide ((⟨w3.2.2.2.1.1, ⟨w3.2.2.2.1.2.1, w3.2.2.2.1.2.2.1, w3.2.2.2.1.2.2.2.1⟩, w3.2.2.2.1.2.2.2.2.1, c34.1, ⟨w3.2.2.2.1.2.2.2.2.2.2.1, w3.2.2.2.1.2.2.2.2.2.2.2.1, w3.2.2.2.1.2.2.2.2.2.2.2.2.1, []⟩⟩ : Acti).text.length ≤ 4294967296 ∧ (⟨w3.2.2.2.1.1, ⟨w3.2.2.2.1.2.1, w3.2.2.2.1.2.2.1, w3.2.2.2.1.2.2.2.1⟩, w3.2.2.2.1.2.2.2.2.1, c34.1, ⟨w3.2.2.2.1.2.2.2.2.2.2.1, w3.2.2.2.1.2.2.2.2.2.2.2.1, w3.2.2.2.1.2.2.2.2.2.2.2.2.1, []⟩⟩ : Acti).mac.rows.length ≤ 4294967296)) then
        letK (α := Bytes) (i_ActLine (⟨w3.2.2.2.1.1, ⟨w3.2.2.2.1.2.1, w3.2.2.2.1.2.2.1, w3.2.2.2.1.2.2.2.1⟩, w3.2.2.2.1.2.2.2.2.1, c34.1, ⟨w3.2.2.2.1.2.2.2.2.2.2.1, w3.2.2.2.1.2.2.2.2.2.2.2.1, w3.2.2.2.1.2.2.2.2.2.2.2.2.1, []⟩⟩ : Acti)) fun c35 =>
        bif (!(c35 == w3.1.1.1)) then
          k ((⟨0, ⟨0, 0, 0⟩, 0, [], ⟨false, 0, 0, []⟩⟩ : Acti), false)
        else
        k ((⟨w3.2.2.2.1.1, ⟨w3.2.2.2.1.2.1, w3.2.2.2.1.2.2.1, w3.2.2.2.1.2.2.2.1⟩, w3.2.2.2.1.2.2.2.2.1, c34.1, ⟨w3.2.2.2.1.2.2.2.2.2.2.1, w3.2.2.2.1.2.2.2.2.2.2.2.1, w3.2.2.2.1.2.2.2.2.2.2.2.2.1, []⟩⟩ : Acti), true)
        else fail
        else fail
        else fail
      else
      bif (w3.2.2.2.1.1 == 6) then
        bif (decide (2 < (w3.2.2.1.length : Int))) then
        letK (α := Int × Bool) (i_Number (w3.2.2.1.getD 2 [])) fun c36 =>
        bif (!c36.2) then
          k ((⟨0, ⟨0, 0, 0⟩, 0, [], ⟨false, 0, 0, []⟩⟩ : Acti), false)
        else
        bif (decide ((⟨w3.2.2.2.1.1, ⟨w3.2.2.2.1.2.1, w3.2.2.2.1.2.2.1, w3.2.2.2.1.2.2.2.1⟩, c36.1, w3.2.2.2.1.2.2.2.2.2.1, ⟨w3.2.2.2.1.2.2.2.2.2.2.1, w3.2.2.2.1.2.2.2.2.2.2.2.1, w3.2.2.2.1.2.2.2.2.2.2.2.2.1, []⟩⟩ : Acti).text.length ≤ 4294967296 ∧ (⟨w3.2.2.2.1.1, ⟨w3.2.2.2.1.2.1, w3.2.2.2.1.2.2.1, w3.2.2.2.1.2.2.2.1⟩, c36.1, w3.2.2.2.1.2.2.2.2.2.1, ⟨w3.2.2.2.1.2.2.2.2.2.2.1, w3.2.2.2.1.2.2.2.2.2.2.2.1, w3.2.2.2.1.2.2.2.2.2.2.2.2.1, []⟩⟩ : Acti).mac.rows.length ≤ 4294967296)) then
        letK (α := Bytes) (i_ActLine (⟨w3.2.2.2.1.1, ⟨w3.2.2.2.1.2.1, w3.2.2.2.1.2.2.1, w3.2.2.2.1.2.2.2.1⟩, c36.1, w3.2.2.2.1.2.2.2.2.2.1, ⟨w3.2.2.2.1.2.2.2.2.2.2.1, w3.2.2.2.1.2.2.2.2.2.2.2.1, w3.2.2.2.1.2.2.2.2.2.2.2.2.1, []⟩⟩ : Acti)) fun c37 =>
        bif (!(c37 == w3.1.1.1)) then
          k ((⟨0, ⟨0, 0, 0⟩, 0, [], ⟨false, 0, 0, []⟩⟩ : Acti), false)
        else
        k ((⟨w3.2.2.2.1.1, ⟨w3.2.2.2.1.2.1, w3.2.2.2.1.2.2.1, w3.2.2.2.1.2.2.2.1⟩, c36.1, w3.2.2.2.1.2.2.2.2.2.1, ⟨w3.2.2.2.1.2.2.2.2.2.2.1, w3.2.2.2.1.2.2.2.2.2.2.2.1, w3.2.2.2.1.2.2.2.2.2.2.2.2.1, []⟩⟩ : Acti), true)
        else fail
        else fail
      else
      bif (decide ((⟨w3.2.2.2.1.1, ⟨w3.2.2.2.1.2.1, w3.2.2.2.1.2.2.1, w3.2.2.2.1.2.2.2.1⟩, w3.2.2.2.1.2.2.2.2.1, w3.2.2.2.1.2.2.2.2.2.1, ⟨w3.2.2.2.1.2.2.2.2.2.2.1, w3.2.2.2.1.2.2.2.2.2.2.2.1, w3.2.2.2.1.2.2.2.2.2.2.2.2.1, []⟩⟩ : Acti).text.length ≤ 4294967296 ∧ (⟨w3.2.2.2.1.1, ⟨w3.2.2.2.1.2.1, w3.2.2.2.1.2.2.1, w3.2.2.2.1.2.2.2.1⟩, w3.2.2.2.1.2.2.2.2.1, w3.2.2.2.1.2.2.2.2.2.1, ⟨w3.2.2.2.1.2.2.2.2.2.2.1, w3.2.2.2.1.2.2.2.2.2.2.2.1, w3.2.2.2.1.2.2.2.2.2.2.2.2.1, []⟩⟩ : Acti).mac.rows.length ≤ 4294967296)) then
      letK (α := Bytes) (i_ActLine (⟨w3.2.2.2.1.1, ⟨w3.2.2.2.1.2.1, w3.2.2.2.1.2.2.1, w3.2.2.2.1.2.2.2.1⟩, w3.2.2.2.1.2.2.2.2.1, w3.2.2.2.1.2.2.2.2.2.1, ⟨w3.2.2.2.1.2.2.2.2.2.2.1, w3.2.2.2.1.2.2.2.2.2.2.2.1, w3.2.2.2.1.2.2.2.2.2.2.2.2.1, []⟩⟩ : Acti)) fun c38 =>
      bif (!(c38 == w3.1.1.1)) then
        k ((⟨0, ⟨0, 0, 0⟩, 0, [], ⟨false, 0, 0, []⟩⟩ : Acti), false)
      else
      k ((⟨w3.2.2.2.1.1, ⟨w3.2.2.2.1.2.1, w3.2.2.2.1.2.2.1, w3.2.2.2.1.2.2.2.1⟩, w3.2.2.2.1.2.2.2.2.1, w3.2.2.2.1.2.2.2.2.2.1, ⟨w3.2.2.2.1.2.2.2.2.2.2.1, w3.2.2.2.1.2.2.2.2.2.2.2.1, w3.2.2.2.1.2.2.2.2.2.2.2.2.1, []⟩⟩ : Acti), true)
      else fail
    else
    bif (w3.2.2.2.1.1 == 7) then
      bif (w3.2.2.2.1.1 == 7) then
        bif (decide (1 < (w3.2.2.1.length : Int))) then
        bif (decide ((w3.2.2.1.getD 1 []).length ≤ 4294967296)) then
        letK (α := Tupl × Bool) (i_ReadTuple (w3.2.2.1.getD 1 [])) fun c39 =>
        bif (w3.2.2.2.1.1 == 5) then
          bif (decide (2 < (w3.2.2.1.length : Int))) then
          bif (decide ((w3.2.2.1.getD 2 []).length ≤ 4294967296)) then
          letK (α := Bytes × Bool) (i_readText (w3.2.2.1.getD 2 [])) fun c40 =>
          bif (!c39.2) then
            k ((⟨0, ⟨0, 0, 0⟩, 0, [], ⟨false, 0, 0, []⟩⟩ : Acti), false)
          else
          bif (!c40.2) then
            k ((⟨0, ⟨0, 0, 0⟩, 0, [], ⟨false, 0, 0, []⟩⟩ : Acti), false)
          else
          bif (decide ((⟨w3.2.2.2.1.1, c39.1, w3.2.2.2.1.2.2.2.2.1, c40.1, ⟨w3.2.2.2.1.2.2.2.2.2.2.1, w3.2.2.2.1.2.2.2.2.2.2.2.1, w3.2.2.2.1.2.2.2.2.2.2.2.2.1, []⟩⟩ : Acti).text.length ≤ 4294967296 ∧ (⟨w3.2.2.2.1.1, c39.1, w3.2.2.2.1.2.2.2.2.1, c40.1, ⟨w3.2.2.2.1.2.2.2.2.2.2.1, w3.2.2.2.1.2.2.2.2.2.2.2.1, w3.2.2.2.1.2.2.2.2.2.2.2.2.1, []⟩⟩ : Acti).mac.rows.length ≤ 4294967296)) then
          letK (α := Bytes) (i_ActLine (⟨w3.2.2.2.1.1, c39.1, w3.2.2.2.1.2.2.2.2.1, c40.1, ⟨w3.2.2.2.1.2.2.2.2.2.2.1, w3.2.2.2.1.2.2.2.2.2.2.2.1, w3.2.2.2.1.2.2.2.2.2.2.2.2.1, []⟩⟩ : Acti)) fun c41 =>
          bif (!(c41 == w3.1.1.1)) then
            k ((⟨0, ⟨0, 0, 0⟩, 0, [], ⟨false, 0, 0, []⟩⟩ : Acti), false)
          else
          k ((⟨w3.2.2.2.1.1, c39.1, w3.2.2.2.1.2.2.2.2.1, c40.1, ⟨w3.2.2.2.1.2.2.2.2.2.2.1, w3.2.2.2.1.2.2.2.2.2.2.2.1, w3.2.2.2.1.2.2.2.2.2.2.2.2.1, []⟩⟩ : Acti), true)
          else fail
          else fail
          else fail
        else
        bif (w3.2.2.2.1.1 == 6) then
          bif (decide (2 < (w3.2.2.1.length : Int))) then
          letK (α := Int × Bool) (i_Number (w3.2.2.1.getD 2 [])) fun c42 =>
          bif (!c39.2) then
            k ((⟨0, ⟨0, 0, 0⟩, 0, [], ⟨false, 0, 0, []⟩⟩ : Acti), false)
          else
          bif (!c42.2) then
            k ((⟨0, ⟨0, 0, 0⟩, 0, [], ⟨false, 0, 0, []⟩⟩ : Acti), false)
          else
          bif (decide ((⟨w3.2.2.2.1.1, c39.1, c42.1, w3.2.2.2.1.2.2.2.2.2.1, ⟨w3.2.2.2.1.2.2.2.2.2.2.1, w3.2.2.2.1.2.2.2.2.2.2.2.1, w3.2.2.2.1.2.2.2.2.2.2.2.2.1, []⟩⟩ : Acti).text.length ≤ 4294967296 ∧ (⟨w3.2.2.2.1.1, c39.1, c42.1, w3.2.2.2.1.2.2.2.2.2.1, ⟨w3.2.2.2.1.2.2.2.2.2.2.1, w3.2.2.2.1.2.2.2.2.2.2.2.1, w3.2.2.2.1.2.2.2.2.2.2.2.2.1, []⟩⟩ : Acti).mac.rows.length ≤ 4294967296)) then
          letK (α := Bytes) (i_ActLine (⟨w3.2.2.2.1.1, c39.1, c42.1, w3.2.2.2.1.2.2.2.2.2.1, ⟨w3.2.2.2.1.2.2.2.2.2.2.1, w3.2.2.2.1.2.2.2.2.2.2.2.1, w3.2.2.2.1.2.2.2.2.2.2.2.2.1, []⟩⟩ : Acti)) fun c43 =>
          bif (!(c43 == w3.1.1.1)) then
            k ((⟨0, ⟨0, 0, 0⟩, 0, [], ⟨false, 0, 0, []⟩⟩ : Acti), false)
          else
          k ((⟨w3.2.2.2.1.1, c39.1, c42.1, w3.2.2.2.1.2.2.2.2.2.1, ⟨w3.2.2.2.1.2.2.2.2.2.2.1, w3.2.2.2.1.2.2.2.2.2.2.2.1, w3.2.2.2.1.2.2.2.2.2.2.2.2.1, []⟩⟩ : Acti), true)
          else fail
          else fail
        else
        bif (!c39.2) then
          k ((⟨0, ⟨0, 0, 0⟩, 0, [], ⟨false, 0, 0, []⟩⟩ : Acti), false)
        else
        bif (decide ((⟨w3.2.2.2.1.1, c39.1, w3.2.2.2.1.2.2.2.2.1, w3.2.2.2.1.2.2.2.2.2.1, ⟨w3.2.2.2.1.2.2.2.2.2.2.1, w3.2.2.2.1.2.2.2.2.2.2.2.1, w3.2.2.2.1.2.2.2.2.2.2.2.2.1, []⟩⟩ : Acti).text.length ≤ 4294967296 ∧ (⟨w3.2.2.2.1.1, c39.1, w3.2.2.2.1.2.2.2.2.1, w3.2.2.2.1.2.2.2.2.2.1, ⟨w3.2.2.2.1.2.2.2.2.2.2.1, w3.2.2.2.1.2.2.2.2.2.2.2.1, w3.2.2.2.1.2.2.2.2.2.2.2.2.1, []⟩⟩ : Acti).mac.rows.length ≤ 4294967296)) then
        letK (α := Bytes) (i_ActLine (⟨w3.2.2.2.1.1, c39.1, w3.2.2.2.1.2.2.2.2.1, w3.2.2.2.1.2.2.2.2.2.1, ⟨w3.2.2.2.1.2.2.2.2.2.2.1, w3.2.2.2.1.2.2.2.2.2.2.2.1, w3.2.2.2.1.2.2.2.2.2.2.2.2.1, []⟩⟩ : Acti)) fun c44 =>
        bif (!(c44 == w3.1.1.1)) then
          k ((⟨0, ⟨0, 0, 0⟩, 0, [], ⟨false, 0, 0, []⟩⟩ : Acti), false)
        else
        k ((⟨w3.2.2.2.1.1, c39.1, w3.2.2.2.1.2.2.2.2.1, w3.2.2.2.1.2.2.2.2.2.1, ⟨w3.2.2.2.1.2.2.2.2.2.2.1, w3.2.2.2.1.2.2.2.2.2.2.2.1, w3.2.2.2.1.2.2.2.2.2.2.2.2.1, []⟩⟩ : Acti), true)
        else fail
        else fail
        else fail
      else
      bif (w3.2.2.2.1.1 == 5) then
        bif (decide (2 < (w3.2.2.1.length : Int))) then
        bif (decide ((w3.2.2.1.getD 2 []).length ≤ 4294967296)) then
        letK (α := Bytes × Bool) (i_readText (w3.2.2.1.getD 2 [])) fun c45 =>
        bif (!c45.2) then
          k ((⟨0, ⟨0, 0, 0⟩, 0, [], ⟨false, 0, 0, []⟩⟩ : Acti), false)
        else
        bif (decide ((⟨w3.2.2.2.1.1, ⟨w3.2.2.2.1.2.1, w3.2.2.2.1.2.2.1, w3.2.2.2.1.2.2.2.1⟩, w3.2.2.2.1.2.2.2.2.1, c45.1, ⟨w3.2.2.2.1.2.2.2.2.2.2.1, w3.2.2.2.1.2.2.2.2.2.2.2.1, w3.2.2.2.1.2.2.2.2.2.2.2.2.1, []⟩⟩ : Acti).text.length ≤ 4294967296 ∧ (⟨w3.2.2.2.1.1, ⟨w3.2.2.2.1.2.1, w3.2.2.2.1.2.2.1, w3.2.2.2.1.2.2.2.1⟩, w3.2.2.2.1.2.2.2.2.1, c45.1, ⟨w3.2.2.2.1.2.2.2.2.2.2.1, w3.2.2.2.1.2.2.2.2.2.2.2.1, w3.2.2.2.1.2.2.2.2.2.2.2.2.1, []⟩⟩ : Acti).mac.rows.length ≤ 4294967296)) then
        letK (α := Bytes) (i_ActLine (⟨w3.2.2.2.1.1, ⟨w3.2.2.2.1.2.1, w3.2.2.2.1.2.2.1, w3.2.2.2.1.2.2.2.1⟩, w3.2.2.2.1.2.2.2.2.1, c45.1, ⟨w3.2.2.2.1.2.2.2.2.2.2.1, w3.2.2.2.1.2.2.2.2.2.2.2.1, w3.2.2.2.1.2.2.2.2.2.2.2.2.1, []⟩⟩ : Acti)) fun c46 =>
        bif (!(c46 == w3.1.1.1)) then
          k ((⟨0, ⟨0, 0, 0⟩, 0, [], ⟨false, 0, 0, []⟩⟩ : Acti), false)
        else
        k ((⟨w3.2.2.2.1.1, ⟨w3.2.2.2.1.2.1, w3.2.2.2.1.2.2.1, w3.2.2.2.1.2.2.2.1⟩, w3.2.2.2.1.2.2.2.2.1, c45.1, ⟨w3.2.2.2.1.2.2.2.2.2.2.1, w3.2.2.2.1.2.2.2.2.2.2.2.1, w3.2.2.2.1.2.2.2.2.2.2.2.2.1, []⟩⟩ : Acti), true)
        else fail
        else fail
        else fail
      else
      bif (w3.2.2.2.1.1 == 6) then
        bif (decide (2 < (w3.2.2.1.length : Int))) then
        letK (α := Int × Bool) (i_Number (w3.2.2.1.getD 2 [])) fun c47 =>
        bif (!c47.2) then
          k ((⟨0, ⟨0, 0, 0⟩, 0, [], ⟨false, 0, 0, []⟩⟩ : Acti), false)
        else
        bif (decide ((⟨w3.2.2.2.1.1, ⟨w3.2.2.2.1.2.1, w3.2.2.2.1.2.2.1, w3.2.2.2.1.2.2.2.1⟩, c47.1, w3.2.2.2.1.2.2.2.2.2.1, ⟨w3.2.2.2.1.2.2.2.2.2.2.1, w3.2.2.2.1.2.2.2.2.2.2.2.1, w3.2.2.2.1.2.2.2.2.2.2.2.2.1, []⟩⟩ : Acti).text.length ≤ 4294967296 ∧ (⟨w3.2.2.2.1.1, ⟨w3.2.2.2.1.2.1, w3.2.2.2.1.2.2.1, w3.2.2.2.1.2.2.2.1⟩, c47.1, w3.2.2.2.1.2.2.2.2.2.1, ⟨w3.2.2.2.1.2.2.2.2.2.2.1, w3.2.2.2.1.2.2.2.2.2.2.2.1, w3.2.2.2.1.2.2.2.2.2.2.2.2.1, []⟩⟩ : Acti).mac.rows.length ≤ 4294967296)) then
        letK (α := Bytes) (i_ActLine (⟨w3.2.2.2.1.1, ⟨w3.2.2.2.1.2.1, w3.2.2.2.1.2.2.1, w3.2.2.2.1.2.2.2.1⟩, c47.1, w3.2.2.2.1.2.2.2.2.2.1, ⟨w3.2.2.2.1.2.2.2.2.2.2.1, w3.2.2.2.1.2.2.2.2.2.2.2.1, w3.2.2.2.1.2.2.2.2.2.2.2.2.1, []⟩⟩ : Acti)) fun c48 =>
        bif (!(c48 == w3.1.1.1)) then
          k ((⟨0, ⟨0, 0, 0⟩, 0, [], ⟨false, 0, 0, []⟩⟩ : Acti), false)
        else
        k ((⟨w3.2.2.2.1.1, ⟨w3.2.2.2.1.2.1, w3.2.2.2.1.2.2.1, w3.2.2.2.1.2.2.2.1⟩, c47.1, w3.2.2.2.1.2.2.2.2.2.1, ⟨w3.2.2.2.1.2.2.2.2.2.2.1, w3.2.2.2.1.2.2.2.2.2.2.2.1, w3.2.2.2.1.2.2.2.2.2.2.2.2.1, []⟩⟩ : Acti), true)
        else fail
        else fail
      else
      bif (decide ((⟨w3.2.2.2.1.1, ⟨w3.2.2.2.1.2.1, w3.2.2.2.1.2.2.1, w3.2.2.2.1.2.2.2.1⟩, w3.2.2.2.1.2.2.2.2.1, w3.2.2.2.1.2.2.2.2.2.1, ⟨w3.2.2.2.1.2.2.2.2.2.2.1, w3.2.2.2.1.2.2.2.2.2.2.2.1, w3.2.2.2.1.2.2.2.2.2.2.2.2.1, []⟩⟩ : Acti).text.length ≤ 4294967296 ∧ (⟨w3.2.2.2.1.1, ⟨w3.2.2.2.1.2.1, w3.2.2.2.1.2.2.1, w3.2.2.2.1.2.2.2.1⟩, w3.2.2.2.1.2.2.2.2.1, w3.2.2.2.1.2.2.2.2.2.1, ⟨w3.2.2.2.1.2.2.2.2.2.2.1, w3.2.2.2.1.2.2.2.2.2.2.2.1, w3.2.2.2.1.2.2.2.2.2.2.2.2.1, []⟩⟩ : Acti).mac.rows.length ≤ 4294967296)) then
      letK (α := Bytes) (i_ActLine (⟨w3.2.2.2.1.1, ⟨w3.2.2.2.1.2.1, w3.2.2.2.1.2.2.1, w3.2.2.2.1.2.2.2.1⟩, w3.2.2.2.1.2.2.2.2.1, w3.2.2.2.1.2.2.2.2.2.1, ⟨w3.2.2.2.1.2.2.2.2.2.2.1, w3.2.2.2.1.2.2.2.2.2.2.2.1, w3.2.2.2.1.2.2.2.2.2.2.2.2.1, []⟩⟩ : Acti)) fun c49 =>
      bif (!(c49 == w3.1.1.1)) then
        k ((⟨0, ⟨0, 0, 0⟩, 0, [], ⟨false, 0, 0, []⟩⟩ : Acti), false)
      else
      k ((⟨w3.2.2.2.1.1, ⟨w3.2.2.2.1.2.1, w3.2.2.2.1.2.2.1, w3.2.2.2.1.2.2.2.1⟩, w3.2.2.2.1.2.2.2.2.1, w3.2.2.2.1.2.2.2.2.2.1, ⟨w3.2.2.2.1.2.2.2.2.2.2.1, w3.2.2.2.1.2.2.2.2.2.2.2.1, w3.2.2.2.1.2.2.2.2.2.2.2.2.1, []⟩⟩ : Acti), true)
      else fail
    else
    bif (w3.2.2.2.1.1 == 8) then
      bif (decide (1 < (w3.2.2.1.length : Int))) then
      bif (decide ((w3.2.2.1.getD 1 []).length ≤ 4294967296)) then
      letK (α := Tupl × Bool) (i_ReadTuple (w3.2.2.1.getD 1 [])) fun c50 =>
      bif (w3.2.2.2.1.1 == 5) then
        bif (decide (2 < (w3.2.2.1.length : Int))) then
        bif (decide ((w3.2.2.1.getD 2 []).length ≤ 4294967296)) then
        letK (α := Bytes × Bool) (i_readText (w3.2.2.1.getD 2 [])) fun c51 =>
        bif (!c50.2) then
          k ((⟨0, ⟨0, 0, 0⟩, 0, [], ⟨false, 0, 0, []⟩⟩ : Acti), false)
        else
        bif (!c51.2) then
          k ((⟨0, ⟨0, 0, 0⟩, 0, [], ⟨false, 0, 0, []⟩⟩ : Acti), false)
        else
        bif (decide ((⟨w3.2.2.2.1.1, c50.1, w3.2.2.2.1.2.2.2.2.1, c51.1, ⟨w3.2.2.2.1.2.2.2.2.2.2.1, w3.2.2.2.1.2.2.2.2.2.2.2.1, w3.2.2.2.1.2.2.2.2.2.2.2.2.1, []⟩⟩ : Acti).text.length ≤ 4294967296 ∧ (⟨w3.2.2.2.1.1, c50.1, w3.2.2.2.1.2.2.2.2.1, c51.1, ⟨w3.2.2.2.1.2.2.2.2.2.2.1, w3.2.2.2.1.2.2.2.2.2.2.2.1, w3.2.2.2.1.2.2.2.2.2.2.2.2.1, []⟩⟩ : Acti).mac.rows.length ≤ 4294967296)) then
        letK (α := Bytes) (i_ActLine (⟨w3.2.2.2.1.1, c50.1, w3.2.2.2.1.2.2.2.2.1, c51.1, ⟨w3.2.2.2.1.2.2.2.2.2.2.1, w3.2.2.2.1.2.2.2.2.2.2.2.1, w3.2.2.2.1.2.2.2.2.2.2.2.2.1, []⟩⟩ : Acti)) fun c52 =>
        bif (!(c52 == w3.1.1.1)) then
          k ((⟨0, ⟨0, 0, 0⟩, 0, [], ⟨false, 0, 0, []⟩⟩ : Acti), false)
        else
        k ((⟨w3.2.2.2.1.1, c50.1, w3.2.2.2.1.2.2.2.2.1, c51.1, ⟨w3.2.2.2.1.2.2.2.2.2.2.1, w3.2.2.2.1.2.2.2.2.2.2.2.1, w3.2.2.2.1.2.2.2.2.2.2.2.2.1, []⟩⟩ : Acti), true)
        else fail
        else fail
        else fail
      else
      bif (w3.2.2.2.1.1 == 6) then
        bif (decide (2 < (w3.2.2.1.length : Int))) then
        letK (α := Int × Bool) (i_Number (w3.2.2.1.getD 2 [])) fun c53 =>
        bif (!c50.2) then
          k ((⟨0, ⟨0, 0, 0⟩, 0, [], ⟨false, 0, 0, []⟩⟩ : Acti), false)
        else
        bif (!c53.2) then
          k ((⟨0, ⟨0, 0, 0⟩, 0, [], ⟨false, 0, 0, []⟩⟩ : Acti), false)
        else
        bif (decide ((⟨w3.2.2.2.1.1, c50.1, c53.1, w3.2.2.2.1.2.2.2.2.2.1, ⟨w3.2.2.2.1.2.2.2.2.2.2.1, w3.2.2.2.1.2.2.2.2.2.2.2.1, w3.2.2.2.1.2.2.2.2.2.2.2.2.1, []⟩⟩ : Acti).text.length ≤ 4294967296 ∧ (⟨w3.2.2.2.1.1, c50.1, c53.1, w3.2.2.2.1.2.2.2.2.2.1, ⟨w3.2.2.2.1.2.2.2.2.2.2.1, w3.2.2.2.1.2.2.2.2.2.2.2.1, w3.2.2.2.1.2.2.2.2.2.2.2.2.1, []⟩⟩ : Acti).mac.rows.length ≤ 4294967296)) then
        letK (α := Bytes) (i_ActLine (⟨w3.2.2.2.1.1, c50.1, c53.1, w3.2.2.2.1.2.2.2.2.2.1, ⟨w3.2.2.2.1.2.2.2.2.2.2.1, w3.2.2.2.1.2.2.2.2.2.2.2.1, w3.2.2.2.1.2.2.2.2.2.2.2.2.1, []⟩⟩ : Acti)) fun c54 =>
        bif (!(c54 == w3.1.1.1)) then
          k ((⟨0, ⟨0, 0, 0⟩, 0, [], ⟨false, 0, 0, []⟩⟩ : Acti), false)
        else
        k ((⟨w3.2.2.2.1.1, c50.1, c53.1, w3.2.2.2.1.2.2.2.2.2.1, ⟨w3.2.2.2.1.2.2.2.2.2.2.1, w3.2.2.2.1.2.2.2.2.2.2.2.1, w3.2.2.2.1.2.2.2.2.2.2.2.2.1, []⟩⟩ : Acti), true)
        else fail
        else fail
      else
      bif (!c50.2) then
        k ((⟨0, ⟨0, 0, 0⟩, 0, [], ⟨false, 0, 0, []⟩⟩ : Acti), false)
      else
      bif (decide ((⟨w3.2.2.2.1.1, c50.1, w3.2.2.2.1.2.2.2.2.1, w3.2.2.2.1.2.2.2.2.2.1, ⟨w3.2.2.2.1.2.2.2.2.2.2.1, w3.2.2.2.1.2.2.2.2.2.2.2.1, w3.2.2.2.1.2.2.2.2.2.2.2.2.1, []⟩⟩ : Acti).text.length ≤ 4294967296 ∧ (⟨w3.2.2.2.1.1, c50.1, w3.2.2.2.1.2.2.2.2.1, w3.2.2.2.1.2.2.2.2.2.1, ⟨w3.2.2.2.1.2.2.2.2.2.2.1, w3.2.2.2.1.2.2.2.2.2.2.2.1, w3.2.2.2.1.2.2.2.2.2.2.2.2.1, []⟩⟩ : Acti).mac.rows.length ≤ 4294967296)) then
      letK (α := Bytes) (i_ActLine (⟨w3.2.2.2.1.1, c50.1, w3.2.2.2.1.2.2.2.2.1, w3.2.2.2.1.2.2.2.2.2.1, ⟨w3.2.2.2.1.2.2.2.2.2.2.1, w3.2.2.2.1.2.2.2.2.2.2.2.1, w3.2.2.2.1.2.2.2.2.2.2.2.2.1, []⟩⟩ : Acti)) fun c55 =>
      bif (!(c55 == w3.1.1.1)) then
        k ((⟨0, ⟨0, 0, 0⟩, 0, [], ⟨false, 0, 0, []⟩⟩ : Acti), false)
      else
      k ((⟨w3.2.2.2.1.1, c50.1, w3.2.2.2.1.2.2.2.2.1, w3.2.2.2.1.2.2.2.2.2.1, ⟨w3.2.2.2.1.2.2.2.2.2.2.1, w3.2.2.2.1.2.2.2.2.2.2.2.1, w3.2.2.2.1.2.2.2.2.2.2.2.2.1, []⟩⟩ : Acti), true)
      else fail
      else fail
      else fail
    else
    bif (w3.2.2.2.1.1 == 5) then
      bif (decide (2 < (w3.2.2.1.length : Int))) then
      bif (decide ((w3.2.2.1.getD 2 []).length ≤ 4294967296)) then
      letK (α := Bytes × Bool) (i_readText (w3.2.2.1.getD 2 [])) fun c56 =>
      bif (!c56.2) then
        k ((⟨0, ⟨0, 0, 0⟩, 0, [], ⟨false, 0, 0, []⟩⟩ : Acti), false)
      else
      bif (decide ((⟨w3.2.2.2.1.1, ⟨w3.2.2.2.1.2.1, w3.2.2.2.1.2.2.1, w3.2.2.2.1.2.2.2.1⟩, w3.2.2.2.1.2.2.2.2.1, c56.1, ⟨w3.2.2.2.1.2.2.2.2.2.2.1, w3.2.2.2.1.2.2.2.2.2.2.2.1, w3.2.2.2.1.2.2.2.2.2.2.2.2.1, []⟩⟩ : Acti).text.length ≤ 4294967296 ∧ (⟨w3.2.2.2.1.1, ⟨w3.2.2.2.1.2.1, w3.2.2.2.1.2.2.1, w3.2.2.2.1.2.2.2.1⟩, w3.2.2.2.1.2.2.2.2.1, c56.1, ⟨w3.2.2.2.1.2.2.2.2.2.2.1, w3.2.2.2.1.2.2.2.2.2.2.2.1, w3.2.2.2.1.2.2.2.2.2.2.2.2.1, []⟩⟩ : Acti).mac.rows.length ≤ 4294967296)) then
      letK (α := Bytes) (i_ActLine (⟨w3.2.2.2.1.1, ⟨w3.2.2.2.1.2.1, w3.2.2.2.1.2.2.1, w3.2.2.2.1.2.2.2.1⟩, w3.2.2.2.1.2.2.2.2.1, c56.1, ⟨w3.2.2.2.1.2.2.2.2.2.2.1, w3.2.2.2.1.2.2.2.2.2.2.2.1, w3.2.2.2.1.2.2.2.2.2.2.2.2.1, []⟩⟩ : Acti)) fun c57 =>
      bif (!(c57 == w3.1.1.1)) then
        k ((⟨0, ⟨0, 0, 0⟩, 0, [], ⟨false, 0, 0, []⟩⟩ : Acti), false)
      else
      k ((⟨w3.2.2.2.1.1, ⟨w3.2.2.2.1.2.1, w3.2.2.2.1.2.2.1, w3.2.2.2.1.2.2.2.1⟩, w3.2.2.2.1.2.2.2.2.1, c56.1, ⟨w3.2.2.2.1.2.2.2.2.2.2.1, w3.2.2.2.1.2.2.2.2.2.2.2.1, w3.2.2.2.1.2.2.2.2.2.2.2.2.1, []⟩⟩ : Acti), true)
      else fail
      else fail
      else fail
    else
    bif (w3.2.2.2.1.1 == 6) then
      bif (decide (2 < (w3.2.2.1.length : Int))) then
      letK (α := Int × Bool) (i_Number (w3.2.2.1.getD 2 [])) fun c58 =>
      bif (!c58.2) then
        k ((⟨0, ⟨0, 0, 0⟩, 0, [], ⟨false, 0, 0, []⟩⟩ : Acti), false)
      else
      bif (decide ((⟨w3.2.2.2.1.1, ⟨w3.2.2.2.1.2.1, w3.2.2.2.1.2.2.1, w3.2.2.2.1.2.2.2.1⟩, c58.1, w3.2.2.2.1.2.2.2.2.2.1, ⟨w3.2.2.2.1.2.2.2.2.2.2.1, w3.2.2.2.1.2.2.2.2.2.2.2.1, w3.2.2.2.1.2.2.2.2.2.2.2.2.1, []⟩⟩ : Acti).text.length ≤ 4294967296 ∧ (⟨w3.2.2.2.1.1, ⟨w3.2.2.2.1.2.1, w3.2.2.2.1.2.2.1, w3.2.2.2.1.2.2.2.1⟩, c58.1, w3.2.2.2.1.2.2.2.2.2.1, ⟨w3.2.2.2.1.2.2.2.2.2.2.1, w3.2.2.2.1.2.2.2.2.2.2.2.1, w3.2.2.2.1.2.2.2.2.2.2.2.2.1, []⟩⟩ : Acti).mac.rows.length ≤ 4294967296)) then
      letK (α := Bytes) (i_ActLine (⟨w3.2.2.2.1.1, ⟨w3.2.2.2.1.2.1, w3.2.2.2.1.2.2.1, w3.2.2.2.1.2.2.2.1⟩, c58.1, w3.2.2.2.1.2.2.2.2.2.1, ⟨w3.2.2.2.1.2.2.2.2.2.2.1, w3.2.2.2.1.2.2.2.2.2.2.2.1, w3.2.2.2.1.2.2.2.2.2.2.2.2.1, []⟩⟩ : Acti)) fun c59 =>
      bif (!(c59 == w3.1.1.1)) then
        k ((⟨0, ⟨0, 0, 0⟩, 0, [], ⟨false, 0, 0, []⟩⟩ : Acti), false)
      else
      k ((⟨w3.2.2.2.1.1, ⟨w3.2.2.2.1.2.1, w3.2.2.2.1.2.2.1, w3.2.2.2.1.2.2.2.1⟩, c58.1, w3.2.2.2.1.2.2.2.2.2.1, ⟨w3.2.2.2.1.2.2.2.2.2.2.1, w3.2.2.2.1.2.2.2.2.2.2.2.1, w3.2.2.2.1.2.2.2.2.2.2.2.2.1, []⟩⟩ : Acti), true)
      else fail
      else fail
    else
    bif (decide ((⟨w3.2.2.2.1.1, ⟨w3.2.2.2.1.2.1, w3.2.2.2.1.2.2.1, w3.2.2.2.1.2.2.2.1⟩, w3.2.2.2.1.2.2.2.2.1, w3.2.2.2.1.2.2.2.2.2.1, ⟨w3.2.2.2.1.2.2.2.2.2.2.1, w3.2.2.2.1.2.2.2.2.2.2.2.1, w3.2.2.2.1.2.2.2.2.2.2.2.2.1, []⟩⟩ : Acti).text.length ≤ 4294967296 ∧ (⟨w3.2.2.2.1.1, ⟨w3.2.2.2.1.2.1, w3.2.2.2.1.2.2.1, w3.2.2.2.1.2.2.2.1⟩, w3.2.2.2.1.2.2.2.2.1, w3.2.2.2.1.2.2.2.2.2.1, ⟨w3.2.2.2.1.2.2.2.2.2.2.1, w3.2.2.2.1.2.2.2.2.2.2.2.1, w3.2.2.2.1.2.2.2.2.2.2.2.2.1, []⟩⟩ : Acti).mac.rows.length ≤ 4294967296)) then
    letK (α := Bytes) (i_ActLine (⟨w3.2.2.2.1.1, ⟨w3.2.2.2.1.2.1, w3.2.2.2.1.2.2.1, w3.2.2.2.1.2.2.2.1⟩, w3.2.2.2.1.2.2.2.2.1, w3.2.2.2.1.2.2.2.2.2.1, ⟨w3.2.2.2.1.2.2.2.2.2.2.1, w3.2.2.2.1.2.2.2.2.2.2.2.1, w3.2.2.2.1.2.2.2.2.2.2.2.2.1, []⟩⟩ : Acti)) fun c60 =>
    bif (!(c60 == w3.1.1.1)) then
      k ((⟨0, ⟨0, 0, 0⟩, 0, [], ⟨false, 0, 0, []⟩⟩ : Acti), false)
    else
    k ((⟨w3.2.2.2.1.1, ⟨w3.2.2.2.1.2.1, w3.2.2.2.1.2.2.1, w3.2.2.2.1.2.2.2.1⟩, w3.2.2.2.1.2.2.2.2.1, w3.2.2.2.1.2.2.2.2.2.1, ⟨w3.2.2.2.1.2.2.2.2.2.2.1, w3.2.2.2.1.2.2.2.2.2.2.2.1, w3.2.2.2.1.2.2.2.2.2.2.2.2.1, []⟩⟩ : Acti), true)
    else fail
    else fail
  else fail
def i_ReadAct (x0 : Bytes) : Acti × Bool :=
  letK (α := List Bytes) (i_Parts x0 32) fun c1 =>
  Stp.elim (fun a61 =>
    bif (a61 == 0) then
      ((⟨0, ⟨0, 0, 0⟩, 0, [], ⟨false, 0, 0, []⟩⟩ : Acti), false)
    else
    bif ((c1.length : Int) != ([0, 2, 1, 3, 1, 3, 3, 2, 2].getD a61.toNat 0)) then
      ((⟨0, ⟨0, 0, 0⟩, 0, [], ⟨false, 0, 0, []⟩⟩ : Acti), false)
    else
    bif (a61 == 1) then
      letK (α := Bytes × Bool) (i_readText (c1.getD 1 [])) fun c62 =>
      bif (a61 == 5) then
        letK (α := Bytes × Bool) (i_readText (c1.getD 2 [])) fun c63 =>
        bif (!c62.2) then
          ((⟨0, ⟨0, 0, 0⟩, 0, [], ⟨false, 0, 0, []⟩⟩ : Acti), false)
        else
        bif (!c63.2) then
          ((⟨0, ⟨0, 0, 0⟩, 0, [], ⟨false, 0, 0, []⟩⟩ : Acti), false)
        else
        letK (α := Bytes) (i_ActLine (⟨a61, ⟨0, 0, 0⟩, 0, c63.1, ⟨false, 0, 0, []⟩⟩ : Acti)) fun c64 =>
        bif (!(c64 == x0)) then
          ((⟨0, ⟨0, 0, 0⟩, 0, [], ⟨false, 0, 0, []⟩⟩ : Acti), false)
        else
        ((⟨a61, ⟨0, 0, 0⟩, 0, c63.1, ⟨false, 0, 0, []⟩⟩ : Acti), true)
      else
      bif (a61 == 6) then
        letK (α := Int × Bool) (i_Number (c1.getD 2 [])) fun c65 =>
        bif (!c62.2) then
          ((⟨0, ⟨0, 0, 0⟩, 0, [], ⟨false, 0, 0, []⟩⟩ : Acti), false)
        else
        bif (!c65.2) then
          ((⟨0, ⟨0, 0, 0⟩, 0, [], ⟨false, 0, 0, []⟩⟩ : Acti), false)
        else
        letK (α := Bytes) (i_ActLine (⟨a61, ⟨0, 0, 0⟩, c65.1, c62.1, ⟨false, 0, 0, []⟩⟩ : Acti)) fun c66 =>
        bif (!(c66 == x0)) then
          ((⟨0, ⟨0, 0, 0⟩, 0, [], ⟨false, 0, 0, []⟩⟩ : Acti), false)
        else
        ((⟨a61, ⟨0, 0, 0⟩, c65.1, c62.1, ⟨false, 0, 0, []⟩⟩ : Acti), true)
      else
      bif (!c62.2) then
        ((⟨0, ⟨0, 0, 0⟩, 0, [], ⟨false, 0, 0, []⟩⟩ : Acti), false)
      else
      letK (α := Bytes) (i_ActLine (⟨a61, ⟨0, 0, 0⟩, 0, c62.1, ⟨false, 0, 0, []⟩⟩ : Acti)) fun c67 =>
      bif (!(c67 == x0)) then
        ((⟨0, ⟨0, 0, 0⟩, 0, [], ⟨false, 0, 0, []⟩⟩ : Acti), false)
      else
      ((⟨a61, ⟨0, 0, 0⟩, 0, c62.1, ⟨false, 0, 0, []⟩⟩ : Acti), true)
    else
    bif (a61 == 3) then
      letK (α := Int × Bool) (i_readKey (c1.getD 1 [])) fun c68 =>
      letK (α := Int × Bool) (i_readKey (c1.getD 2 [])) fun c69 =>
      bif (a61 == 5) then
        letK (α := Bytes × Bool) (i_readText (c1.getD 2 [])) fun c70 =>
        bif (!c68.2) then
          ((⟨0, ⟨0, 0, 0⟩, 0, [], ⟨false, 0, 0, []⟩⟩ : Acti), false)
        else
        bif (!c69.2) then
          ((⟨0, ⟨0, 0, 0⟩, 0, [], ⟨false, 0, 0, []⟩⟩ : Acti), false)
        else
        bif (!c70.2) then
          ((⟨0, ⟨0, 0, 0⟩, 0, [], ⟨false, 0, 0, []⟩⟩ : Acti), false)
        else
        letK (α := Bytes) (i_ActLine (⟨a61, ⟨0, 0, 0⟩, 0, c70.1, ⟨false, c68.1, c69.1, []⟩⟩ : Acti)) fun c71 =>
        bif (!(c71 == x0)) then
          ((⟨0, ⟨0, 0, 0⟩, 0, [], ⟨false, 0, 0, []⟩⟩ : Acti), false)
        else
        ((⟨a61, ⟨0, 0, 0⟩, 0, c70.1, ⟨false, c68.1, c69.1, []⟩⟩ : Acti), true)
      else
      bif (a61 == 6) then
        letK (α := Int × Bool) (i_Number (c1.getD 2 [])) fun c72 =>
        bif (!c68.2) then
          ((⟨0, ⟨0, 0, 0⟩, 0, [], ⟨false, 0, 0, []⟩⟩ : Acti), false)
        else
        bif (!c69.2) then
          ((⟨0, ⟨0, 0, 0⟩, 0, [], ⟨false, 0, 0, []⟩⟩ : Acti), false)
        else
        bif (!c72.2) then
          ((⟨0, ⟨0, 0, 0⟩, 0, [], ⟨false, 0, 0, []⟩⟩ : Acti), false)
        else
        letK (α := Bytes) (i_ActLine (⟨a61, ⟨0, 0, 0⟩, c72.1, [], ⟨false, c68.1, c69.1, []⟩⟩ : Acti)) fun c73 =>
        bif (!(c73 == x0)) then
          ((⟨0, ⟨0, 0, 0⟩, 0, [], ⟨false, 0, 0, []⟩⟩ : Acti), false)
        else
        ((⟨a61, ⟨0, 0, 0⟩, c72.1, [], ⟨false, c68.1, c69.1, []⟩⟩ : Acti), true)
      else
      bif (!c68.2) then
        ((⟨0, ⟨0, 0, 0⟩, 0, [], ⟨false, 0, 0, []⟩⟩ : Acti), false)
      else
      bif (!c69.2) then
        ((⟨0, ⟨0, 0, 0⟩, 0, [], ⟨false, 0, 0, []⟩⟩ : Acti), false)
      else
      letK (α := Bytes) (i_ActLine (⟨a61, ⟨0, 0, 0⟩, 0, [], ⟨false, c68.1, c69.1, []⟩⟩ : Acti)) fun c74 =>
      bif (!(c74 == x0)) then
        ((⟨0, ⟨0, 0, 0⟩, 0, [], ⟨false, 0, 0, []⟩⟩ : Acti), false)
      else
      ((⟨a61, ⟨0, 0, 0⟩, 0, [], ⟨false, c68.1, c69.1, []⟩⟩ : Acti), true)
    else
    bif (a61 == 5) then
      bif (a61 == 5) then
        letK (α := Tupl × Bool) (i_ReadTuple (c1.getD 1 [])) fun c75 =>
        bif (a61 == 5) then
          letK (α := Bytes × Bool) (i_readText (c1.getD 2 [])) fun c76 =>
          bif (!c75.2) then
            ((⟨0, ⟨0, 0, 0⟩, 0, [], ⟨false, 0, 0, []⟩⟩ : Acti), false)
          else
          bif (!c76.2) then
            ((⟨0, ⟨0, 0, 0⟩, 0, [], ⟨false, 0, 0, []⟩⟩ : Acti), false)
          else
          letK (α := Bytes) (i_ActLine (⟨a61, c75.1, 0, c76.1, ⟨false, 0, 0, []⟩⟩ : Acti)) fun c77 =>
          bif (!(c77 == x0)) then
            ((⟨0, ⟨0, 0, 0⟩, 0, [], ⟨false, 0, 0, []⟩⟩ : Acti), false)
          else
          ((⟨a61, c75.1, 0, c76.1, ⟨false, 0, 0, []⟩⟩ : Acti), true)
        else
        bif (a61 == 6) then
          letK (α := Int × Bool) (i_Number (c1.getD 2 [])) fun c78 =>
          bif (!c75.2) then
            ((⟨0, ⟨0, 0, 0⟩, 0, [], ⟨false, 0, 0, []⟩⟩ : Acti), false)
          else
          bif (!c78.2) then
            ((⟨0, ⟨0, 0, 0⟩, 0, [], ⟨false, 0, 0, []⟩⟩ : Acti), false)
          else
          letK (α := Bytes) (i_ActLine (⟨a61, c75.1, c78.1, [], ⟨false, 0, 0, []⟩⟩ : Acti)) fun c79 =>
          bif (!(c79 == x0)) then
            ((⟨0, ⟨0, 0, 0⟩, 0, [], ⟨false, 0, 0, []⟩⟩ : Acti), false)
          else
          ((⟨a61, c75.1, c78.1, [], ⟨false, 0, 0, []⟩⟩ : Acti), true)
        else
        bif (!c75.2) then
          ((⟨0, ⟨0, 0, 0⟩, 0, [], ⟨false, 0, 0, []⟩⟩ : Acti), false)
        else
        letK (α := Bytes) (i_ActLine (⟨a61, c75.1, 0, [], ⟨false, 0, 0, []⟩⟩ : Acti)) fun c80 =>
        bif (!(c80 == x0)) then
          ((⟨0, ⟨0, 0, 0⟩, 0, [], ⟨false, 0, 0, []⟩⟩ : Acti), false)
        else
        ((⟨a61, c75.1, 0, [], ⟨false, 0, 0, []⟩⟩ : Acti), true)
      else
      bif (a61 == 5) then
        letK (α := Bytes × Bool) (i_readText (c1.getD 2 [])) fun c81 =>
        bif (!c81.2) then
          ((⟨0, ⟨0, 0, 0⟩, 0, [], ⟨false, 0, 0, []⟩⟩ : Acti), false)
        else
        letK (α := Bytes) (i_ActLine (⟨a61, ⟨0, 0, 0⟩, 0, c81.1, ⟨false, 0, 0, []⟩⟩ : Acti)) fun c82 =>
        bif (!(c82 == x0)) then
          ((⟨0, ⟨0, 0, 0⟩, 0, [], ⟨false, 0, 0, []⟩⟩ : Acti), false)
        else
        ((⟨a61, ⟨0, 0, 0⟩, 0, c81.1, ⟨false, 0, 0, []⟩⟩ : Acti), true)
      else
      bif (a61 == 6) then
        letK (α := Int × Bool) (i_Number (c1.getD 2 [])) fun c83 =>
        bif (!c83.2) then
          ((⟨0, ⟨0, 0, 0⟩, 0, [], ⟨false, 0, 0, []⟩⟩ : Acti), false)
        else
        letK (α := Bytes) (i_ActLine (⟨a61, ⟨0, 0, 0⟩, c83.1, [], ⟨false, 0, 0, []⟩⟩ : Acti)) fun c84 =>
        bif (!(c84 == x0)) then
          ((⟨0, ⟨0, 0, 0⟩, 0, [], ⟨false, 0, 0, []⟩⟩ : Acti), false)
        else
        ((⟨a61, ⟨0, 0, 0⟩, c83.1, [], ⟨false, 0, 0, []⟩⟩ : Acti), true)
      else
      letK (α := Bytes) (i_ActLine (⟨a61, ⟨0, 0, 0⟩, 0, [], ⟨false, 0, 0, []⟩⟩ : Acti)) fun c85 =>
      bif (!(c85 == x0)) then
        ((⟨0, ⟨0, 0, 0⟩, 0, [], ⟨false, 0, 0, []⟩⟩ : Acti), false)
      else
      ((⟨a61, ⟨0, 0, 0⟩, 0, [], ⟨false, 0, 0, []⟩⟩ : Acti), true)
    else
    bif (a61 == 6) then
      bif (a61 == 6) then
        letK (α := Tupl × Bool) (i_ReadTuple (c1.getD 1 [])) fun c86 =>
        bif (a61 == 5) then
          letK (α := Bytes × Bool) (i_readText (c1.getD 2 [])) fun c87 =>
          bif (!c86.2) then
            ((⟨0, ⟨0, 0, 0⟩, 0, [], ⟨false, 0, 0, []⟩⟩ : Acti), false)
          else
          bif (!c87.2) then
            ((⟨0, ⟨0, 0, 0⟩, 0, [], ⟨false, 0, 0, []⟩⟩ : Acti), false)
          else
          letK (α := Bytes) (i_ActLine (⟨a61, c86.1, 0, c87.1, ⟨false, 0, 0, []⟩⟩ : Acti)) fun c88 =>
          bif (!(c88 == x0)) then
            ((⟨0, ⟨0, 0, 0⟩, 0, [], ⟨false, 0, 0, []⟩⟩ : Acti), false)
          else
          ((⟨a61, c86.1, 0, c87.1, ⟨false, 0, 0, []⟩⟩ : Acti), true)
        else
        bif (a61 == 6) then
          letK (α := Int × Bool) (i_Number (c1.getD 2 [])) fun c89 =>
          bif (!c86.2) then
            ((⟨0, ⟨0, 0, 0⟩, 0, [], ⟨false, 0, 0, []⟩⟩ : Acti), false)
          else
          bif (!c89.2) then
            ((⟨0, ⟨0, 0, 0⟩, 0, [], ⟨false, 0, 0, []⟩⟩ : Acti), false)
          else
          letK (α := Bytes) (i_ActLine (⟨a61, c86.1, c89.1, [], ⟨false, 0, 0, []⟩⟩ : Acti)) fun c90 =>
          bif (!(c90 == x0)) then
            ((⟨0, ⟨0, 0, 0⟩, 0, [], ⟨false, 0, 0, []⟩⟩ : Acti), false)
          else
          ((⟨a61, c86.1, c89.1, [], ⟨false, 0, 0, []⟩⟩ : Acti), true)
        else
        bif (!c86.2) then
          ((⟨0, ⟨0, 0, 0⟩, 0, [], ⟨false, 0, 0, []⟩⟩ : Acti), false)
        else
        letK (α := Bytes) (i_ActLine (⟨a61, c86.1, 0, [], ⟨false, 0, 0, []⟩⟩ : Acti)) fun c91 =>
        bif (!(c91 == x0)) then
          ((⟨0, ⟨0, 0, 0⟩, 0, [], ⟨false, 0, 0, []⟩⟩ : Acti), false)
        else
        ((⟨a61, c86.1, 0, [], ⟨false, 0, 0, []⟩⟩ : Acti), true)
      else
      bif (a61 == 5) then
        letK (α := Bytes × Bool) (i_readText (c1.getD 2 [])) fun c92 =>
        bif (!c92.2) then
          ((⟨0, ⟨0, 0, 0⟩, 0, [], ⟨false, 0, 0, []⟩⟩ : Acti), false)
        else
        letK (α := Bytes) (i_ActLine (⟨a61, ⟨0, 0, 0⟩, 0, c92.1, ⟨false, 0, 0, []⟩⟩ : Acti)) fun c93 =>
        bif (!(c93 == x0)) then
          ((⟨0, ⟨0, 0, 0⟩, 0, [], ⟨false, 0, 0, []⟩⟩ : Acti), false)
        else
        ((⟨a61, ⟨0, 0, 0⟩, 0, c92.1, ⟨false, 0, 0, []⟩⟩ : Acti), true)
      else
      bif (a61 == 6) then
        letK (α := Int × Bool) (i_Number (c1.getD 2 [])) fun c94 =>
        bif (!c94.2) then
          ((⟨0, ⟨0, 0, 0⟩, 0, [], ⟨false, 0, 0, []⟩⟩ : Acti), false)
        else
        letK (α := Bytes) (i_ActLine (⟨a61, ⟨0, 0, 0⟩, c94.1, [], ⟨false, 0, 0, []⟩⟩ : Acti)) fun c95 =>
        bif (!(c95 == x0)) then
          ((⟨0, ⟨0, 0, 0⟩, 0, [], ⟨false, 0, 0, []⟩⟩ : Acti), false)
        else
        ((⟨a61, ⟨0, 0, 0⟩, c94.1, [], ⟨false, 0, 0, []⟩⟩ : Acti), true)
      else
      letK (α := Bytes) (i_ActLine (⟨a61, ⟨0, 0, 0⟩, 0, [], ⟨false, 0, 0, []⟩⟩ : Acti)) fun c96 =>
      bif (!(c96 == x0)) then
        ((⟨0, ⟨0, 0, 0⟩, 0, [], ⟨false, 0, 0, []⟩⟩ : Acti), false)
      else
      ((⟨a61, ⟨0, 0, 0⟩, 0, [], ⟨false, 0, 0, []⟩⟩ : Acti), true)
    else
    bif (a61 == 7) then
      bif (a61 == 7) then
        letK (α := Tupl × Bool) (i_ReadTuple (c1.getD 1 [])) fun c97 =>
        bif (a61 == 5) then
          letK (α := Bytes × Bool) (i_readText (c1.getD 2 [])) fun c98 =>
          bif (!c97.2) then
            ((⟨0, ⟨0, 0, 0⟩, 0, [], ⟨false, 0, 0, []⟩⟩ : Acti), false)
          else
          bif (!c98.2) then
            ((⟨0, ⟨0, 0, 0⟩, 0, [], ⟨false, 0, 0, []⟩⟩ : Acti), false)
          else
          letK (α := Bytes) (i_ActLine (⟨a61, c97.1, 0, c98.1, ⟨false, 0, 0, []⟩⟩ : Acti)) fun c99 =>
          bif (!(c99 == x0)) then
            ((⟨0, ⟨0, 0, 0⟩, 0, [], ⟨false, 0, 0, []⟩⟩ : Acti), false)
          else
          ((⟨a61, c97.1, 0, c98.1, ⟨false, 0, 0, []⟩⟩ : Acti), true)
        else
        bif (a61 == 6) then
          letK (α := Int × Bool) (i_Number (c1.getD 2 [])) fun c100 =>
          bif (!c97.2) then
            ((⟨0, ⟨0, 0, 0⟩, 0, [], ⟨false, 0, 0, []⟩⟩ : Acti), false)
          else
          bif (!c100.2) then
            ((⟨0, ⟨0, 0, 0⟩, 0, [], ⟨false, 0, 0, []⟩⟩ : Acti), false)
          else
          letK (α := Bytes) (i_ActLine (⟨a61, c97.1, c100.1, [], ⟨false, 0, 0, []⟩⟩ : Acti)) fun c101 =>
          bif (!(c101 == x0)) then
            ((⟨0, ⟨0, 0, 0⟩, 0, [], ⟨false, 0, 0, []⟩⟩ : Acti), false)
          else
          ((⟨a61, c97.1, c100.1, [], ⟨false, 0, 0, []⟩⟩ : Acti), true)
        else
        bif (!c97.2) then
          ((⟨0, ⟨0, 0, 0⟩, 0, [], ⟨false, 0, 0, []⟩⟩ : Acti), false)
        else
        letK (α := Bytes) (i_ActLine (⟨a61, c97.1, 0, [], ⟨false, 0, 0, []⟩⟩ : Acti)) fun c102 =>
        bif (!(c102 == x0)) then
          ((⟨0, ⟨0, 0, 0⟩, 0, [], ⟨false, 0, 0, []⟩⟩ : Acti), false)
        else
        ((⟨a61, c97.1, 0, [], ⟨false, 0, 0, []⟩⟩ : Acti), true)
      else
      bif (a61 == 5) then
        letK (α := Bytes × Bool) (i_readText (c1.getD 2 [])) fun c103 =>
        bif (!c103.2) then
          ((⟨0, ⟨0, 0, 0⟩, 0, [], ⟨false, 0, 0, []⟩⟩ : Acti), false)
        else
        letK (α := Bytes) (i_ActLine (⟨a61, ⟨0, 0, 0⟩, 0, c103.1, ⟨false, 0, 0, []⟩⟩ : Acti)) fun c104 =>
        bif (!(c104 == x0)) then
          ((⟨0, ⟨0, 0, 0⟩, 0, [], ⟨false, 0, 0, []⟩⟩ : Acti), false)
        else
        ((⟨a61, ⟨0, 0, 0⟩, 0, c103.1, ⟨false, 0, 0, []⟩⟩ : Acti), true)
      else
      bif (a61 == 6) then
        letK (α := Int × Bool) (i_Number (c1.getD 2 [])) fun c105 =>
        bif (!c105.2) then
          ((⟨0, ⟨0, 0, 0⟩, 0, [], ⟨false, 0, 0, []⟩⟩ : Acti), false)
        else
        letK (α := Bytes) (i_ActLine (⟨a61, ⟨0, 0, 0⟩, c105.1, [], ⟨false, 0, 0, []⟩⟩ : Acti)) fun c106 =>
        bif (!(c106 == x0)) then
          ((⟨0, ⟨0, 0, 0⟩, 0, [], ⟨false, 0, 0, []⟩⟩ : Acti), false)
        else
        ((⟨a61, ⟨0, 0, 0⟩, c105.1, [], ⟨false, 0, 0, []⟩⟩ : Acti), true)
      else
      letK (α := Bytes) (i_ActLine (⟨a61, ⟨0, 0, 0⟩, 0, [], ⟨false, 0, 0, []⟩⟩ : Acti)) fun c107 =>
      bif (!(c107 == x0)) then
        ((⟨0, ⟨0, 0, 0⟩, 0, [], ⟨false, 0, 0, []⟩⟩ : Acti), false)
      else
      ((⟨a61, ⟨0, 0, 0⟩, 0, [], ⟨false, 0, 0, []⟩⟩ : Acti), true)
    else
    bif (a61 == 8) then
      letK (α := Tupl × Bool) (i_ReadTuple (c1.getD 1 [])) fun c108 =>
      bif (a61 == 5) then
        letK (α := Bytes × Bool) (i_readText (c1.getD 2 [])) fun c109 =>
        bif (!c108.2) then
          ((⟨0, ⟨0, 0, 0⟩, 0, [], ⟨false, 0, 0, []⟩⟩ : Acti), false)
        else
        bif (!c109.2) then
          ((⟨0, ⟨0, 0, 0⟩, 0, [], ⟨false, 0, 0, []⟩⟩ : Acti), false)
        else
        letK (α := Bytes) (i_ActLine (⟨a61, c108.1, 0, c109.1, ⟨false, 0, 0, []⟩⟩ : Acti)) fun c110 =>
        bif (!(c110 == x0)) then
          ((⟨0, ⟨0, 0, 0⟩, 0, [], ⟨false, 0, 0, []⟩⟩ : Acti), false)
        else
        ((⟨a61, c108.1, 0, c109.1, ⟨false, 0, 0, []⟩⟩ : Acti), true)
      else
      bif (a61 == 6) then
        letK (α := Int × Bool) (i_Number (c1.getD 2 [])) fun c111 =>
        bif (!c108.2) then
          ((⟨0, ⟨0, 0, 0⟩, 0, [], ⟨false, 0, 0, []⟩⟩ : Acti), false)
        else
        bif (!c111.2) then
          ((⟨0, ⟨0, 0, 0⟩, 0, [], ⟨false, 0, 0, []⟩⟩ : Acti), false)
        else
        letK (α := Bytes) (i_ActLine (⟨a61, c108.1, c111.1, [], ⟨false, 0, 0, []⟩⟩ : Acti)) fun c112 =>
        bif (!(c112 == x0)) then
          ((⟨0, ⟨0, 0, 0⟩, 0, [], ⟨false, 0, 0, []⟩⟩ : Acti), false)
        else
        ((⟨a61, c108.1, c111.1, [], ⟨false, 0, 0, []⟩⟩ : Acti), true)
      else
      bif (!c108.2) then
        ((⟨0, ⟨0, 0, 0⟩, 0, [], ⟨false, 0, 0, []⟩⟩ : Acti), false)
      else
      letK (α := Bytes) (i_ActLine (⟨a61, c108.1, 0, [], ⟨false, 0, 0, []⟩⟩ : Acti)) fun c113 =>
      bif (!(c113 == x0)) then
        ((⟨0, ⟨0, 0, 0⟩, 0, [], ⟨false, 0, 0, []⟩⟩ : Acti), false)
      else
      ((⟨a61, c108.1, 0, [], ⟨false, 0, 0, []⟩⟩ : Acti), true)
    else
    bif (a61 == 5) then
      letK (α := Bytes × Bool) (i_readText (c1.getD 2 [])) fun c114 =>
      bif (!c114.2) then
        ((⟨0, ⟨0, 0, 0⟩, 0, [], ⟨false, 0, 0, []⟩⟩ : Acti), false)
      else
      letK (α := Bytes) (i_ActLine (⟨a61, ⟨0, 0, 0⟩, 0, c114.1, ⟨false, 0, 0, []⟩⟩ : Acti)) fun c115 =>
      bif (!(c115 == x0)) then
        ((⟨0, ⟨0, 0, 0⟩, 0, [], ⟨false, 0, 0, []⟩⟩ : Acti), false)
      else
      ((⟨a61, ⟨0, 0, 0⟩, 0, c114.1, ⟨false, 0, 0, []⟩⟩ : Acti), true)
    else
    bif (a61 == 6) then
      letK (α := Int × Bool) (i_Number (c1.getD 2 [])) fun c116 =>
      bif (!c116.2) then
        ((⟨0, ⟨0, 0, 0⟩, 0, [], ⟨false, 0, 0, []⟩⟩ : Acti), false)
      else
      letK (α := Bytes) (i_ActLine (⟨a61, ⟨0, 0, 0⟩, c116.1, [], ⟨false, 0, 0, []⟩⟩ : Acti)) fun c117 =>
      bif (!(c117 == x0)) then
        ((⟨0, ⟨0, 0, 0⟩, 0, [], ⟨false, 0, 0, []⟩⟩ : Acti), false)
      else
      ((⟨a61, ⟨0, 0, 0⟩, c116.1, [], ⟨false, 0, 0, []⟩⟩ : Acti), true)
    else
    letK (α := Bytes) (i_ActLine (⟨a61, ⟨0, 0, 0⟩, 0, [], ⟨false, 0, 0, []⟩⟩ : Acti)) fun c118 =>
    bif (!(c118 == x0)) then
      ((⟨0, ⟨0, 0, 0⟩, 0, [], ⟨false, 0, 0, []⟩⟩ : Acti), false)
    else
    ((⟨a61, ⟨0, 0, 0⟩, 0, [], ⟨false, 0, 0, []⟩⟩ : Acti), true))
    (fun p : Empty => nomatch p)
    (forN (i_ReadAct_L0_f x0 0 0 0 0 0 [] false 0 0 c1 0 0 0 0 [] false 0 0) 1 (Int.toNat (8 - 1 + 1)) 1 0)
theorem i_ReadAct_lk (x0 : Bytes) : evalFn te (orcOf (P := Tryd.prog) [i_Parts_e, i_ActWord_e, i_readText_e, i_readKey_e, i_ReadTuple_e, i_Number_e, i_ActLine_e]) (lorcOf [i_ReadAct_L0_le]) i_ReadAct_ann Tryd.f17 (pvs [.sc .str] (x0, ())) =
  i_ReadAct_N x0 _ none (fun v => some [(true, [RC.c (.int .i64 v.1.kind), RC.c (.int .i64 v.1.tuple.ip), RC.c (.int .i64 v.1.tuple.port), RC.c (.int .i64 v.1.tuple.my), RC.c (.int .i64 v.1.n), RC.c (.str v.1.text), RC.c (.bool v.1.mac.use), RC.c (.int .u64 v.1.mac.k), RC.c (.int .u64 v.1.mac.l), RC.own true .macRow v.1.mac.rows]), (false, [RC.c (.bool v.2)])]) := by kernel_rfl
set_option maxHeartbeats 4000000 in
theorem i_ReadAct_p (x0 : Bytes) (hx0 : List.length x0 ≤ 4611686018427387904) (hp : x0.length ≤ 4294967296) (γ : Type) (fail : γ) (k : Acti × Bool → γ) : i_ReadAct_N x0 γ fail k = k (i_ReadAct x0) := by
  unfold i_ReadAct_N i_ReadAct
  refine bifG ?_ (letT (f := k) (fun c1 hc1 => loopX (f := k) (i_ReadAct_L0_cl x0 1 0 0 0 0 0 [] false 0 0 c1 0 0 0 0 0 [] false 0 0 ?_ ?_ ?_ ?_) (fun a61 ha61 => have ia61 := i_ReadAct_L0_nx x0 1 0 0 0 0 0 [] false 0 0 c1 0 0 0 0 0 [] false 0 0 ?_ ?_ ?_ ?_ _ ha61; bifT (f := k) (fun b0 => rfl)
      (fun b0 => bifG ?_ (bifT (f := k) (fun b1 => rfl)
      (fun b1 => bifT (f := k) (fun b2 => bifG ?_ (bifG ?_ (letT (f := k) (fun c62 hc62 => bifT (f := k) (fun b3 => bifG ?_ (bifG ?_ (letT (f := k) (fun c63 hc63 => bifT (f := k) (fun b4 => rfl)
      (fun b4 => bifT (f := k) (fun b5 => rfl)
      (fun b5 => bifG ?_ (letT (f := k) (fun c64 hc64 => bifT (f := k) (fun b6 => rfl)
      (fun b6 => rfl)))))))))
      (fun b3 => bifT (f := k) (fun b4 => bifG ?_ (letT (f := k) (fun c65 hc65 => bifT (f := k) (fun b5 => rfl)
      (fun b5 => bifT (f := k) (fun b6 => rfl)
      (fun b6 => bifG ?_ (letT (f := k) (fun c66 hc66 => bifT (f := k) (fun b7 => rfl)
      (fun b7 => rfl))))))))
      (fun b4 => bifT (f := k) (fun b5 => rfl)
      (fun b5 => bifG ?_ (letT (f := k) (fun c67 hc67 => bifT (f := k) (fun b6 => rfl)
      (fun b6 => rfl))))))))))
      (fun b2 => bifT (f := k) (fun b3 => bifG ?_ (bifG ?_ (letT (f := k) (fun c68 hc68 => bifG ?_ (bifG ?_ (letT (f := k) (fun c69 hc69 => bifT (f := k) (fun b4 => bifG ?_ (bifG ?_ (letT (f := k) (fun c70 hc70 => bifT (f := k) (fun b5 => rfl)
      (fun b5 => bifT (f := k) (fun b6 => rfl)
      (fun b6 => bifT (f := k) (fun b7 => rfl)
      (fun b7 => bifG ?_ (letT (f := k) (fun c71 hc71 => bifT (f := k) (fun b8 => rfl)
      (fun b8 => rfl))))))))))
      (fun b4 => bifT (f := k) (fun b5 => bifG ?_ (letT (f := k) (fun c72 hc72 => bifT (f := k) (fun b6 => rfl)
      (fun b6 => bifT (f := k) (fun b7 => rfl)
      (fun b7 => bifT (f := k) (fun b8 => rfl)
      (fun b8 => bifG ?_ (letT (f := k) (fun c73 hc73 => bifT (f := k) (fun b9 => rfl)
      (fun b9 => rfl)))))))))
      (fun b5 => bifT (f := k) (fun b6 => rfl)
      (fun b6 => bifT (f := k) (fun b7 => rfl)
      (fun b7 => bifG ?_ (letT (f := k) (fun c74 hc74 => bifT (f := k) (fun b8 => rfl)
      (fun b8 => rfl))))))))))))))
      (fun b3 => bifT (f := k) (fun b4 => bifT (f := k) (fun b5 => bifG ?_ (bifG ?_ (letT (f := k) (fun c75 hc75 => bifT (f := k) (fun b6 => bifG ?_ (bifG ?_ (letT (f := k) (fun c76 hc76 => bifT (f := k) (fun b7 => rfl)
      (fun b7 => bifT (f := k) (fun b8 => rfl)
      (fun b8 => bifG ?_ (letT (f := k) (fun c77 hc77 => bifT (f := k) (fun b9 => rfl)
      (fun b9 => rfl)))))))))
      (fun b6 => bifT (f := k) (fun b7 => bifG ?_ (letT (f := k) (fun c78 hc78 => bifT (f := k) (fun b8 => rfl)
      (fun b8 => bifT (f := k) (fun b9 => rfl)
      (fun b9 => bifG ?_ (letT (f := k) (fun c79 hc79 => bifT (f := k) (fun b10 => rfl)
      (fun b10 => rfl))))))))
      (fun b7 => bifT (f := k) (fun b8 => rfl)
      (fun b8 => bifG ?_ (letT (f := k) (fun c80 hc80 => bifT (f := k) (fun b9 => rfl)
      (fun b9 => rfl))))))))))
      (fun b5 => bifT (f := k) (fun b6 => bifG ?_ (bifG ?_ (letT (f := k) (fun c81 hc81 => bifT (f := k) (fun b7 => rfl)
      (fun b7 => bifG ?_ (letT (f := k) (fun c82 hc82 => bifT (f := k) (fun b8 => rfl)
      (fun b8 => rfl))))))))
      (fun b6 => bifT (f := k) (fun b7 => bifG ?_ (letT (f := k) (fun c83 hc83 => bifT (f := k) (fun b8 => rfl)
      (fun b8 => bifG ?_ (letT (f := k) (fun c84 hc84 => bifT (f := k) (fun b9 => rfl)
      (fun b9 => rfl)))))))
      (fun b7 => bifG ?_ (letT (f := k) (fun c85 hc85 => bifT (f := k) (fun b8 => rfl)
      (fun b8 => rfl)))))))
      (fun b4 => bifT (f := k) (fun b5 => bifT (f := k) (fun b6 => bifG ?_ (bifG ?_ (letT (f := k) (fun c86 hc86 => bifT (f := k) (fun b7 => bifG ?_ (bifG ?_ (letT (f := k) (fun c87 hc87 => bifT (f := k) (fun b8 => rfl)
      (fun b8 => bifT (f := k) (fun b9 => rfl)
      (fun b9 => bifG ?_ (letT (f := k) (fun c88 hc88 => bifT (f := k) (fun b10 => rfl)
      (fun b10 => rfl)))))))))
      (fun b7 => bifT (f := k) (fun b8 => bifG ?_ (letT (f := k) (fun c89 hc89 => bifT (f := k) (fun b9 => rfl)
      (fun b9 => bifT (f := k) (fun b10 => rfl)
      (fun b10 => bifG ?_ (letT (f := k) (fun c90 hc90 => bifT (f := k) (fun b11 => rfl)
      (fun b11 => rfl))))))))
      (fun b8 => bifT (f := k) (fun b9 => rfl)
      (fun b9 => bifG ?_ (letT (f := k) (fun c91 hc91 => bifT (f := k) (fun b10 => rfl)
      (fun b10 => rfl))))))))))
      (fun b6 => bifT (f := k) (fun b7 => bifG ?_ (bifG ?_ (letT (f := k) (fun c92 hc92 => bifT (f := k) (fun b8 => rfl)
      (fun b8 => bifG ?_ (letT (f := k) (fun c93 hc93 => bifT (f := k) (fun b9 => rfl)
      (fun b9 => rfl))))))))
      (fun b7 => bifT (f := k) (fun b8 => bifG ?_ (letT (f := k) (fun c94 hc94 => bifT (f := k) (fun b9 => rfl)
      (fun b9 => bifG ?_ (letT (f := k) (fun c95 hc95 => bifT (f := k) (fun b10 => rfl)
      (fun b10 => rfl)))))))
      (fun b8 => bifG ?_ (letT (f := k) (fun c96 hc96 => bifT (f := k) (fun b9 => rfl)
      (fun b9 => rfl)))))))
      (fun b5 => bifT (f := k) (fun b6 => bifT (f := k) (fun b7 => bifG ?_ (bifG ?_ (letT (f := k) (fun c97 hc97 => bifT (f := k) (fun b8 => bifG ?_ (bifG ?_ (letT (f := k) (fun c98 hc98 => bifT (f := k) (fun b9 => rfl)
      (fun b9 => bifT (f := k) (fun b10 => rfl)
      (fun b10 => bifG ?_ (letT (f := k) (fun c99 hc99 => bifT (f := k) (fun b11 => rfl)
      (fun b11 => rfl)))))))))
      (fun b8 => bifT (f := k) (fun b9 => bifG ?_ (letT (f := k) (fun c100 hc100 => bifT (f := k) (fun b10 => rfl)
      (fun b10 => bifT (f := k) (fun b11 => rfl)
      (fun b11 => bifG ?_ (letT (f := k) (fun c101 hc101 => bifT (f := k) (fun b12 => rfl)
      (fun b12 => rfl))))))))
      (fun b9 => bifT (f := k) (fun b10 => rfl)
      (fun b10 => bifG ?_ (letT (f := k) (fun c102 hc102 => bifT (f := k) (fun b11 => rfl)
      (fun b11 => rfl))))))))))
      (fun b7 => bifT (f := k) (fun b8 => bifG ?_ (bifG ?_ (letT (f := k) (fun c103 hc103 => bifT (f := k) (fun b9 => rfl)
      (fun b9 => bifG ?_ (letT (f := k) (fun c104 hc104 => bifT (f := k) (fun b10 => rfl)
      (fun b10 => rfl))))))))
      (fun b8 => bifT (f := k) (fun b9 => bifG ?_ (letT (f := k) (fun c105 hc105 => bifT (f := k) (fun b10 => rfl)
      (fun b10 => bifG ?_ (letT (f := k) (fun c106 hc106 => bifT (f := k) (fun b11 => rfl)
      (fun b11 => rfl)))))))
      (fun b9 => bifG ?_ (letT (f := k) (fun c107 hc107 => bifT (f := k) (fun b10 => rfl)
      (fun b10 => rfl)))))))
      (fun b6 => bifT (f := k) (fun b7 => bifG ?_ (bifG ?_ (letT (f := k) (fun c108 hc108 => bifT (f := k) (fun b8 => bifG ?_ (bifG ?_ (letT (f := k) (fun c109 hc109 => bifT (f := k) (fun b9 => rfl)
      (fun b9 => bifT (f := k) (fun b10 => rfl)
      (fun b10 => bifG ?_ (letT (f := k) (fun c110 hc110 => bifT (f := k) (fun b11 => rfl)
      (fun b11 => rfl)))))))))
      (fun b8 => bifT (f := k) (fun b9 => bifG ?_ (letT (f := k) (fun c111 hc111 => bifT (f := k) (fun b10 => rfl)
      (fun b10 => bifT (f := k) (fun b11 => rfl)
      (fun b11 => bifG ?_ (letT (f := k) (fun c112 hc112 => bifT (f := k) (fun b12 => rfl)
      (fun b12 => rfl))))))))
      (fun b9 => bifT (f := k) (fun b10 => rfl)
      (fun b10 => bifG ?_ (letT (f := k) (fun c113 hc113 => bifT (f := k) (fun b11 => rfl)
      (fun b11 => rfl))))))))))
      (fun b7 => bifT (f := k) (fun b8 => bifG ?_ (bifG ?_ (letT (f := k) (fun c114 hc114 => bifT (f := k) (fun b9 => rfl)
      (fun b9 => bifG ?_ (letT (f := k) (fun c115 hc115 => bifT (f := k) (fun b10 => rfl)
      (fun b10 => rfl))))))))
      (fun b8 => bifT (f := k) (fun b9 => bifG ?_ (letT (f := k) (fun c116 hc116 => bifT (f := k) (fun b10 => rfl)
      (fun b10 => bifG ?_ (letT (f := k) (fun c117 hc117 => bifT (f := k) (fun b11 => rfl)
      (fun b11 => rfl)))))))
      (fun b9 => bifG ?_ (letT (f := k) (fun c118 hc118 => bifT (f := k) (fun b10 => rfl)
      (fun b10 => rfl)))))))))))))))
      (fun p : Empty => nomatch p)))
  all_goals (first | ((try simp only [Nat.ble_eq, Bool.and_eq_true, decide_eq_true_eq, i_ReadAct_L0_mx0]); grind [maxSl, maxStr, toBytes_length, toInts_length, List.length_set, wrap64, i_Parts_len, i_Parts_pos, i_Parts_el, i_ActWord_len, i_readText_len]) | (subst_vars; refine decide_eq_true ?_; dsimp only [i_ReadAct_L0_mx0] at *; simp only [beq_iff_eq, bne_eq_false_iff_eq] at *; subst_vars; first | omega | grind [maxSl, maxStr, toBytes_length, toInts_length, List.length_set, wrap64, i_Parts_len, i_Parts_pos, i_Parts_el, i_ActWord_len, i_readText_len] | (simp at *; omega)))
theorem i_ReadAct_c (x0 : Bytes) (hp : x0.length ≤ 4294967296) : Con Tryd.prog 17 (pvs [.sc .str] (x0, ())) [rv (.st .acti) [.c, .c, .c, .c, .c, .c, .c, .c, .c, .o true] (i_ReadAct x0).1, rv (.sc .bool) [] (i_ReadAct x0).2] := by
  refine Con.of_facts (enters_of Tryd.func17 rfl (by kernel_rfl)) fun hf => ?_
  replace hf := factAt hf
  refine evalFn_conL teFact mixFact (orcOf_ok _) Tryd.func17 ?_ (bs := [0]) ?_ ?_ (fun w0 mo I0 hmo => ⟨lsem_of_lorc (i_ReadAct_L0_ls w0 mo I0 hmo) ?_, trivial⟩) ((i_ReadAct_lk x0).trans (i_ReadAct_p x0 ((hf 0 0 rfl rfl).slen) hp _ _ _))
  all_goals (kernel_rfl)
noncomputable def i_ReadAct_e : Ent1 Tryd.prog := entP 17 [.sc .str] (fun x => (decide (x.1.length ≤ 4294967296))) (fun x => (i_ReadAct x.1)) (fun v => [rv (.st .acti) [.c, .c, .c, .c, .c, .c, .c, .c, .c, .o true] v.1, rv (.sc .bool) [] v.2]) (fun x hx => i_ReadAct_c x.1 (of_decide_eq_true hx))


/-- laws.FnExactReadAct -/
def w_FnExactReadAct_N (x0 : Bytes) (γ : Type) (fail : γ) (k : Bool → γ) : γ :=
  bif (decide (1048576 < (x0.length : Int))) then
    k true
  else
  bif (decide (x0.length ≤ 4294967296)) then
  letK (α := Acti × Bool) (s_ReadAct x0) fun c1 =>
  bif (decide (x0.length ≤ 4294967296)) then
  letK (α := Acti × Bool) (i_ReadAct x0) fun c2 =>
  letK (α := Bool) (w_eqAct c2.1 c1.1) fun c3 =>
  bif (!c3) then
    k false
  else
  bif (!(c2.2 == c1.2)) then
    k false
  else
  letK (α := Int × List MacRow) (w_markAct c2.1 1) fun c4 =>
  letK (α := Int) (w_heldAct ({ c2.1 with mac.rows := c4.2 } : Acti) 1) fun c5 =>
  bif (decide (c5 < 0)) then
    k false
  else
  bif (c5 != c4.1) then
    k false
  else
  bif (decide (x0.length ≤ 4294967296)) then
  letK (α := Acti × Bool) (i_ReadAct x0) fun c6 =>
  letK (α := Bool) (w_eqAct c6.1 c1.1) fun c7 =>
  bif (!c7) then
    k false
  else
  bif (!(c6.2 == c1.2)) then
    k false
  else
  letK (α := Int) (w_heldAct ({ c2.1 with mac.rows := c4.2 } : Acti) 1) fun c8 =>
  bif (decide (c8 < 0)) then
    k false
  else
  bif (c8 != c4.1) then
    k false
  else
  k true
  else fail
  else fail
  else fail
def w_FnExactReadAct (x0 : Bytes) : Bool :=
  bif (decide (1048576 < (x0.length : Int))) then
    true
  else
  letK (α := Acti × Bool) (s_ReadAct x0) fun c1 =>
  letK (α := Acti × Bool) (i_ReadAct x0) fun c2 =>
  letK (α := Bool) (w_eqAct c2.1 c1.1) fun c3 =>
  bif (!c3) then
    false
  else
  bif (!(c2.2 == c1.2)) then
    false
  else
  letK (α := Int × List MacRow) (w_markAct c2.1 1) fun c4 =>
  letK (α := Int) (w_heldAct ({ c2.1 with mac.rows := c4.2 } : Acti) 1) fun c5 =>
  bif (decide (c5 < 0)) then
    false
  else
  bif (c5 != c4.1) then
    false
  else
  letK (α := Acti × Bool) (i_ReadAct x0) fun c6 =>
  letK (α := Bool) (w_eqAct c6.1 c1.1) fun c7 =>
  bif (!c7) then
    false
  else
  bif (!(c6.2 == c1.2)) then
    false
  else
  letK (α := Int) (w_heldAct ({ c2.1 with mac.rows := c4.2 } : Acti) 1) fun c8 =>
  bif (decide (c8 < 0)) then
    false
  else
  bif (c8 != c4.1) then
    false
  else
  true
theorem w_FnExactReadAct_lk (x0 : Bytes) : evalFn te (orcOf (P := Tryd.prog) [s_ReadAct_e, i_ReadAct_e, w_eqAct_e, w_markAct_e, w_heldAct_e]) lorc0 [] Tryd.f5 (pvs [.sc .str] (x0, ())) =
  w_FnExactReadAct_N x0 _ none (fun v => some [(false, [RC.c (.bool v)])]) := by kernel_rfl
theorem w_FnExactReadAct_p (x0 : Bytes) (hx0 : List.length x0 ≤ 4611686018427387904)  (γ : Type) (fail : γ) (k : Bool → γ) : w_FnExactReadAct_N x0 γ fail k = k (w_FnExactReadAct x0) := by
  unfold w_FnExactReadAct_N w_FnExactReadAct
  refine bifT (f := k) (fun b0 => rfl)
      (fun b0 => bifG ?_ (letT (f := k) (fun c1 hc1 => bifG ?_ (letT (f := k) (fun c2 hc2 => letT (f := k) (fun c3 hc3 => bifT (f := k) (fun b1 => rfl)
      (fun b1 => bifT (f := k) (fun b2 => rfl)
      (fun b2 => letT (f := k) (fun c4 hc4 => letT (f := k) (fun c5 hc5 => bifT (f := k) (fun b3 => rfl)
      (fun b3 => bifT (f := k) (fun b4 => rfl)
      (fun b4 => bifG ?_ (letT (f := k) (fun c6 hc6 => letT (f := k) (fun c7 hc7 => bifT (f := k) (fun b5 => rfl)
      (fun b5 => bifT (f := k) (fun b6 => rfl)
      (fun b6 => letT (f := k) (fun c8 hc8 => bifT (f := k) (fun b7 => rfl)
      (fun b7 => bifT (f := k) (fun b8 => rfl)
      (fun b8 => rfl))))))))))))))))))))
  all_goals ((try simp only [Nat.ble_eq, Bool.and_eq_true, decide_eq_true_eq]); grind [maxSl, maxStr, toBytes_length, toInts_length, List.length_set, wrap64])
theorem w_FnExactReadAct_c (x0 : Bytes)  : Con Tryd.prog 5 (pvs [.sc .str] (x0, ())) [rv (.sc .bool) [] (w_FnExactReadAct x0)] := by
  refine Con.of_facts (enters_of Tryd.func5 rfl (by kernel_rfl)) fun hf => ?_
  replace hf := factAt hf
  exact evalFn_con0 teFact mixFact (orcOf_ok _) Tryd.func5 (by kernel_rfl) ((w_FnExactReadAct_lk x0).trans (w_FnExactReadAct_p x0 ((hf 0 0 rfl rfl).slen) _ _ _))
noncomputable def w_FnExactReadAct_e : Ent1 Tryd.prog := entA 5 [.sc .str] (fun x => (w_FnExactReadAct x.1)) (fun v => [rv (.sc .bool) [] v]) (fun x => w_FnExactReadAct_c x.1)



theorem s_WordOk_eq (n b : Int) : s_WordOk n b = bif s_l1In b 1 62 then s_l1In n 0 (IntKind.wrap .i64 ((IntKind.wrap .i64 (1 * 2 ^ (min (IntKind.wrap .u64 b).toNat 64))) - 1)) else false := by
  simp only [s_WordOk, letK]
theorem i_WordOk_eq (n b : Int) : i_WordOk n b = bif i_within b 1 62 then i_within n 0 (IntKind.wrap .i64 ((IntKind.wrap .i64 (1 * 2 ^ (min b.toNat 64))) - 1)) else false := by
  simp only [i_WordOk, letK]
theorem q_WordOk (n b : Int) : s_WordOk n b = i_WordOk n b := by
  rw [s_WordOk_eq, i_WordOk_eq, s_l1In_eq, i_within_eq]
  cases h : (decide (1 ≤ b) && decide (b ≤ 62)) with
  | false => rw [cond_false, cond_false]
  | true =>
    have h1 : 1 ≤ b ∧ b ≤ 62 := by simpa using h
    have h2 : IntKind.u64.wrap b = b := by rw [wrapU_def]; exact Int.emod_eq_of_lt (by omega) (by omega)
    rw [h2, cond_true, cond_true, s_l1In_eq, i_within_eq]


theorem q_within (a b c : Int) : s_l1In a b c = i_within a b c := by rw [s_l1In_eq, i_within_eq]


theorem q_TupleOk (x : Tupl) : s_TupleOk x = i_TupleOk x := by simp only [s_TupleOk, i_TupleOk, q_WordOk]


theorem q_SameMac (x y : Mac) : s_SameMac x y = i_SameMac x y := by
  unfold s_SameMac i_SameMac g_Equal_MacRow letK
  rw [show forN (s_SameMac_L0_f x.use x.k x.l x.rows y.use y.k y.l y.rows) 1 (Int.toNat ((x.rows.length : Int) - 0)) 0 () = forN (g_Equal_MacRow_L0_f x.rows y.rows (x.rows.length : Int)) 1 (Int.toNat ((x.rows.length : Int) - 0)) 0 () from forN_congr (fun _ _ => rfl) _ _ _]
  have e1 : (x.k != y.k) = !(x.k == y.k) := rfl
  have e2 : (x.l != y.l) = !(x.l == y.l) := rfl
  rw [e1, e2]
  cases (x.use == y.use) <;> cases (x.k == y.k) <;> cases (x.l == y.l) <;> rfl
theorem SameMac_refl (x : Mac) : i_SameMac x x = true := by
  unfold i_SameMac g_Equal_MacRow letK
  rw [toNat_sub0, forN_list x.rows _ rfl (F := fun j y a => bif (fun _ => false) y then .out () else .next ()) (by
    intro j y a h
    simp [g_Equal_MacRow_L0_f])]
  rw [listN_all x.rows 0 (by simp)]
  simp [Stp.elim]
theorem SameMac_none (x : Mac) (h : i_SameMac x ⟨false, 0, 0, []⟩ = true) : x = ⟨false, 0, 0, []⟩ := by
  unfold i_SameMac g_Equal_MacRow letK at h
  obtain ⟨u, k, l, r⟩ := x
  cases r with
  | nil => simp [forN, Stp.elim] at h; obtain ⟨h1, h2, h3⟩ := h; subst h1; subst h2; subst h3; rfl
  | cons a b =>
    have : (((a :: b).length : Int) != (([] : List MacRow).length : Int)) = true := by simp; omega
    simp only [this, cond_true] at h
    revert h
    cases (u == false) <;> cases (k == 0) <;> cases (l == 0) <;> simp


theorem forN_ext {A W : Type} {f g : Int → A → Stp A W} : ∀ (k : Nat) (i : Nat) (a : A), (∀ j a, j < i + k → f (j : Int) a = g (j : Int) a) → forN f 1 k (i : Int) a = forN g 1 k (i : Int) a
  | 0, _, _, _ => rfl
  | k + 1, i, a, h => by
    simp only [forN, h i a (by omega)]
    cases g (i : Int) a with
    | out w => rfl
    | next a' => simp only [Stp.elim]; rw [show ((i : Int) + 1) = ((i + 1 : Nat) : Int) by omega]; exact forN_ext k (i + 1) a' (fun j a hj => h j a (by omega))
theorem MacOk_in (r : List MacRow) (u : Bool) (k l : Int) (j : Nat) (hj : j < r.length) :
    Stp.elim (γ := Stp Unit Unit) (fun a3 => .next ()) (fun p3 => .out ()) (forN (s_MacOk_L0_0_f (j : Int) u k l r) 1 (Int.toNat ((j : Int) - 0)) 0 ()) =
    bif (g_ContainsFunc_MacRow_i_MacOk_1 ((r.take j).drop 0) (r.getD j (Ty.zero .macRow))).1 then .out () else .next () := by
  let p : MacRow → Bool := fun y => y.input == (r.getD j (Ty.zero .macRow)).input
  unfold g_ContainsFunc_MacRow_i_MacOk_1 g_IndexFunc_MacRow_i_MacOk_1
  rw [List.drop_zero]
  have hl : (r.take j).length = j := by rw [List.length_take]; omega
  rw [forN_list (r.take j) _ (by rw [hl]; simp) (F := fun q y a => bif p y then .out () else .next ()) (by
    intro q y a h
    have hq : q < j := by
      have := (List.getElem?_eq_some_iff.1 h).1; omega
    have h2 : r[q]? = some y := by rw [List.getElem?_take] at h; simpa [hq] using h
    simp only [s_MacOk_L0_0_f, toNat_cast, getD_some h2, p])]
  rw [forN_list (r.take j) _ (by simp) (F := fun q y a => bif p y then .out (q : Int) else .next ()) (by
    intro q y a h
    simp only [g_IndexFunc_MacRow_i_MacOk_1_L0_f, letK, i_MacOk_1, toNat_cast, getD_some h, p])]
  rw [listN_find (w := fun _ _ => ()), listN_find (w := fun j _ => (j : Int))]
  simp only [letK]
  cases h : (r.take j).findIdx? p with
  | none => simp [Stp.elim]
  | some i =>
    have := (List.findIdx?_eq_some_iff_getElem.1 h).1
    simp only [List.getElem?_eq_getElem this, Stp.elim]
    simp
theorem q_MacOk (x : Mac) : s_MacOk x = i_MacOk x := by
  unfold s_MacOk i_MacOk
  have e : forN (s_MacOk_L0_f x.use x.k x.l x.rows) 1 (Int.toNat ((x.rows.length : Int) - 0)) 0 () = forN (i_MacOk_L0_f x.rows (x.rows.length : Int) x.use x.k x.l x.rows) 1 (Int.toNat ((x.rows.length : Int) - 0)) 0 () := by
    rw [toNat_sub0]
    refine forN_ext x.rows.length 0 () (fun j a hj => ?_)
    have := MacOk_in x.rows x.use x.k x.l j (by omega)
    simp only [s_MacOk_L0_f, i_MacOk_L0_f, letK, toNat_cast, q_within] at this ⊢
    rw [this]
  rw [e]
  have e1 : (x.k != 0) = !(x.k == 0) := rfl
  have e2 : (x.l != 0) = !(x.l == 0) := rfl
  have e3 : decide (64 < (x.rows.length : Int)) = !decide ((x.rows.length : Int) ≤ 64) := by
    rcases Int.lt_or_le 64 (x.rows.length : Int) with h | h
    · simp [h, show ¬ ((x.rows.length : Int) ≤ 64) by omega]
    · simp [h, show ¬ (64 < (x.rows.length : Int)) by omega]
  rw [e1, e2, e3]
  cases x.use with
  | false => rfl
  | true =>
    cases forN (i_MacOk_L0_f x.rows (x.rows.length : Int) true x.k x.l x.rows) 1 (Int.toNat ((x.rows.length : Int) - 0)) 0 () <;> cases (x.k == 0) <;> cases (x.l == 0) <;> cases decide ((x.rows.length : Int) ≤ 64) <;> rfl


theorem q_ActOk (x : Acti) : s_ActOk x = i_ActOk x := by
  obtain ⟨kd, t, n, tx, mac⟩ := x
  have hs : i_SameMac mac ⟨false, 0, 0, []⟩ = true → i_MacOk mac = true := fun h => by rw [SameMac_none mac h]; rfl
  have hz : ((t.ip == 0) && ((t.port == 0) && (t.my == 0))) = true → i_TupleOk t = true := fun h => by
    obtain ⟨a, b, c⟩ := t
    simp only [Bool.and_eq_true, beq_iff_eq] at h
    obtain ⟨rfl, rfl, rfl⟩ := h
    decide +kernel
  have hx : (tx == []) = true → decide ((tx.length : Int) ≤ 1600) = true := fun h => by
    have : tx = [] := by simpa using h
    subst this; rfl
  have hn : (n == 0) = true → (decide (0 ≤ n) && decide (n ≤ 65535)) = true := fun h => by
    have : n = 0 := by simpa using h
    subst this; rfl
  have hl : decide (1600 < (tx.length : Int)) = !decide ((tx.length : Int) ≤ 1600) := by
    rcases Int.lt_or_le 1600 (tx.length : Int) with h | h
    · simp [h, show ¬ ((tx.length : Int) ≤ 1600) by omega]
    · simp [h, show ¬ (1600 < (tx.length : Int)) by omega]
  have hb : (n != 0) = !(n == 0) := rfl
  unfold s_ActOk i_ActOk
  simp only [letK, s_l1In_eq, i_within_eq, q_TupleOk, q_SameMac, q_MacOk, SameMac_refl, hl, hb, beq_self_eq_true, bne_self_eq_false, Bool.and_true]
  have hk : kd = 1 ∨ kd = 2 ∨ kd = 3 ∨ kd = 4 ∨ kd = 5 ∨ kd = 6 ∨ kd = 7 ∨ kd = 8 ∨ (decide (1 ≤ kd) && decide (kd ≤ 8)) = false := by
    simp only [Bool.and_eq_false_iff, decide_eq_false_iff_not]; omega
  clear hl hb
  generalize i_SameMac mac ⟨false, 0, 0, []⟩ = S at *
  generalize i_MacOk mac = M at *
  generalize i_TupleOk t = T at *
  generalize ((t.ip == 0) && ((t.port == 0) && (t.my == 0))) = Z at *
  generalize (tx == []) = X at *
  generalize decide ((tx.length : Int) ≤ 1600) = L at *
  generalize (decide (0 ≤ n) && decide (n ≤ 65535)) = NN at *
  generalize (n == 0) = N0 at *
  clear tx n t mac
  rcases hk with rfl | rfl | rfl | rfl | rfl | rfl | rfl | rfl | hk
  iterate 8 (revert S M T Z X L NN N0; decide +kernel)
  simp [hk]


def NEXT {α : Type} (s : Stp (Int × List α) Empty) : Int × List α := match s with | .next p => p | .out e => nomatch e
def iterS (S : Int → Int) : Nat → Int → Int | 0, a => a | n + 1, a => iterS S n (S a)
theorem gset {α : Type} {xs : List α} {j : Nat} (h : j < xs.length) (v z : α) : (xs.set j v).getD j z = v := by
  simp [List.getD, List.getElem?_set, h]
theorem gset_ne {α : Type} {xs : List α} {j i : Nat} (h : i < j) (v z : α) : (xs.set j v).getD i z = xs.getD i z := by
  simp [List.getD, List.getElem?_set, show ¬ j = i by omega]
theorem markN {α : Type} {S : Int → Int} {M : Int → α → α} {z : α} {fm : Int → Int × List α → Stp (Int × List α) Empty}
    (hm : ∀ (j : Nat) a ys, j < ys.length → fm (j : Int) (a, ys) = .next (S a, ys.set j (M a (ys.getD j z)))) :
    ∀ (n i : Nat) (k : Int) (xs : List α), i + n ≤ xs.length → ∃ ys, forN fm 1 n (i : Int) (k, xs) = .next (iterS S n k, ys) ∧ ys.length = xs.length ∧ (∀ j, j < i → ys.getD j z = xs.getD j z) ∧ (∀ t, t < n → ∃ y, ys.getD (i + t) z = M (iterS S t k) y)
  | 0, i, k, xs, _ => ⟨xs, rfl, rfl, fun _ _ => rfl, fun t h => absurd h (Nat.not_lt_zero _)⟩
  | n + 1, i, k, xs, h => by
    simp only [forN, hm i k xs (by omega), Stp.elim]
    rw [show ((i : Int) + 1) = ((i + 1 : Nat) : Int) by omega]
    obtain ⟨ys, h1, h2, h3, h4⟩ := markN hm n (i + 1) (S k) (xs.set i (M k (xs.getD i z))) (by rw [List.length_set]; omega)
    refine ⟨ys, h1, by rw [h2, List.length_set], fun j hj => ?_, fun t ht => ?_⟩
    · rw [h3 j (by omega), gset_ne hj]
    · cases t with
      | zero => rw [Nat.add_zero, h3 i (by omega), gset (by omega)]; exact ⟨_, rfl⟩
      | succ t =>
        obtain ⟨y, hy⟩ := h4 t (by omega)
        exact ⟨y, by rw [show i + (t + 1) = i + 1 + t by omega]; exact hy⟩
theorem heldN {α : Type} {S : Int → Int} {M : Int → α → α} {z : α} {ys : List α} {fh : Int → Int → Stp Int Int}
    (hh : ∀ (j : Nat) a y, ys.getD j z = M a y → fh (j : Int) a = .next (S a)) :
    ∀ (n i : Nat) (k : Int), (∀ t, t < n → ∃ y, ys.getD (i + t) z = M (iterS S t k) y) → forN fh 1 n (i : Int) k = .next (iterS S n k)
  | 0, i, k, _ => rfl
  | n + 1, i, k, h => by
    obtain ⟨y, hy⟩ := h 0 (by omega)
    simp only [forN, hh i k y hy, Stp.elim]
    rw [show ((i : Int) + 1) = ((i + 1 : Nat) : Int) by omega]
    exact heldN hh n (i + 1) (S k) fun t ht => by
      obtain ⟨y, hy⟩ := h (t + 1) (by omega)
      exact ⟨y, by rw [show i + 1 + t = i + (t + 1) by omega]; exact hy⟩
theorem iterS_le {S : Int → Int} (hS : ∀ a, 0 ≤ a → a ≤ 4611686018427387904 → a ≤ S a ∧ S a ≤ a + 64) : ∀ (n : Nat) (k : Int), 0 ≤ k → k + 64 * n ≤ 4611686018427387904 → k ≤ iterS S n k ∧ iterS S n k ≤ k + 64 * n
  | 0, k, h, _ => ⟨Int.le_refl _, by simp [iterS]⟩
  | n + 1, k, h, hb => by
    have h1 := hS k h (by omega)
    have h2 := iterS_le hS n (S k) (by omega) (by omega)
    simp only [iterS]
    omega

theorem eqTuple_refl (x : Tupl) : w_eqTuple x x = true := by simp [w_eqTuple, letK]

theorem markMacRowS_held (xs : List MacRow) (k : Int) (hl : xs.length ≤ 140737488355328) (hk : 0 ≤ k ∧ k ≤ 1125899906842624) : 0 ≤ (w_markMacRowS xs k).1 ∧ (w_markMacRowS xs k).1 ≤ k + 64 * xs.length ∧ (w_markMacRowS xs k).2.length = xs.length ∧ w_heldMacRowS (w_markMacRowS xs k).2 k = (w_markMacRowS xs k).1 := by
  obtain ⟨ys, h1, h2, _, h3⟩ := markN (S := (fun a : Int => (NEXT (w_markMacRowS_L0_f 0 (a, []))).1)) (M := (fun (a : Int) y => (NEXT (w_markMacRowS_L0_f 0 (a, [y]))).2.getD 0 (Ty.zero .macRow))) (z := (Ty.zero .macRow)) (fm := w_markMacRowS_L0_f) (fun j a ys h => by simp [w_markMacRowS_L0_f, letK, NEXT, gset, h]) xs.length 0 k xs (by omega)
  have h4 := iterS_le (S := (fun a : Int => (NEXT (w_markMacRowS_L0_f 0 (a, []))).1)) (fun a h h2 => by simp only [w_markMacRowS_L0_f, letK, NEXT, wrap64_def]; omega) xs.length k hk.1 (by omega)
  have e : w_markMacRowS xs k = (iterS (fun a : Int => (NEXT (w_markMacRowS_L0_f 0 (a, []))).1) xs.length k, ys) := by
    unfold w_markMacRowS
    rw [toNat_sub0, show (0 : Int) = ((0 : Nat) : Int) from rfl, h1]
    rfl
  have h5 := heldN (S := (fun a : Int => (NEXT (w_markMacRowS_L0_f 0 (a, []))).1)) (M := (fun (a : Int) y => (NEXT (w_markMacRowS_L0_f 0 (a, [y]))).2.getD 0 (Ty.zero .macRow))) (z := (Ty.zero .macRow)) (ys := ys) (fh := w_heldMacRowS_L0_f ys) (fun j a y h => by simp only [NEXT, w_markMacRowS_L0_f, letK] at h; simp [w_heldMacRowS_L0_f, letK, NEXT, w_markMacRowS_L0_f, h] at h ⊢ <;> simp [h]) xs.length 0 k h3
  have e2 : w_heldMacRowS ys k = iterS (fun a : Int => (NEXT (w_markMacRowS_L0_f 0 (a, []))).1) xs.length k := by
    unfold w_heldMacRowS
    rw [toNat_sub0, h2, show (0 : Int) = ((0 : Nat) : Int) from rfl, h5]
    rfl
  rw [e]
  exact ⟨by show 0 ≤ iterS _ _ _; omega, h4.2, h2, e2⟩

theorem eqMacRow_refl (x : MacRow) : w_eqMacRow x x = true := by simp [w_eqMacRow, letK]

/-! decimal digits -/
def digs (n : Nat) : Bytes := if h : n < 10 then [UInt8.ofNat (48 + n)] else digs (n / 10) ++ [UInt8.ofNat (48 + n % 10)]
decreasing_by omega
def isDig (c : UInt8) : Bool := decide (48 ≤ c.toNat) && decide (c.toNat ≤ 57)
def val : Bytes → Nat → Nat
  | [], a => a
  | c :: r, a => val r (10 * a + (c.toNat - 48))
theorem digs_lt {n : Nat} (h : n < 10) : digs n = [UInt8.ofNat (48 + n)] := by rw [digs, dif_pos h]
theorem digs_ge {n : Nat} (h : ¬ n < 10) : digs n = digs (n / 10) ++ [UInt8.ofNat (48 + n % 10)] := by rw [digs, dif_neg h]
theorem u8_of {n : Nat} (h : n < 10) : (UInt8.ofNat (48 + n)).toNat = 48 + n := by
  simp only [UInt8.toNat_ofNat']; omega
theorem u8_eq {c : UInt8} (h : isDig c = true) : UInt8.ofNat (48 + (c.toNat - 48)) = c := by
  simp only [isDig, Bool.and_eq_true, decide_eq_true_eq] at h
  rw [show 48 + (c.toNat - 48) = c.toNat by omega]
  exact UInt8.ofNat_toNat
theorem digs_dig : ∀ (n : Nat), ∀ c ∈ digs n, isDig c = true := by
  intro n
  induction n using Nat.strongRecOn with
  | _ n ih =>
    intro c hc
    by_cases h : n < 10
    · rw [digs_lt h, List.mem_singleton] at hc
      subst hc
      simp only [isDig, u8_of h, Bool.and_eq_true, decide_eq_true_eq]; omega
    · rw [digs_ge h] at hc
      rcases List.mem_append.1 hc with hc | hc
      · exact ih (n / 10) (by omega) c hc
      · rw [List.mem_singleton] at hc
        subst hc
        simp only [isDig, u8_of (show n % 10 < 10 by omega), Bool.and_eq_true, decide_eq_true_eq]; omega
theorem digs_ne (n : Nat) : digs n ≠ [] := by
  by_cases h : n < 10
  · rw [digs_lt h]; simp
  · rw [digs_ge h]; simp
theorem digs_head : ∀ (n : Nat), ∀ c r, digs n = c :: r → c.toNat = 48 → n = 0 := by
  intro n
  induction n using Nat.strongRecOn with
  | _ n ih =>
    intro c r he hc
    by_cases h : n < 10
    · rw [digs_lt h] at he
      cases he
      rw [u8_of h] at hc
      omega
    · rw [digs_ge h] at he
      cases hd : digs (n / 10) with
      | nil => exact absurd hd (digs_ne _)
      | cons c' r' =>
        rw [hd] at he
        cases he
        have := ih (n / 10) (by omega) c r' hd hc
        omega
theorem val_app : ∀ (s : Bytes) (c : UInt8) (a : Nat), val (s ++ [c]) a = 10 * val s a + (c.toNat - 48)
  | [], _, _ => rfl
  | x :: r, c, a => by simp only [List.cons_append, val]; exact val_app r c _
theorem val_digs : ∀ (n : Nat), val (digs n) 0 = n := by
  intro n
  induction n using Nat.strongRecOn with
  | _ n ih =>
    by_cases h : n < 10
    · rw [digs_lt h]; simp only [val, u8_of h]; omega
    · rw [digs_ge h, val_app, ih (n / 10) (by omega), u8_of (by omega)]; omega
/-- a text of digits that does not begin with a needless zero -/
def noLead : Bytes → Bool
  | [] => false
  | [_] => true
  | c :: _ => !(c.toNat == 48)
theorem val_pos : ∀ (s : Bytes) (a : Nat), a ≤ val s a
  | [], _ => Nat.le_refl _
  | c :: r, a => by simp only [val]; have := val_pos r (10 * a + (c.toNat - 48)); omega
theorem noLead_digs (n : Nat) : noLead (digs n) = true := by
  cases hd : digs n with
  | nil => exact absurd hd (digs_ne n)
  | cons c r =>
    cases r with
    | nil => rfl
    | cons d r =>
      simp only [noLead, Bool.not_eq_true', beq_eq_false_iff_ne, ne_eq]
      intro hc
      have := digs_head n c _ hd hc
      subst this
      rw [digs_lt (by omega)] at hd
      cases hd
theorem digs_val (s : Bytes) (hd : ∀ c ∈ s, isDig c = true) (hn : noLead s = true) : digs (val s 0) = s := by
  generalize hl : s.length = l
  induction l generalizing s with
  | zero => cases s with | nil => cases hn | cons _ _ => simp at hl
  | succ l ih =>
    rcases List.eq_nil_or_concat s with rfl | ⟨t, c, rfl⟩
    · cases hn
    · rw [List.concat_eq_append] at *
      have hc := hd c (by simp)
      have hc' := hc
      simp only [isDig, Bool.and_eq_true, decide_eq_true_eq] at hc'
      rw [val_app]
      cases ht : t with
      | nil =>
        simp only [val, List.nil_append]
        rw [digs_lt (by omega), show 10 * 0 + (c.toNat - 48) = c.toNat - 48 by omega, u8_eq hc]
      | cons d r =>
        rw [← ht]
        have hdd := hd d (by rw [ht]; simp)
        simp only [isDig, Bool.and_eq_true, decide_eq_true_eq] at hdd
        have h0 : ¬ d.toNat = 48 := by
          rw [ht] at hn
          cases r <;> simpa [noLead] using hn
        have hnt : noLead t = true := by
          rw [ht]
          cases r with
          | nil => rfl
          | cons _ _ => simp [noLead, h0]
        have e := ih t (fun x hx => hd x (by simp [hx])) hnt (by simp at hl; exact hl)
        have hv : 1 ≤ val t 0 := by
          rw [ht]
          simp only [val]
          have := val_pos r (10 * 0 + (d.toNat - 48))
          omega
        rw [digs_ge (by omega), show (10 * val t 0 + (c.toNat - 48)) / 10 = val t 0 by omega, e, show (10 * val t 0 + (c.toNat - 48)) % 10 = c.toNat - 48 by omega, u8_eq hc]
theorem Digits_whileN : ∀ (n : Nat) (m : Nat) (acc : Bytes), n ≤ 9223372036854775807 → n < m → whileN (s_Digits_L0_f false) m ((n : Int), acc) = if n = 0 then acc else digs n ++ acc := by
  intro n
  induction n using Nat.strongRecOn with
  | _ n ih =>
    intro m acc hb hm
    cases m with
    | zero => omega
    | succ m =>
      have hf : s_Digits_L0_f false ((n : Int), acc) = if n = 0 then .out acc else .next (((n / 10 : Nat) : Int), [UInt8.ofNat (48 + n % 10)] ++ acc) := by
        unfold s_Digits_L0_f
        by_cases h0 : n = 0
        · subst h0; rfl
        · rw [if_neg h0, show ((n : Int) != 0) = true by simp; omega]
          simp only [cond_true, letK_eq]
          rw [(tmod_pos 10).1 (by omega), (tdiv_pos 10).1 (by omega), show decide ((n : Int) % 10 < 0) = false by simp; omega, cond_false, wrap64 (m := 48 + _) (by omega) (by omega), wrap64 (by omega) (by omega), wrap8_def]
          congr 3
          simp only [toBytes, List.map_cons, List.map_nil]
          congr 2
          omega
      by_cases h0 : n = 0
      · simp only [whileN, hf, if_pos h0, Stp.elim]
      · simp only [whileN, hf, if_neg h0, Stp.elim]
        rw [ih (n / 10) (by omega) m _ (by omega) (by omega)]
        by_cases h : n < 10
        · rw [if_pos (by omega), digs_lt h, show n % 10 = n by omega]
        · rw [if_neg (by omega), digs_ge h, List.append_assoc]
theorem Digits_eq (n : Nat) (hb : n ≤ 9223372036854775807) : s_Digits (n : Int) = digs n := by
  unfold s_Digits
  by_cases h0 : n = 0
  · subst h0; rw [digs_lt (by omega)]; rfl
  · rw [show ((n : Int) == 0) = false by simp; omega]
    simp only [cond_false, letK_eq]
    rw [show decide ((n : Int) < 0) = false by simp]
    simp only [cond_false]
    unfold s_Digits_L0_w s_Digits_L0_fu
    rw [Digits_whileN n _ [] hb (by simp), if_neg h0, List.append_nil]
/-! a number that is read -/
def NumOk (s : Bytes) : Bool := decide (1 ≤ s.length) && decide (s.length ≤ 12) && s.all isDig && noLead s
theorem val_le : ∀ (s : Bytes) (a k : Nat), (∀ c ∈ s, isDig c = true) → a < 10 ^ k → val s a < 10 ^ (k + s.length)
  | [], _, _, _, h => h
  | c :: r, a, k, hd, h => by
    have hc := hd c (by simp)
    simp only [isDig, Bool.and_eq_true, decide_eq_true_eq] at hc
    simp only [val, List.length_cons]
    rw [show k + (r.length + 1) = (k + 1) + r.length by omega]
    refine val_le r _ (k + 1) (fun x hx => hd x (by simp [hx])) ?_
    rw [Nat.pow_succ]; omega
theorem num_listN {F : Nat → UInt8 → Int → Stp Int Int} (hF : ∀ j (c : UInt8) a, F j c a = bif decide ((c.toNat : Int) < 48) then .out a else bif decide (57 < (c.toNat : Int)) then .out a else .next (IntKind.wrap .i64 ((IntKind.wrap .i64 (10 * a)) + (IntKind.wrap .i64 (IntKind.wrap .u8 ((c.toNat : Int) - 48)))))) :
    ∀ (s : Bytes) (j k a : Nat), a < 10 ^ k → k + s.length ≤ 12 → (s.all isDig = true → listN F j s (a : Int) = .next ((val s a : Nat) : Int)) ∧ (s.all isDig = false → ∃ w, listN F j s (a : Int) = .out w)
  | [], _, _, _, _, _ => ⟨fun _ => rfl, fun h => by cases h⟩
  | c :: r, j, k, a, ha, hk => by
    have hp : (10 : Nat) ^ k ≤ 1000000000000 := by
      have : ∀ k : Nat, k < 13 → (10 : Nat) ^ k ≤ 1000000000000 := by decide
      exact this k (by simp only [List.length_cons] at hk; omega)
    simp only [listN, hF, List.all_cons, isDig]
    by_cases h1 : c.toNat < 48
    · rw [show decide ((c.toNat : Int) < 48) = true by simp; omega, show decide (48 ≤ c.toNat) = false by simp; omega]
      exact ⟨fun h => by simp at h, fun _ => ⟨_, rfl⟩⟩
    · rw [show decide ((c.toNat : Int) < 48) = false by simp; omega, show decide (48 ≤ c.toNat) = true by simp; omega]
      by_cases h2 : 57 < c.toNat
      · rw [show decide (57 < (c.toNat : Int)) = true by simp; omega, show decide (c.toNat ≤ 57) = false by simp; omega]
        exact ⟨fun h => by simp at h, fun _ => ⟨_, rfl⟩⟩
      · rw [show decide (57 < (c.toNat : Int)) = false by simp; omega, show decide (c.toNat ≤ 57) = true by simp; omega]
        simp only [cond_false, Stp.elim, Bool.true_and, Bool.and_self]
        have e : IntKind.wrap .i64 ((IntKind.wrap .i64 (10 * (a : Int))) + (IntKind.wrap .i64 (IntKind.wrap .u8 ((c.toNat : Int) - 48)))) = ((10 * a + (c.toNat - 48) : Nat) : Int) := by
          rw [wrap8_def, wrap64 (m := 10 * (a : Int)) (by omega) (by omega), wrap64 (m := _ % _) (by omega) (by omega), wrap64 (by omega) (by omega)]
          omega
        rw [e]
        exact num_listN hF r (j + 1) (k + 1) (10 * a + (c.toNat - 48)) (by rw [Nat.pow_succ]; omega) (by simp only [List.length_cons] at hk; omega)
theorem num_loop (s : Bytes) (h : s.length ≤ 12) : (s.all isDig = true → forN (s_Number_L0_f s) 1 (Int.toNat ((s.length : Int) - 0)) 0 0 = .next ((val s 0 : Nat) : Int)) ∧ (s.all isDig = false → ∃ w, forN (s_Number_L0_f s) 1 (Int.toNat ((s.length : Int) - 0)) 0 0 = .out w) := by
  rw [toNat_sub0, forN_list s _ rfl (F := fun _ (c : UInt8) a => bif decide ((c.toNat : Int) < 48) then .out a else bif decide (57 < (c.toNat : Int)) then .out a else .next (IntKind.wrap .i64 ((IntKind.wrap .i64 (10 * a)) + (IntKind.wrap .i64 (IntKind.wrap .u8 ((c.toNat : Int) - 48)))))) (by
    intro j c a hj
    simp only [s_Number_L0_f, letK_eq, toNat_cast, byteAt, getD_some hj])]
  exact num_listN (fun _ _ _ => rfl) s 0 0 0 (by omega) (by omega)
theorem noLead_eq (s : Bytes) (h : 1 ≤ s.length) : noLead s = !(decide (1 < (s.length : Int)) && (byteAt s 0 == 48)) := by
  match s, h with
  | [c], _ => simp [noLead]
  | c :: d :: r, _ =>
    rw [show decide (1 < (((c :: d :: r).length : Nat) : Int)) = true by simp; omega, Bool.true_and]
    simp only [noLead, byteAt, List.getD_cons_zero]
    congr 1
    rw [Bool.eq_iff_iff]
    simp only [beq_iff_eq]
    omega
theorem sNumber_eq (s : Bytes) : s_Number s = bif NumOk s then (((val s 0 : Nat) : Int), true) else (0, false) := by
  unfold s_Number NumOk
  by_cases h1 : 1 ≤ s.length
  · rw [show decide ((s.length : Int) < 1) = false by simp; omega, decide_eq_true h1]
    by_cases h2 : s.length ≤ 12
    · rw [show decide (12 < (s.length : Int)) = false by simp; omega, decide_eq_true h2]
      simp only [cond_false, Bool.true_and]
      obtain ⟨g1, g2⟩ := num_loop s h2
      cases ha : s.all isDig with
      | false => obtain ⟨w, hw⟩ := g2 ha; rw [hw]; rfl
      | true =>
        rw [g1 ha]
        have hd : ∀ c ∈ s, isDig c = true := by simpa using ha
        have hv := val_le s 0 0 hd (by omega)
        have hp : (10 : Nat) ^ (0 + s.length) ≤ 1000000000000 := by
          have : ∀ k : Nat, k < 13 → (10 : Nat) ^ k ≤ 1000000000000 := by decide
          exact this _ (by omega)
        simp only [Stp.elim, letK_eq, Bool.true_and]
        rw [Digits_eq _ (by omega)]
        cases hn : noLead s with
        | true => rw [digs_val s hd hn]; simp
        | false =>
          have : (digs (val s 0) == s) = false := by
            rw [beq_eq_false_iff_ne]
            intro he
            have := noLead_digs (val s 0)
            rw [he, hn] at this
            cases this
          rw [this]; rfl
    · rw [show decide (12 < (s.length : Int)) = true by simp; omega, decide_eq_false h2]; rfl
  · rw [show decide ((s.length : Int) < 1) = true by simp; omega, decide_eq_false h1]; rfl
theorem q_Number (s : Bytes) : s_Number s = i_Number s := by
  rw [sNumber_eq]
  unfold i_Number NumOk
  by_cases h1 : 1 ≤ s.length
  · rw [show decide ((s.length : Int) < 1) = false by simp; omega, decide_eq_true h1, noLead_eq s h1]
    by_cases h2 : s.length ≤ 12
    · rw [show decide (12 < (s.length : Int)) = false by simp; omega, decide_eq_true h2]
      simp only [cond_false, Bool.true_and]
      obtain ⟨g1, g2⟩ := num_loop s h2
      rw [show forN (i_Number_L0_f s) 1 (Int.toNat ((s.length : Int) - 0)) 0 0 = forN (s_Number_L0_f s) 1 (Int.toNat ((s.length : Int) - 0)) 0 0 from forN_congr (fun _ _ => rfl) _ _ _]
      cases ha : s.all isDig with
      | false => obtain ⟨w, hw⟩ := g2 ha; rw [hw]; cases decide (1 < (s.length : Int)) <;> cases (byteAt s 0 == 48) <;> rfl
      | true => rw [g1 ha]; cases decide (1 < (s.length : Int)) <;> cases (byteAt s 0 == 48) <;> rfl
    · rw [show decide (12 < (s.length : Int)) = true by simp; omega, decide_eq_false h2]; rfl
  · rw [show decide ((s.length : Int) < 1) = true by simp; omega, decide_eq_false h1]; rfl

/-! a text, cut at a byte -/
def cut (b : UInt8) : Bytes → Bytes → List Bytes
  | [], cur => [cur]
  | c :: r, cur => bif c == b then cur :: cut b r [] else cut b r (cur ++ [c])
def joinI (b : UInt8) : List Bytes → Bytes
  | [] => []
  | [p] => p
  | p :: q :: r => p ++ b :: joinI b (q :: r)
theorem cut_ne (b : UInt8) : ∀ (s cur : Bytes), cut b s cur ≠ []
  | [], cur => by simp [cut]
  | c :: r, cur => by
    simp only [cut]
    cases c == b with
    | true => simp
    | false => exact cut_ne b r _
theorem joinI_cons (b : UInt8) (p : Bytes) (l : List Bytes) (h : l ≠ []) : joinI b (p :: l) = p ++ b :: joinI b l := by
  cases l with
  | nil => exact absurd rfl h
  | cons q r => rfl
theorem join_cut (b : UInt8) : ∀ (s cur : Bytes), joinI b (cut b s cur) = cur ++ s
  | [], cur => by simp [cut, joinI]
  | c :: r, cur => by
    simp only [cut]
    cases hc : c == b with
    | true =>
      simp only [cond_true]
      rw [joinI_cons b cur _ (cut_ne b r []), join_cut b r [], eq_of_beq hc, List.nil_append]
    | false => simp only [cond_false]; rw [join_cut b r _, List.append_assoc]; rfl
theorem cut_no (b : UInt8) : ∀ (s cur : Bytes), (∀ c ∈ s, c ≠ b) → cut b s cur = [cur ++ s]
  | [], cur, _ => by simp [cut]
  | c :: r, cur, h => by
    have : (c == b) = false := by simpa using h c (by simp)
    simp only [cut, this, cond_false]
    rw [cut_no b r _ fun x hx => h x (by simp [hx]), List.append_assoc]; rfl
theorem cut_at (b : UInt8) : ∀ (p cur r : Bytes), (∀ c ∈ p, c ≠ b) → cut b (p ++ b :: r) cur = (cur ++ p) :: cut b r []
  | [], cur, r, _ => by simp [cut]
  | c :: p, cur, r, h => by
    have : (c == b) = false := by simpa using h c (by simp)
    simp only [List.cons_append, cut, this, cond_false]
    rw [cut_at b p _ r fun x hx => h x (by simp [hx]), List.append_assoc]; rfl
theorem cut_join (b : UInt8) : ∀ (l : List Bytes), l ≠ [] → (∀ p ∈ l, ∀ c ∈ p, c ≠ b) → cut b (joinI b l) [] = l
  | [], h, _ => absurd rfl h
  | [p], _, h => by rw [joinI, cut_no b p [] (h p (by simp)), List.nil_append]
  | p :: q :: r, _, h => by
    rw [joinI_cons b p _ (by simp), cut_at b p [] _ (h p (by simp)), List.nil_append, cut_join b (q :: r) (by simp) fun x hx => h x (by simp [hx])]
theorem parts_listN {b : UInt8} {s : Bytes} {F : Nat → UInt8 → Int × List Bytes → Stp (Int × List Bytes) Empty} (hs : s.length ≤ 4294967296) (hF : ∀ (j : Nat) c a, F j c a = bif ((c.toNat : Int) == (b.toNat : Int)) then .next ((IntKind.wrap .i64 ((j : Int) + 1)), (a.2 ++ [((s.take j).drop a.1.toNat)])) else .next (a.1, a.2)) :
    ∀ (r : Bytes) (j : Nat) (from_ : Nat) (out : List Bytes), s.drop j = r → j + r.length = s.length → from_ ≤ j → ∃ (f' : Nat) (out' : List Bytes), listN F j r ((from_ : Int), out) = .next ((f' : Int), out') ∧ f' ≤ s.length ∧ out' ++ [s.drop f'] = out ++ cut b r ((s.take j).drop from_)
  | [], j, from_, out, h, hl, hf => by
    refine ⟨from_, out, rfl, by simp at hl; omega, ?_⟩
    simp only [cut]
    rw [List.take_of_length_le (by simp at hl; omega)]
  | c :: r, j, from_, out, h, hl, hf => by
    have hj : j < s.length := by simp at hl; omega
    have hd : s.drop (j + 1) = r := by
      have := congrArg List.tail h
      simpa using this
    have hc : s.take (j + 1) = s.take j ++ [c] := by
      rw [List.take_succ_eq_append_getElem hj]
      congr 2
      have h2 : (s.drop j)[0]? = some c := by rw [h]; rfl
      rw [List.getElem?_drop, Nat.add_zero, List.getElem?_eq_getElem hj] at h2
      exact Option.some.inj h2
    simp only [listN, hF, cut]
    have he : ((c.toNat : Int) == (b.toNat : Int)) = (c == b) := by
      rw [Bool.eq_iff_iff]
      simp only [beq_iff_eq]
      constructor
      · intro h; exact UInt8.toNat_inj.1 (by omega)
      · rintro rfl; rfl
    rw [he]
    cases c == b with
    | true =>
      simp only [cond_true, Stp.elim]
      rw [wrap64 (by omega) (by omega), show ((j : Int) + 1) = ((j + 1 : Nat) : Int) by omega, toNat_cast]
      obtain ⟨f', o', h1, h2, h3⟩ := parts_listN hs hF r (j + 1) (j + 1) (out ++ [(s.take j).drop from_]) hd (by simp at hl; omega) (Nat.le_refl _)
      refine ⟨f', o', h1, h2, ?_⟩
      rw [h3, show (s.take (j + 1)).drop (j + 1) = [] from List.drop_of_length_le (by rw [List.length_take]; omega), List.append_assoc]
      rfl
    | false =>
      simp only [cond_false, Stp.elim]
      obtain ⟨f', o', h1, h2, h3⟩ := parts_listN hs hF r (j + 1) from_ out hd (by simp at hl; omega) (by omega)
      refine ⟨f', o', h1, h2, ?_⟩
      rw [h3, hc, List.drop_append_of_le_length (by rw [List.length_take]; omega)]
theorem iParts_eq (s : Bytes) (b : UInt8) (hs : s.length ≤ 4294967296) : i_Parts s (b.toNat : Int) = cut b s [] := by
  unfold i_Parts
  rw [toNat_sub0, forN_list s _ rfl (F := fun (j : Nat) (c : UInt8) a => bif ((c.toNat : Int) == (b.toNat : Int)) then .next ((IntKind.wrap .i64 ((j : Int) + 1)), (a.2 ++ [((s.take j).drop a.1.toNat)])) else .next (a.1, a.2)) (by
    intro j c a hj
    simp only [i_Parts_L0_f, toNat_cast, byteAt, getD_some hj])]
  obtain ⟨f', o', h1, h2, h3⟩ := parts_listN (b := b) (s := s) hs (fun _ _ _ => rfl) s 0 0 [] rfl (by simp) (Nat.le_refl _)
  rw [show ((0 : Nat) : Int) = 0 from rfl] at h1
  rw [h1]
  simp only [Stp.elim, toNat_cast, List.take_length, h3]
  simp
theorem forN_add {A W : Type} {f : Int → A → Stp A W} : ∀ (m n : Nat) (i : Int) (a : A), forN f 1 (m + n) i a = Stp.elim (fun a' => forN f 1 n (i + m) a') (fun w => .out w) (forN f 1 m i a)
  | 0, n, i, a => by simp [forN, Stp.elim]
  | m + 1, n, i, a => by
    rw [show m + 1 + n = (m + n) + 1 by omega]
    simp only [forN]
    cases hf : f i a with
    | out w => rfl
    | next a' =>
      simp only [Stp.elim]
      rw [forN_add m n (i + 1) a', show i + 1 + (m : Int) = i + ((m + 1 : Nat) : Int) by omega]
      cases forN f 1 m (i + 1) a' <;> rfl
theorem sParts_eq (s : Bytes) (b : UInt8) (hs : s.length ≤ 4294967296) : s_Parts s (b.toNat : Int) = cut b s [] := by
  unfold s_Parts
  rw [show Int.toNat ((s.length : Int) - 0 + 1) = s.length + 1 by omega, forN_add]
  rw [forN_list s _ rfl (F := fun (j : Nat) (c : UInt8) a => bif ((c.toNat : Int) == (b.toNat : Int)) then .next ((IntKind.wrap .i64 ((j : Int) + 1)), (a.2 ++ [((s.take j).drop a.1.toNat)])) else .next (a.1, a.2)) (by
    intro j c a hj
    have hl : j < s.length := (List.getElem?_eq_some_iff.1 hj).1
    simp only [s_Parts_L0_f, toNat_cast, byteAt, getD_some hj]
    rw [show ((j : Int) == (s.length : Int)) = false by simp; omega]
    rfl)]
  obtain ⟨f', o', h1, h2, h3⟩ := parts_listN (b := b) (s := s) hs (fun _ _ _ => rfl) s 0 0 [] rfl (by simp) (Nat.le_refl _)
  rw [show ((0 : Nat) : Int) = 0 from rfl] at h1
  rw [h1]
  simp only [Stp.elim, forN, Int.zero_add]
  have e : s_Parts_L0_f s (b.toNat : Int) (s.length : Int) ((f' : Int), o') = .next ((IntKind.wrap .i64 ((s.length : Int) + 1)), o' ++ [s.drop f']) := by
    unfold s_Parts_L0_f
    rw [show ((s.length : Int) == (s.length : Int)) = true by simp, cond_true]
    simp only [toNat_cast, List.take_length]
  rw [e]
  simp only [Stp.elim, h3]
  simp
theorem q_Parts (s : Bytes) (b : UInt8) (hs : s.length ≤ 4294967296) : s_Parts s (b.toNat : Int) = i_Parts s (b.toNat : Int) := by rw [sParts_eq s b hs, iParts_eq s b hs]
theorem cut_len (b : UInt8) : ∀ (s cur : Bytes), ∀ p ∈ cut b s cur, p.length ≤ cur.length + s.length
  | [], cur, p, h => by simp [cut] at h; subst h; simp
  | c :: r, cur, p, h => by
    simp only [cut] at h
    cases hc : c == b with
    | true =>
      rw [hc] at h
      rcases List.mem_cons.1 h with rfl | h
      · simp
      · have := cut_len b r [] p h; simp at this ⊢; omega
    | false =>
      rw [hc] at h
      have := cut_len b r _ p h
      simp at this ⊢; omega


theorem markMac_held (x : Mac) (k : Int) (hl : x.rows.length ≤ 140737488355328) (hk : 0 ≤ k ∧ k ≤ 1125899906842624) : 0 ≤ (w_markMac x k).1 ∧ (w_markMac x k).1 ≤ k + 64 * x.rows.length ∧ (w_markMac x k).2.length = x.rows.length ∧ w_heldMac { x with rows := (w_markMac x k).2 } k = (w_markMac x k).1 := by
  obtain ⟨h1, h2, h3, h4⟩ := markMacRowS_held x.rows k hl hk
  refine ⟨h1, h2, h3, ?_⟩
  simp only [w_heldMac, w_markMac, letK, h4]
  cases hd : decide ((w_markMacRowS x.rows k).1 < 0) with
  | true => simp only [decide_eq_true_eq] at hd; omega
  | false => rfl

theorem eqMacRowS_refl (xs : List MacRow) : w_eqMacRowS xs xs = true := by
  unfold w_eqMacRowS
  rw [toNat_sub0, forN_list xs _ rfl (F := fun j x a => bif (fun _ => false) x then .out () else .next ()) (by
    intro j x a h
    simp [w_eqMacRowS_L0_f, letK, toNat_cast, eqMacRow_refl])]
  rw [listN_all xs 0 (by simp)]
  simp [Stp.elim]

theorem toBytes_toInts (s : Bytes) : toBytes (toInts s) = s := by
  simp only [toBytes, toInts, List.map_map]
  conv => rhs; rw [← List.map_id s]
  refine List.map_congr_left fun c _ => ?_
  simp
theorem toBytes_append (a b : List Int) : toBytes (a ++ b) = toBytes a ++ toBytes b := by simp [toBytes]
theorem Joined4 (a b c d sep : Bytes) : s_Joined [a, b, c, d] sep = a ++ sep ++ b ++ sep ++ c ++ sep ++ d := by
  unfold s_Joined
  simp only [List.length_cons, List.length_nil, show Int.toNat (((0 + 1 + 1 + 1 + 1 : Nat) : Int) - 0) = 4 from rfl, forN, s_Joined_L0_f, Stp.elim,
    show decide ((0 : Int) < 0) = false from rfl, show (0 : Int) + 1 = 1 from rfl, show (1 : Int) + 1 = 2 from rfl, show (2 : Int) + 1 = 3 from rfl,
    show decide ((0 : Int) < 1) = true from rfl, show decide ((0 : Int) < 2) = true from rfl, show decide ((0 : Int) < 3) = true from rfl, cond_true, cond_false,
    show Int.toNat 0 = 0 from rfl, show Int.toNat 1 = 1 from rfl, show Int.toNat 2 = 2 from rfl, show Int.toNat 3 = 3 from rfl, List.getD_cons_zero, List.getD_cons_succ, List.nil_append, toBytes_append, toBytes_toInts]
theorem PutWord4 (n : Nat) (h : n ≤ 4294967295) : s_PutWord (n : Int) 4 = [UInt8.ofNat (n / 16777216), UInt8.ofNat (n / 65536 % 256), UInt8.ofNat (n / 256 % 256), UInt8.ofNat (n % 256)] := by
  have hw : s_WordOk (n : Int) 32 = true := by
    rw [q_WordOk, i_WordOk_eq, i_within_eq, i_within_eq]
    simp only [show (decide ((1 : Int) ≤ 32) && decide ((32 : Int) ≤ 62)) = true from rfl, cond_true, Bool.and_eq_true, decide_eq_true_eq]
    rw [show IntKind.wrap .i64 ((IntKind.wrap .i64 (1 * 2 ^ (min (32 : Int).toNat 64))) - 1) = 4294967295 from by decide +kernel]
    omega
  unfold s_PutWord
  rw [s_l1In_eq]
  simp only [letK_eq, show (decide ((1 : Int) ≤ 4) && decide ((4 : Int) ≤ 6)) = true from rfl, show IntKind.wrap .i64 (8 * 4) = 32 from by decide +kernel, hw, Bool.not_true, cond_false, show IntKind.wrap .i64 (4 - 1) = 3 from by decide +kernel, show Int.toNat (3 - 0 + 1) = 4 from rfl,
    forN, s_PutWord_L0_f, Stp.elim, show (3 : Int) + -1 = 2 from rfl, show (2 : Int) + -1 = 1 from rfl, show (1 : Int) + -1 = 0 from rfl, show Int.toNat 0 = 0 from rfl, show Int.toNat 1 = 1 from rfl, show Int.toNat 2 = 2 from rfl, show Int.toNat 3 = 3 from rfl, show Int.toNat 4 = 4 from rfl]
  have e1 : IntKind.wrap .i64 ((n : Int).tdiv 256) = ((n / 256 : Nat) : Int) := by rw [(tdiv_pos 256).1 (by omega), wrap64 (by omega) (by omega)]; omega
  have e2 : IntKind.wrap .i64 (((n / 256 : Nat) : Int).tdiv 256) = ((n / 65536 : Nat) : Int) := by rw [(tdiv_pos 256).1 (by omega), wrap64 (by omega) (by omega)]; omega
  have e3 : IntKind.wrap .i64 (((n / 65536 : Nat) : Int).tdiv 256) = ((n / 16777216 : Nat) : Int) := by rw [(tdiv_pos 256).1 (by omega), wrap64 (by omega) (by omega)]; omega
  rw [e1, e2, e3]
  have g : ∀ m : Nat, IntKind.wrap .u8 ((m : Int).tmod 256) = ((m % 256 : Nat) : Int) := fun m => by rw [(tmod_pos 256).1 (by omega), wrap8_def]; omega
  rw [g, g, g, g]
  simp only [List.replicate, List.set, toBytes, List.map_cons, List.map_nil, Int.toNat_natCast]
  rw [show n / 16777216 % 256 = n / 16777216 by omega]
def atext (n : Nat) : Bytes := digs (n / 16777216) ++ 46 :: (digs (n / 65536 % 256) ++ 46 :: (digs (n / 256 % 256) ++ 46 :: digs (n % 256)))
theorem at_step (s : Bytes) (j : Nat) (a : List Bytes) : s_AddressText_L0_f s (j : Int) a = .next (a ++ [digs (s.getD j 0).toNat]) := by
  unfold s_AddressText_L0_f
  rw [letK_eq, toNat_cast]
  unfold byteAt
  have := (s.getD j 0).toNat_lt
  rw [wrap64 (by omega) (by omega), Digits_eq _ (by omega)]
theorem at_loop (s : Bytes) : forN (s_AddressText_L0_f s) 1 (Int.toNat ((s.length : Int) - 0)) 0 [] = .next (s.map fun x => digs x.toNat) := by
  rw [toNat_sub0, forN_list s _ rfl (F := fun _ (x : UInt8) a => .next (a ++ [digs x.toNat])) (fun j x a h => by rw [at_step, getD_some h])]
  have : ∀ (r : Bytes) (j : Nat) (a : List Bytes), listN (W := Empty) (fun _ (x : UInt8) a => .next (a ++ [digs x.toNat])) j r a = .next (a ++ r.map fun x => digs x.toNat) := by
    intro r
    induction r with
    | nil => intro j a; simp [listN]
    | cons x r ih => intro j a; simp only [listN, Stp.elim, ih, List.map_cons, List.append_assoc, List.cons_append, List.nil_append]
  rw [this, List.nil_append]
theorem u8_small {m : Nat} (h : m < 256) : (UInt8.ofNat m).toNat = m := by simp only [UInt8.toNat_ofNat']; omega
theorem AddressText_eq (n : Nat) (h : n ≤ 4294967295) : s_AddressText (n : Int) = atext n := by
  unfold s_AddressText
  rw [letK_eq, PutWord4 n h]
  have h1 : n / 16777216 < 256 := by omega
  have h2 : n / 65536 % 256 < 256 := by omega
  have h3 : n / 256 % 256 < 256 := by omega
  have h4 : n % 256 < 256 := by omega
  unfold atext
  generalize n / 16777216 = a at *
  generalize n / 65536 % 256 = b at *
  generalize n / 256 % 256 = c at *
  generalize n % 256 = d at *
  rw [at_loop]
  simp only [List.map_cons, List.map_nil, Stp.elim, letK_eq, Joined4, u8_small h1, u8_small h2, u8_small h3, u8_small h4, List.append_assoc, List.cons_append, List.nil_append]
theorem AddressText_no (n : Int) (h : ¬ (0 ≤ n ∧ n ≤ 4294967295)) : s_AddressText n = [] := by
  have hw : s_PutWord n 4 = [] := by
    unfold s_PutWord
    rw [s_l1In_eq, q_WordOk, i_WordOk_eq, i_within_eq, i_within_eq]
    simp only [letK_eq, show (decide ((1 : Int) ≤ 4) && decide ((4 : Int) ≤ 6)) = true from rfl, show IntKind.wrap .i64 (8 * 4) = 32 from by decide +kernel, show (decide ((1 : Int) ≤ 32) && decide ((32 : Int) ≤ 62)) = true from rfl, cond_true, Bool.not_true, cond_false,
      show IntKind.wrap .i64 ((IntKind.wrap .i64 (1 * 2 ^ (min (32 : Int).toNat 64))) - 1) = 4294967295 from by decide +kernel]
    rw [show (decide (0 ≤ n) && decide (n ≤ 4294967295)) = false by simp only [Bool.and_eq_false_iff, decide_eq_false_iff_not]; omega]
    rfl
  unfold s_AddressText
  simp only [letK_eq, hw]
  rfl

def hexd (n : Nat) : UInt8 := if n < 10 then UInt8.ofNat (48 + n) else UInt8.ofNat (87 + n)
def hexs : Bytes → Bytes
  | [] => []
  | c :: r => hexd (c.toNat / 16) :: hexd (c.toNat % 16) :: hexs r
theorem hexs_flat : ∀ s : Bytes, hexs s = s.flatMap fun c => [hexd (c.toNat / 16), hexd (c.toNat % 16)]
  | [] => rfl
  | c :: r => by rw [hexs, hexs_flat r]; rfl
theorem hexs_len : ∀ s : Bytes, (hexs s).length = 2 * s.length
  | [] => rfl
  | c :: r => by simp only [hexs, List.length_cons, hexs_len r]; omega
theorem hex_listN {W : Type} : ∀ (r : Bytes) (j : Nat) (a : List Int), listN (W := W) (fun _ (c : UInt8) a => .next (a ++ [((hexd (c.toNat / 16)).toNat : Int), ((hexd (c.toNat % 16)).toNat : Int)])) j r a = .next (a ++ toInts (hexs r))
  | [], j, a => by simp [listN, hexs, toInts]
  | c :: r, j, a => by simp only [listN, Stp.elim, hex_listN r, hexs, toInts, List.map_cons, List.append_assoc, List.cons_append, List.nil_append]
theorem sHex_eq (s : Bytes) : s_Hex s = hexs s := by
  have hb : ∀ n : Nat, n < 256 → s_l1Hex (IntKind.wrap .u8 ((n : Int).tdiv 16)) = ((hexd (n / 16)).toNat : Int) ∧ s_l1Hex ((n : Int).tmod 16) = ((hexd (n % 16)).toNat : Int) := by decide +kernel
  unfold s_Hex
  rw [toNat_sub0, forN_list s _ rfl (F := fun _ (c : UInt8) a => .next (a ++ [((hexd (c.toNat / 16)).toNat : Int), ((hexd (c.toNat % 16)).toNat : Int)])) (by
    intro j c a hj
    have := hb c.toNat c.toNat_lt
    simp only [s_Hex_L0_f, letK_eq, toNat_cast, byteAt, getD_some hj, this.1, this.2]), hex_listN]
  simp only [Stp.elim, List.nil_append, toBytes_toInts]
theorem iHex_eq (s : Bytes) : i_Hex s = hexs s := by
  have hb : ∀ n : Nat, n < 256 → byteAt [48, 49, 50, 51, 52, 53, 54, 55, 56, 57, 97, 98, 99, 100, 101, 102] (((n : Int).fdiv 16).toNat) = ((hexd (n / 16)).toNat : Int) ∧ byteAt [48, 49, 50, 51, 52, 53, 54, 55, 56, 57, 97, 98, 99, 100, 101, 102] ((bits .and .u8 (n : Int) 15).toNat) = ((hexd (n % 16)).toNat : Int) := by decide +kernel
  unfold i_Hex
  rw [toNat_sub0, forN_list s _ rfl (F := fun _ (c : UInt8) a => .next (a ++ [((hexd (c.toNat / 16)).toNat : Int), ((hexd (c.toNat % 16)).toNat : Int)])) (by
    intro j c a hj
    have := hb c.toNat c.toNat_lt
    have e : byteAt s j = (c.toNat : Int) := by simp only [byteAt, getD_some hj]
    simp only [i_Hex_L0_f, letK_eq, toNat_cast, e, this.1, this.2]), hex_listN]
  simp only [Stp.elim, List.nil_append, toBytes_toInts]
theorem q_Hex (s : Bytes) : s_Hex s = i_Hex s := by rw [sHex_eq, iHex_eq]
/-! back -/
def unhN (n : Nat) : Option Nat := if 48 ≤ n ∧ n ≤ 57 then some (n - 48) else if 97 ≤ n ∧ n ≤ 102 then some (n - 87) else none
def unhx : Bytes → Option Bytes
  | [] => some []
  | [_] => none
  | a :: b :: r => match unhN a.toNat, unhN b.toNat with
    | some x, some y => (unhx r).map (UInt8.ofNat (16 * x + y) :: ·)
    | _, _ => none
theorem unhN_lt : ∀ n : Nat, ∀ x, unhN n = some x → x < 16 := by
  intro n x h
  unfold unhN at h
  split at h
  · cases h; omega
  · split at h
    · cases h; omega
    · cases h
theorem unhx_hexs : ∀ s : Bytes, unhx (hexs s) = some s
  | [] => rfl
  | c :: r => by
    have hb : ∀ n : Nat, n < 16 → unhN (hexd n).toNat = some n := by decide +kernel
    have := c.toNat_lt
    simp only [hexs, unhx, hb (c.toNat / 16) (by omega), hb (c.toNat % 16) (by omega), unhx_hexs r, Option.map_some]
    rw [show 16 * (c.toNat / 16) + c.toNat % 16 = c.toNat by omega, UInt8.ofNat_toNat]
theorem pair_loop {f : Int → List Int → Stp (List Int) (List Int)} {s : Bytes} (hf : ∀ (j : Nat) (a : List Int) (x y : UInt8), s[j]? = some x → s[j + 1]? = some y →
      f (j : Int) a = match unhN x.toNat, unhN y.toNat with | some p, some q => .next (a ++ [((16 * p + q : Nat) : Int)]) | _, _ => .out a) :
    ∀ (m : Nat) (r : Bytes) (j : Nat) (a : List Int), s.drop j = r → r.length = 2 * m →
      (match unhx r with | some t => forN f 2 m (j : Int) a = .next (a ++ toInts t) | none => ∃ w, forN f 2 m (j : Int) a = .out w)
  | 0, r, j, a, h, hl => by
    have : r = [] := List.eq_nil_of_length_eq_zero (by omega)
    subst this
    simp [unhx, forN, toInts]
  | m + 1, r, j, a, h, hl => by
    match r, hl with
    | x :: y :: r, hl =>
      have hx : s[j]? = some x := by
        have : (s.drop j)[0]? = some x := by rw [h]; rfl
        rwa [List.getElem?_drop, Nat.add_zero] at this
      have hy : s[j + 1]? = some y := by
        have : (s.drop j)[1]? = some y := by rw [h]; rfl
        rwa [List.getElem?_drop] at this
      have hd : s.drop (j + 2) = r := by
        have := congrArg (List.drop 2) h
        simpa [List.drop_drop] using this
      simp only [unhx, forN, hf j a x y hx hy]
      cases hp : unhN x.toNat with
      | none => exact ⟨_, rfl⟩
      | some p =>
        cases hq : unhN y.toNat with
        | none => exact ⟨_, rfl⟩
        | some q =>
          simp only [Stp.elim]
          have ih := pair_loop hf m r (j + 2) (a ++ [((16 * p + q : Nat) : Int)]) hd (by simp at hl; omega)
          rw [show ((j : Int) + 2) = ((j + 2 : Nat) : Int) by omega]
          cases ht : unhx r with
          | none => rw [ht] at ih; exact ih
          | some t =>
            rw [ht] at ih
            simp only [Option.map_some]
            rw [ih]
            have h1 := unhN_lt _ _ hp
            have h2 := unhN_lt _ _ hq
            simp only [toInts, List.map_cons, List.append_assoc, List.cons_append, List.nil_append, UInt8.toNat_ofNat']
            rw [Nat.mod_eq_of_lt (by omega)]
theorem unhx_odd : ∀ s : Bytes, s.length % 2 = 1 → unhx s = none
  | [], h => by cases h
  | [_], _ => rfl
  | a :: b :: r, h => by
    simp only [unhx]
    rw [unhx_odd r (by simp at h; omega)]
    cases unhN a.toNat <;> cases unhN b.toNat <;> rfl
def unhR (s : Bytes) : Bytes × Bool := match unhx s with | some t => (t, true) | none => ([], false)
theorem unh_of {f : Int → List Int → Stp (List Int) (List Int)} {s : Bytes} (hf : ∀ (j : Nat) (a : List Int) (x y : UInt8), s[j]? = some x → s[j + 1]? = some y →
      f (j : Int) a = match unhN x.toNat, unhN y.toNat with | some p, some q => .next (a ++ [((16 * p + q : Nat) : Int)]) | _, _ => .out a) (he : s.length % 2 = 0) :
    Stp.elim (fun a4 => ((toBytes a4), true)) (fun _ => ([], false)) (forN f 2 (Int.toNat (((s.length : Int) - 0 + 1) / 2)) 0 []) = unhR s := by
  have := pair_loop hf (s.length / 2) s 0 [] rfl (by omega)
  rw [show Int.toNat (((s.length : Int) - 0 + 1) / 2) = s.length / 2 by omega]
  unfold unhR
  cases hu : unhx s with
  | none =>
    rw [hu] at this
    obtain ⟨w, hw⟩ := this
    rw [show ((0 : Nat) : Int) = 0 from rfl] at hw
    rw [hw]; rfl
  | some t =>
    rw [hu] at this
    rw [show ((0 : Nat) : Int) = 0 from rfl] at this
    simp only [this, Stp.elim, List.nil_append, toBytes_toInts]
theorem half_le {j n : Nat} {s : Bytes} {y : UInt8} (h : s[j + 1]? = some y) (hs : s.length ≤ n) : j + 1 < n := by
  have := (List.getElem?_eq_some_iff.1 h).1; omega
theorem sUnhex_eq (s : Bytes) (hs : s.length ≤ 4611686018427387904) : s_Unhex s = unhR s := by
  unfold s_Unhex
  rw [(tmod_pos 2).1 (by omega)]
  by_cases he : s.length % 2 = 0
  · rw [show ((s.length : Int) % 2 == 1) = false by simp; omega, cond_false]
    have hb : ∀ n : Nat, n < 256 → s_l1Half (n : Int) = match unhN n with | some x => (x : Int) | none => -1 := by decide +kernel
    have hc : ∀ x : Nat, x < 16 → ∀ y : Nat, y < 16 → IntKind.wrap .u8 (IntKind.wrap .i64 ((IntKind.wrap .i64 (16 * (x : Int))) + (y : Int))) = ((16 * x + y : Nat) : Int) := by decide +kernel
    refine unh_of (fun j a x y hx hy => ?_) he
    have h2 := half_le hy hs
    simp only [s_Unhex_L0_f, letK_eq, toNat_cast]
    rw [wrap64 (by omega) (by omega), show ((j : Int) + 1) = ((j + 1 : Nat) : Int) by omega, toNat_cast]
    have ex : byteAt s j = (x.toNat : Int) := by simp only [byteAt, getD_some hx]
    have ey : byteAt s (j + 1) = (y.toNat : Int) := by simp only [byteAt, getD_some hy]
    rw [ex, ey, hb _ x.toNat_lt, hb _ y.toNat_lt]
    cases hp : unhN x.toNat with
    | none => rfl
    | some p =>
      cases hq : unhN y.toNat with
      | none => simp only [show decide (((p : Nat) : Int) < 0) = false by simp, cond_false]; rfl
      | some q =>
        simp only [show decide (((p : Nat) : Int) < 0) = false by simp, show decide (((q : Nat) : Int) < 0) = false by simp, cond_false, hc p (unhN_lt _ _ hp) q (unhN_lt _ _ hq)]
  · rw [show ((s.length : Int) % 2 == 1) = true by simp; omega, cond_true]
    unfold unhR
    rw [unhx_odd s (by omega)]
theorem iUnhex_eq (s : Bytes) (hs : s.length ≤ 4611686018427387904) : i_Unhex s = unhR s := by
  unfold i_Unhex
  rw [(tmod_pos 2).1 (by omega)]
  by_cases he : s.length % 2 = 0
  · rw [show ((s.length : Int) % 2 != 0) = false by simp; omega, cond_false]
    have hb : ∀ n : Nat, n < 256 → lb_IndexByte [48, 49, 50, 51, 52, 53, 54, 55, 56, 57, 97, 98, 99, 100, 101, 102] (n : Int) = match unhN n with | some x => (x : Int) | none => -1 := by decide +kernel
    have hc : ∀ x : Nat, x < 16 → ∀ y : Nat, y < 16 → IntKind.wrap .u8 (bits .or .i64 (IntKind.wrap .i64 ((x : Int) * 16)) (y : Int)) = ((16 * x + y : Nat) : Int) := by decide +kernel
    refine unh_of (fun j a x y hx hy => ?_) he
    have h2 := half_le hy hs
    simp only [i_Unhex_L0_f, letK_eq, toNat_cast]
    rw [wrap64 (by omega) (by omega), show ((j : Int) + 1) = ((j + 1 : Nat) : Int) by omega, toNat_cast]
    have ex : byteAt s j = (x.toNat : Int) := by simp only [byteAt, getD_some hx]
    have ey : byteAt s (j + 1) = (y.toNat : Int) := by simp only [byteAt, getD_some hy]
    rw [ex, ey, hb _ x.toNat_lt, hb _ y.toNat_lt]
    cases hp : unhN x.toNat with
    | none => rfl
    | some p =>
      cases hq : unhN y.toNat with
      | none => simp only [show decide (((p : Nat) : Int) < 0) = false by simp, cond_false]; rfl
      | some q =>
        simp only [show decide (((p : Nat) : Int) < 0) = false by simp, show decide (((q : Nat) : Int) < 0) = false by simp, cond_false, hc p (unhN_lt _ _ hp) q (unhN_lt _ _ hq)]
  · rw [show ((s.length : Int) % 2 != 0) = true by simp; omega, cond_true]
    unfold unhR
    rw [unhx_odd s (by omega)]
theorem unhR_hexs (s : Bytes) : unhR (hexs s) = (s, true) := by unfold unhR; rw [unhx_hexs]

/-- the eight bytes of a word, the highest ahead -/
def be8 (n : Nat) : Bytes := [UInt8.ofNat (n / 72057594037927936), UInt8.ofNat (n / 281474976710656 % 256), UInt8.ofNat (n / 1099511627776 % 256), UInt8.ofNat (n / 4294967296 % 256), UInt8.ofNat (n / 16777216 % 256), UInt8.ofNat (n / 65536 % 256), UInt8.ofNat (n / 256 % 256), UInt8.ofNat (n % 256)]
theorem iKey_eq (n : Nat) (h : n < 18446744073709551616) : i_keyHex (n : Int) = hexs (be8 n) := by
  unfold i_keyHex
  have fd : ∀ m : Nat, (m : Int).fdiv 256 = ((m / 256 : Nat) : Int) := fun m => by rw [Int.fdiv_eq_ediv_of_nonneg _ (by omega)]; omega
  have w8 : ∀ m : Nat, IntKind.wrap .u8 (m : Int) = ((m % 256 : Nat) : Int) := fun m => by rw [wrap8_def]; omega
  simp only [show Int.toNat (7 - 0 + 1) = 8 from rfl, forN, i_keyHex_L0_f, Stp.elim, letK_eq, fd, w8, Nat.div_div_eq_div_mul,
    show (7 : Int) + -1 = 6 from rfl, show (6 : Int) + -1 = 5 from rfl, show (5 : Int) + -1 = 4 from rfl, show (4 : Int) + -1 = 3 from rfl, show (3 : Int) + -1 = 2 from rfl, show (2 : Int) + -1 = 1 from rfl, show (1 : Int) + -1 = 0 from rfl,
    show Int.toNat 0 = 0 from rfl, show Int.toNat 1 = 1 from rfl, show Int.toNat 2 = 2 from rfl, show Int.toNat 3 = 3 from rfl, show Int.toNat 4 = 4 from rfl, show Int.toNat 5 = 5 from rfl, show Int.toNat 6 = 6 from rfl, show Int.toNat 7 = 7 from rfl,
    List.replicate, List.set, toBytes, List.map_cons, List.map_nil, Int.toNat_natCast, iHex_eq]
  unfold be8
  rw [show n / (256 * 256 * 256 * 256 * 256 * 256 * 256) % 256 = n / 72057594037927936 by omega]
theorem sKey_eq (n : Nat) (h : n < 18446744073709551616) : s_l33Key (n : Int) = hexs (be8 n) := by
  unfold s_l33Key
  have e1 : IntKind.wrap .i64 (IntKind.wrap .u64 ((n : Int).tdiv 4294967296)) = ((n / 4294967296 : Nat) : Int) := by
    rw [(tdiv_pos 4294967296).1 (by omega)]
    have : IntKind.wrap .u64 ((n : Int) / 4294967296) = (n : Int) / 4294967296 := by simp [IntKind.wrap, IntKind.bits, IntKind.signed]; omega
    rw [this, wrap64 (by omega) (by omega)]; omega
  have e2 : IntKind.wrap .i64 ((n : Int).tmod 4294967296) = ((n % 4294967296 : Nat) : Int) := by
    rw [(tmod_pos 4294967296).1 (by omega), wrap64 (by omega) (by omega)]; omega
  simp only [letK_eq, e1, e2, sHex_eq]
  rw [PutWord4 _ (by omega), PutWord4 _ (by omega)]
  unfold be8
  rw [show n / 4294967296 / 16777216 = n / 72057594037927936 by omega, show n / 4294967296 / 65536 % 256 = n / 281474976710656 % 256 by omega, show n / 4294967296 / 256 % 256 = n / 1099511627776 % 256 by omega,
    show n % 4294967296 / 16777216 = n / 16777216 % 256 by omega, show n % 4294967296 / 65536 % 256 = n / 65536 % 256 by omega, show n % 4294967296 / 256 % 256 = n / 256 % 256 by omega, show n % 4294967296 % 256 = n % 256 by omega]
  rfl
theorem wraps_u64 (n : Int) (h0 : 0 ≤ n) (h1 : n < 2 ^ 64) : IntKind.u64.wrap n = n := by simp [IntKind.wrap, IntKind.bits, IntKind.signed]; omega
theorem readKey_key (n : Nat) (h : n < 18446744073709551616) : i_readKey (hexs (be8 n)) = ((n : Int), true) := by
  unfold i_readKey
  rw [iUnhex_eq _ (by rw [hexs_len]; show 2 * 8 ≤ _; omega), unhR_hexs]
  have st : ∀ (a b : Nat), a < 72057594037927936 → b < 256 → bits .or .u64 (IntKind.wrap .u64 ((a : Int) * 256)) (IntKind.wrap .u64 ((UInt8.ofNat b).toNat : Int)) = ((a * 256 + b : Nat) : Int) := fun a b ha hb => by
    rw [u8_small hb, wraps_u64 _ (by omega) (by omega), wraps_u64 _ (by omega) (by omega), bits_join .u64 64 (by decide) wraps_u64 8 _ _ (by omega) (by omega) (by omega) (by omega) (by omega) (by omega)]
    omega
  simp only [letK_eq, Bool.not_true, cond_false, show (((be8 n).length : Int) != 8) = false from rfl, show Int.toNat (8 - 0) = 8 from rfl, forN, i_readKey_L0_f, Stp.elim,
    show (0 : Int) + 1 = 1 from rfl, show (1 : Int) + 1 = 2 from rfl, show (2 : Int) + 1 = 3 from rfl, show (3 : Int) + 1 = 4 from rfl, show (4 : Int) + 1 = 5 from rfl, show (5 : Int) + 1 = 6 from rfl, show (6 : Int) + 1 = 7 from rfl,
    show Int.toNat 0 = 0 from rfl, show Int.toNat 1 = 1 from rfl, show Int.toNat 2 = 2 from rfl, show Int.toNat 3 = 3 from rfl, show Int.toNat 4 = 4 from rfl, show Int.toNat 5 = 5 from rfl, show Int.toNat 6 = 6 from rfl, show Int.toNat 7 = 7 from rfl]
  simp only [byteAt, be8, List.getD_cons_zero, List.getD_cons_succ]
  have h0 := st 0 (n / 72057594037927936) (by omega) (by omega)
  rw [show ((0 : Nat) : Int) = 0 from rfl] at h0
  rw [h0, st _ _ (by omega) (by omega), st _ _ (by omega) (by omega), st _ _ (by omega) (by omega), st _ _ (by omega) (by omega), st _ _ (by omega) (by omega), st _ _ (by omega) (by omega), st _ _ (by omega) (by omega)]
  congr 2
  omega
theorem get_step (a b : Nat) (ha : a < 4294967296) (hb : b < 256) : IntKind.wrap .i64 ((IntKind.wrap .i64 (256 * (a : Int))) + (IntKind.wrap .i64 ((UInt8.ofNat b).toNat : Int))) = ((256 * a + b : Nat) : Int) := by
  rw [u8_small hb, wrap64 (m := 256 * (a : Int)) (by omega) (by omega), wrap64 (m := ((b : Nat) : Int)) (by omega) (by omega), wrap64 (by omega) (by omega)]
  omega
theorem get_f (s : Bytes) (p j : Nat) (x : Int) (a b : Nat) (hs : s.getD (p + j) 0 = UInt8.ofNat b) (ha : a < 4294967296) (hb : b < 256) (hp : p + j < 4294967296) : s_GetWord_L0_f s (p : Int) x (j : Int) (a : Int) = .next ((256 * a + b : Nat) : Int) := by
  unfold s_GetWord_L0_f byteAt
  rw [letK_eq, wrap64 (m := (p : Int) + j) (by omega) (by omega), show ((p : Int) + j).toNat = p + j by omega, hs, get_step a b ha hb]
theorem get_hi (n : Nat) (h : n < 18446744073709551616) : s_GetWord (be8 n) 0 4 = (((n / 4294967296 : Nat) : Int), true) := by
  have i0 : s_l1In 4 1 6 = true := rfl
  have hl : (IntKind.wrap .i64 (((be8 n).length : Int) - 4)) = 4 := by rw [show (be8 n).length = 8 from rfl]; decide +kernel
  have i1 : s_l1In 0 0 4 = true := rfl
  have e0 : s_GetWord_L0_f (be8 n) 0 4 0 0 = .next ((256 * 0 + n / 72057594037927936 : Nat) : Int) := get_f (be8 n) 0 0 4 (0) (n / 72057594037927936) rfl (by omega) (by omega) (by omega)
  have e1 : s_GetWord_L0_f (be8 n) 0 4 1 ((256 * 0 + n / 72057594037927936 : Nat) : Int) = .next ((256 * (256 * 0 + n / 72057594037927936) + n / 281474976710656 % 256 : Nat) : Int) := get_f (be8 n) 0 1 4 (256 * 0 + n / 72057594037927936) (n / 281474976710656 % 256) rfl (by omega) (by omega) (by omega)
  have e2 : s_GetWord_L0_f (be8 n) 0 4 2 ((256 * (256 * 0 + n / 72057594037927936) + n / 281474976710656 % 256 : Nat) : Int) = .next ((256 * (256 * (256 * 0 + n / 72057594037927936) + n / 281474976710656 % 256) + n / 1099511627776 % 256 : Nat) : Int) := get_f (be8 n) 0 2 4 (256 * (256 * 0 + n / 72057594037927936) + n / 281474976710656 % 256) (n / 1099511627776 % 256) rfl (by omega) (by omega) (by omega)
  have e3 : s_GetWord_L0_f (be8 n) 0 4 3 ((256 * (256 * (256 * 0 + n / 72057594037927936) + n / 281474976710656 % 256) + n / 1099511627776 % 256 : Nat) : Int) = .next ((256 * (256 * (256 * (256 * 0 + n / 72057594037927936) + n / 281474976710656 % 256) + n / 1099511627776 % 256) + n / 4294967296 % 256 : Nat) : Int) := get_f (be8 n) 0 3 4 (256 * (256 * (256 * 0 + n / 72057594037927936) + n / 281474976710656 % 256) + n / 1099511627776 % 256) (n / 4294967296 % 256) rfl (by omega) (by omega) (by omega)
  unfold s_GetWord
  rw [letK_eq, letK_eq, i0, hl, i1]
  simp only [Bool.not_true, cond_false]
  rw [show Int.toNat (4 - 0) = 4 from rfl, forN, e0, Stp.elim, show (0 : Int) + 1 = 1 from rfl, forN, e1, Stp.elim, show (1 : Int) + 1 = 2 from rfl, forN, e2, Stp.elim, show (2 : Int) + 1 = 3 from rfl, forN, e3, Stp.elim, forN, Stp.elim]
  refine congrArg (fun m : Nat => ((m : Int), true)) ?_
  omega
theorem get_lo (n : Nat) (h : n < 18446744073709551616) : s_GetWord (be8 n) 4 4 = (((n % 4294967296 : Nat) : Int), true) := by
  have i0 : s_l1In 4 1 6 = true := rfl
  have hl : (IntKind.wrap .i64 (((be8 n).length : Int) - 4)) = 4 := by rw [show (be8 n).length = 8 from rfl]; decide +kernel
  have i1 : s_l1In 4 0 4 = true := rfl
  have e0 : s_GetWord_L0_f (be8 n) 4 4 0 0 = .next ((256 * 0 + n / 16777216 % 256 : Nat) : Int) := get_f (be8 n) 4 0 4 (0) (n / 16777216 % 256) rfl (by omega) (by omega) (by omega)
  have e1 : s_GetWord_L0_f (be8 n) 4 4 1 ((256 * 0 + n / 16777216 % 256 : Nat) : Int) = .next ((256 * (256 * 0 + n / 16777216 % 256) + n / 65536 % 256 : Nat) : Int) := get_f (be8 n) 4 1 4 (256 * 0 + n / 16777216 % 256) (n / 65536 % 256) rfl (by omega) (by omega) (by omega)
  have e2 : s_GetWord_L0_f (be8 n) 4 4 2 ((256 * (256 * 0 + n / 16777216 % 256) + n / 65536 % 256 : Nat) : Int) = .next ((256 * (256 * (256 * 0 + n / 16777216 % 256) + n / 65536 % 256) + n / 256 % 256 : Nat) : Int) := get_f (be8 n) 4 2 4 (256 * (256 * 0 + n / 16777216 % 256) + n / 65536 % 256) (n / 256 % 256) rfl (by omega) (by omega) (by omega)
  have e3 : s_GetWord_L0_f (be8 n) 4 4 3 ((256 * (256 * (256 * 0 + n / 16777216 % 256) + n / 65536 % 256) + n / 256 % 256 : Nat) : Int) = .next ((256 * (256 * (256 * (256 * 0 + n / 16777216 % 256) + n / 65536 % 256) + n / 256 % 256) + n % 256 : Nat) : Int) := get_f (be8 n) 4 3 4 (256 * (256 * (256 * 0 + n / 16777216 % 256) + n / 65536 % 256) + n / 256 % 256) (n % 256) rfl (by omega) (by omega) (by omega)
  unfold s_GetWord
  rw [letK_eq, letK_eq, i0, hl, i1]
  simp only [Bool.not_true, cond_false]
  rw [show Int.toNat (4 - 0) = 4 from rfl, forN, e0, Stp.elim, show (0 : Int) + 1 = 1 from rfl, forN, e1, Stp.elim, show (1 : Int) + 1 = 2 from rfl, forN, e2, Stp.elim, show (2 : Int) + 1 = 3 from rfl, forN, e3, Stp.elim, forN, Stp.elim]
  refine congrArg (fun m : Nat => ((m : Int), true)) ?_
  omega
theorem KeyOf_key (n : Nat) (h : n < 18446744073709551616) : s_l33KeyOf (hexs (be8 n)) = (n : Int) := by
  unfold s_l33KeyOf
  rw [sUnhex_eq _ (by rw [hexs_len]; show 2 * 8 ≤ _; omega), unhR_hexs]
  simp only [letK_eq, get_hi n h, get_lo n h]
  rw [wraps_u64 (((n / 4294967296 : Nat) : Int)) (by omega) (by omega), wraps_u64 (((n % 4294967296 : Nat) : Int)) (by omega) (by omega), wraps_u64 (((n / 4294967296 : Nat) : Int) * 4294967296) (by omega) (by omega), wraps_u64 _ (by omega) (by omega)]
  omega

theorem eqMac_refl (x : Mac) : w_eqMac x x = true := by simp [w_eqMac, letK, eqMacRowS_refl]

end Go.Proofs.YtcjbalpokdgicaaDoor
