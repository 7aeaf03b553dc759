/- Conversions; rows that are made. -/
import Derived.Test.YtffjmkhjhchnmaaGreatOps5
import Derived.Lib.ConvBytes
set_option linter.unusedVariables false
set_option linter.unusedSimpArgs false
namespace Go.Proofs.YtffjmkhjhchnmaaGreat
open Go Go.RowKit
theorem zt (ns:List Int):∀acc:ByteArray,(ns.foldl (λr m=>r.push (UInt8.ofNat m.toNat)) acc).data.toList=acc.data.toList++ns.map λm=>UInt8.ofNat m.toNat:=by
 induction ns with
 |nil=>intro acc;simp
 |cons m ns ih=>
  intro acc
  rw[List.foldl_cons,ih]
  have:(acc.push (UInt8.ofNat m.toNat)).data.toList=acc.data.toList++[UInt8.ofNat m.toNat]:=by
   show(acc.data.push _).toList=_
   simp
  rw[this]
  simp
section
variable {α:Type} {C:Nat→List PV→List MO→cS→List MO→Prop} {w0:World} {mo:gj} {n:Nat} {I0 I:Nat→Prop} {M:MF} {s:FSt} {a:Act} {w:World} {te:TE} {P:Program} {base:Nat} {e:Eff} {o:Oper}
theorem Hj (hte:fQ te P=true)(h:SimX w0 mo n I0 I M s a w){t u:Nat}{x:Operand}(ho:o.op= .convert t u x)(hr:aU C s (dJ te base (.convert t u x)) e)(hid:∀id∈(au base e.new).map (·.1),s.obj id=none):
  ga w0 mo n I0 s a base e ((execOp a.eval o).run P w):=by
 simp only[dJ]at hr
 split at hr
 ·rename_i k' k h1 h2
  obtain⟨_,_,_,_,_,_,hu1⟩:=oh hte h1
  obtain⟨_,_,_,_,_,_,hu2⟩:=oh hte h2
  simp only at hu1 hu2
  obtain⟨kk,m,hx,hk,hr⟩:=cg h hr
  cases hr.ret
  exact ga.quiet h (v:= .int k (k.wrap m)) (by simp[execOp,ho,convert,run_underlying hu1,run_underlying hu2,hx,Conv.intToInt]) (ay ⟨rfl,lZ _ _⟩)
 ·rename_i h1 h2
  obtain⟨_,_,_,_,_,_,hu1⟩:=oh hte h1
  obtain⟨_,_,_,_,_,_,hu2⟩:=oh hte h2
  simp only at hu1 hu2
  obtain⟨c,hc,hr⟩:=bR h hr
  cases c with
  |str b=>
   cases hr.ret
   have hc':=hc
   obtain⟨b',hx,_,_⟩:=hc
   exact ga.quiet h (v:=a.eval x) (by simp[execOp,ho,convert,run_underlying hu1,run_underlying hu2,hx]) (ay hc')
  |_=>exact hr.fail.elim
 ·rename_i by_ h1 h2
  obtain⟨_,_,_,_,_,_,hu1⟩:=oh hte h1
  obtain⟨el,i,ie,z,hu2,hi,hs,hz,hie,hes,heb,hb0,hez,hez0,hu8,hi32,hd⟩:=iM hte h2
  simp only at hu1
  obtain⟨c,hc,hr⟩:=bR h hr
  cases c with
  |str b=>
   obtain⟨hg,hr⟩:=hr.guard
   cases hr.ret
   have hmx:=Nat.le_of_ble_eq_true hg
   obtain⟨b',hx,rfl,_⟩:=hc
   have hb:b'.size=b'.data.toList.length:=by show b'.data.size=_;rw[Array.length_toList]
   have hcapge:=grownCap_ge w b'.size 0 el
   have hrun:(execOp a.eval o).run P w= .ok (.value (.slice (some ⟨w.heap.size,0,none⟩) (b'.data.toList.map λc=>(c.toNat:Int)).length (grownCap w b'.size 0 el))) (Lib.bytesWorld w el b'):=by
    rw[List.length_map,←hb]
    simp[execOp,ho,hx,Lib.run_convert_string_bytes w t u el b' hu1 hu2 (hu8.1 rfl)]
   have hcs:(Lib.bytesCells w el b').size=grownCap w b'.size 0 el:=by
    simp only[Lib.bytesCells,Array.size_append,Array.size_map,Array.size_replicate]
    have:b'.data.size=b'.size:=rfl
    omega
   refine sH h (hid base (by simp[au])) (d:=true) (Lib.bytesWorld_at_new w el b') (λb hb=>Lib.bytesWorld_at_old w el b' b hb) (by simp[Lib.bytesWorld,World.freeze,World.alloc,World.drew,-World.alloc_eq,-World.drew_eq]) (by simp[Lib.bytesWorld,World.freeze,World.alloc,World.drew,-World.alloc_eq,-World.drew_eq])
    (by simp[Lib.bytesWorld,World.freeze,World.alloc,World.drew,-World.alloc_eq,-World.drew_eq]) ?_ ?_ (by simpa using hmx) (.inr (Nat.le_refl _)) ?_ hrun
   ·rw[hcs];simp[Ty.size,Ty.fl]
   ·rw[List.length_map,←hb];exact hcapge
   ·intro i x j c hxi hcj
    have hj:j=0:=by
     have:=List.getElem?_eq_some_iff.1 hcj
     obtain⟨hlt,_⟩:=this
     rw[Ty.cells_length]at hlt
     simp[Ty.size,Ty.fl]at hlt
     exact hlt
    subst hj
    rw[List.getElem?_map]at hxi
    cases hbi:b'.data.toList[i]? with
    |none=>rw[hbi]at hxi;cases hxi
    |some q=>
     rw[hbi]at hxi
     simp only[Option.map_some,Option.some.injEq]at hxi
     subst hxi
     simp only[Ty.cells,Ty.fl,Ty.toH,cM,Fl.cell,List.getElem?_cons_zero,Option.some.injEq]at hcj
     subst hcj
     refine⟨.int .u8 (q.toNat:Int), ?_,.int _ _ ?_⟩
     ·have hlt:i<b'.data.size:=by
       have:=(List.getElem?_eq_some_iff.1 hbi).1
       simpa using this
      have hq:b'.data[i]? =some q:=by simpa using hbi
      simp only[Lib.bytesCells,Ty.size,Ty.fl,List.length_singleton,Nat.mul_one,Nat.add_zero]
      rw[Array.getElem?_append_left (by simpa using hlt)]
      simp[hq]
     ·have:=UInt8.toNat_lt q
      exact⟨by simp[IntKind.min,IntKind.signed],by simp[IntKind.max,IntKind.signed,IntKind.bits];omega⟩
  |_=>exact hr.fail.elim
 ·rename_i by_ h1 h2
  obtain⟨el,i,ie,z,hu1,hi,hs,hz,hie,hes,heb,hb0,hez,hez0,hu8,hi32,hd⟩:=iM hte h1
  obtain⟨_,_,_,_,_,_,hu2⟩:=oh hte h2
  simp only at hu2
  have hue:=hu8.1 rfl
  obtain⟨c,hc,hr⟩:=bR h hr
  obtain⟨x',hx',hr⟩:=qj h hc hr
  split at hr
  ·rename_i xs
   cases hr.ret
   generalize hv:a.eval x=v at hx'
   cases hx' with
   |nil=>
    exact ga.quiet h (v:= .string .empty) (by simp[execOp,ho,convert,run_underlying hu1,run_underlying hu2,run_underlying hue,hv,Conv.bytesToString]) (ay ⟨.empty,rfl,rfl,by simp⟩)
   |emp _ ad cap=>
    have hld:(loadCells ad ([]:List Int).length).run P w= .ok (([]:List Int).map (Value.int .u8)).toArray w:=by
     simpa using run_loadCells_list (P:=P) w ad [] (λj v hv=>by simp at hv)
    have hrun:=run_bytesToString (P:=P) w ad 0 cap [] hld
    exact ga.quiet h (v:= .string .empty) (by simp[execOp,ho,convert,run_underlying hu1,run_underlying hu2,run_underlying hue,hv,hrun]) (ay ⟨.empty,rfl,rfl,by simp⟩)
   |sl _ _ b off cap vs hJ hl hcp hcell hrep=>
    have hld:(loadCells ⟨b,off,none⟩ xs.length).run P w= .ok (xs.map (Value.int .u8)).toArray w:=by
     have:=run_loadCells_list (P:=P) w ⟨b,off,none⟩ (xs.map (Value.int .u8)) (λj v hv=>by
      rw[Addr.add_lit]
      rw[List.getElem?_map]at hv
      cases hj:xs[j]? with
      |none=>rw[hj]at hv;cases hv
      |some q=>
       rw[hj]at hv
       simp only[Option.map_some,Option.some.injEq]at hv
       subst hv
       have h1:=hcell j q 0 (.int .u8 q) hj rfl
       have h2:=hrep j q 0 (.int .u8 q) hj rfl
       have h3:vs j 0= .int .u8 q:=by
        generalize vs j 0=y at h2
        cases h2;rfl
       rw[h3]at h1
       simpa [Ty.size,Ty.fl]using h1)
     simpa using this
    have hrun:=run_bytesToString (P:=P) w ⟨b,off,none⟩ xs.length cap xs hld
    refine ga.quiet h (v:= .string (xs.foldl (λr n=>r.push (UInt8.ofNat n.toNat)) ByteArray.empty)) ?_ (ay ⟨_,rfl, ?_, ?_⟩)
    ·simp[execOp,ho,convert,run_underlying hu1,run_underlying hu2,run_underlying hue,hv,hrun]
    ·rw[zt];rfl
    ·simp only[List.length_map]
     exact Nat.le_trans hl (by decide)
  ·exact hr.fail.elim
 ·exact hr.fail.elim
end
end Go.Proofs.YtffjmkhjhchnmaaGreat
