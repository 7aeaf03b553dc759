/- Operations that make memory: variables, rows. -/
import Derived.Test.YtffjmkhjhchnmaaGreatDar
set_option linter.unusedVariables false
set_option linter.unusedSimpArgs false
namespace Go.Proofs.YtffjmkhjhchnmaaGreat
open Go Go.RowKit
theorem sP (w:World)(o:Obj):(w.alloc o).heap[w.heap.size]? =some o:=by
 show(w.heap.push o)[w.heap.size]? =some o
 exact Array.getElem?_push_size
theorem tg (w:World)(vs:Array Value)(t j:Nat)(fr:Nat×Nat):(w.alloc (.cells vs t fr)).cell? ⟨w.heap.size,j,none⟩=vs[j]? :=by
 unfold World.cell?
 rw[sP]
 simp
theorem tu (w:World)(vs:Array Value)(t j:Nat):(w.alloc (.cells vs t)).frozen? ⟨w.heap.size,j,none⟩=false:=by
 unfold World.frozen?
 rw[sP]
 simp
theorem df (w:World)(o:Obj){b:Nat}(h:b<w.heap.size):(w.alloc o).heap[b]? =w.heap[b]? :=by
 show(w.heap.push o)[b]? =w.heap[b]?
 rw[Array.getElem?_push,if_neg (Nat.ne_of_lt h)]
section
variable {α:Type} {C:Nat→List PV→List MO→cS→List MO→Prop} {w0:World} {mo:gj} {n:Nat} {I0 I:Nat→Prop} {M:MF} {s:FSt} {a:Act} {w:World} {te:TE} {P:Program} {base:Nat} {e:Eff} {o:Oper}
theorem Lh (h:SimX w0 mo n I0 I M s a w)(hid:s.obj base=none){cs:List DC}{vs:Array Value}{t:Nat}(hall:ar (λc u=>aA (ax w0 I0 I M s w) c u∧u.oneCell'=true) cs vs.toList):
  ga w0 mo n I0 s a base ⟨one (.ptr base 0),[.box cs],[]⟩ (.ok (.value (.pointer (some ⟨w.heap.size,0,none⟩))) (w.alloc (.cells vs t))):=by
 obtain⟨hext,hs⟩:=h.new hid (o:= .box cs) (m:=some (w.heap.size,0)) (w':=w.alloc (.cells vs t)) (λb hb=>df w _ hb) (by simp) rfl rfl rfl (by intro b c hm;cases hm;exact Nat.le_refl _) (by
  intro hext
  refine⟨w.heap.size,by simp only[bp,if_pos],trivial,by simp,λhI=> ?_,λj c hj=> ?_,λj hj=>tu w vs t j⟩
  ·have:=h.ilt _ hI;omega
  ·obtain⟨u,hu,hr,h1⟩:=hall.at hj
   exact⟨u,by rw[tg];simpa using hu,hr.ext hext,h1⟩)
 refine⟨_,_,I,_,_,.inl rfl,hs,ay ⟨cs,w.heap.size, ?_, ?_,rfl⟩,λi=> ?_⟩
 ·simp only[af,if_pos]
 ·simp only[bp,if_pos]
 ·simp only[List.nil_append,au];exact aR _ _ _ _
theorem OI (h:SimX w0 mo n I0 I M s a w)(hid:s.obj base=none){cs:List DC}{vs:Array Value}{t:Nat}(hall:ar (λc u=>aA (ax w0 I0 I M s w) c u∧u.oneCell'=true) cs vs.toList):
  ga w0 mo n I0 s a base ⟨one (.bsl base),[.box cs],[]⟩ (.ok (.value (.slice (some ⟨w.heap.size,0,none⟩) 1 1)) (w.alloc (.cells vs t))):=by
 obtain⟨hext,hs⟩:=h.new hid (o:= .box cs) (m:=some (w.heap.size,0)) (w':=w.alloc (.cells vs t)) (λb hb=>df w _ hb) (by simp) rfl rfl rfl (by intro b c hm;cases hm;exact Nat.le_refl _) (by
  intro hext
  refine⟨w.heap.size,by simp only[bp,if_pos],trivial,by simp,λhI=> ?_,λj c hj=> ?_,λj hj=>tu w vs t j⟩
  ·have:=h.ilt _ hI;omega
  ·obtain⟨u,hu,hr,h1⟩:=hall.at hj
   exact⟨u,by rw[tg];simpa using hu,hr.ext hext,h1⟩)
 refine⟨_,_,I,_,_,.inl rfl,hs,ay ⟨cs,w.heap.size, ?_, ?_,rfl⟩,λi=> ?_⟩
 ·simp only[af,if_pos]
 ·simp only[bp,if_pos]
 ·simp only[List.nil_append,au];exact aR _ _ _ _
theorem M4 (x:Cx){fs:List Fl}{vs:List Value}(h:ar (λ(f:Fl) v=>pg f v=true) fs vs):ar (λc u=>aA x c u∧u.oneCell'=true) (fs.map Fl.zeroD) vs:=by
 refine yv ?_
 induction fs generalizing vs with
 |nil=>cases vs with
  |nil=>rfl
  |cons _ _=>exact h.elim
 |cons f fs ih=>cases vs with
  |nil=>exact h.elim
  |cons v vs=>simp only[bX,Bool.and_eq_true];exact⟨h.1,ih h.2⟩
theorem KT (ti:TI):ti.zero=ti.fl.map Fl.zeroD:=by cases ti<;>rfl
theorem Lr (hte:fQ te P=true)(h:SimX w0 mo n I0 I M s a w){t:Nat}(ho:o.op= .alloc t)(hr:aU C s (dJ te base (.alloc t)) e)(hid:∀id∈(au base e.new).map (·.1),s.obj id=none):
  ga w0 mo n I0 s a base e ((execOp a.eval o).run P w):=by
 simp only[dJ]at hr
 split at hr
 ·rename_i ti hl
  obtain⟨hg,hr⟩:=hr.guard
  cases hr.ret
  have hlen:=Nat.le_of_ble_eq_true hg
  rw[KT,List.length_map]at hlen
  obtain⟨i,z,hi,hs,hz,hz0,_⟩:=sK hte hl hlen
  have hrun:(execOp a.eval o).run P w= .ok (.value (.pointer (some ⟨w.heap.size,0,none⟩))) (w.alloc (.cells z.cells t)):=by
   simp[execOp,ho,Instr.alloc,zeroValue,typeInfo,hi,hz,newVar,newRow]
  rw[hrun,KT]
  exact Lh h (hid base (by simp[au])) (M4 _ hz0)
 ·exact hr.fail.elim
theorem OM (h:SimX w0 mo n I0 I M s a w){t:Nat}{x:Operand}(ho:o.op= .box t x)(hr:aU C s (dJ te base (.box t x)) e)(hid:∀id∈(au base e.new).map (·.1),s.obj id=none):
  ga w0 mo n I0 s a base e ((execOp a.eval o).run P w):=by
 simp only[dJ]at hr
 split at hr
 ·rename_i ti hl
  obtain⟨d,hd,hr⟩:=eV h hr
  cases d with
  |tup _=>exact hr.fail.elim
  |v ag cs=>
   obtain⟨hg,hr⟩:=hr.guard
   cases hr.ret
   have hrun:(execOp a.eval o).run P w= .ok (.value (.pointer (some ⟨w.heap.size,0,none⟩))) (w.alloc (.cells (a.eval x).cells t)):=by
    simp[execOp,ho,Instr.box,newVar,newRow]
   rw[hrun]
   exact Lh h (hid base (by simp[au])) (lM hd hg)
 ·exact hr.fail.elim
theorem K0 (h:SimX w0 mo n I0 I M s a w)(hid:s.obj base=none){ty:Ty}{xs:List ty.T}{d:Bool}{vs:Array Value}{t cap:Nat}{fr:Nat×Nat}{w':World}(hnew:w'.heap[w.heap.size]? =some (.cells vs t fr))
  (hold:∀b,b<w.heap.size→w'.heap[b]? =w.heap[b]?)(hos:w'.os=w.os)(htape:w'.tape=w.tape)(hout:w'.output=w.output)
  (hcap:vs.size=cap*ty.size)(hle:xs.length≤cap)(hmx:xs.length≤aD)(hfr:fr.2≤fr.1∨vs.size≤fr.1)
  (hrep:∀i x j c,xs[i]? =some x→(ty.cells x)[j]? =some c→∃u,vs[i*ty.size+j]? =some u∧RepC ((ax w0 I0 I M s w).J (pX d)) w c u):
  ∃M',SimX w0 mo n I0 I M' ⟨s.tmp,af s.obj base (.arr ty xs 0 false d)⟩ a w'∧hU ⟨w0.heap.size,I0,I,M',af s.obj base (.arr ty xs 0 false d),w'⟩ (one (.own base 0)) (.slice (some ⟨w.heap.size,0,none⟩) xs.length cap):=by
 have hsz:w.heap.size<w'.heap.size:=(Array.getElem?_eq_some_iff.1 hnew).1
 have hfz:∀j,j<vs.size→w'.frozen? ⟨w.heap.size,j,none⟩=false:=by
  intro j hj
  unfold World.frozen?
  rw[hnew]
  simp only[Bool.and_eq_false_iff,decide_eq_false_iff_not]
  omega
 have hcl:∀j,w'.cell? ⟨w.heap.size,j,none⟩=vs[j]? :=by
  intro j
  unfold World.cell?
  rw[hnew]
  simp
 obtain⟨hext,hs⟩:=h.new hid (o:= .arr ty xs 0 false d) (m:=some (w.heap.size,cap)) (w':=w') hold (Nat.le_of_lt hsz) hos htape hout (by intro b c hm;cases hm;exact Nat.le_refl _) (by
  intro hext
  refine .inr ⟨w.heap.size,cap,by simp only[bp,if_pos],λ_=>h.below.size,hsz,⟨λhI=> ?_,by simp⟩,hle,hmx,λj hj=>⟨?_,hfz j (by omega)⟩,λi x j c hx hc=> ?_⟩
  ·have:=h.ilt _ hI;omega
  ·rw[hcl];simp[hcap,hj]
  ·obtain⟨u,hu,hr⟩:=hrep i x j c hx hc
   refine⟨u,by rw[hcl];exact hu, ?_⟩
   exact RepC.ext hext hr)
 refine⟨_,hs,ay ⟨ty,xs,0,false,d, ?_,Nat.le_refl _,λ_=> ?_,rfl⟩⟩
 ·simp only[af,if_pos]
 ·simp only[bp,if_pos,aM]
theorem sH (h:SimX w0 mo n I0 I M s a w)(hid:s.obj base=none){ty:Ty}{xs:List ty.T}{d:Bool}{vs:Array Value}{t cap:Nat}{fr:Nat×Nat}{w':World}(hnew:w'.heap[w.heap.size]? =some (.cells vs t fr))
  (hold:∀b,b<w.heap.size→w'.heap[b]? =w.heap[b]?)(hos:w'.os=w.os)(htape:w'.tape=w.tape)(hout:w'.output=w.output)
  (hcap:vs.size=cap*ty.size)(hle:xs.length≤cap)(hmx:xs.length≤aD)(hfr:fr.2≤fr.1∨vs.size≤fr.1)
  (hrep:∀i x j c,xs[i]? =some x→(ty.cells x)[j]? =some c→∃u,vs[i*ty.size+j]? =some u∧RepC ((ax w0 I0 I M s w).J (pX d)) w c u){run:Result Next}(hrun:run= .ok (.value (.slice (some ⟨w.heap.size,0,none⟩) xs.length cap)) w'):
  ga w0 mo n I0 s a base ⟨one (.own base 0),[.arr ty xs 0 false d],[]⟩ run:=by
 obtain⟨M',hs,hv⟩:=K0 h hid (d:=d) hnew hold hos htape hout hcap hle hmx hfr hrep
 exact⟨_,_,I,M',_,.inl hrun,hs,hv,λi=>by simp only[List.nil_append,au];exact aR _ _ _ _⟩
end
end Go.Proofs.YtffjmkhjhchnmaaGreat
