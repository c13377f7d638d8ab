/- The texts FwA, FwB, FwC, FwD, FwE, FwF, FwG, FwH, FwI, FwJ, FwK, one behind the other: what the walks and plain laws need; conditions stand with each theorem. -/
import Derived.Below
import Derived.WalkKit
import Derived.Deep.LoopGhost
set_option linter.unusedVariables false
set_option linter.unusedSimpArgs false
set_option linter.unusedSectionVars false
set_option maxRecDepth 20000
set_option maxHeartbeats 4000000
namespace Go.Proofs.YthnfcmgpedppaaaGreat.Fw
open Go.RowKit
inductive AV where
 | v (x:Value)
 | any
 | bl
 | ptr (id ver off:Nat)
 | sl (id ver off len esz:Nat)
 | fz (lv n:Nat) (cells:List AV)
 | fp (lv:Nat) (cells:List AV)
 | agg (cells:List AV)
 | tup (cells:List AV)
 | fn (f:Fn) (first caps:List AV)
 | ifc (t:TypeId) (x:AV)
 | p (D:Value→Prop) (x:AV)
 | mp (id ver:Nat)
 | dp (id ver off len:Nat)
 deriving Inhabited
mutual
def AV.ok (lv:Nat):AV→Bool
 | .v _|.any|.bl=>true
 | .ptr ..|.sl ..|.mp ..|.dp ..=>false
 | .fz l _ _|.fp l _=>Nat.ble l lv
 | .agg cs|.tup cs=>AV.oks lv cs
 | .fn _ a b=>AV.oks lv a&&AV.oks lv b
 | .ifc _ x=>x.ok lv
 | .p _ x=>x.ok lv
def AV.oks (lv:Nat):List AV→Bool
 | []=>true
 | c::cs=>c.ok lv&&AV.oks lv cs
end
theorem AV.oks_iff {lv:Nat}:∀ {l:List AV},AV.oks lv l=true↔∀ c∈l,c.ok lv=true
 | []=>by simp [AV.oks]
 | c::cs=>by simp [AV.oks,AV.oks_iff (l:=cs)]
theorem AV.oks_of {lv:Nat} {l:List AV} (h:∀ c∈l,c.ok lv=true):AV.oks lv l=true:=AV.oks_iff.2 h
mutual
theorem AV.ok_mono {l1 l2:Nat} (h:l1≤l2):∀ {x:AV},x.ok l1=true→x.ok l2=true
 | .v _,_|.any,_|.bl,_=>rfl
 | .ptr ..,h1|.sl ..,h1|.mp ..,h1|.dp ..,h1=>by simp [AV.ok] at h1
 | .fz l _ _,h1|.fp l _,h1=>by
  simp only [AV.ok] at h1 ⊢;exact Nat.ble_eq_true_of_le (Nat.le_trans (Nat.le_of_ble_eq_true h1) h)
 | .agg cs,h1|.tup cs,h1=>by
  simp only [AV.ok] at h1 ⊢;exact AV.oks_mono h h1
 | .fn _ a b,h1=>by
  simp only [AV.ok,Bool.and_eq_true] at h1 ⊢;exact ⟨AV.oks_mono h h1.1,AV.oks_mono h h1.2⟩
 | .ifc _ x,h1=>by
  simp only [AV.ok] at h1 ⊢;exact AV.ok_mono h h1
 | .p _ x,h1=>by
  simp only [AV.ok] at h1 ⊢;exact AV.ok_mono h h1
theorem AV.oks_mono {l1 l2:Nat} (h:l1≤l2):∀ {x:List AV},AV.oks l1 x=true→AV.oks l2 x=true
 | [],_=>rfl
 | c::cs,h1=>by
  simp only [AV.oks,Bool.and_eq_true] at h1 ⊢;exact ⟨AV.ok_mono h h1.1,AV.oks_mono h h1.2⟩
end
structure Loc where
 bo:Option (Nat×Nat)
 ver:Nat
abbrev aD:=Nat→Option Loc
def bp (φ:aD) (b:Nat):Prop:=∃ id l o,φ id=some l∧l.bo=some (b,o)
abbrev aW:=Nat→Nat→Prop
def may (φ:aD) (Λ:aW) (lv b:Nat):Prop:=¬ bp φ b∧∀ k,lv<k→¬ Λ k b
inductive Rep (w:World) (φ:aD) (Λ:aW):AV→Value→Prop
 | v {x}:Rep w φ Λ (.v x) x
 | any {x}:Rep w φ Λ .any x
 | bl {b}:Rep w φ Λ .bl (.bool b)
 | fz0 {lv a cap}:Rep w φ Λ (.fz lv 0 []) (.slice a 0 cap)
 | fz {lv n cells b o cap} (vf:Nat→Value):may φ Λ lv b→n≤cap→(∀ c∈cells,c.ok lv=true)→
  (∀ j,j<cells.length→w.cell? ⟨b,o+j,none⟩=some (vf j))→(∀ j c,cells[j]?=some c→Rep w φ Λ c (vf j))→
  0<cells.length→Rep w φ Λ (.fz lv n cells) (.slice (some ⟨b,o,none⟩) n cap)
 | fp {lv cells b o} (vf:Nat→Value):may φ Λ lv b→(∀ c∈cells,c.ok lv=true)→
  (∀ j,j<cells.length→w.cell? ⟨b,o+j,none⟩=some (vf j))→(∀ j c,cells[j]?=some c→Rep w φ Λ c (vf j))→
  0<cells.length→Rep w φ Λ (.fp lv cells) (.pointer (some ⟨b,o,none⟩))
 | agg {cells vs} (vf:Nat→Value):vs.size=cells.length→(∀ j,j<cells.length→vs[j]?=some (vf j))→(∀ j c,cells[j]?=some c→Rep w φ Λ c (vf j))→
  Rep w φ Λ (.agg cells) (.agg vs)
 | tup {cells vs} (vf:Nat→Value):vs.size=cells.length→(∀ j,j<cells.length→vs[j]?=some (vf j))→(∀ j c,cells[j]?=some c→Rep w φ Λ c (vf j))→
  Rep w φ Λ (.tup cells) (.tuple vs)
 | fn {f first caps a b} (vf wf:Nat→Value):a.size=first.length→(∀ j,j<first.length→a[j]?=some (vf j))→(∀ j c,first[j]?=some c→Rep w φ Λ c (vf j))→
  b.size=caps.length→(∀ j,j<caps.length→b[j]?=some (wf j))→(∀ j c,caps[j]?=some c→Rep w φ Λ c (wf j))→
  Rep w φ Λ (.fn f first caps) (.func f a b)
 | ifc {t x v}:Rep w φ Λ x v→Rep w φ Λ (.ifc t x) (.iface t v)
 | p {D:Value→Prop} {x v}:D v→v.oneCell'=true→Rep w φ Λ x v→Rep w φ Λ (.p D x) v
 | ptr {id ver off l b o}:φ id=some l→l.ver=ver→l.bo=some (b,o)→Rep w φ Λ (.ptr id ver off) (.pointer (some ⟨b,o+off,none⟩))
 | ptrx {id ver off l a}:φ id=some l→ver<l.ver→Rep w φ Λ (.ptr id ver off) (.pointer (some a))
 | sl {id ver off len esz l b o cap arr T m}:φ id=some l→l.ver=ver→l.bo=some (b,o)→w.heap[b]?=some (.cells arr T m)→
  o+off+cap*esz≤arr.size→len≤cap→Rep w φ Λ (.sl id ver off len esz) (.slice (some ⟨b,o+off,none⟩) len cap)
 | sl0 {id ver off esz l a}:φ id=some l→l.ver=ver→Rep w φ Λ (.sl id ver off 0 esz) (.slice a 0 0)
 | slx {id ver off len esz l a cap}:φ id=some l→ver<l.ver→len≤cap→Rep w φ Λ (.sl id ver off len esz) (.slice a len cap)
 | mp {id ver l b o}:φ id=some l→l.ver=ver→l.bo=some (b,o)→Rep w φ Λ (.mp id ver) (.map (some b))
 | mpx {id ver l b}:φ id=some l→ver<l.ver→Rep w φ Λ (.mp id ver) (.map (some b))
 | dp {id ver off len l b o arr T m}:φ id=some l→l.ver=ver→l.bo=some (b,o)→w.heap[b]?=some (.cells arr T m)→o+off+len≤arr.size→Rep w φ Λ (.dp id ver off len) (.pointer (some ⟨b,o+off,none⟩))
 | dp0 {id ver off l a}:φ id=some l→Rep w φ Λ (.dp id ver off 0) (.pointer a)
 | dpx {id ver off len l a}:φ id=some l→ver<l.ver→Rep w φ Λ (.dp id ver off len) (.pointer a)
def Pin (w:World) (φ:aD) (w':World) (φ':aD):Prop:=
 ∀ id l,id<8→φ id=some l→∃ l',φ' id=some l'∧(l'=l∨l.ver<l'.ver)∧
  (l'=l→∀ b o arr T m,l.bo=some (b,o)→w.heap[b]?=some (.cells arr T m)→∃ arr' T' m',w'.heap[b]?=some (.cells arr' T' m')∧arr.size≤arr'.size)
theorem Pin.refl (w:World) (φ:aD):Pin w φ w φ:=fun id l _ h=>⟨l,h,.inl rfl,fun _ b o arr T m _ hh=>⟨arr,T,m,hh,Nat.le_refl _⟩⟩
theorem Pin.trans {w w1 w2:World} {φ φ1 φ2:aD} (h:Pin w φ w1 φ1) (k:Pin w1 φ1 w2 φ2):Pin w φ w2 φ2:=by
 intro id l hid hl;obtain ⟨l1,h1,h2,h3⟩:=h id l hid hl;obtain ⟨l2,k1,k2,k3⟩:=k id l1 hid h1;refine ⟨l2,k1,?_,?_⟩
 · rcases h2 with rfl|h2
   · exact k2
   · rcases k2 with rfl|k2
     · exact .inr h2
     · exact .inr (by omega)
 · intro e b o arr T m hb hh
   have e1:l1=l:=by
    rcases h2 with h2|h2
    · exact h2
    · rcases k2 with rfl|k2
      · exact e
      · subst e;omega
   subst e1;obtain ⟨arr1,T1,m1,g1,g2⟩:=h3 rfl b o arr T m hb hh;obtain ⟨arr2,T2,m2,g3,g4⟩:=k3 e b o arr1 T1 m1 hb g1;exact ⟨arr2,T2,m2,g3,by omega⟩
theorem Pin.none (w w':World) {φ φ':aD} (h:∀ id,id<8→φ id=Option.none):Pin w φ w' φ':=fun id l hid hl=>by
 rw [h id hid] at hl;cases hl
def GJ:Prop:=True
def Unfro (w:World) (b:Nat):Prop:=∀ arr T lo hi,w.heap[b]?=some (.cells arr T (lo,hi))→arr.size≤lo∨hi≤lo
theorem Unfro.out {w:World} {b:Nat} (h:w.heap.size≤b):Unfro w b:=fun arr T lo hi k=>by rw [Array.getElem?_eq_none h] at k;cases k
theorem Unfro.of {w w':World} {b:Nat} (e:w'.heap[b]?=w.heap[b]?) (h:Unfro w b):Unfro w' b:=fun arr T lo hi k=>h arr T lo hi (e▸k)
def Fro (w w':World):Prop:=GJ→∀ b,(b<w.heap.size→Unfro w b)→Unfro w' b
theorem Fro.refl (w:World):Fro w w:=fun _ b h=>(Nat.lt_or_ge b w.heap.size).elim h Unfro.out
theorem Fro.trans {w w1 w2:World} (h:Fro w w1) (k:Fro w1 w2):Fro w w2:=fun t b hb=>k t b fun _=>h t b hb
theorem Fro.same {w w':World} (h:w'.heap=w.heap):Fro w w':=fun t b hb=>(Fro.refl w t b hb).of (by rw [h])
theorem Fro.one {w w':World} {b0:Nat} (ho:∀ b,b≠b0→w'.heap[b]?=w.heap[b]?) (h:(b0<w.heap.size→Unfro w b0)→Unfro w' b0):Fro w w':=fun t b hb=>by
 by_cases e:b=b0
 · subst e;exact h hb
 · exact (Fro.refl w t b hb).of (ho b e)
structure Goes (w:World) (φ:aD) (w':World) (φ':aD):Prop where
 keep:∀ b,b<w.heap.size→¬ bp φ b→w'.heap[b]?=w.heap[b]?
 size:w.heap.size≤w'.heap.size
 own:∀ b,bp φ' b→bp φ b∨w.heap.size≤b
 os:w'.os=w.os
 tape:w'.tape=w.tape
 output:w'.output=w.output
 pin:Pin w φ w' φ'
 fro:Fro w w'
theorem Goes.refl (w:World) (φ:aD):Goes w φ w φ:=⟨fun _ _ _=>rfl,Nat.le_refl _,fun _ h=>.inl h,rfl,rfl,rfl,.refl w φ,.refl w⟩
theorem Goes.trans {w w1 w2:World} {φ φ1 φ2:aD} (h:Goes w φ w1 φ1) (k:Goes w1 φ1 w2 φ2):Goes w φ w2 φ2 where
 keep b hb ho:=by
  have h1:¬ bp φ1 b:=fun h1=>(h.own b h1).elim ho (fun h2=>by omega)
  rw [k.keep b (Nat.lt_of_lt_of_le hb h.size) h1,h.keep b hb ho]
 size:=Nat.le_trans h.size k.size
 own b hb:=by
  rcases k.own b hb with h1|h1
  · exact h.own b h1
  · exact .inr (Nat.le_trans h.size h1)
 os:=k.os.trans h.os
 tape:=k.tape.trans h.tape
 output:=k.output.trans h.output
 pin:=h.pin.trans k.pin
 fro:=h.fro.trans k.fro
theorem may.goes {w w':World} {φ φ':aD} {Λ:aW} (g:Goes w φ w' φ') {lv b:Nat} (hb:b<w.heap.size) (h:may φ Λ lv b):may φ' Λ lv b:=
 ⟨fun h1=>(g.own b h1).elim h.1 (fun h2=>by omega),h.2⟩
def Stays (w:World) (φ:aD) (w':World) (φ':aD):Prop:=
 (∀ id l,φ id=some l→∃ l',φ' id=some l'∧(l'=l∨l.ver<l'.ver))∧
 (∀ id l,φ id=some l→φ' id=some l→∀ b o arr T m,l.bo=some (b,o)→w.heap[b]?=some (.cells arr T m)→∃ arr' T' m',w'.heap[b]?=some (.cells arr' T' m')∧arr.size≤arr'.size)
theorem Stays.pin {w w':World} {φ φ':aD} (st:Stays w φ w' φ'):Pin w φ w' φ':=fun id l _ h=>by
 obtain ⟨l',h1,h2⟩:=st.1 id l h;exact ⟨l',h1,h2,fun e b o arr T m hb hh=>st.2 id l h (e▸h1) b o arr T m hb hh⟩
theorem e9 {w:World} {b o:Nat} {x:Value} (h:w.cell? ⟨b,o,none⟩=some x):b<w.heap.size:=block_lt_of_cell h
theorem Rep.goes {w w':World} {φ φ':aD} {Λ:aW} (g:Goes w φ w' φ') (st:Stays w φ w' φ') {x:AV} {v:Value} (h:Rep w φ Λ x v):Rep w' φ' Λ x v:=by
 induction h with
 | v=>exact .v
 | any=>exact .any
 | bl=>exact .bl
 | fz0=>exact .fz0
 | fz vf hm hn hok hc hr hp ih=>
  have hb:=e9 (hc 0 hp);refine .fz vf (hm.goes g hb) hn hok (fun j hj=>?_) ih hp;rw [World.cell?_of_block (g.keep _ hb hm.1)];exact hc j hj
 | fp vf hm hok hc hr hp ih=>
  have hb:=e9 (hc 0 hp);refine .fp vf (hm.goes g hb) hok (fun j hj=>?_) ih hp;rw [World.cell?_of_block (g.keep _ hb hm.1)];exact hc j hj
 | agg vf h1 h2 h3 ih=>exact .agg vf h1 h2 ih
 | tup vf h1 h2 h3 ih=>exact .tup vf h1 h2 ih
 | fn vf wf h1 h2 h3 h4 h5 h6 ih1 ih2=>exact .fn vf wf h1 h2 ih1 h4 h5 ih2
 | ifc h ih=>exact .ifc ih
 | p a b h ih=>exact .p a b ih
 | ptr h1 h2 h3=>
  obtain ⟨l',h4,h5⟩:=st.1 _ _ h1;rcases h5 with rfl|h5
  · exact .ptr h4 h2 h3
  · exact .ptrx h4 (by omega)
 | ptrx h1 h2=>
  obtain ⟨l',h4,h5⟩:=st.1 _ _ h1;rcases h5 with rfl|h5
  · exact .ptrx h4 h2
  · exact .ptrx h4 (by omega)
 | sl h1 h2 h3 h4 h5 h6=>
  obtain ⟨l',h7,h8⟩:=st.1 _ _ h1;rcases h8 with rfl|h8
  · obtain ⟨arr',T',m',h9,h10⟩:=st.2 _ _ h1 h7 _ _ _ _ _ h3 h4
    exact .sl h7 h2 h3 h9 (by omega) h6
  · exact .slx h7 (by omega) h6
 | sl0 h1 h2=>
  obtain ⟨l',h4,h5⟩:=st.1 _ _ h1;rcases h5 with rfl|h5
  · exact .sl0 h4 h2
  · exact .slx h4 (by omega) (Nat.le_refl _)
 | slx h1 h2 h3=>
  obtain ⟨l',h4,h5⟩:=st.1 _ _ h1;rcases h5 with rfl|h5
  · exact .slx h4 h2 h3
  · exact .slx h4 (by omega) h3
 | mp h1 h2 h3=>
  obtain ⟨l',h4,h5⟩:=st.1 _ _ h1;rcases h5 with rfl|h5
  · exact .mp h4 h2 h3
  · exact .mpx h4 (by omega)
 | dp h1 h2 h3 h4 h5=>
  obtain ⟨l',h7,h8⟩:=st.1 _ _ h1;rcases h8 with rfl|h8
  · obtain ⟨arr',T',m',h9,h10⟩:=st.2 _ _ h1 h7 _ _ _ _ _ h3 h4
    exact .dp h7 h2 h3 h9 (by omega)
  · exact .dpx h7 (by omega)
 | dp0 h1=>
  obtain ⟨l',h7,_⟩:=st.1 _ _ h1;exact .dp0 h7
 | dpx h1 h2=>
  obtain ⟨l',h4,h5⟩:=st.1 _ _ h1;rcases h5 with rfl|h5
  · exact .dpx h4 h2
  · exact .dpx h4 (by omega)
 | mpx h1 h2=>
  obtain ⟨l',h4,h5⟩:=st.1 _ _ h1;rcases h5 with rfl|h5
  · exact .mpx h4 h2
  · exact .mpx h4 (by omega)
theorem Rep.move {w:World} {φ φ':aD} {Λ Λ':aW} {lv:Nat} (hm:∀ lv' b,lv'≤lv→b<w.heap.size→may φ Λ lv' b→may φ' Λ' lv' b) {x:AV} {v:Value}
 (h:Rep w φ Λ x v) (hok:x.ok lv=true):Rep w φ' Λ' x v:=by
 induction h with
 | v=>exact .v
 | any=>exact .any
 | bl=>exact .bl
 | fz0=>exact .fz0
 | fz vf hm' hn hok' hc hr hp ih=>
  have hl:_≤lv:=Nat.le_of_ble_eq_true (by simpa [AV.ok] using hok);refine .fz vf (hm _ _ hl (e9 (hc 0 hp)) hm') hn hok' hc (fun j c hj=>ih j c hj ?_) hp;have h1:=hok' c (List.mem_of_getElem? hj);exact AV.ok_mono hl h1
 | fp vf hm' hok' hc hr hp ih=>
  have hl:_≤lv:=Nat.le_of_ble_eq_true (by simpa [AV.ok] using hok);refine .fp vf (hm _ _ hl (e9 (hc 0 hp)) hm') hok' hc (fun j c hj=>ih j c hj ?_) hp;have h1:=hok' c (List.mem_of_getElem? hj);exact AV.ok_mono hl h1
 | agg vf h1 h2 h3 ih=>exact .agg vf h1 h2 (fun j c hj=>ih j c hj (AV.oks_iff.1 (by simpa [AV.ok] using hok) c (List.mem_of_getElem? hj)))
 | tup vf h1 h2 h3 ih=>exact .tup vf h1 h2 (fun j c hj=>ih j c hj (AV.oks_iff.1 (by simpa [AV.ok] using hok) c (List.mem_of_getElem? hj)))
 | fn vf wf h1 h2 h3 h4 h5 h6 ih1 ih2=>
  simp only [AV.ok,Bool.and_eq_true] at hok;exact .fn vf wf h1 h2 (fun j c hj=>ih1 j c hj (AV.oks_iff.1 hok.1 c (List.mem_of_getElem? hj))) h4 h5 (fun j c hj=>ih2 j c hj (AV.oks_iff.1 hok.2 c (List.mem_of_getElem? hj)))
 | ifc h ih=>exact .ifc (ih (by simpa [AV.ok] using hok))
 | p a b h ih=>exact .p a b (ih (by simpa [AV.ok] using hok))
 | ptr h1 h2 h3=>simp [AV.ok] at hok
 | ptrx h1 h2=>simp [AV.ok] at hok
 | sl h1 h2 h3 h4 h5 h6=>simp [AV.ok] at hok
 | sl0 h1 h2=>simp [AV.ok] at hok
 | slx h1 h2 h3=>simp [AV.ok] at hok
 | mp h1 h2 h3=>simp [AV.ok] at hok
 | mpx h1 h2=>simp [AV.ok] at hok
 | dp h1 h2 h3 h4 h5=>simp [AV.ok] at hok
 | dp0 h1=>simp [AV.ok] at hok
 | dpx h1 h2=>simp [AV.ok] at hok
inductive AObj where
 | gbox (ty:Option TypeId) (cells:List AV)
 | grow (ty:Option TypeId) (cells:List AV) (esz ver:Nat)
 | map (es:List (Value×AV))
 deriving Inhabited
abbrev AObj.box (cells:List AV):AObj:=.gbox none cells
abbrev AObj.row (cells:List AV) (esz ver:Nat):AObj:=.grow none cells esz ver
structure AS where
 t:Nat→AV
 h:Nat→Option AObj
def AS.ev (s:AS):Operand→AV
 | .tmp t=>s.t t
 | .const x=>.v x
 | .global g=>.v (.pointer (some ⟨g,0,none⟩))
 | .func f=>.fn (.func f) [] []
def upd {α:Type} (f:Nat→α) (k:Nat) (x:α):Nat→α:=fun i=>bif Nat.beq i k then x else f i
theorem aZ {α:Type} (f:Nat→α) (k:Nat) (x:α):upd f k x k=x:=by simp [upd]
theorem bf {α:Type} (f:Nat→α) (k i:Nat) (x:α) (h:i≠k):upd f k x i=f i:=by
 have:Nat.beq i k=false:=by
  cases hb:Nat.beq i k with
  | false=>rfl
  | true=>exact absurd (Nat.eq_of_beq_eq_true hb) h
 simp [upd,this]
def AS.put (s:AS):Option Tmp→AV→AS
 | none,_=>s
 | some d,x=>{ s with t:=upd s.t d x }
def AS.seth (s:AS) (id:Nat) (o:Option AObj):AS:={ s with h:=upd s.h id o }
def CellsRep (w:World) (φ:aD) (Λ:aW) (arr:Array Value) (o:Nat) (cells:List AV):Prop:=
 ∀ j c,cells[j]?=some c→∃ v,arr[o+j]?=some v∧Rep w φ Λ c v
def ObjRep (w:World) (φ:aD) (Λ:aW):AObj→Loc→Prop
 | .gbox ty cells,l=>∃ b arr T,l.bo=some (b,0)∧l.ver=0∧w.heap[b]?=some (.cells arr (ty.getD T) (0,0))∧arr.size=cells.length∧CellsRep w φ Λ arr 0 cells
 | .grow ty cells esz ver,l=>l.ver=ver∧((l.bo=none∧cells=[])∨∃ b o arr T lo hi,l.bo=some (b,o)∧w.heap[b]?=some (.cells arr (ty.getD T) (lo,hi))∧
  (arr.size≤lo∨hi≤lo)∧o+cells.length≤arr.size∧CellsRep w φ Λ arr o cells)
 | .map es,l=>∃ b ents clock,l.bo=some (b,0)∧l.ver=0∧w.heap[b]?=some (.map ents clock)∧ents.size=es.length∧
  ∀ (j:Nat) (p:Value×AV),es[j]?=some p→∃ e:MapEntry,ents[j]?=some e∧e.key=p.1∧Rep w φ Λ p.2 e.val
structure HSim (w:World) (φ:aD) (Λ:aW) (h:Nat→Option AObj):Prop where
 heap:∀ id ob,h id=some ob→∃ l,φ id=some l∧ObjRep w φ Λ ob l
 dom:∀ id,h id=none→φ id=none
 lt:∀ id l b o,φ id=some l→l.bo=some (b,o)→b<w.heap.size∧∀ k,¬ Λ k b
 inj:∀ id id' l l' b o o',φ id=some l→φ id'=some l'→l.bo=some (b,o)→l'.bo=some (b,o')→id=id'
 lent:∀ k b,Λ k b→b<w.heap.size
structure Sim (n:Nat) (w:World) (φ:aD) (Λ:aW) (s:AS) (a:Act):Prop where
 defs:a.defers=[]
 size:a.tmps.size=n
 tmps:∀ i,Rep w φ Λ (s.t i) (a.tmps.getD i undef)
 hs:HSim w φ Λ s.h
theorem Sim.ev {n:Nat} {w:World} {φ:aD} {Λ:aW} {s:AS} {a:Act} (h:Sim n w φ Λ s a) (x:Operand):Rep w φ Λ (s.ev x) (a.eval x):=by
 cases x with
 | tmp t=>exact h.tmps t
 | const v=>exact .v
 | global g=>exact .v
 | func f=>exact .fn (fun _=>undef) (fun _=>undef) rfl (fun j hj=>by simp at hj) (fun j c hc=>by simp at hc) rfl (fun j hj=>by simp at hj) (fun j c hc=>by simp at hc)
theorem Sim.put {n:Nat} {w:World} {φ:aD} {Λ:aW} {s:AS} {a:Act} (h:Sim n w φ Λ s a) (d:Option Tmp) (hd:(d.all (Nat.blt · n))=true) {x:AV} {v:Value}
 (hx:Rep w φ Λ x v):Sim n w φ Λ (s.put d x) (a.put d v):=by
 cases d with
 | none=>exact h
 | some d=>
  have hd':d<n:=by
   simp only [Option.all_some] at hd;exact Nat.blt_eq.mp hd
  refine ⟨h.defs,by simp [Act.put,h.size],fun i=>?_,h.hs⟩;simp only [AS.put,Act.put];by_cases hi:i=d
  · subst hi
    rw [aZ];have:(a.tmps.setIfInBounds i v).getD i undef=v:=by simp [Array.getD,h.size,hd']
    rw [this];exact hx
  · rw [bf _ _ _ _ hi]
    have:(a.tmps.setIfInBounds d v).getD i undef=a.tmps.getD i undef:=by
     simp only [Array.getD_eq_getD_getElem?,Array.getElem?_setIfInBounds];rw [if_neg (fun e=>hi e.symm)]
    rw [this];exact h.tmps i
inductive AExit where
 | normal
 | exit (id:Nat)
 | goto (l:Nat)
 | ret
 | panic (x:Value)
def AExit.conc:AExit→Exit
 | .normal=>.normal
 | .exit id=>.exit id
 | .goto l=>.goto l
 | .ret=>.ret
 | .panic x=>.panic [{ v:=x,recovered:=false }]
abbrev bB:=AExit→AS→Prop
def AWp (P:Program) (n:Nat) (c:Code) (Q:bB) (s:AS):Prop:=
 ∀ Λ w φ a,Sim n w φ Λ s a→∀ QQ:Exit→Act→World→Prop,
  (∀ ae s' w' φ' a',Q ae s'→Sim n w' φ' Λ s' a'→Goes w φ w' φ'→QQ ae.conc a' w')→c.wp P QQ a w
def AOps (P:Program) (n:Nat) (ops:Array Oper) (Q:bB) (l:List Nat) (s:AS):Prop:=
 ∀ Λ w φ a,Sim n w φ Λ s a→∀ QQ:Exit→Act→World→Prop,
  (∀ ae s' w' φ' a',Q ae s'→Sim n w' φ' Λ s' a'→Goes w φ w' φ'→QQ ae.conc a' w')→wpOps P ops QQ l a w
def OpOk (P:Program) (n:Nat) (o:Oper) (s s':AS):Prop:=
 ∀ Λ w φ a,Sim n w φ Λ s a→∀ (next:Act→World→Prop) (QQ:Exit→Act→World→Prop),
  (∀ w' φ' a',Sim n w' φ' Λ s' a'→Goes w φ w' φ'→next a' w')→o.wp P a w next QQ
section rules
variable {P:Program} {n:Nat} {Q:bB} {s:AS}
theorem AWp.mono {c:Code} {Q':bB} (h:AWp P n c Q s) (hq:∀ e s,Q e s→Q' e s):AWp P n c Q' s:=
 fun Λ w φ a hs QQ hQ=>h Λ w φ a hs QQ fun ae s' w' φ' a' q=>hQ ae s' w' φ' a' (hq _ _ q)
theorem AWp.skip (h:Q .normal s):AWp P n .skip Q s:=fun _ w φ a hs _ hQ=>wp_skip (hQ .normal s w φ a h hs (Goes.refl _ _))
theorem AWp.label {l:Nat} (h:Q .normal s):AWp P n (.label l) Q s:=fun _ w φ a hs _ hQ=>wp_label (hQ .normal s w φ a h hs (Goes.refl _ _))
theorem AWp.exit {id:Nat} (h:Q (.exit id) s):AWp P n (.exit id) Q s:=fun _ w φ a hs _ hQ=>wp_exit (hQ (.exit id) s w φ a h hs (Goes.refl _ _))
theorem AWp.goto {l:Nat} (h:Q (.goto l) s):AWp P n (.goto l) Q s:=fun _ w φ a hs _ hQ=>wp_goto (hQ (.goto l) s w φ a h hs (Goes.refl _ _))
theorem AWp.ret (h:Q .ret s):AWp P n .ret Q s:=fun _ w φ a hs _ hQ=>wp_ret (hQ .ret s w φ a h hs (Goes.refl _ _))
def AExit.then (next:AS→Prop) (Q:bB):bB
 | .normal,s=>next s
 | e,s=>Q e s
theorem AWp.seq {x y:Code} (h:AWp P n x (AExit.then (AWp P n y Q) Q) s):AWp P n (.seq x y) Q s:=by
 intro Λ w φ a hs QQ hQ;refine wp_seq (h Λ w φ a hs _ ?_);intro ae s' w' φ' a' q hs' g;cases ae with
 | normal=>exact q Λ w' φ' a' hs' QQ fun ae s2 w2 φ2 a2 q2 hs2 g2=>hQ ae s2 w2 φ2 a2 q2 hs2 (g.trans g2)
 | exit id=>exact hQ _ s' w' φ' a' q hs' g
 | goto l=>exact hQ _ s' w' φ' a' q hs' g
 | ret=>exact hQ _ s' w' φ' a' q hs' g
 | panic v=>exact hQ _ s' w' φ' a' q hs' g
theorem AWp.cond {c:Operand} {x y:Code} {b:Bool} (hc:s.ev c=.v (.bool b)) (ht:b=true→AWp P n x Q s) (hf:b=false→AWp P n y Q s):AWp P n (.cond c x y) Q s:=by
 intro Λ w φ a hs QQ hQ;have he:=hs.ev c;rw [hc] at he;generalize hv:a.eval c=v at he;cases he;exact wp_cond_split hv (fun e=>ht e Λ w φ a hs QQ hQ) (fun e=>hf e Λ w φ a hs QQ hQ)
def AExit.inBlock (id:Nat) (Q:bB):bB
 | .exit id',s=>if id'=id then Q .normal s else Q (.exit id') s
 | e,s=>Q e s
theorem AWp.block {id:Nat} {c:Code} (h:AWp P n c (AExit.inBlock id Q) s):AWp P n (.block id c) Q s:=by
 intro Λ w φ a hs QQ hQ;refine wp_block (h Λ w φ a hs _ ?_);intro ae s' w' φ' a' q hs' g;cases ae with
 | normal=>exact hQ .normal s' w' φ' a' q hs' g
 | exit id'=>
  simp only [AExit.inBlock] at q;simp only [AExit.conc,Exit.inBlock];split at q
  · rename_i e
    rw [if_pos e];exact hQ .normal s' w' φ' a' q hs' g
  · rename_i e
    rw [if_neg e];exact hQ (.exit id') s' w' φ' a' q hs' g
 | goto l=>exact hQ _ s' w' φ' a' q hs' g
 | ret=>exact hQ _ s' w' φ' a' q hs' g
 | panic v=>exact hQ _ s' w' φ' a' q hs' g
def Weak (s s':AS):Prop:=∀ n Λ w φ a,Sim n w φ Λ s a→∃ φ',Sim n w φ' Λ s' a∧Goes w φ w φ'
theorem Weak.refl (s:AS):Weak s s:=fun _ _ w φ _ h=>⟨φ,h,Goes.refl w φ⟩
theorem AWp.weak {c:Code} {s':AS} (hw:Weak s s') (h:AWp P n c Q s'):AWp P n c Q s:=by
 intro Λ w φ a hs QQ hQ;obtain ⟨φ1,hs1,g1⟩:=hw n Λ w φ a hs;exact h Λ w φ1 a hs1 QQ fun ae s2 w2 φ2 a2 q2 hs2 g2=>hQ ae s2 w2 φ2 a2 q2 hs2 (g1.trans g2)
theorem AWp.loop {α:Type} {c:Code} (S:α→AS) (μ:α→Nat) (x0:α) (h0:Weak s (S x0))
 (round:∀ x,AWp P n c (AExit.then (fun s'=>∃ x',Weak s' (S x')∧μ x'<μ x) Q) (S x)):AWp P n (.loop c) Q s:=by
 intro Λ w φ a hs QQ hQ;obtain ⟨φ0,hs0,g0⟩:=h0 n Λ w φ a hs
 let I:Nat→Act→World→Prop:=fun m a' w'=>∃ x φ',μ x=m∧Sim n w' φ' Λ (S x) a'∧Goes w φ w' φ'
 refine wp_loop_ghost I (μ x0) ⟨x0,φ0,rfl,hs0,g0⟩ ?_;rintro m a' w' ⟨x,φ',hm,hs',g⟩;refine round x Λ w' φ' a' hs' _ ?_;intro ae s2 w2 φ2 a2 q2 hs2 g2;cases ae with
 | normal=>
  obtain ⟨x',hw',hlt⟩:=q2;obtain ⟨φ3,hs3,g3⟩:=hw' n Λ w2 φ2 a2 hs2;exact ⟨μ x',by omega,x',φ3,rfl,hs3,(g.trans g2).trans g3⟩
 | exit id=>exact hQ _ s2 w2 φ2 a2 q2 hs2 (g.trans g2)
 | goto l=>exact hQ _ s2 w2 φ2 a2 q2 hs2 (g.trans g2)
 | ret=>exact hQ _ s2 w2 φ2 a2 q2 hs2 (g.trans g2)
 | panic v=>exact hQ _ s2 w2 φ2 a2 q2 hs2 (g.trans g2)
end rules
inductive ZC where
 | int (k:IntKind)|bool|str|ptr|slice|map|func|iface
def ZC.val:ZC→Value
 | .int k=>.int k 0
 | .bool=>.bool false
 | .str=>.string ⟨#[]⟩
 | .ptr=>.pointer none
 | .slice=>.slice none 0 0
 | .map=>.map none
 | .func=>.nilFunc
 | .iface=>.nilIface
def ZC.chk:ZC→Value→Bool
 | .int k,.int k' n=>k == k'&&n == 0
 | .bool,.bool b=>!b
 | .str,.string s=>s.data.toList.isEmpty
 | .ptr,.pointer none=>true
 | .slice,.slice none 0 0=>true
 | .map,.map none=>true
 | .func,.nilFunc=>true
 | .iface,.nilIface=>true
 | _,_=>false
theorem ZC.chk_eq {z:ZC} {v:Value} (h:z.chk v=true):v=z.val:=by
 unfold ZC.chk at h;split at h<;>simp_all [ZC.val]
 · rename_i s
   obtain ⟨⟨l⟩⟩:=s;simp at h;subst h;rfl
inductive TK where
 | int (k:IntKind)|bool|str
 | slice (e:TypeId)|ptr (e:TypeId)|arr (n:Nat) (e:TypeId)
 | struct (fs:List (Nat×TypeId))
 | map (k e:TypeId)|iface (bare:Bool)|func|other
structure TI where
 k:TK
 size:Nat
 bytes:Nat
 zero:List ZC
def TK.agg:TK→Bool
 | .arr ..|.struct _=>true
 | _=>false
def TK.chk:TK→TypeDesc→Bool
 | .int k,.int k'=>k == k'
 | .bool,.bool|.str,.string|.func,.func ..=>true
 | .slice e,.slice e'=>Nat.beq e e'
 | .ptr e,.pointer e'=>Nat.beq e e'
 | .arr n e,.array n' e'=>Nat.beq n n'&&Nat.beq e e'
 | .struct l,.struct fs=>l == fs.toList.map fun f=>(f.offset,f.type)
 | .map k e,.map k' e'=>Nat.beq k k'&&Nat.beq e e'
 | .iface b,.interface ms=>ms.isEmpty == b
 | _,_=>false
def gS:List ZC→List Value→Bool
 | [],[]=>true
 | z::zs,v::vs=>z.chk v&&gS zs vs
 | _,_=>false
theorem fY:∀ {zs:List ZC} {vs:List Value},gS zs vs=true→vs=zs.map ZC.val
 | [],[],_=>rfl
 | z::zs,v::vs,h=>by
  simp only [gS,Bool.and_eq_true] at h;rw [ZC.chk_eq h.1,fY h.2];rfl
 | [],_::_,h=>by simp [gS] at h
 | _::_,[],h=>by simp [gS] at h
def TI.zeroChk (i:TI) (z:Value):Bool:=
 match z with
 | .agg cs=>i.k.agg&&gS i.zero cs.toList
 | .tuple _=>false
 | v=>!i.k.agg&&gS i.zero [v]
def TI.chk (P:Program) (t:TypeId) (i:TI):Bool:=
 match P.info? t,P.underlying t with
 | some f,some d=>Nat.beq f.size i.size&&Nat.beq f.bytes i.bytes&&i.k.chk d&&(match f.zero with|some z=>i.zeroChk z&&Nat.beq i.zero.length i.size|none=>false)
 | _,_=>false
abbrev TE:=List (TypeId×TI)
def TE.get:TE→TypeId→Option TI
 | [],_=>none
 | (k,i)::r,t=>bif Nat.beq t k then some i else TE.get r t
def TEok (P:Program) (te:TE):Prop:=(te.all fun p=>p.2.chk P p.1)=true
section
variable {P:Program} {te:TE}
theorem TEok.chk (h:TEok P te) {t:TypeId} {i:TI} (hg:te.get t=some i):i.chk P t=true:=by
 unfold TEok at h;induction te with
 | nil=>simp [TE.get] at hg
 | cons p r ih=>
  obtain ⟨k,j⟩:=p;simp only [List.all_cons,Bool.and_eq_true] at h;simp only [TE.get] at hg;cases hb:Nat.beq t k with
  | true=>
   rw [hb] at hg;simp only [cond_true,Option.some.injEq] at hg;have:=Nat.eq_of_beq_eq_true hb;subst this;subst hg;exact h.1
  | false=>
   rw [hb] at hg;exact ih h.2 hg
structure Tells (P:Program) (t:TypeId) (i:TI):Prop where
 info:∃ f z,P.info? t=some f∧f.size=i.size∧f.bytes=i.bytes∧f.zero=some z∧z.cells=(i.zero.map ZC.val).toArray∧i.zero.length=i.size∧
  z=(if i.k.agg then .agg (i.zero.map ZC.val).toArray else (i.zero.map ZC.val).headD undef)
 desc:∃ d,P.underlying t=some d∧i.k.chk d=true
theorem TEok.tells (h:TEok P te) {t:TypeId} {i:TI} (hg:te.get t=some i):Tells P t i:=by
 have hc:=h.chk hg;unfold TI.chk at hc;split at hc
 · rename_i f d h1 h2
   simp only [Bool.and_eq_true] at hc;obtain ⟨⟨⟨a,b⟩,c⟩,e⟩:=hc;split at e
   · rename_i z hz
     simp only [Bool.and_eq_true] at e;have e2:=Nat.eq_of_beq_eq_true e.2;refine ⟨⟨f,z,h1,Nat.eq_of_beq_eq_true a,Nat.eq_of_beq_eq_true b,hz,?_,e2,?_⟩,d,h2,c⟩
     · have e1:=e.1
       unfold TI.zeroChk at e1;split at e1
       · rename_i cs
         simp only [Bool.and_eq_true] at e1;have:=fY e1.2;simp only [Value.cells,← this,Array.toArray_toList]
       · simp at e1
       · rename_i hn1 hn2
         simp only [Bool.and_eq_true] at e1;have h3:=fY e1.2;have h4:z.cells=#[z]:=by cases z<;>simp_all [Value.cells]
         rw [h4,← h3]
     · have e1:=e.1
       unfold TI.zeroChk at e1;split at e1
       · rename_i cs
         simp only [Bool.and_eq_true] at e1;have:=fY e1.2;rw [if_pos e1.1,← this,Array.toArray_toList]
       · simp at e1
       · rename_i hn1 hn2
         simp only [Bool.and_eq_true,Bool.not_eq_true'] at e1;have h3:=fY e1.2;rw [e1.1,← h3];rfl
   · simp at e
 · simp at hc
theorem Tells.run_sizeOf {t:TypeId} {i:TI} (h:Tells P t i) (w:World):(sizeOf t).run P w=.ok i.size w:=by
 obtain ⟨f,z,h1,h2,_⟩:=h.info;simp [sizeOf,typeInfo,h1,h2]
theorem Tells.run_isAgg {t:TypeId} {i:TI} (h:Tells P t i) (w:World):(isAgg t).run P w=.ok i.k.agg w:=by
 obtain ⟨d,h1,h2⟩:=h.desc;unfold isAgg;rw [Sem.run_bind,run_underlying h1 w];obtain ⟨k,_,_,_⟩:=i;cases k<;>cases d<;>simp_all [TK.chk,TK.agg]
theorem Tells.run_zero {t:TypeId} {i:TI} (h:Tells P t i) (w:World):∃ z,(zeroValue t).run P w=.ok z w∧z.cells=(i.zero.map ZC.val).toArray∧
 z=(if i.k.agg then .agg (i.zero.map ZC.val).toArray else (i.zero.map ZC.val).headD undef):=by
 obtain ⟨f,z,h1,h2,h3,h4,h5,h6,h7⟩:=h.info;exact ⟨z,by simp [zeroValue,typeInfo,h1,h4],h5,h7⟩
theorem Tells.slice {t e:TypeId} {i:TI} (h:Tells P t i) (hk:i.k=.slice e):P.underlying t=some (.slice e):=by
 obtain ⟨d,h1,h2⟩:=h.desc;rw [hk] at h2;cases d<;>first|(simp [TK.chk] at h2;done)|skip
 have e1:=Nat.eq_of_beq_eq_true h2;subst e1;exact h1
theorem Tells.ptr {t e:TypeId} {i:TI} (h:Tells P t i) (hk:i.k=.ptr e):P.underlying t=some (.pointer e):=by
 obtain ⟨d,h1,h2⟩:=h.desc;rw [hk] at h2;cases d<;>first|(simp [TK.chk] at h2;done)|skip
 have e1:=Nat.eq_of_beq_eq_true h2;subst e1;exact h1
theorem Tells.str {t:TypeId} {i:TI} (h:Tells P t i) (hk:i.k=.str):P.underlying t=some .string:=by
 obtain ⟨d,h1,h2⟩:=h.desc;rw [hk] at h2;cases d<;>simp [TK.chk] at h2
 rw [h1]
theorem Tells.int {t:TypeId} {k:IntKind} {i:TI} (h:Tells P t i) (hk:i.k=.int k):P.underlying t=some (.int k):=by
 obtain ⟨d,h1,h2⟩:=h.desc;rw [hk] at h2;cases d<;>simp [TK.chk] at h2
 rw [h1,h2]
theorem Tells.bool {t:TypeId} {i:TI} (h:Tells P t i) (hk:i.k=.bool):P.underlying t=some .bool:=by
 obtain ⟨d,h1,h2⟩:=h.desc;rw [hk] at h2;cases d<;>simp [TK.chk] at h2
 rw [h1]
theorem Tells.arr {t e:TypeId} {n:Nat} {i:TI} (h:Tells P t i) (hk:i.k=.arr n e):P.underlying t=some (.array n e):=by
 obtain ⟨d,h1,h2⟩:=h.desc;rw [hk] at h2;cases d<;>first|(simp [TK.chk] at h2;done)|skip
 simp only [TK.chk,Bool.and_eq_true] at h2;have e1:=Nat.eq_of_beq_eq_true h2.1;have e2:=Nat.eq_of_beq_eq_true h2.2;subst e1;subst e2;exact h1
theorem Tells.map {t k e:TypeId} {i:TI} (h:Tells P t i) (hk:i.k=.map k e):P.underlying t=some (.map k e):=by
 obtain ⟨d,h1,h2⟩:=h.desc;rw [hk] at h2;cases d<;>first|(simp [TK.chk] at h2;done)|skip
 simp only [TK.chk,Bool.and_eq_true] at h2;have e1:=Nat.eq_of_beq_eq_true h2.1;have e2:=Nat.eq_of_beq_eq_true h2.2;subst e1;subst e2;exact h1
theorem Tells.struct {t:TypeId} {l:List (Nat×TypeId)} {i:TI} (h:Tells P t i) (hk:i.k=.struct l) :
 ∃ fs:Array Field,P.underlying t=some (.struct fs)∧fs.toList.map (fun f=>(f.offset,f.type))=l:=by
 obtain ⟨d,h1,h2⟩:=h.desc;rw [hk] at h2;cases d<;>simp [TK.chk] at h2
 exact ⟨_,h1,by simpa using h2.symm⟩
end
structure Chg (w:World) (φ:aD) (Λ:aW) (h:Nat→Option AObj) (id:Nat) (l':Loc) (w':World):Prop where
 hs:HSim w φ Λ h
 size:w.heap.size≤w'.heap.size
 os:w'.os=w.os
 tape:w'.tape=w.tape
 output:w'.output=w.output
 other:∀ k,k<w.heap.size→(∀ l b o,φ id=some l→l.bo=some (b,o)→k≠b)→w'.heap[k]?=w.heap[k]?
 loc:∀ b' o',l'.bo=some (b',o')→b'<w'.heap.size∧(w.heap.size≤b'∨∃ l o,φ id=some l∧l.bo=some (b',o))
 ver:∀ l,φ id=some l→l'=l∨l.ver<l'.ver
 sizes:∀ l,φ id=some l→l'=l→∀ b o arr T m,l.bo=some (b,o)→w.heap[b]?=some (.cells arr T m)→∃ arr' T' m',w'.heap[b]?=some (.cells arr' T' m')∧arr.size≤arr'.size
 fro:Fro w w'
section
variable {w w':World} {φ:aD} {Λ:aW} {h:Nat→Option AObj} {id:Nat} {l':Loc}
theorem Chg.stays (c:Chg w φ Λ h id l' w'):Stays w φ w' (upd φ id (some l')):=by
 constructor
 · intro i l h1
   by_cases hi:i=id
   · subst hi
     exact ⟨l',aZ _ _ _,c.ver l h1⟩
   · exact ⟨l,by rw [bf _ _ _ _ hi];exact h1,.inl rfl⟩
 · intro i l h1 h2 b o arr T m h3 h4
   by_cases hi:i=id
   · subst hi
     rw [aZ] at h2;cases h2;exact c.sizes l' h1 rfl b o arr T m h3 h4
   · have hb:=(c.hs.lt i l b o h1 h3).1
     rw [c.other b hb fun l2 b2 o2 h5 h6 e=>hi (c.hs.inj i id l l2 b o o2 h1 h5 h3 (by rw [h6,e]))];exact ⟨arr,T,m,h4,Nat.le_refl _⟩
theorem Chg.goes (c:Chg w φ Λ h id l' w'):Goes w φ w' (upd φ id (some l')) where
 keep b hb ho:=c.other b hb fun l b' o h1 h2 e=>ho ⟨id,l,o,h1,by rw [h2,e]⟩
 size:=c.size
 own b:=by
  rintro ⟨i,l,o,h1,h2⟩;by_cases hi:i=id
  · subst hi
    rw [aZ] at h1;cases h1;rcases (c.loc b o h2).2 with h3|⟨l0,o0,h3,h4⟩
    · exact .inr h3
    · exact .inl ⟨_,l0,o0,h3,h4⟩
  · rw [bf _ _ _ _ hi] at h1
    exact .inl ⟨i,l,o,h1,h2⟩
 os:=c.os
 tape:=c.tape
 output:=c.output
 pin:=c.stays.pin
 fro:=c.fro
theorem Chg.rep (c:Chg w φ Λ h id l' w') {x:AV} {v:Value} (hx:Rep w φ Λ x v):Rep w' (upd φ id (some l')) Λ x v:=hx.goes c.goes c.stays
theorem CellsRep.goes {φ':aD} (g:Goes w φ w' φ') (st:Stays w φ w' φ') {arr:Array Value} {o:Nat} {cells:List AV} (hc:CellsRep w φ Λ arr o cells) :
 CellsRep w' φ' Λ arr o cells:=fun j c hj=>by
 obtain ⟨v,h1,h2⟩:=hc j c hj;exact ⟨v,h1,h2.goes g st⟩
theorem ObjRep.goes {φ':aD} (g:Goes w φ w' φ') (st:Stays w φ w' φ') {ob:AObj} {l:Loc} (hb:∀ b o,l.bo=some (b,o)→w'.heap[b]?=w.heap[b]?)
 (ho:ObjRep w φ Λ ob l):ObjRep w' φ' Λ ob l:=by
 cases ob with
 | gbox ty cells=>
  obtain ⟨b,arr,T,h1,h2,h3,h4,h5⟩:=ho;exact ⟨b,arr,T,h1,h2,by rw [hb b 0 h1];exact h3,h4,h5.goes g st⟩
 | grow ty cells esz ver=>
  obtain ⟨h0,h1⟩:=ho;refine ⟨h0,?_⟩;rcases h1 with h1|⟨b,o,arr,T,lo,hi,h1,h2,h3,h4,h5⟩
  · exact .inl h1
  · exact .inr ⟨b,o,arr,T,lo,hi,h1,by rw [hb b o h1];exact h2,h3,h4,h5.goes g st⟩
 | map es=>
  obtain ⟨b,ents,clock,h1,h2,h3,h4,h5⟩:=ho;refine ⟨b,ents,clock,h1,h2,by rw [hb b 0 h1];exact h3,h4,fun j p hp=>?_⟩;obtain ⟨e,h6,h7,h8⟩:=h5 j p hp;exact ⟨e,h6,h7,h8.goes g st⟩
theorem Chg.hsim (c:Chg w φ Λ h id l' w') {ob':AObj} (hob:ObjRep w' (upd φ id (some l')) Λ ob' l'):HSim w' (upd φ id (some l')) Λ (upd h id (some ob')) where
 heap i ob hi:=by
  by_cases he:i=id
  · subst he
    rw [aZ] at hi;cases hi;exact ⟨l',aZ _ _ _,hob⟩
  · rw [bf _ _ _ _ he] at hi
    obtain ⟨l,h1,h2⟩:=c.hs.heap i ob hi;refine ⟨l,by rw [bf _ _ _ _ he];exact h1,h2.goes c.goes c.stays fun b o h3=>?_⟩;have hb:=(c.hs.lt i l b o h1 h3).1;exact c.other b hb fun l2 b2 o2 h5 h6 e=>he (c.hs.inj i id l l2 b o o2 h1 h5 h3 (by rw [h6,e]))
 dom i hi:=by
  by_cases he:i=id
  · subst he
    rw [aZ] at hi;cases hi
  · rw [bf _ _ _ _ he] at hi ⊢
    exact c.hs.dom i hi
 lt i l b o h1 h2:=by
  by_cases he:i=id
  · subst he
    rw [aZ] at h1;cases h1;obtain ⟨h3,h4⟩:=c.loc b o h2;refine ⟨h3,fun k hk=>?_⟩;rcases h4 with h4|⟨l0,o0,h4,h5⟩
    · have:=c.hs.lent k b hk
      omega
    · exact (c.hs.lt _ l0 b o0 h4 h5).2 k hk
  · rw [bf _ _ _ _ he] at h1
    obtain ⟨h3,h4⟩:=c.hs.lt i l b o h1 h2;exact ⟨Nat.lt_of_lt_of_le h3 c.size,h4⟩
 inj i i' l l2 b o o' h1 h2 h3 h4:=by
  by_cases he:i=id
  · by_cases he':i'=id
    · rw [he,he']
    · subst he
      rw [aZ] at h1;cases h1;rw [bf _ _ _ _ he'] at h2;rcases (c.loc b o h3).2 with h5|⟨l0,o0,h5,h6⟩
      · have:=(c.hs.lt i' l2 b o' h2 h4).1
        omega
      · exact (c.hs.inj i' i l2 l0 b o' o0 h2 h5 h4 h6).symm
  · by_cases he':i'=id
    · subst he'
      rw [aZ] at h2;cases h2;rw [bf _ _ _ _ he] at h1;rcases (c.loc b o' h4).2 with h5|⟨l0,o0,h5,h6⟩
      · have:=(c.hs.lt i l b o h1 h3).1
        omega
      · exact c.hs.inj i i' l l0 b o o0 h1 h5 h3 h6
    · rw [bf _ _ _ _ he] at h1
      rw [bf _ _ _ _ he'] at h2;exact c.hs.inj i i' l l2 b o o' h1 h2 h3 h4
 lent k b hk:=Nat.lt_of_lt_of_le (c.hs.lent k b hk) c.size
end
theorem mi (w:World) (φ:aD):Stays w φ w.drew φ:=⟨fun id l h=>⟨l,h,.inl rfl⟩,fun _ _ _ _ _ _ arr T m _ h=>⟨arr,T,m,h,Nat.le_refl _⟩⟩
theorem gR (w:World) (φ:aD):Goes w φ w.drew φ:=⟨fun _ _ _=>rfl,Nat.le_refl _,fun _ h=>.inl h,rfl,rfl,rfl,(mi w φ).pin,.same rfl⟩
theorem HSim.drew {w:World} {φ:aD} {Λ:aW} {h:Nat→Option AObj} (hs:HSim w φ Λ h):HSim w.drew φ Λ h where
 heap id ob hi:=by
  obtain ⟨l,h1,h2⟩:=hs.heap id ob hi;exact ⟨l,h1,h2.goes (gR w φ) (mi w φ) fun _ _ _=>rfl⟩
 dom:=hs.dom
 lt:=hs.lt
 inj:=hs.inj
 lent:=hs.lent
theorem Sim.drew {n:Nat} {w:World} {φ:aD} {Λ:aW} {s:AS} {a:Act} (hs:Sim n w φ Λ s a):Sim n w.drew φ Λ s a:=
 ⟨hs.defs,hs.size,fun i=>(hs.tmps i).goes (gR w φ) (mi w φ),hs.hs.drew⟩
def jM (agg:Bool) (cs:List AV):AV:=bif agg then .agg cs else cs.headD .any
section
variable {P:Program} {w:World} {φ:aD} {Λ:aW}
theorem ii {t:TypeId} {i:TI} (ht:Tells P t i) (b o:Nat) (cs:List AV) (vf:Nat→Value) (hl:cs.length=i.size) (h0:0<i.size)
 (hc:∀ j,j<cs.length→w.cell? ⟨b,o+j,none⟩=some (vf j)) (hr:∀ j c,cs[j]?=some c→Rep w φ Λ c (vf j)) :
 ∃ x,(loadVar t ⟨b,o,none⟩).run P w=.ok x w∧Rep w φ Λ (jM i.k.agg cs) x:=by
 have hcell:∀ j,j<i.size→w.cell? ((⟨b,o,none⟩:Addr).add j)=some (vf j):=by
  intro j hj;rw [Addr.add_lit];exact hc j (by omega)
 cases hk:i.k.agg with
 | true=>
  refine ⟨.agg ((List.range i.size).map vf).toArray,?_,?_⟩
  · simp only [loadVar,Sem.run_bind,ht.run_isAgg,Result.andThen_ok,hk,if_true,ht.run_sizeOf,run_loadCells w _ i.size vf hcell,Sem.run_pure]
  · simp only [jM,cond_true]
    refine .agg vf (by simp [hl]) (fun j hj=>?_) hr;have hj':j<i.size:=by omega
    simp [hj']
 | false=>
  have h1:=hc 0 (by omega);simp only [Nat.add_zero] at h1;refine ⟨vf 0,?_,?_⟩
  · simp only [loadVar,Sem.run_bind,ht.run_isAgg,Result.andThen_ok,hk,Bool.false_eq_true,if_false,run_load,h1]
  · simp only [jM,cond_false]
    cases cs with
    | nil=>simp at hl;omega
    | cons c r=>exact hr 0 c rfl
theorem dX (g o:Nat) (T:TypeId) (lo hi:Nat):∀ (vs:List Value) (i:Nat) (cur:Array Value) (w:World),w.heap[g]?=some (.cells cur T (lo,hi))→
 (cur.size≤lo∨hi≤lo)→o+i+vs.length≤cur.size→(∀ v∈vs,v.oneCell'=true)→
 (storeCells ⟨g,o,none⟩ vs i).run P w=.ok () (w.setRow g (cur.toList.take (o+i)++vs++cur.toList.drop (o+i+vs.length)).toArray)
 | [],i,cur,w,hg,_,_,_=>by
  simp only [storeCells,List.append_nil,List.length_nil,Nat.add_zero,List.take_append_drop,Array.toArray_toList];rw [setRow_self w g cur T (lo,hi) hg];rfl
 | v::rest,i,cur,w,hg,hf,hl,h1=>by
  simp only [List.length_cons] at hl;have hi':o+i<cur.size:=by omega
  have hcell:w.cell? ⟨g,o+i,none⟩=some cur[o+i]:=by simp [World.cell?,hg,hi']
  have hfro:w.frozen? ⟨g,o+i,none⟩=false:=by
   simp only [World.frozen?,hg,Bool.and_eq_false_iff,decide_eq_false_iff_not];omega
  have hst:(store ((⟨g,o,none⟩:Addr).add i) v).run P w=.ok () (w.setRow g (cur.setIfInBounds (o+i) v)):=by
   rw [Addr.add_lit,run_store P w _ v _ (h1 v (by simp)),hcell];simp [hfro,setCell_eq_setRow w g (o+i) cur T (lo,hi) v hg]
  have ih:=dX g o T lo hi rest (i+1) (cur.setIfInBounds (o+i) v) (w.setRow g (cur.setIfInBounds (o+i) v)) (setRow_heap w g cur _ T _ hg) (by simpa using hf)
   (by simp only [Array.size_setIfInBounds];omega) (fun x hx=>h1 x (by simp [hx]))
  simp only [storeCells,Sem.run_bind,hst,Result.andThen_ok,ih,setRow_setRow];congr 3;have e:=list_seg_step cur.toList (o+i) v rest (by simp only [Array.length_toList];omega)
  simpa [Array.toList_setIfInBounds,Nat.add_assoc] using e
end
abbrev str (l:List UInt8):AV:=.v (.string ⟨⟨l⟩⟩)
abbrev i64 (x:Int):AV:=.v (.int .i64 x)
abbrev u8 (x:Int):AV:=.v (.int .u8 x)
abbrev tf (b:Bool):AV:=.v (.bool b)
section rules
variable {P:Program} {n:Nat} {Q:bB} {s:AS} {ops:Array Oper}
theorem AOps.nil (h:Q .normal s):AOps P n ops Q [] s:=fun _ w φ a hs _ hQ=>hQ .normal s w φ a h hs (Goes.refl _ _)
theorem AOps.cons {i:Nat} {rest:List Nat} {o:Oper} {s':AS} (ho:ops[i]?=some o) (hg:o.guard=none) (h:OpOk P n o s s') (hr:AOps P n ops Q rest s') :
 AOps P n ops Q (i::rest) s:=by
 intro Λ w φ a hs QQ hQ;simp only [wpOps,ho,Region.wanted,hg,if_true];exact .inl (h Λ w φ a hs _ _ fun w' φ' a' hs' g=>hr Λ w' φ' a' hs' QQ fun ae s2 w2 φ2 a2 q2 hs2 g2=>hQ ae s2 w2 φ2 a2 q2 hs2 (g.trans g2))
theorem Sim.yielded {w:World} {φ:aD} {Λ:aW} {a:Act} (hs:Sim n w φ Λ s a) {j:Nat} {oj:Oper} {d:Nat} {b:Bool} (hj:ops[j]?=some oj) (hd:oj.dst=some d)
 (hb:s.t d=tf b):Go.yielded ops a.tmps j=some b:=by
 have h:=hs.tmps d;rw [hb] at h;generalize hv:a.tmps.getD d undef=v at h;cases h;simp only [Go.yielded,hj,Option.bind_some,hd];cases hx:a.tmps[d]? with
 | none=>
  rw [Array.getD_eq_getD_getElem?,hx] at hv;simp [undef] at hv
 | some y=>
  rw [Array.getD_eq_getD_getElem?,hx] at hv;simp only [Option.getD_some] at hv;rw [hv]
theorem AOps.gcons {i:Nat} {rest:List Nat} {o:Oper} {s':AS} {j:Nat} {want:Bool} {oj:Oper} {d:Nat} (ho:ops[i]?=some o) (hg:o.guard=some (j,want)) (hj:ops[j]?=some oj)
 (hd:oj.dst=some d) (hb:s.t d=tf want) (h:OpOk P n o s s') (hr:AOps P n ops Q rest s'):AOps P n ops Q (i::rest) s:=by
 intro Λ w φ a hs QQ hQ;have hy:=hs.yielded hj hd hb;simp only [wpOps,ho,Region.wanted,hg,hy,beq_self_eq_true,if_true];exact .inl (h Λ w φ a hs _ _ fun w' φ' a' hs' g=>hr Λ w' φ' a' hs' QQ fun ae s2 w2 φ2 a2 q2 hs2 g2=>hQ ae s2 w2 φ2 a2 q2 hs2 (g.trans g2))
theorem AOps.gskip {i:Nat} {rest:List Nat} {o:Oper} {j:Nat} {want b:Bool} {oj:Oper} {d:Nat} {dd:Option Tmp} (ho:ops[i]?=some o) (hg:o.guard=some (j,want)) (hj:ops[j]?=some oj)
 (hd:oj.dst=some d) (hb:s.t d=tf b) (hne:(b == want)=false) (hdd:o.dst=dd) (hn:dd.all (Nat.blt · n)=true) (hr:AOps P n ops Q rest (s.put dd (.v undef))) :
 AOps P n ops Q (i::rest) s:=by
 intro Λ w φ a hs QQ hQ;have hy:=hs.yielded hj hd hb;have hw:(some b == some want)=false:=by simpa using hne
 simp only [wpOps,ho,Region.wanted,hg,hy,hw,Bool.false_eq_true,if_false];subst hdd;exact hr Λ w φ _ (hs.put o.dst hn .v) QQ hQ
theorem AWp.region {id:Nat} (h:AOps P n ops Q (List.range ops.size) s):AWp P n (.region id ops false) Q s:=
 fun Λ w φ a hs QQ hQ=>wp_region (h Λ w φ a hs QQ hQ)
theorem OpOk.val {o:Oper} {d:Option Tmp} {x:AV} (hdd:o.dst=d) (hd:d.all (Nat.blt · n)=true)
 (h:∀ Λ w φ a,Sim n w φ Λ s a→∃ y,(execOp a.eval o).run P w=.ok (.value y) w∧Rep w φ Λ x y):OpOk P n o s (s.put d x):=by
 intro Λ w φ a hs next QQ hn;obtain ⟨y,h1,h2⟩:=h Λ w φ a hs;subst hdd;unfold Oper.wp;rw [h1];exact hn w φ _ (hs.put o.dst hd h2) (Goes.refl _ _)
theorem BY {o:Oper} {d:Option Tmp} {x:Operand} {y:AV} (ho:o.op=.move x) (hy:s.ev x=y) (hdd:o.dst=d) (hd:d.all (Nat.blt · n)=true):OpOk P n o s (s.put d y):=
 .val hdd hd fun Λ w φ a hs=>⟨a.eval x,by simp [execOp,ho],hy▸hs.ev x⟩
theorem yd {o:Oper} {d:Option Tmp} {x:Operand} {y:AV} (ho:o.op=.assign x) (hy:s.ev x=y) (hdd:o.dst=d) (hd:d.all (Nat.blt · n)=true):OpOk P n o s (s.put d y):=
 .val hdd hd fun Λ w φ a hs=>⟨a.eval x,by simp [execOp,ho],hy▸hs.ev x⟩
theorem cc {w:World} {φ:aD} {Λ:aW} {a:Act} (hs:Sim n w φ Λ s a) {x:Operand} {v:Value} (h:s.ev x=.v v):a.eval x=v:=by
 have:=hs.ev x;rw [h] at this;generalize a.eval x=y at this;cases this;rfl
theorem BX {o:Oper} {d:Option Tmp} {c x y:Operand} {b:Bool} {z:AV} (ho:o.op=.pick c x y) (hc:s.ev c=tf b) (hz:(bif b then s.ev x else s.ev y)=z)
 (hdd:o.dst=d) (hd:d.all (Nat.blt · n)=true):OpOk P n o s (s.put d z):=
 .val hdd hd fun Λ w φ a hs=>by
  have e:=cc hs hc;cases b with
  | true=>exact ⟨a.eval x,by simp [execOp,ho,e,asBool],hz▸hs.ev x⟩
  | false=>exact ⟨a.eval y,by simp [execOp,ho,e,asBool],hz▸hs.ev y⟩
def bP (P:Program) (op:BinOp) (t:TypeId) (x y:Operand) (a b r:Value):Prop:=
 ∀ w,(do eqGuard op t x y a b;binOp op t a b:Sem Value).run P w=.ok r w
theorem cY {o:Oper} {d:Option Tmp} {op:BinOp} {t u:TypeId} {x y:Operand} {a b r:Value} (ho:o.op=.binOp op t x y u) (hx:s.ev x=.v a) (hy:s.ev y=.v b)
 (hr:bP P op t x y a b r) (hdd:o.dst=d) (hd:d.all (Nat.blt · n)=true):OpOk P n o s (s.put d (.v r)):=
 .val hdd hd fun Λ w φ ac hs=>⟨r,by
  have h:=hr w;simp only [Sem.run_bind] at h;simp only [execOp,ho,cc hs hx,cc hs hy,Sem.run_bind,h,Result.andThen_ok,Sem.run_pure],.v⟩
section bin
variable {t:TypeId} {x y:Operand} {k:IntKind} {a b:Int}
theorem Bf:bP P .add t x y (.int k a) (.int k b) (.int k (k.wrap (a+b))):=fun w=>by simp [eqGuard,binOp,Op.intArith]
theorem Fa:bP P .sub t x y (.int k a) (.int k b) (.int k (k.wrap (a-b))):=fun w=>by simp [eqGuard,binOp,Op.intArith]
theorem Fg:bP P .mul t x y (.int k a) (.int k b) (.int k (k.wrap (a*b))):=fun w=>by simp [eqGuard,binOp,Op.intArith]
theorem Fe (h:b≠0):bP P .quo t x y (.int k a) (.int k b) (.int k (k.wrap (a.tdiv b))):=fun w=>by simp [eqGuard,binOp,Op.intDiv,h]
theorem Fd (h:b≠0):bP P .rem t x y (.int k a) (.int k b) (.int k (a.tmod b)):=fun w=>by simp [eqGuard,binOp,Op.intDiv,h]
theorem Fo:bP P .and t x y (.int k a) (.int k b) (.int k (k.wrap (BitVec.ofInt k.bits a &&& BitVec.ofInt k.bits b).toNat)):=fun w=>by simp [eqGuard,binOp,Op.intBits]
theorem DM:bP P .or t x y (.int k a) (.int k b) (.int k (k.wrap (BitVec.ofInt k.bits a ||| BitVec.ofInt k.bits b).toNat)):=fun w=>by simp [eqGuard,binOp,Op.intBits]
theorem F9:bP P .xor t x y (.int k a) (.int k b) (.int k (k.wrap (BitVec.ofInt k.bits a ^^^ BitVec.ofInt k.bits b).toNat)):=fun w=>by simp [eqGuard,binOp,Op.intBits]
theorem Fc {k':IntKind} (h:0≤b):bP P .shl t x y (.int k a) (.int k' b) (.int k (k.wrap (a*2 ^ min b.toNat k.bits))):=fun w=>by
 have:¬ b<0:=by omega
 simp [eqGuard,binOp,Op.shift,this]
theorem Fb {k':IntKind} (h:0≤b):bP P .shr t x y (.int k a) (.int k' b) (.int k (a.fdiv (2 ^ min b.toNat k.bits))):=fun w=>by
 have:¬ b<0:=by omega
 simp [eqGuard,binOp,Op.shift,this]
theorem Fm:bP P .eql t x y (.int k a) (.int k b) (.bool (a == b)):=fun w=>by simp [eqGuard,binOp,Op.intCmp]
theorem Ff:bP P .neq t x y (.int k a) (.int k b) (.bool (a != b)):=fun w=>by simp [eqGuard,binOp,Op.intCmp]
theorem Fh:bP P .lss t x y (.int k a) (.int k b) (.bool (decide (a<b))):=fun w=>by simp [eqGuard,binOp,Op.intCmp]
theorem Fi:bP P .leq t x y (.int k a) (.int k b) (.bool (decide (a≤b))):=fun w=>by simp [eqGuard,binOp,Op.intCmp]
theorem Fj:bP P .gtr t x y (.int k a) (.int k b) (.bool (decide (b<a))):=fun w=>by simp [eqGuard,binOp,Op.intCmp]
theorem Fk:bP P .geq t x y (.int k a) (.int k b) (.bool (decide (b≤a))):=fun w=>by simp [eqGuard,binOp,Op.intCmp]
variable {l m:List UInt8}
theorem nB (l:List UInt8):(⟨⟨l⟩⟩:ByteArray).toList=l:=by
 rw [ByteArray.toList_eq]
theorem CO:bP P .eql t x y (.string ⟨⟨l⟩⟩) (.string ⟨⟨m⟩⟩) (.bool (l == m)):=fun w=>by simp [eqGuard,binOp,Op.stringOp,nB]
theorem CN:bP P .neq t x y (.string ⟨⟨l⟩⟩) (.string ⟨⟨m⟩⟩) (.bool (!(l == m))):=fun w=>by simp [eqGuard,binOp,Op.stringOp,nB]
theorem CP (h:((l.length+m.length:Nat):Int)≤9223372036854775807):bP P .add t x y (.string ⟨⟨l⟩⟩) (.string ⟨⟨m⟩⟩) (.string ⟨⟨l++m⟩⟩):=fun w=>by
 have h1:(⟨⟨l⟩⟩:ByteArray).size=l.length:=rfl;have h2:(⟨⟨m⟩⟩:ByteArray).size=m.length:=rfl;have h3:¬ ((((⟨⟨l⟩⟩:ByteArray).size+(⟨⟨m⟩⟩:ByteArray).size:Nat):Int) > IntKind.i64.max):=by
  rw [h1,h2];have:IntKind.i64.max=9223372036854775807:=by decide
  omega
 have h4:(⟨⟨l⟩⟩:ByteArray)++(⟨⟨m⟩⟩:ByteArray)=⟨⟨l++m⟩⟩:=by
  apply ByteArray.ext
  simp
 have h5:(eqGuard .add t x y (.string ⟨⟨l⟩⟩) (.string ⟨⟨m⟩⟩)).run P w=.ok () w:=by simp [eqGuard]
 simp only [Sem.run_bind,h5,Result.andThen_ok,binOp,Op.stringOp,h3,if_false,h4,Sem.run_pure]
theorem nJ {t:TypeId} (hu:P.underlying t=some .bool) (dd:Nat) (p q:Bool) (w:World):(Op.equalIn (dd+1) t (.bool p) (.bool q)).run P w=.ok (p == q) w:=by
 simp [Op.equalIn,run_underlying hu]
theorem CQ {te:TE} (hte:TEok P te) {i:TI} (ht:te.get t=some i) (hk:i.k=.bool) {p q:Bool}:bP P .neq t x y (.bool p) (.bool q) (.bool (!(p == q))):=fun w=>by
 have h5:(eqGuard .neq t x y (.bool p) (.bool q)).run P w=.ok () w:=by simp [eqGuard]
 simp only [Sem.run_bind,h5,Result.andThen_ok,binOp,Op.equal,Op.maxDepth,nJ ((hte.tells ht).bool hk) 9999 p q w,Sem.run_pure]
end bin
theorem Ex {o:Oper} {d:Option Tmp} {t:TypeId} {x:Operand} {b:Bool} (ho:o.op=.unOp .not t x) (hx:s.ev x=tf b) (hdd:o.dst=d) (hd:d.all (Nat.blt · n)=true) :
 OpOk P n o s (s.put d (tf (!b))):=
 .val hdd hd fun Λ w φ a hs=>⟨.bool (!b),by simp [execOp,ho,cc hs hx,Op.unary],.v⟩
theorem kf {te:TE} (hte:TEok P te) {o:Oper} {d:Option Tmp} {src dst:TypeId} {x:Operand} {k k':IntKind} {a:Int} {i j:TI} (ho:o.op=.convert src dst x) (hx:s.ev x=.v (.int k a))
 (hi:te.get src=some i) (hj:te.get dst=some j) (hk:j.k=.int k') (hdd:o.dst=d) (hd:d.all (Nat.blt · n)=true):OpOk P n o s (s.put d (.v (.int k' (k'.wrap a)))):=
 .val hdd hd fun Λ w φ ac hs=>⟨_,by
  obtain ⟨ds,h1,_⟩:=(hte.tells hi).desc;have h2:=(hte.tells hj).int hk;simp [execOp,ho,cc hs hx,convert,run_underlying h1,run_underlying h2,Conv.intToInt],.v⟩
theorem vX {o:Oper} {d:Option Tmp} {x:Operand} {k:Nat} {l:List AV} {y:AV} (ho:o.op=.extract x k) (hx:s.ev x=.tup l) (hk:l[k]?=some y) (hdd:o.dst=d)
 (hd:d.all (Nat.blt · n)=true):OpOk P n o s (s.put d y):=
 .val hdd hd fun Λ w φ a hs=>by
  have h:=hs.ev x;rw [hx] at h;generalize hv:a.eval x=v at h;cases h with
  | tup vf h1 h2 h3=>
   have hlt:k<l.length:=(List.getElem?_eq_some_iff.1 hk).1;exact ⟨vf k,by simp [execOp,ho,hv,Instr.extract,h2 k hlt],h3 k y hk⟩
theorem Ey {o:Oper} {d:Option Tmp} {x:Operand} {y:AV} (ho:o.op=.nilCheck x) (hx:s.ev x=y) (hy:(match y with|.ptr ..|.fp ..=>true|_=>false)=true)
 (hdd:o.dst=d) (hd:d.all (Nat.blt · n)=true):OpOk P n o s (s.put d y):=
 .val hdd hd fun Λ w φ a hs=>by
  have h:=hs.ev x;rw [hx] at h;generalize hv:a.eval x=v at h;cases h<;>simp at hy
  · exact ⟨a.eval x,by simp [execOp,ho,hv],hx▸hs.ev x⟩
  · exact ⟨a.eval x,by simp [execOp,ho,hv],hx▸hs.ev x⟩
  · exact ⟨a.eval x,by simp [execOp,ho,hv],hx▸hs.ev x⟩
end rules
section rules
variable {P:Program} {n:Nat} {Q:bB} {s:AS} {te:TE} {o:Oper} {d:Option Tmp}
theorem mV (l:List UInt8):(⟨⟨l⟩⟩:ByteArray).size=l.length:=rfl
theorem EF (l:List UInt8) (i:Nat):(⟨⟨l⟩⟩:ByteArray)[i]?=l[i]?:=by
 by_cases h:i<l.length
 · rw [getElem?_pos (⟨⟨l⟩⟩:ByteArray) i (by rw [mV];exact h),getElem?_pos l i h]
   rfl
 · rw [getElem?_neg (⟨⟨l⟩⟩:ByteArray) i (by rw [mV];exact h),getElem?_neg l i h]
theorem qw (l:List UInt8) (a b:Nat):(⟨⟨l⟩⟩:ByteArray).extract a b=⟨⟨(l.take b).drop a⟩⟩:=by
 apply ByteArray.ext
 rw [ByteArray.data_extract]
 apply Array.ext'
 simp only [Array.toList_extract,List.extract_eq_take_drop,List.drop_take]
theorem sR (hte:TEok P te) {t:TypeId} {x y:Operand} {l:List UInt8} {k:IntKind} {i:Int} {c:UInt8} {ti:TI} (ho:o.op=.index t x y) (hx:s.ev x=str l) (hy:s.ev y=.v (.int k i))
 (ht:te.get t=some ti) (hk:ti.k=.str) (h0:0≤i) (hc:l[i.toNat]?=some c) (hdd:o.dst=d) (hd:d.all (Nat.blt · n)=true):OpOk P n o s (s.put d (u8 c.toNat)):=
 .val hdd hd fun Λ w φ a hs=>⟨.int .u8 c.toNat,by
  have hu:=(hte.tells ht).str hk;simp [execOp,ho,cc hs hx,cc hs hy,Instr.index,asIntOf,run_underlying hu,h0,EF,hc],.v⟩
theorem ce {k:IntKind} {i:Int} {y:Nat} {c:BoundsCode} (h0:0≤i) (h1:i≤y) (w:World):(Instr.sliceBound (.int k i) y c).run P w=.ok i.toNat w:=by
 simp [Instr.sliceBound,asIntOf,h0,h1]
def Bnd (s:AS):Option Operand→Nat→Nat→Prop
 | none,d,r=>r=d
 | some x,_,r=>∃ k i,s.ev x=.v (.int k i)∧0≤i∧i.toNat=r
theorem vA {s:AS} {r:Nat}:Bnd s none r r:=rfl
theorem nv {s:AS} {x:Operand} {k:IntKind} {i:Int} {dflt r:Nat} (h:s.ev x=.v (.int k i)) (h0:0≤i) (hr:i.toNat=r):Bnd s (some x) dflt r:=⟨k,i,h,h0,hr⟩
theorem cZ {w:World} {φ:aD} {Λ:aW} {a:Act} (hs:Sim n w φ Λ s a) {sl:Bool} {len cap:Nat} {lo hi mx:Option Operand} {l h m:Nat}
 (hm:Bnd s mx cap m) (hh:Bnd s hi len h) (hl:Bnd s lo 0 l) (hmh:mx.isSome=true→hi.isSome=true) (h1:l≤h) (h2:h≤m) (h3:m≤cap) :
 (Instr.sliceBounds sl len cap (lo.map a.eval) (hi.map a.eval) (mx.map a.eval)).run P w=.ok (l,h,m) w:=by
 unfold Instr.sliceBounds;cases mx with
 | none=>
  simp only [Bnd] at hm;subst hm;cases hi with
  | none=>
   simp only [Bnd] at hh;subst hh;cases lo with
   | none=>simp only [Bnd] at hl;subst hl;simp
   | some x=>
    obtain ⟨k,i,e1,e2,e3⟩:=hl;simp [cc hs e1,ce e2 (show i≤(h:Int) by omega),e3]
  | some y=>
   obtain ⟨k',i',f1,f2,f3⟩:=hh;cases lo with
   | none=>simp only [Bnd] at hl;subst hl;simp [cc hs f1,ce f2 (show i'≤(m:Int) by omega),f3]
   | some x=>
    obtain ⟨k,i,e1,e2,e3⟩:=hl;subst f3;simp [cc hs f1,ce f2 (show i'≤(m:Int) by omega),cc hs e1,ce e2 (show i≤(i'.toNat:Int) by omega),e3]
 | some z=>
  obtain ⟨k2,i2,g1,g2,g3⟩:=hm;cases hi with
  | none=>simp at hmh
  | some y=>
   obtain ⟨k',i',f1,f2,f3⟩:=hh;cases lo with
   | none=>
    simp only [Bnd] at hl;subst hl;subst g3;simp [cc hs g1,ce g2 (show i2≤(cap:Int) by omega),cc hs f1,ce f2 (show i'≤(i2.toNat:Int) by omega),f3]
   | some x=>
    obtain ⟨k,i,e1,e2,e3⟩:=hl;subst f3;subst g3;simp [cc hs g1,ce g2 (show i2≤(cap:Int) by omega),cc hs f1,ce f2 (show i'≤(i2.toNat:Int) by omega),cc hs e1,ce e2 (show i≤(i'.toNat:Int) by omega),e3]
theorem jh (hte:TEok P te) {t:TypeId} {x:Operand} {lo hi:Option Operand} {l:List UInt8} {p q:Nat} {ti:TI} {r:List UInt8} (ho:o.op=.slice t x lo hi none) (hx:s.ev x=str l)
 (ht:te.get t=some ti) (hk:ti.k=.str) (hh:Bnd s hi l.length q) (hl:Bnd s lo 0 p) (h1:p≤q) (h2:q≤l.length) (hr:(l.take q).drop p=r) (hdd:o.dst=d) (hd:d.all (Nat.blt · n)=true) :
 OpOk P n o s (s.put d (str r)):=
 .val hdd hd fun Λ w φ a hs=>⟨.string ⟨⟨r⟩⟩,by
  have hu:=(hte.tells ht).str hk;have hb:=cZ (P:=P) hs (sl:=false) (len:=l.length) (cap:=l.length) (mx:=none) (m:=l.length) rfl hh hl (by simp) h1 h2 (Nat.le_refl _);simp only [Option.map_none] at hb;simp [execOp,ho,cc hs hx,Instr.sliceAt,Instr.slice,run_underlying hu,mV,hb,qw,hr],.v⟩
theorem vW (hte:TEok P te) {t u:TypeId} {x:Operand} {l:List UInt8} {ti:TI} (ho:o.op=.call { callee:=.builtin .len,args:=#[x],argTypes:=#[t] }) (hx:s.ev x=str l)
 (ht:te.get t=some ti) (hk:ti.k=.str) (hdd:o.dst=d) (hd:d.all (Nat.blt · n)=true):OpOk P n o s (s.put d (i64 l.length)):=
 .val hdd hd fun Λ w φ a hs=>⟨.int .i64 l.length,by
  have hu:=(hte.tells ht).str hk;simp [execOp,ho,resolve,invoke,builtin,cc hs hx,Builtin.len_,run_underlying hu,mV,goInt],.v⟩
def AV.len?:AV→Option Nat
 | .fz _ k _=>some k
 | .sl _ _ _ k _=>some k
 | .v (.slice _ k _)=>some k
 | _=>none
theorem ij {w:World} {φ:aD} {Λ:aW} {x:AV} {v:Value} {m:Nat} (h:Rep w φ Λ x v) (hx:x.len?=some m):∃ ad cap,v=.slice ad m cap:=by
 cases h with
 | v=>
  cases v<;>simp [AV.len?] at hx
  subst hx;exact ⟨_,_,rfl⟩
 | fz0=>simp [AV.len?] at hx;subst hx;exact ⟨_,_,rfl⟩
 | fz=>simp [AV.len?] at hx;subst hx;exact ⟨_,_,rfl⟩
 | sl=>simp [AV.len?] at hx;subst hx;exact ⟨_,_,rfl⟩
 | sl0=>simp [AV.len?] at hx;subst hx;exact ⟨_,_,rfl⟩
 | slx=>simp [AV.len?] at hx;subst hx;exact ⟨_,_,rfl⟩
 | _=>simp [AV.len?] at hx
theorem yc (hte:TEok P te) {t e:TypeId} {x:Operand} {m:Nat} {y:AV} {ti:TI} (ho:o.op=.call { callee:=.builtin .len,args:=#[x],argTypes:=#[t] }) (hx:s.ev x=y)
 (hm:y.len?=some m) (ht:te.get t=some ti) (hk:ti.k=.slice e) (hdd:o.dst=d) (hd:d.all (Nat.blt · n)=true):OpOk P n o s (s.put d (i64 m)):=
 .val hdd hd fun Λ w φ a hs=>⟨.int .i64 m,by
  have hu:=(hte.tells ht).slice hk;have hr:=hs.ev x;rw [hx] at hr;obtain ⟨ad,cap,hv⟩:=ij hr hm;simp [execOp,ho,resolve,invoke,builtin,hv,Builtin.len_,run_underlying hu,goInt],.v⟩
theorem oF {w:World} {φ:aD} {Λ:aW} {lv m:Nat} {cells cs:List AV} {v:Value} (h:Rep w φ Λ (.fz lv m cells) v) (i k:Nat) (hcs:(cells.drop i).take k=cs) (h0:0<cs.length) :
 ∃ b o cap,v=.slice (some ⟨b,o,none⟩) m cap∧m≤cap∧∃ vf:Nat→Value,may φ Λ lv b∧(∀ c∈cs,c.ok lv=true)∧(∀ j,j<cs.length→w.cell? ⟨b,o+i+j,none⟩=some (vf j))∧
  (∀ j c,cs[j]?=some c→Rep w φ Λ c (vf j)):=by
 cases h with
 | fz0=>subst hcs;simp at h0
 | @fz _ _ _ b o cap vf hm hn hok hc hr hp=>
  have hlen:cs.length=min k (cells.length-i):=by rw [← hcs];simp
  refine ⟨b,o,cap,rfl,hn,fun j=>vf (i+j),hm,fun c hc'=>?_,fun j hj=>?_,fun j c hj=>?_⟩
  · rw [← hcs] at hc'
    exact hok c (List.mem_of_mem_drop (List.mem_of_mem_take hc'))
  · rw [Nat.add_assoc]
    exact hc (i+j) (by omega)
  · refine hr (i+j) c ?_
    rw [← hcs] at hj;rw [List.getElem?_take] at hj;split at hj
    · rw [List.getElem?_drop] at hj
      exact hj
    · cases hj
theorem p5 (hte:TEok P te) {t e:TypeId} {x y:Operand} {lv m:Nat} {cells cs:List AV} {k:IntKind} {i:Int} {ti tj:TI} (ho:o.op=.indexAddr t x y) (hx:s.ev x=.fz lv m cells)
 (hy:s.ev y=.v (.int k i)) (ht:te.get t=some ti) (hk:ti.k=.slice e) (he:te.get e=some tj) (h0:0≤i) (h1:i<m) (hcs:(cells.drop (i.toNat*tj.size)).take tj.size=cs)
 (hl:cs.length=tj.size) (hp:0<tj.size) (hdd:o.dst=d) (hd:d.all (Nat.blt · n)=true):OpOk P n o s (s.put d (.fp lv cs)):=
 .val hdd hd fun Λ w φ a hs=>by
  have hu:=(hte.tells ht).slice hk;have hr:=hs.ev x;rw [hx] at hr;obtain ⟨b,of,cap,hv,_,vf,r1,r2,r3,r4⟩:=oF hr (i.toNat*tj.size) tj.size hcs (by omega);refine ⟨.pointer (some ⟨b,of+i.toNat*tj.size,none⟩),?_,.fp vf r1 r2 r3 r4 (by omega)⟩;simp [execOp,ho,hv,cc hs hy,Instr.indexAt,asIntOf,run_underlying hu,h0,h1,(hte.tells he).run_sizeOf,Addr.add_lit]
theorem ul (hte:TEok P te) {t e:TypeId} {x:Operand} {lo hi mx:Option Operand} {lv m:Nat} {cells cs:List AV} {p q:Nat} {ti tj:TI} (ho:o.op=.slice t x lo hi mx)
 (hx:s.ev x=.fz lv m cells) (ht:te.get t=some ti) (hk:ti.k=.slice e) (he:te.get e=some tj) (hmx:mx=none∨mx=hi∧mx.isSome=true) (hh:Bnd s hi m q) (hl:Bnd s lo 0 p) (h1:p≤q) (h2:q≤m)
 (hcl:cells.length=m*tj.size) (hcs:(cells.drop (p*tj.size)).take ((q-p)*tj.size)=cs) (hp:0<tj.size) (hdd:o.dst=d) (hd:d.all (Nat.blt · n)=true) :
 OpOk P n o s (s.put d (.fz lv (q-p) cs)):=
 .val hdd hd fun Λ w φ a hs=>by
  have hu:=(hte.tells ht).slice hk;have hr:=hs.ev x;rw [hx] at hr;have hlen:cs.length=(q-p)*tj.size:=by
   rw [← hcs,List.length_take,List.length_drop,hcl,← Nat.sub_mul];exact Nat.min_eq_left (Nat.mul_le_mul_right _ (by omega))
  have hb:∀ cap,m≤cap→∃ mm,q≤mm∧mm≤cap∧(Instr.sliceBounds true m cap (lo.map a.eval) (hi.map a.eval) (mx.map a.eval)).run P w=.ok (p,q,mm) w:=by
   intro cap hcap;rcases hmx with rfl|⟨rfl,hsome⟩
   · exact ⟨cap,by omega,Nat.le_refl _,cZ hs rfl hh hl (by simp) h1 (by omega) (Nat.le_refl _)⟩
   · refine ⟨q,Nat.le_refl _,by omega,cZ hs ?_ hh hl (fun h=>h) h1 (Nat.le_refl _) (by omega)⟩
     cases mx with
     | none=>simp at hsome
     | some z=>exact hh
  by_cases hz:q-p=0
  · have hcs0:cs=[]:=List.eq_nil_of_length_eq_zero (by rw [hlen,hz];simp)
    subst hcs0;rw [hz];obtain ⟨ad,cap,hv⟩:=ij (m:=m) hr rfl;have hcap:m≤cap:=by
     rw [hv] at hr;cases hr with
     | fz0=>exact Nat.zero_le _
     | fz=>assumption
    obtain ⟨mm,g1,g2,g3⟩:=hb cap hcap;refine ⟨.slice (if mm=p then ad else ad.map (·.add (p*tj.size))) 0 (mm-p),?_,.fz0⟩
    · simp [execOp,ho,hv,Instr.sliceAt,Instr.slice,run_underlying hu,g3,(hte.tells he).run_sizeOf,hz]
  · obtain ⟨b,of,cap,hv,hcap,vf,r1,r2,r3,r4⟩:=oF hr (p*tj.size) ((q-p)*tj.size) hcs (by rw [hlen];exact Nat.mul_pos (by omega) hp)
    obtain ⟨mm,g1,g2,g3⟩:=hb cap hcap;have hne:mm≠p:=by omega
    refine ⟨.slice (some ⟨b,of+p*tj.size,none⟩) (q-p) (mm-p),?_,.fz vf r1 (by omega) r2 r3 r4 (by rw [hlen];exact Nat.mul_pos (by omega) hp)⟩;simp [execOp,ho,hv,Instr.sliceAt,Instr.slice,run_underlying hu,g3,(hte.tells he).run_sizeOf,hne,Addr.add_lit]
theorem gU {w:World} {f:Field} {tj:TI} (hf:Tells P f.type tj) (hp:0<tj.size) (b oo:Nat):(fieldPlace ⟨b,oo,none⟩ f).run P w=.ok ⟨b,oo+f.offset,none⟩ w:=by
 have:tj.size≠0:=by omega
 simp [fieldPlace,hf.run_sizeOf,this,Addr.add_lit]
theorem jb {t:TypeId} {ti:TI} {l:List (Nat×TypeId)} (h:Tells P t ti) (hk:ti.k=.struct l) {f off:Nat} {ft:TypeId} (hf:l[f]?=some (off,ft)) :
 ∃ (fs:Array Field) (fd:Field),P.underlying t=some (.struct fs)∧fs[f]?=some fd∧fd.offset=off∧fd.type=ft:=by
 obtain ⟨fs,h1,h2⟩:=h.struct hk;subst h2;simp only [List.getElem?_map,Array.getElem?_toList,Option.map_eq_some_iff,Prod.mk.injEq] at hf;obtain ⟨fd,h3,h4,h5⟩:=hf;exact ⟨fs,fd,h1,h3,h4,h5⟩
theorem nU (hte:TEok P te) {t ft:TypeId} {x:Operand} {f off id ver po:Nat} {l:List (Nat×TypeId)} {ti tj:TI} (ho:o.op=.fieldAddr t x f) (hx:s.ev x=.ptr id ver po)
 (ht:te.get t=some ti) (hk:ti.k=.struct l) (hf:l[f]?=some (off,ft)) (hj:te.get ft=some tj) (hp:0<tj.size) (hv:∃ ob,s.h id=some ob∧(match ob with|.gbox _ _=>ver=0|.grow _ _ _ v=>v=ver|.map _=>False))
 (hdd:o.dst=d) (hd:d.all (Nat.blt · n)=true):OpOk P n o s (s.put d (.ptr id ver (po+off))):=
 .val hdd hd fun Λ w φ a hs=>by
  obtain ⟨fs,fd,h1,h2,h3,h4⟩:=jb (hte.tells ht) hk hf;subst h4;have hr:=hs.ev x;rw [hx] at hr;obtain ⟨ob,hob,hver⟩:=hv;obtain ⟨loc,hl,hor⟩:=hs.hs.heap id ob hob;have hlv:loc.ver=ver:=by
   cases ob with
   | gbox ty c=>obtain ⟨_,_,_,_,h,_⟩:=hor;simp at hver;omega
   | grow ty c e v=>simp at hver;obtain ⟨h,_⟩:=hor;omega
   | map _=>simp at hver
  generalize hv:a.eval x=v at hr;cases hr with
  | ptr g1 g2 g3=>
   rename_i l' b oo
   refine ⟨.pointer (some ⟨b,oo+(po+off),none⟩),?_,.ptr g1 g2 g3⟩;simp [execOp,ho,hv,Instr.fieldAt,run_underlying h1,h2,Instr.sureAddr,gU (hte.tells hj) hp,h3,Nat.add_assoc]
  | ptrx g1 g2=>
   rw [hl] at g1;cases g1;omega
theorem p6 (hte:TEok P te) {t ft:TypeId} {x:Operand} {f off lv:Nat} {cells cs:List AV} {l:List (Nat×TypeId)} {ti tj:TI} (ho:o.op=.fieldAddr t x f) (hx:s.ev x=.fp lv cells)
 (ht:te.get t=some ti) (hk:ti.k=.struct l) (hf:l[f]?=some (off,ft)) (hj:te.get ft=some tj) (hp:0<tj.size) (hcs:(cells.drop off).take tj.size=cs) (hl:cs.length=tj.size)
 (hdd:o.dst=d) (hd:d.all (Nat.blt · n)=true):OpOk P n o s (s.put d (.fp lv cs)):=
 .val hdd hd fun Λ w φ a hs=>by
  obtain ⟨fs,fd,h1,h2,h3,h4⟩:=jb (hte.tells ht) hk hf;subst h4;have hr:=hs.ev x;rw [hx] at hr;generalize hv:a.eval x=v at hr;cases hr with
  | @fp _ _ b oo vf hm hok hc hr hpp=>
   have hlen:cs.length=min tj.size (cells.length-off):=by rw [← hcs];simp
   refine ⟨.pointer (some ⟨b,oo+off,none⟩),?_,.fp (fun j=>vf (off+j)) hm (fun c hc'=>?_) (fun j hj=>?_) (fun j c hj=>?_) (by omega)⟩
   · simp [execOp,ho,hv,Instr.fieldAt,run_underlying h1,h2,Instr.sureAddr,gU (hte.tells hj) hp,h3]
   · rw [← hcs] at hc'
     exact hok c (List.mem_of_mem_drop (List.mem_of_mem_take hc'))
   · rw [Nat.add_assoc]
     exact hc (off+j) (by omega)
   · refine hr (off+j) c ?_
     rw [← hcs] at hj;rw [List.getElem?_take] at hj;split at hj
     · rw [List.getElem?_drop] at hj
       exact hj
     · cases hj
theorem vV (hte:TEok P te) {t:TypeId} {x:Operand} {lv:Nat} {cs:List AV} {ti:TI} {y:AV} (ho:o.op=.load t x) (hx:s.ev x=.fp lv cs) (ht:te.get t=some ti) (hl:cs.length=ti.size)
 (hp:0<ti.size) (hy:jM ti.k.agg cs=y) (hdd:o.dst=d) (hd:d.all (Nat.blt · n)=true):OpOk P n o s (s.put d y):=
 .val hdd hd fun Λ w φ a hs=>by
  have hr:=hs.ev x;rw [hx] at hr;generalize hv:a.eval x=v at hr;cases hr with
  | @fp _ _ b oo vf hm hok hc hr hpp=>
   obtain ⟨z,h1,h2⟩:=ii (P:=P) (hte.tells ht) b oo cs vf hl hp hc hr;refine ⟨z,?_,hy▸h2⟩;simp [execOp,ho,hv,Instr.loadAt,Instr.sureAddr,h1]
def AObj.at (ver:Nat):AObj→Option (List AV)
 | .gbox _ cells=>bif Nat.beq ver 0 then some cells else none
 | .grow _ cells _ v=>bif Nat.beq ver v then some cells else none
 | .map _=>none
theorem HSim.at {w:World} {φ:aD} {Λ:aW} {h:Nat→Option AObj} (hs:HSim w φ Λ h) {id ver:Nat} {ob:AObj} {cells:List AV} (ho:h id=some ob) (hc:ob.at ver=some cells) (hp:0<cells.length) :
 ∃ l b oo arr T lo hi,φ id=some l∧l.ver=ver∧l.bo=some (b,oo)∧w.heap[b]?=some (.cells arr T (lo,hi))∧(arr.size≤lo∨hi≤lo)∧oo+cells.length≤arr.size∧CellsRep w φ Λ arr oo cells:=by
 obtain ⟨l,hl,hor⟩:=hs.heap id ob ho;cases ob with
 | gbox ty c=>
  simp only [AObj.at] at hc;cases hb:Nat.beq ver 0 with
  | false=>rw [hb] at hc;cases hc
  | true=>
   rw [hb] at hc;simp only [cond_true,Option.some.injEq] at hc;subst hc;obtain ⟨b,arr,T,h1,h2,h3,h4,h5⟩:=hor;exact ⟨l,b,0,arr,_,0,0,hl,by rw [h2,Nat.eq_of_beq_eq_true hb],h1,h3,.inr (Nat.le_refl _),by omega,h5⟩
 | grow ty c e v=>
  simp only [AObj.at] at hc;cases hb:Nat.beq ver v with
  | false=>rw [hb] at hc;cases hc
  | true=>
   rw [hb] at hc;simp only [cond_true,Option.some.injEq] at hc;subst hc;obtain ⟨h1,h2⟩:=hor;rcases h2 with ⟨_,h2⟩|⟨b,oo,arr,T,lo,hi,h2,h3,h4,h5,h6⟩
   · subst h2
     simp at hp
   · exact ⟨l,b,oo,arr,_,lo,hi,hl,by rw [h1,Nat.eq_of_beq_eq_true hb],h2,h3,h4,h5,h6⟩
 | map es=>simp [AObj.at] at hc
theorem io (hte:TEok P te) {t:TypeId} {x:Operand} {id ver po:Nat} {ob:AObj} {cells cs:List AV} {ti:TI} {y:AV} (ho:o.op=.load t x) (hx:s.ev x=.ptr id ver po) (hob:s.h id=some ob)
 (hc:ob.at ver=some cells) (ht:te.get t=some ti) (hcs:(cells.drop po).take ti.size=cs) (hl:cs.length=ti.size) (hp:0<ti.size) (hy:jM ti.k.agg cs=y)
 (hdd:o.dst=d) (hd:d.all (Nat.blt · n)=true):OpOk P n o s (s.put d y):=
 .val hdd hd fun Λ w φ a hs=>by
  have hlen:cs.length=min ti.size (cells.length-po):=by rw [← hcs];simp
  obtain ⟨l,b,oo,arr,_,lo,hi,h1,h2,h3,h4,h5,h6,h7⟩:=hs.hs.at hob hc (by omega);have hr:=hs.ev x;rw [hx] at hr;generalize hv:a.eval x=v at hr;cases hr with
  | ptrx g1 g2=>rw [h1] at g1;cases g1;omega
  | ptr g1 g2 g3=>
   rw [h1] at g1;cases g1;rw [h3] at g3;cases g3;have hcell:∀ j,j<cs.length→w.cell? ⟨b,oo+po+j,none⟩=some (arr.getD (oo+po+j) undef):=by
    intro j hj;have:oo+po+j<arr.size:=by omega
    simp [World.cell?,h4,Array.getD,this]
   have hrep:∀ j c,cs[j]?=some c→Rep w φ Λ c (arr.getD (oo+po+j) undef):=by
    intro j c hj;rw [← hcs,List.getElem?_take] at hj;split at hj
    · rw [List.getElem?_drop] at hj
      obtain ⟨z,z1,z2⟩:=h7 (po+j) c hj;rw [← Nat.add_assoc] at z1;rw [Array.getD_eq_getD_getElem?,z1];exact z2
    · cases hj
   obtain ⟨z,z1,z2⟩:=ii (P:=P) (hte.tells ht) b (oo+po) cs (fun j=>arr.getD (oo+po+j) undef) hl hp hcell hrep;refine ⟨z,?_,hy▸z2⟩;simp [execOp,ho,hv,Instr.loadAt,Instr.sureAddr,z1]
end rules
def AV.one:AV→Bool
 | .v x=>x.oneCell'
 | .any|.agg _|.tup _=>false
 | _=>true
def AV.flat:AV→Option (List AV)
 | .agg cs=>some cs
 | x=>bif x.one then some [x] else none
section
variable {P:Program} {w:World} {φ:aD} {Λ:aW}
theorem Rep.one {x:AV} {v:Value} (h:Rep w φ Λ x v) (h1:x.one=true):v.oneCell'=true:=by
 cases h<;>simp_all [AV.one,Value.oneCell']
theorem Rep.flat {x:AV} {v:Value} {cs:List AV} (h:Rep w φ Λ x v) (h1:x.flat=some cs) :
 v.cells.size=cs.length∧∀ (j:Nat) c,cs[j]?=some c→∃ y,v.cells[j]?=some y∧Rep w φ Λ c y:=by
 by_cases hx:∃ l,x=.agg l
 · obtain ⟨l,rfl⟩:=hx
   simp only [AV.flat,Option.some.injEq] at h1;subst h1;cases h with
   | agg vf h1 h2 h3=>
    refine ⟨h1,fun j c hj=>?_⟩;have hlt:=(List.getElem?_eq_some_iff.1 hj).1;exact ⟨vf j,h2 j hlt,h3 j c hj⟩
 · have hf:x.flat=bif x.one then some [x] else none:=by cases x<;>first|rfl|exact absurd ⟨_,rfl⟩ hx
   rw [hf] at h1;cases ho:x.one with
   | false=>rw [ho] at h1;cases h1
   | true=>
    rw [ho] at h1;simp only [cond_true,Option.some.injEq] at h1;subst h1;have hv:=h.one ho;have hc:v.cells=#[v]:=by cases v<;>simp_all [Value.cells,Value.oneCell']
    rw [hc];refine ⟨rfl,fun j c hj=>?_⟩;cases j with
    | zero=>simp at hj;subst hj;exact ⟨v,rfl,h⟩
    | succ j=>simp at hj
theorem Rep.flat_one {x:AV} {v:Value} {cs:List AV} (h:Rep w φ Λ x v) (h1:x.flat=some cs) (ha:cs.all AV.one=true):∀ y∈v.cells.toList,y.oneCell'=true:=by
 obtain ⟨h2,h3⟩:=h.flat h1;intro y hy;obtain ⟨j,hj,rfl⟩:=List.getElem_of_mem hy;have hj':j<cs.length:=by rw [← h2];simpa using hj
 obtain ⟨z,z1,z2⟩:=h3 j cs[j] (List.getElem?_eq_getElem hj');have:z=v.cells.toList[j]:=by
  have hjs:j<v.cells.size:=by simpa using hj
  rw [Array.getElem?_eq_getElem hjs] at z1;cases z1;simp
 rw [← this];exact z2.one (List.all_eq_true.1 ha _ (List.getElem_mem hj'))
theorem vD (w:World) (ob:Obj) (b:Nat) (h:b≠w.heap.size):(w.alloc ob).heap[b]?=w.heap[b]?:=by
 rcases Nat.lt_or_ge b w.heap.size with hb|hb
 · exact Below.heap_alloc w ob b hb
 · rw [Array.getElem?_eq_none hb,Array.getElem?_eq_none (by simp;omega)]
theorem s4 {cells:Array Value} {T:TypeId}:Fro w (w.alloc (.cells cells T)):=.one (b0:=w.heap.size) (fun b h=>vD w _ b h) fun _ arr T lo hi k=>by
 rw [heap_alloc_new] at k;cases k;exact .inr (Nat.le_refl _)
theorem Cp {es:Array MapEntry} {k:Nat}:Fro w (w.alloc (.map es k)):=.one (b0:=w.heap.size) (fun b h=>vD w _ b h) fun _ arr T lo hi k=>by
 rw [heap_alloc_new] at k;cases k
theorem pB {b:Nat} {arr new:Array Value} {T:TypeId} {m:Nat×Nat} (g:w.heap[b]?=some (.cells arr T m)) (hs:new.size=arr.size):Fro w (w.setRow b new):=.one (b0:=b) (fun k h=>setRow_other w b k _ h) fun h arr' T' lo hi k=>by
 rw [setRow_heap w b arr new T m g] at k;cases k;have hb:b<w.heap.size:=(Array.getElem?_eq_some_iff.1 g).1;have:=h hb arr T lo hi g;omega
theorem Chg.alloc {h:Nat→Option AObj} {id:Nat} (hs:HSim w φ Λ h) (hid:h id=none) (ob:Obj) (oo ver:Nat) (hf:Fro w (w.alloc ob):=by first|exact s4|exact Cp):Chg w φ Λ h id ⟨some (w.heap.size,oo),ver⟩ (w.alloc ob):=by
 have hn:=hs.dom id hid;refine ⟨hs,by simp,rfl,rfl,rfl,fun k hk _=>Below.heap_alloc w ob k hk,fun b' o' hb=>?_,fun l hl=>?_,fun l hl=>?_,hf⟩
 · simp only [Option.some.injEq,Prod.mk.injEq] at hb
   obtain ⟨rfl,rfl⟩:=hb;exact ⟨by simp,.inl (Nat.le_refl _)⟩
 · rw [hn] at hl;cases hl
 · rw [hn] at hl;cases hl
theorem qo {cells:List AV} {arr:Array Value} {T:TypeId} {φ':aD} {w0:World} (hl:arr.size=cells.length) (hr:∀ (j:Nat) c,cells[j]?=some c→∃ y,arr[j]?=some y∧Rep (w0.alloc (.cells arr T)) φ' Λ c y) :
 ObjRep (w0.alloc (.cells arr T)) φ' Λ (.box cells) ⟨some (w0.heap.size,0),0⟩:=
 ⟨w0.heap.size,arr,T,rfl,rfl,heap_alloc_new w0 _,hl,fun j c hj=>by rw [Nat.zero_add];exact hr j c hj⟩
theorem jj {ty:Option TypeId} {cells:List AV} {arr:Array Value} {T:TypeId} {φ':aD} {w0:World} {esz ver:Nat} (hty:ty.getD T=T) (hl:cells.length≤arr.size) (hr:∀ (j:Nat) c,cells[j]?=some c→∃ y,arr[j]?=some y∧Rep (w0.alloc (.cells arr T)) φ' Λ c y) :
 ObjRep (w0.alloc (.cells arr T)) φ' Λ (.grow ty cells esz ver) ⟨some (w0.heap.size,0),ver⟩:=
 ⟨rfl,.inr ⟨w0.heap.size,0,arr,T,0,0,rfl,by rw [hty];exact heap_alloc_new w0 _,.inr (Nat.le_refl _),by omega,fun j c hj=>by rw [Nat.zero_add];exact hr j c hj⟩⟩
end
section rules
variable {P:Program} {n:Nat} {Q:bB} {s:AS} {te:TE} {o:Oper} {d:Option Tmp}
theorem OpOk.chg {id:Nat} {ob':AObj} {x:AV} (hdd:o.dst=d) (hd:d.all (Nat.blt · n)=true)
 (h:∀ Λ w φ a,Sim n w φ Λ s a→∃ nx w' l',(execOp a.eval o).run P w=.ok nx w'∧Chg w φ Λ s.h id l' w'∧ObjRep w' (upd φ id (some l')) Λ ob' l'∧
  ∃ y,(nx=.value y∨(nx=.skip∧y=undef))∧Rep w' (upd φ id (some l')) Λ x y):OpOk P n o s ((s.seth id (some ob')).put d x):=by
 intro Λ w φ a hs next QQ hn;obtain ⟨nx,w',l',h1,h2,h3,y,h4,h5⟩:=h Λ w φ a hs;subst hdd;have hs':Sim n w' (upd φ id (some l')) Λ (s.seth id (some ob')) a:=⟨hs.defs,hs.size,fun i=>h2.rep (hs.tmps i),h2.hsim h3⟩;have:=hn w' _ _ (hs'.put o.dst hd h5) h2.goes;unfold Oper.wp;rw [h1];rcases h4 with rfl|⟨rfl,rfl⟩
 · exact this
 · exact this
theorem zQ (hte:TEok P te) {t:TypeId} {ti:TI} {id:Nat} {zs:List AV} (ho:o.op=.alloc t) (ht:te.get t=some ti) (hid:s.h id=none) (hz:ti.zero.map (fun z=>AV.v z.val)=zs)
 (hdd:o.dst=d) (hd:d.all (Nat.blt · n)=true):OpOk P n o s ((s.seth id (some (.box zs))).put d (.ptr id 0 0)):=
 .chg hdd hd fun Λ w φ a hs=>by
  obtain ⟨z,h1,h2,_⟩:=(hte.tells ht).run_zero w;have hc:=Chg.alloc hs.hs hid (.cells z.cells t) 0 0;refine ⟨_,_,_,?_,hc,?_,.pointer (some ⟨w.heap.size,0,none⟩),.inl rfl,?_⟩
  · simp [execOp,ho,Instr.alloc,h1,newVar,newRow]
  · refine qo (by rw [h2,← hz];simp) fun j c hj=>?_
    rw [← hz,List.getElem?_map,Option.map_eq_some_iff] at hj;obtain ⟨q,q1,rfl⟩:=hj;exact ⟨q.val,by rw [h2];simp [q1],.v⟩
  · exact .ptr (aZ _ _ _) rfl rfl
theorem EB (hte:TEok P te) {t:TypeId} {x:Operand} {id:Nat} {y:AV} {cs:List AV} (ho:o.op=.box t x) (hx:s.ev x=y) (hf:y.flat=some cs) (hid:s.h id=none)
 (hdd:o.dst=d) (hd:d.all (Nat.blt · n)=true):OpOk P n o s ((s.seth id (some (.box cs))).put d (.ptr id 0 0)):=
 .chg hdd hd fun Λ w φ a hs=>by
  have hr:=hs.ev x;rw [hx] at hr;obtain ⟨h1,h2⟩:=hr.flat hf;have hc:=Chg.alloc hs.hs hid (.cells (a.eval x).cells t) 0 0;refine ⟨_,_,_,?_,hc,?_,.pointer (some ⟨w.heap.size,0,none⟩),.inl rfl,?_⟩
  · simp [execOp,ho,Instr.box,newVar,newRow]
  · refine qo h1 fun j c hj=>?_
    obtain ⟨z,z1,z2⟩:=h2 j c hj;exact ⟨z,z1,hc.rep z2⟩
  · exact .ptr (aZ _ _ _) rfl rfl
def AObj.withCells:AObj→List AV→AObj
 | .gbox ty _,c=>.gbox ty c
 | .grow ty _ e v,c=>.grow ty c e v
 | .map es,_=>.map es
theorem rf {w:World} {φ:aD} {Λ:aW} {h:Nat→Option AObj} (hs:HSim w φ Λ h) {id ver:Nat} {ob:AObj} {cells cs c':List AV} (hob:h id=some ob) (hc:ob.at ver=some cells)
 {po:Nat} (vs:List Value) (hv:vs.length=cs.length) (hvr:∀ (j:Nat) c,cs[j]?=some c→∃ y,vs[j]?=some y∧Rep w φ Λ c y) (h1:∀ y∈vs,y.oneCell'=true) (hb:po+cs.length≤cells.length) (hp:0<cells.length)
 (hc':cells.take po++cs++cells.drop (po+cs.length)=c') {l:Loc} (hl:φ id=some l) {b oo:Nat} (hbo:l.bo=some (b,oo)) :
 l.ver=ver∧∃ w',(storeCells ⟨b,oo+po,none⟩ vs).run P w=.ok () w'∧Chg w φ Λ h id l w'∧ObjRep w' (upd φ id (some l)) Λ (ob.withCells c') l:=by
 obtain ⟨l0,b0,oo0,arr,T,lo,hi,g1,g2,g3,g4,g5,g6,g7⟩:=hs.at hob hc hp;rw [hl] at g1;cases g1;rw [hbo] at g3;cases g3;refine ⟨g2,?_⟩;have hrun:=dX (P:=P) b (oo+po) T lo hi vs 0 arr w g4 g5 (by omega) h1;simp only [Nat.add_zero] at hrun;refine ⟨_,hrun,?_,?_⟩
 · have hlt:=hs.lt id l b oo hl hbo
   refine ⟨hs,by simp,rfl,rfl,rfl,fun k hk hne=>setRow_other w b k _ (hne l b oo hl hbo),fun b' o' hb'=>?_,fun l2 hl2=>?_,fun l2 hl2 _ b2 o2 arr2 T2 m2 hb2 hh2=>?_,pB g4 (by simp;omega)⟩
   · rw [hbo] at hb'
     cases hb';exact ⟨by simpa using hlt.1,.inr ⟨l,oo,hl,hbo⟩⟩
   · rw [hl] at hl2;cases hl2;exact .inl rfl
   · rw [hl] at hl2
     cases hl2;rw [hbo] at hb2;cases hb2;rw [g4] at hh2;cases hh2;exact ⟨_,_,_,setRow_heap w b arr _ T (lo,hi) g4,by simp;omega⟩
 · have hlt:oo+po+vs.length≤arr.size:=by omega
   have hsz:(arr.toList.take (oo+po)++vs++arr.toList.drop (oo+po+vs.length)).toArray.size=arr.size:=by simp;omega
   have hcl:c'.length=cells.length:=by rw [← hc'];simp;omega
   have hstays:Stays w φ (w.setRow b (arr.toList.take (oo+po)++vs++arr.toList.drop (oo+po+vs.length)).toArray) φ:=by
    refine ⟨fun i l2 h2=>⟨l2,h2,.inl rfl⟩,fun i l2 h2 _ b2 o2 arr2 T2 m2 hb2 hh2=>?_⟩;by_cases hbb:b2=b
    · subst hbb
      rw [g4] at hh2;cases hh2;exact ⟨_,_,_,setRow_heap w b2 arr _ T (lo,hi) g4,by rw [hsz];exact Nat.le_refl _⟩
    · exact ⟨arr2,T2,m2,by rw [setRow_other w b b2 _ hbb];exact hh2,Nat.le_refl _⟩
   have hgoes:Goes w φ (w.setRow b (arr.toList.take (oo+po)++vs++arr.toList.drop (oo+po+vs.length)).toArray) φ:=by
    refine ⟨fun k hk hno=>setRow_other w b k _ (fun e=>hno ⟨id,l,oo,hl,by rw [hbo,e]⟩),by simp,fun _ h=>.inl h,rfl,rfl,rfl,hstays.pin,pB g4 hsz⟩
   have hupd:upd φ id (some l)=φ:=by
    funext i
    by_cases hi:i=id
    · subst hi;rw [aZ,hl]
    · rw [bf _ _ _ _ hi]
   rw [hupd];have hcells:CellsRep (w.setRow b (arr.toList.take (oo+po)++vs++arr.toList.drop (oo+po+vs.length)).toArray) φ Λ (arr.toList.take (oo+po)++vs++arr.toList.drop (oo+po+vs.length)).toArray oo c':=by
    intro j c hj;rw [← hc'] at hj;simp only [List.getElem?_toArray];by_cases hj1:j<po
    · have hj2:cells[j]?=some c:=by
       rw [List.append_assoc,List.getElem?_append_left (by simp;omega),List.getElem?_take,if_pos hj1] at hj;exact hj
      obtain ⟨y,y1,y2⟩:=g7 j c hj2;refine ⟨y,?_,y2.goes hgoes hstays⟩;rw [List.append_assoc,List.getElem?_append_left (by simp;omega),List.getElem?_take,if_pos (by omega)]
      simpa using y1
    · by_cases hj3:j<po+cs.length
      · have hj4:cs[j-po]?=some c:=by
         rw [List.append_assoc,List.getElem?_append_right (by simp;omega),List.getElem?_append_left (by simp;omega)] at hj;simp only [List.length_take] at hj
         rwa [Nat.min_eq_left (by omega)] at hj
        obtain ⟨y,y1,y2⟩:=hvr _ c hj4;refine ⟨y,?_,y2.goes hgoes hstays⟩;rw [List.append_assoc,List.getElem?_append_right (by simp;omega),List.getElem?_append_left (by simp;omega)];simp only [List.length_take,Array.length_toList];rw [Nat.min_eq_left (by omega),show oo+j-(oo+po)=j-po by omega];exact y1
      · have hj5:cells[j]?=some c:=by
         rw [List.getElem?_append_right (by simp;omega),List.getElem?_drop] at hj;simp only [List.length_append,List.length_take] at hj
         rwa [Nat.min_eq_left (by omega),show po+cs.length+(j-(po+cs.length))=j by omega] at hj
        obtain ⟨y,y1,y2⟩:=g7 j c hj5;refine ⟨y,?_,y2.goes hgoes hstays⟩;rw [List.getElem?_append_right (by simp;omega),List.getElem?_drop];simp only [List.length_append,List.length_take,Array.length_toList];rw [Nat.min_eq_left (by omega),show oo+po+vs.length+(oo+j-(oo+po+vs.length))=oo+j by omega]
        simpa using y1
   cases ob with
   | gbox ty c=>
    simp only [AObj.at] at hc;obtain ⟨l3,g8,g9⟩:=hs.heap id _ hob;rw [hl] at g8;cases g8;obtain ⟨b4,arr4,T4,k1,k2,k3,k4,k5⟩:=g9;rw [hbo] at k1;cases k1;rw [g4] at k3;cases k3;have hcc:c.length=cells.length:=by
     cases hb:Nat.beq ver 0 with
     | false=>rw [hb] at hc;cases hc
     | true=>rw [hb] at hc;simp only [cond_true,Option.some.injEq] at hc;rw [hc]
    exact ⟨b,_,T4,hbo,k2,setRow_heap w b arr _ _ (0,0) g4,by rw [hsz,k4,hcc,hcl],hcells⟩
   | grow ty c e v=>
    simp only [AObj.at] at hc;have hv2:ver=v:=by
     cases hb:Nat.beq ver v with
     | false=>rw [hb] at hc;cases hc
     | true=>exact Nat.eq_of_beq_eq_true hb
    obtain ⟨l3,g8,g9⟩:=hs.heap id _ hob;rw [hl] at g8;cases g8;have hT:∃ T',T=ty.getD T':=by
     rcases g9.2 with ⟨k1,_⟩|⟨b4,o4,arr4,T4,lo4,hi4,k1,k2,_⟩
     · rw [hbo] at k1;cases k1
     · rw [hbo] at k1
       cases k1;rw [g4] at k2;cases k2;exact ⟨T4,rfl⟩
    obtain ⟨T',rfl⟩:=hT;refine ⟨by omega,.inr ⟨b,oo,_,T',lo,hi,hbo,setRow_heap w b arr _ _ (lo,hi) g4,by rw [hsz];exact g5,by rw [hsz,hcl];exact g6,hcells⟩⟩
   | map es=>simp [AObj.at] at hc
theorem fq (hte:TEok P te) {t:TypeId} {x y:Operand} {id ver po:Nat} {ob:AObj} {cells cs c':List AV} {ti:TI} {v:AV} (ho:o.op=.store t x y) (hx:s.ev x=.ptr id ver po)
 (hy:s.ev y=v) (hf:v.flat=some cs) (h1:cs.all AV.one=true) (hob:s.h id=some ob) (hc:ob.at ver=some cells) (ht:te.get t=some ti) (hl:cs.length=ti.size)
 (hb:po+cs.length≤cells.length) (hp:0<cells.length) (hc':cells.take po++cs++cells.drop (po+cs.length)=c') (hdd:o.dst=d) (hd:d.all (Nat.blt · n)=true) :
 OpOk P n o s ((s.seth id (some (ob.withCells c'))).put d (.v undef)):=
 .chg hdd hd fun Λ w φ a hs=>by
  have hr:=hs.ev x;rw [hx] at hr;have hry:=hs.ev y;rw [hy] at hry;obtain ⟨f1,f2⟩:=hry.flat hf;obtain ⟨l,hl1,_⟩:=hs.hs.heap id ob hob;obtain ⟨l0,b0,oo0,arr,T,lo,hi,g1,g2,g3,g4,g5,g6,g7⟩:=hs.hs.at hob hc hp;generalize hv:a.eval x=xv at hr;cases hr with
  | ptrx e1 e2=>rw [g1] at e1;cases e1;omega
  | ptr e1 e2 e3=>
   rw [g1] at e1;cases e1;rw [g3] at e3;cases e3;obtain ⟨_,w',r1,r2,r3⟩:=rf (P:=P) hs.hs hob hc (po:=po) (a.eval y).cells.toList (by simpa using f1) (fun j c hj=>by simpa using f2 j c hj) (hry.flat_one hf h1) hb hp hc' g1 g3;refine ⟨.skip,w',l0,?_,r2,r3,undef,.inr ⟨rfl,rfl⟩,.v⟩;have hsz:(a.eval y).cells.size=ti.size:=by rw [f1,hl]
   simp [execOp,ho,hv,Instr.storeAt,Instr.sureAddr,storeVar,(hte.tells ht).run_sizeOf,hsz,r1]
end rules
section run
variable {P:Program} {w:World}
def i4 (d:TypeDesc):Prop:=(∃ e,d=.slice e)∨d=.string
theorem lT {t t2 ty e:TypeId} {d2:TypeDesc} {f:TypeInfo} (ht:P.underlying t=some (.slice e)) (h2:P.underlying t2=some d2) (hd2:i4 d2) (hi:P.info? e=some f)
 {ad:Addr} {sLen sCap m:Nat} {yv:Value} {vs:List Value} (hlen:(Builtin.lenOf yv).run P w=.ok m w) (hnew:(Builtin.firstCells f.size m yv).run P w=.ok vs.toArray w) (hroom:sLen+m≤sCap)
 {w':World} (hst:(storeCells (ad.add (sLen*f.size)) vs).run P w=.ok () w') :
 (Builtin.append_ #[t,t2] ty #[.slice (some ad) sLen sCap,yv]).run P w=.ok (.slice (some ad) (sLen+m) sCap) w':=by
 rcases hd2 with ⟨e2,rfl⟩|rfl
 · simp [Builtin.append_,run_underlying ht,run_underlying h2,sizeOf,typeInfo,hi,hlen,hnew,hroom,hst]
 · simp [Builtin.append_,run_underlying ht,run_underlying h2,sizeOf,typeInfo,hi,hlen,hnew,hroom,hst]
theorem oZ {t t2 ty e:TypeId} {d2:TypeDesc} {f:TypeInfo} (ht:P.underlying t=some (.slice e)) (h2:P.underlying t2=some d2) (hd2:i4 d2) (hi:P.info? e=some f)
 {yv:Value} (hlen:(Builtin.lenOf yv).run P w=.ok 0 w) (hnew:(Builtin.firstCells f.size 0 yv).run P w=.ok [].toArray w) :
 (Builtin.append_ #[t,t2] ty #[.slice none 0 0,yv]).run P w=.ok (.slice none 0 0) w:=by
 rcases hd2 with ⟨e2,rfl⟩|rfl
 · simp [Builtin.append_,run_underlying ht,run_underlying h2,sizeOf,typeInfo,hi,hlen,hnew]
 · simp [Builtin.append_,run_underlying ht,run_underlying h2,sizeOf,typeInfo,hi,hlen,hnew]
theorem pY {t t2 ty e:TypeId} {d2:TypeDesc} {f:TypeInfo} {z:Value} (ht:P.underlying t=some (.slice e)) (h2:P.underlying t2=some d2) (hd2:i4 d2) (hi:P.info? e=some f)
 (hz:f.zero=some z) {base:Option Addr} {sLen sCap m:Nat} {yv:Value} {vs olds:List Value} (hlen:∀ w':World,(Builtin.lenOf yv).run P w'=.ok m w')
 (hnew:∀ w':World,w'.heap=w.heap→(Builtin.firstCells f.size m yv).run P w'=.ok vs.toArray w')
 (hold:∀ w':World,w'.heap=w.heap→(Builtin.firstCells f.size sLen (.slice base sLen sCap)).run P w'=.ok olds.toArray w') (hroom:sCap<sLen+m) (hb:(sLen+m)*f.bytes≤140737488355328)
 (h63:sLen+m≤9223372036854775807) :
 (Builtin.append_ #[t,t2] ty #[.slice base sLen sCap,yv]).run P w=.ok (.slice (some ⟨w.heap.size,0,none⟩) (sLen+m) (grownCap w (sLen+m) sCap e))
  (w.drew.alloc (.cells (olds.toArray++vs.toArray++Builtin.zeroCells z.cells (grownCap w (sLen+m) sCap e-(sLen+m))) e)):=by
 have hn:¬ (sLen+m≤sCap):=by omega
 have h63':¬ (9223372036854775807<((sLen:Int)+(m:Int))):=by omega
 have h48:=growslice_fits hroom hb;have h48':¬ (281474976710656<Builtin.nextslicecap (sLen+m) sCap*f.bytes):=by omega
 have e1:=hnew w.drew rfl;have e2:=hold w.drew rfl;have e3:=hlen w;rcases hd2 with ⟨e2',rfl⟩|rfl
 · simp [Builtin.append_,run_underlying ht,run_underlying h2,sizeOf,typeInfo,zeroValue,hi,hz,e3,hn,h63',h48',Question.forced,e1,e2,newRow,grownCap]
   congr 2
   apply Array.ext'
   simp
 · simp [Builtin.append_,run_underlying ht,run_underlying h2,sizeOf,typeInfo,zeroValue,hi,hz,e3,hn,h63',h48',Question.forced,e1,e2,newRow,grownCap]
   congr 2
   apply Array.ext'
   simp
end run
section rules
variable {P:Program} {n:Nat} {Q:bB} {s:AS} {te:TE} {o:Oper} {d:Option Tmp}
def Src (P:Program) (n:Nat) (s:AS) (y:Operand) (esz m:Nat) (cs:List AV):Prop:=
 ∀ Λ w φ a,Sim n w φ Λ s a→(∀ w',(Builtin.lenOf (a.eval y)).run P w'=.ok m w')∧∃ vs:List Value,vs.length=m*esz∧cs.length=m*esz∧
  (∀ w':World,w'.heap=w.heap→(Builtin.firstCells esz m (a.eval y)).run P w'=.ok vs.toArray w')∧(∀ (j:Nat) c,cs[j]?=some c→∃ u,vs[j]?=some u∧Rep w φ Λ c u)
theorem BA {y:Operand} {l:List UInt8} {cs:List AV} (hy:s.ev y=str l) (hc:l.map (fun b=>u8 b.toNat)=cs):Src P n s y 1 l.length cs:=fun Λ w φ a hs=>by
 have hv:=cc hs hy;rw [hv];refine ⟨fun w'=>by simp [Builtin.lenOf,mV],l.map (fun b=>.int .u8 b.toNat),by simp,by rw [← hc];simp,fun w' _=>?_,fun j c hj=>?_⟩
 · simp only [Builtin.firstCells,qw,Sem.run_pure]
   congr 1
   apply Array.ext'
   simp
 · rw [← hc,List.getElem?_map,Option.map_eq_some_iff] at hj
   obtain ⟨b,h1,rfl⟩:=hj;exact ⟨_,by rw [List.getElem?_map,h1];rfl,.v⟩
theorem BB {y:Operand} {esz k:Nat} (hy:s.ev y=.v (.slice none 0 k)):Src P n s y esz 0 []:=fun Λ w φ a hs=>by
 have hv:=cc hs hy;rw [hv];exact ⟨fun w'=>by simp [Builtin.lenOf],[],by simp,by simp,fun w' _=>by simp [Builtin.firstCells],fun j c hj=>by simp at hj⟩
theorem Eb {y:Operand} {lv esz m:Nat} {cs:List AV} (hy:s.ev y=.fz lv m cs) (hl:cs.length=m*esz):Src P n s y esz m cs:=fun Λ w φ a hs=>by
 have hr:=hs.ev y;rw [hy] at hr;generalize a.eval y=v at hr;cases hr with
 | @fz0 _ ad cap=>
  refine ⟨fun w'=>by simp [Builtin.lenOf],[],by simp,by simp,fun w' _=>?_,fun j c hj=>by simp at hj⟩;cases ad with
  | none=>simp [Builtin.firstCells]
  | some ad=>simp [Builtin.firstCells,loadCells,loadCellsFrom]
 | @fz _ _ _ b oo cap vf hm hn hok hc hr hp=>
  refine ⟨fun w'=>by simp [Builtin.lenOf],(List.range (m*esz)).map vf,by simp,hl,fun w' hw=>?_,fun j c hj=>?_⟩
  · simp only [Builtin.firstCells]
    refine run_loadCells w' _ _ vf fun j hj=>?_
    rw [Addr.add_lit];have:=hc j (by rw [hl];exact hj)
    simpa [World.cell?,hw] using this
  · have hlt:=(List.getElem?_eq_some_iff.1 hj).1
    exact ⟨vf j,by rw [hl] at hlt;simp [hlt],hr j c hj⟩
theorem zk {y:Operand} {id ver off len esz:Nat} {ob:AObj} {cells cs:List AV} (hy:s.ev y=.sl id ver off len esz) (hob:s.h id=some ob) (hat:ob.at ver=some cells)
 (hc:(cells.drop off).take (len*esz)=cs) (hl:cs.length=len*esz):Src P n s y esz len cs:=fun Λ w φ a hs=>by
 have hr:=hs.ev y;rw [hy] at hr;generalize a.eval y=v at hr;by_cases hp:0<cells.length
 · obtain ⟨l0,b0,oo0,arr,T,lo,hi,g1,g2,g3,g4,g5,g6,g7⟩:=hs.hs.at hob hat hp
   have hlen:cs.length=min (len*esz) (cells.length-off):=by rw [← hc];simp
   cases hr with
   | slx e1 e2=>rw [g1] at e1;cases e1;omega
   | @sl0 _ _ _ _ _ ad e1 e2=>
    have:cs=[]:=List.eq_nil_of_length_eq_zero (by simpa using hl);subst this;refine ⟨fun w'=>by simp [Builtin.lenOf],[],by simp,by simp,fun w' _=>?_,fun j c hj=>by simp at hj⟩;cases ad with
    | none=>simp [Builtin.firstCells]
    | some ad=>simp [Builtin.firstCells,loadCells,loadCellsFrom]
   | sl e1 e2 e3 e4 e5 e6=>
    rw [g1] at e1;cases e1;rw [g3] at e3;cases e3;rw [g4] at e4;cases e4;refine ⟨fun w'=>by simp [Builtin.lenOf],(List.range (len*esz)).map (fun j=>arr.getD (oo0+off+j) undef),by simp,hl,fun w' hw=>?_,fun j c hj=>?_⟩
    · simp only [Builtin.firstCells]
      refine run_loadCells w' _ _ _ fun j hj=>?_
      rw [Addr.add_lit];have:oo0+off+j<arr.size:=by omega
      simp [World.cell?,hw,g4,Array.getD,this]
    · have hlt:=(List.getElem?_eq_some_iff.1 hj).1
      rw [← hc,List.getElem?_take] at hj;split at hj
      · rw [List.getElem?_drop] at hj
        obtain ⟨z,z1,z2⟩:=g7 (off+j) c hj;rw [← Nat.add_assoc] at z1;refine ⟨z,?_,z2⟩;rw [List.getElem?_map,List.getElem?_range (by omega)];simp [Array.getD_eq_getD_getElem?,z1]
      · cases hj
 · have hc0:cells=[]:=List.eq_nil_of_length_eq_zero (by omega)
   subst hc0;have hcs:cs=[]:=by rw [← hc];simp
   subst hcs;simp only [List.length_nil] at hl;have hv:∃ ad cap,v=.slice ad len cap:=ij hr rfl;obtain ⟨ad,cap,rfl⟩:=hv;refine ⟨fun w'=>by simp [Builtin.lenOf],[],by simp [← hl],by simp [← hl],fun w' _=>?_,fun j c hj=>by simp at hj⟩;cases ad with
   | none=>simp [Builtin.firstCells]
   | some ad=>simp [Builtin.firstCells,loadCells,← hl,loadCellsFrom]
theorem Bt (hte:TEok P te) {e:TypeId} {tj:TI} (he:te.get e=some tj):∃ f z,P.info? e=some f∧f.size=tj.size∧f.bytes=tj.bytes∧f.zero=some z:=by
 obtain ⟨f,z,h1,h2,h3,h4,_⟩:=(hte.tells he).info;exact ⟨f,z,h1,h2,h3,h4⟩
theorem xT (hte:TEok P te) {t:TypeId} {ti:TI} (ht:te.get t=some ti) (hk:(match ti.k with|.slice _|.str=>true|_=>false)=true):∃ d2,P.underlying t=some d2∧i4 d2:=by
 obtain ⟨d2,h1,h2⟩:=(hte.tells ht).desc;refine ⟨d2,h1,?_⟩;obtain ⟨k,_,_,_⟩:=ti;cases k<;>simp at hk<;>cases d2<;>simp_all [TK.chk,i4]
theorem ji (hte:TEok P te) {t t2 e:TypeId} {x y:Operand} {id ver off len m esz:Nat} {ty:Option TypeId} {cells cs c':List AV} {ti tj tk:TI} (hty:ty.getD e=e) (ho:o.op=.call { callee:=.builtin .append,args:=#[x,y],argTypes:=#[t,t2] })
 (hx:s.ev x=.sl id ver off len esz) (hob:s.h id=some (.grow ty cells esz ver)) (hlen:off+len*esz=cells.length) (ht:te.get t=some ti) (hk:ti.k=.slice e) (he:te.get e=some tj) (hesz:tj.size=esz)
 (ht2:te.get t2=some tk) (hk2:(match tk.k with|.slice _|.str=>true|_=>false)=true) (hsrc:Src P n s y esz m cs) (h1:∀ c∈cs,c.one=true) (hc':cells.drop off++cs=c')
 (hb:(len+m)*tj.bytes≤140737488355328) (hm:len+m≤9223372036854775807) (hdd:o.dst=d) (hd:d.all (Nat.blt · n)=true) :
 OpOk P n o s ((s.seth id (some (.grow ty c' esz (ver+1)))).put d (.sl id (ver+1) 0 (len+m) esz)):=
 .chg hdd hd fun Λ w φ a hs=>by
  subst hesz;obtain ⟨hl,vs,v1,v2,v3,v4⟩:=hsrc Λ w φ a hs;have hone:∀ u∈vs,u.oneCell'=true:=by
   intro u hu;obtain ⟨j,hj,rfl⟩:=List.getElem_of_mem hu;obtain ⟨z,z1,z2⟩:=v4 j cs[j] (List.getElem?_eq_getElem (by omega));rw [List.getElem?_eq_getElem hj] at z1;cases z1;exact z2.one (h1 _ (List.getElem_mem _))
  obtain ⟨f,z,f1,f2,f3,f4⟩:=Bt hte he;obtain ⟨d2,u1,u2⟩:=xT hte ht2 hk2;have hu:=(hte.tells ht).slice hk;obtain ⟨l,hloc,hor⟩:=hs.hs.heap id _ hob;obtain ⟨hver,hor⟩:=hor;have hr:=hs.ev x;rw [hx] at hr;generalize hxv:a.eval x=xv at hr;have grown:∀ (base:Option Addr) (cap:Nat) (olds:List Value),xv=.slice base len cap→olds.length=len*tj.size→cap<len+m→
   (∀ w':World,w'.heap=w.heap→(Builtin.firstCells f.size len (.slice base len cap)).run P w'=.ok olds.toArray w')→
   (∀ (j:Nat) c,(cells.drop off)[j]?=some c→∃ u,olds[j]?=some u∧Rep w φ Λ c u)→
   ∃ nx w' l',(execOp a.eval o).run P w=.ok nx w'∧Chg w φ Λ s.h id l' w'∧ObjRep w' (upd φ id (some l')) Λ (.grow ty c' tj.size (ver+1)) l'∧
    ∃ y,(nx=.value y∨(nx=.skip∧y=undef))∧Rep w' (upd φ id (some l')) Λ (.sl id (ver+1) 0 (len+m) tj.size) y:=by
   intro base cap olds hbase hol hcap hold holr;have hrun:=pY (P:=P) (w:=w) (ty:=o.type) hu u1 u2 f1 f4 (base:=base) (sLen:=len) (sCap:=cap) (m:=m) (olds:=olds) hl (by rw [f2];exact v3) hold hcap (by rw [f3];exact hb) hm;have hc2:Chg w φ Λ s.h id ⟨some (w.heap.size,0),ver+1⟩ (w.drew.alloc (.cells (olds.toArray++vs.toArray++Builtin.zeroCells z.cells (grownCap w (len+m) cap e-(len+m))) e)):=by
    refine ⟨hs.hs,by simp,rfl,rfl,rfl,fun k hk _=>Below.heap_alloc w.drew _ k hk,fun b' o' hb'=>?_,fun l2 hl2=>?_,fun l2 hl2 he2=>?_,(Fro.same (w':=w.drew) rfl).trans s4⟩
    · simp only [Option.some.injEq,Prod.mk.injEq] at hb'
      obtain ⟨rfl,rfl⟩:=hb';exact ⟨by simp,.inl (Nat.le_refl _)⟩
    · rw [hloc] at hl2
      cases hl2;exact .inr (by show l.ver<ver+1;omega)
    · rw [hloc] at hl2
      cases hl2;rw [← he2] at hver;simp at hver
   have hcell:∀ (j:Nat) c,c'[j]?=some c→∃ y,(olds.toArray++vs.toArray++Builtin.zeroCells z.cells (grownCap w (len+m) cap e-(len+m)))[j]?=some y∧
    Rep (w.drew.alloc (.cells (olds.toArray++vs.toArray++Builtin.zeroCells z.cells (grownCap w (len+m) cap e-(len+m))) e)) (upd φ id (some ⟨some (w.heap.size,0),ver+1⟩)) Λ c y:=by
    intro j c hj;rw [← hc'] at hj;have hdl:(cells.drop off).length=len*tj.size:=by simp;omega
    by_cases hj1:j<len*tj.size
    · rw [List.getElem?_append_left (by omega)] at hj
      obtain ⟨u,q1,q2⟩:=holr j c hj;refine ⟨u,?_,hc2.rep q2⟩;rw [Array.append_assoc,Array.getElem?_append_left (by simp;omega)]
      simpa using q1
    · rw [List.getElem?_append_right (by omega),hdl] at hj
      obtain ⟨u,q1,q2⟩:=v4 _ c hj;have hlt:=(List.getElem?_eq_some_iff.1 q1).1;refine ⟨u,?_,hc2.rep q2⟩;rw [Array.append_assoc,Array.getElem?_append_right (by simp;omega),Array.getElem?_append_left (by simp;omega)];simp only [List.size_toArray,hol,List.getElem?_toArray];exact q1
   have hsz:c'.length≤(olds.toArray++vs.toArray++Builtin.zeroCells z.cells (grownCap w (len+m) cap e-(len+m))).size:=by
    rw [← hc'];simp;omega
   refine ⟨_,_,_,?_,hc2,jj hty (w0:=w.drew) hsz hcell,.slice (some ⟨w.heap.size,0,none⟩) (len+m) (grownCap w (len+m) cap e),.inl rfl,?_⟩
   · simp [execOp,ho,resolve,invoke,builtin,hxv,hbase,hrun]
   · have hgz:=grownCap_ge w (len+m) cap e
     refine Rep.sl (w:=w.drew.alloc (.cells (olds.toArray++vs.toArray++Builtin.zeroCells z.cells (grownCap w (len+m) cap e-(len+m))) e)) (φ:=upd φ id (some ⟨some (w.heap.size,0),ver+1⟩)) (Λ:=Λ)
      (id:=id) (ver:=ver+1) (off:=0) (len:=len+m) (esz:=tj.size) (cap:=grownCap w (len+m) cap e) (aZ _ _ _) rfl rfl (heap_alloc_new w.drew _) ?_ hgz
     obtain ⟨f',z',g1,g2,g3,g4,g5,g6,g7⟩:=(hte.tells he).info;rw [f1] at g1;cases g1;rw [f4] at g4;cases g4;simp only [Array.size_append,List.size_toArray,size_zeroCells,v1,hol,g5,List.length_map,g6,Nat.zero_add];rw [← Nat.add_mul,← Nat.add_mul];exact Nat.mul_le_mul_right _ (by omega)
  cases hr with
  | slx e1 e2=>rw [hloc] at e1;cases e1;omega
  | @sl0 _ _ _ _ _ ad e1 e2=>
   have hdrop:cells.drop off=[]:=by rw [List.drop_eq_nil_iff];omega
   by_cases hm0:m=0
   · subst hm0
     simp only [Nat.zero_mul] at v1 v2;have hcs:cs=[]:=List.eq_nil_of_length_eq_zero v2;have hvs:vs=[]:=List.eq_nil_of_length_eq_zero v1;subst hcs;subst hvs;have hc0:c'=[]:=by rw [← hc',hdrop];rfl
     subst hc0;refine ⟨.value (.slice ad 0 0),w,⟨none,ver+1⟩,?_,?_,⟨rfl,.inl ⟨rfl,rfl⟩⟩,.slice ad 0 0,.inl rfl,.sl0 (aZ _ _ _) rfl⟩
     · cases ad with
       | none=>
        have hrun:=oZ (P:=P) (w:=w) (ty:=o.type) hu u1 u2 f1 (hl w) (by rw [f2];exact v3 w rfl);simp [execOp,ho,resolve,invoke,builtin,hxv,hrun]
       | some ad=>
        have hrun:=lT (P:=P) (w:=w) (ty:=o.type) hu u1 u2 f1 (ad:=ad) (sLen:=0) (sCap:=0) (m:=0) (hl w) (by rw [f2];exact v3 w rfl) (Nat.le_refl _) (w':=w) (by simp [storeCells]);simp [execOp,ho,resolve,invoke,builtin,hxv,hrun]
     · refine ⟨hs.hs,Nat.le_refl _,rfl,rfl,rfl,fun k _ _=>rfl,(fun b' o' hb'=>by cases hb'),fun l2 hl2=>?_,fun l2 hl2 he2=>?_,.refl w⟩
       · rw [hloc] at hl2
         cases hl2;exact .inr (by show l.ver<ver+1;omega)
       · rw [hloc] at hl2
         cases hl2;rw [← he2] at hver;simp at hver
   · refine grown ad 0 [] rfl (by simp) (by omega) (fun w' _=>?_) (fun j c hj=>by rw [hdrop] at hj;simp at hj)
     cases ad with
     | none=>simp [Builtin.firstCells]
     | some ad=>simp [Builtin.firstCells,loadCells,loadCellsFrom]
  | @sl _ _ _ _ _ _ b oo cap arr T mk e1 e2 e3 e4 e5 e6=>
   rw [hloc] at e1;cases e1;rcases hor with ⟨g1,g2⟩|⟨b2,oo2,arr2,T2,lo,hi,g3,g4,g5,g6,g7⟩
   · rw [e3] at g1;cases g1
   · rw [e3] at g3
     cases g3;rw [e4] at g4;cases g4;have hcapz:len*tj.size≤cap*tj.size:=Nat.mul_le_mul_right _ e6;by_cases hroom:len+m≤cap
     · have hmz:(len+m)*tj.size≤cap*tj.size:=Nat.mul_le_mul_right _ hroom
       rw [Nat.add_mul] at hmz;have hst:=dX (P:=P) b (oo+off+len*tj.size) _ lo hi vs 0 arr w e4 g5 (by omega) hone;simp only [Nat.add_zero] at hst;have hrun:=lT (P:=P) (w:=w) (ty:=o.type) hu u1 u2 f1 (ad:=⟨b,oo+off,none⟩) (sLen:=len) (sCap:=cap) (m:=m) (hl w) (by rw [f2];exact v3 w rfl) hroom (by rw [Addr.add_lit,f2];exact hst);have hsz:(arr.toList.take (oo+off+len*tj.size)++vs++arr.toList.drop (oo+off+len*tj.size+vs.length)).toArray.size=arr.size:=by simp;omega
       have hc2:Chg w φ Λ s.h id ⟨some (b,oo+off),ver+1⟩ (w.setRow b (arr.toList.take (oo+off+len*tj.size)++vs++arr.toList.drop (oo+off+len*tj.size+vs.length)).toArray):=by
        have hlt:=hs.hs.lt id l b oo hloc e3;refine ⟨hs.hs,by simp,rfl,rfl,rfl,fun k hk hne=>setRow_other w b k _ (hne l b oo hloc e3),fun b' o' hb'=>?_,fun l2 hl2=>?_,fun l2 hl2 he2=>?_,pB e4 hsz⟩
        · simp only [Option.some.injEq,Prod.mk.injEq] at hb'
          obtain ⟨rfl,rfl⟩:=hb';exact ⟨by simpa using hlt.1,.inr ⟨l,oo,hloc,e3⟩⟩
        · rw [hloc] at hl2
          cases hl2;exact .inr (by show l.ver<ver+1;omega)
        · rw [hloc] at hl2
          cases hl2;rw [← he2] at hver;simp at hver
       have hdl:(cells.drop off).length=len*tj.size:=by simp;omega
       have hheap:=setRow_heap w b arr (arr.toList.take (oo+off+len*tj.size)++vs++arr.toList.drop (oo+off+len*tj.size+vs.length)).toArray _ (lo,hi) e4;refine ⟨.value (.slice (some ⟨b,oo+off,none⟩) (len+m) cap),_,_,?_,hc2,⟨rfl,.inr ⟨b,oo+off,_,T2,lo,hi,rfl,hheap,by rw [hsz];exact g5,?_,fun j c hj=>?_⟩⟩,_,.inl rfl,?_⟩
       · simp [execOp,ho,resolve,invoke,builtin,hxv,hrun]
       · rw [hsz,← hc',List.length_append,hdl,v2]
         omega
       · rw [← hc'] at hj
         simp only [List.getElem?_toArray];by_cases hj1:j<len*tj.size
         · rw [List.getElem?_append_left (by omega),List.getElem?_drop] at hj
           obtain ⟨u,q1,q2⟩:=g7 _ c hj;refine ⟨u,?_,hc2.rep q2⟩;rw [List.append_assoc,List.getElem?_append_left (by simp;omega),List.getElem?_take,if_pos (by omega)];rw [← Nat.add_assoc] at q1
           simpa using q1
         · rw [List.getElem?_append_right (by omega),hdl] at hj
           obtain ⟨u,q1,q2⟩:=v4 _ c hj;have hlt:=(List.getElem?_eq_some_iff.1 q1).1;refine ⟨u,?_,hc2.rep q2⟩;rw [List.append_assoc,List.getElem?_append_right (by simp;omega),List.getElem?_append_left (by simp;omega)];simp only [List.length_take,Array.length_toList];rw [Nat.min_eq_left (by omega),show oo+off+j-(oo+off+len*tj.size)=j-len*tj.size by omega];exact q1
       · exact Rep.sl (off:=0) (aZ _ _ _) rfl rfl hheap (by rw [hsz];omega) hroom
     · refine grown (some ⟨b,oo+off,none⟩) cap ((List.range (len*tj.size)).map fun j=>arr.getD (oo+off+j) undef) rfl (by simp) (by omega) (fun w' hw=>?_) (fun j c hj=>?_)
       · simp only [Builtin.firstCells,f2]
         refine run_loadCells w' _ _ _ fun j hj=>?_
         rw [Addr.add_lit];have:oo+off+j<arr.size:=by omega
         simp [World.cell?,hw,e4,Array.getD,this]
       · have hlt:=(List.getElem?_eq_some_iff.1 hj).1
         simp only [List.length_drop] at hlt;rw [List.getElem?_drop] at hj;obtain ⟨u,q1,q2⟩:=g7 _ c hj;rw [← Nat.add_assoc] at q1;refine ⟨u,?_,q2⟩;rw [List.getElem?_map,List.getElem?_range (by omega)];simp [Array.getD_eq_getD_getElem?,q1]
end rules
inductive AEnd where
 | ret (r:AV)
 | panic (x:Value)
abbrev aX:=Nat→Option AObj
abbrev emp:aX:=fun _=>none
def wC (P:Program) (f:FuncId) (fn:Func) (c:Code):Prop:=P.funcs[f]?=some fn∧fn.body=some c∧(fn.name == "runtime.NumGoroutine")=false
def eI (w:World) (φ:aD) (Λ:aW) (args:List AV) (vals:Array Value):Prop:=
 vals.size=args.length∧∀ (j:Nat) c,args[j]?=some c→∃ v,vals[j]?=some v∧Rep w φ Λ c v
def AC (P:Program) (f:FuncId) (args:List AV) (h:aX) (R:AEnd→aX→Prop):Prop:=
 (∃ fn c,wC P f fn c)∧
 ∀ Λ w φ (vals:Array Value),HSim w φ Λ h→eI w φ Λ args vals→∀ QQ:Ending→World→Prop,
  (∀ r h' w' φ' v,R (.ret r) h'→HSim w' φ' Λ h'→Goes w φ w' φ'→Rep w' φ' Λ r v→QQ (.returned v) w')→
  (∀ x h' w' φ',R (.panic x) h'→HSim w' φ' Λ h'→Goes w φ w' φ'→QQ (.panicked [{ v:=x,recovered:=false }]) w')→Calls P f vals w QQ
theorem AC.mono {P:Program} {f:FuncId} {args:List AV} {h:aX} {R R':AEnd→aX→Prop} (hc:AC P f args h R) (hr:∀ e h,R e h→R' e h):AC P f args h R':=
 ⟨hc.1,fun Λ w φ vals hs ha QQ h1 h2=>hc.2 Λ w φ vals hs ha QQ (fun r h' w' φ' v k=>h1 r h' w' φ' v (hr _ _ k)) (fun x h' w' φ' k=>h2 x h' w' φ' (hr _ _ k))⟩
def Sees (h:aX) (r:AV) (h':aX) (r':AV):Prop:=
 ∀ w φ Λ v,HSim w φ Λ h→Rep w φ Λ r v→∃ φ',HSim w φ' Λ h'∧Rep w φ' Λ r' v∧Goes w φ w φ'
theorem aI {b:Nat} (h:bp (fun _=>none) b):False:=by
 obtain ⟨id,l,o,k,_⟩:=h;cases k
def mS (h:aX):Bool:=(List.range 8).all fun id=>(h id).isNone
theorem ug {h:aX} (hp:mS h=true) {id:Nat} (hi:id<8):h id=none:=by
 have:=List.all_eq_true.1 hp id (List.mem_range.2 hi)
 simpa using this
theorem yw (w:World) {φ:aD} (hp:∀ id,id<8→φ id=none):Goes w φ w (fun _=>none):=⟨fun _ _ _=>rfl,Nat.le_refl _,fun b hb=>(aI hb).elim,rfl,rfl,rfl,Pin.none _ _ hp,.refl w⟩
theorem yt {w:World} {φ:aD} {Λ:aW} {h:aX} (hs:HSim w φ Λ h):HSim w (fun _=>none) Λ emp where
 heap id ob h:=by cases h
 dom _ _:=rfl
 lt id l b o h:=by cases h
 inj id id' l l' b o o' h:=by cases h
 lent:=hs.lent
def yx (h:aX) (lv:Nat):AV→AV
 | .sl id ver off len esz=>
  match h id with
  | some ob=>match ob.at ver with
   | some cells=>.fz lv len ((cells.drop off).take (len*esz))
   | none=>.any
  | none=>.any
 | .ptr id ver off=>
  match h id with
  | some ob=>match ob.at ver with
   | some cells=>.fp lv (cells.drop off)
   | none=>.any
  | none=>.any
 | x=>x
def FI (h:aX) (lv:Nat):AV→Prop
 | .sl id ver off len esz=>∃ ob cells,h id=some ob∧ob.at ver=some cells∧(∀ c∈cells,c.ok lv=true)∧off+len*esz≤cells.length∧0<esz
 | .ptr id ver off=>∃ ob cells,h id=some ob∧ob.at ver=some cells∧(∀ c∈cells,c.ok lv=true)∧off<cells.length
 | x=>x.ok lv=true
theorem u7 {w:World} {φ:aD} {Λ Λ':aW} {h:aX} (hs:HSim w φ Λ h) {lv out:Nat} (hle:lv≤out) (hm:∀ l b,l≤lv→b<w.heap.size→may φ Λ l b→may (fun _=>none) Λ' l b)
 (hown:∀ b,bp φ b→may (fun _=>none) Λ' out b) {x:AV} {v:Value} (hf:FI h lv x) (hr:Rep w φ Λ x v):Rep w (fun _=>none) Λ' (yx h out x) v:=by
 by_cases hx:∃ id ver off len esz,x=.sl id ver off len esz
 · obtain ⟨id,ver,off,len,esz,rfl⟩:=hx
   obtain ⟨ob,cells,h1,h2,h3,h4,h5⟩:=hf;simp only [yx,h1,h2];have hlen:((cells.drop off).take (len*esz)).length=len*esz:=by simp;omega
   by_cases hz:len*esz=0
   · have hnil:(cells.drop off).take (len*esz)=[]:=by rw [hz];simp
     rw [hnil];obtain ⟨ad,cap,rfl⟩:=ij hr rfl;have hl0:len=0:=by
      rcases Nat.mul_eq_zero.1 hz with h6|h6
      · exact h6
      · omega
     subst hl0;exact .fz0
   · obtain ⟨l0,b0,oo0,arr,T,lo,hi,g1,g2,g3,g4,g5,g6,g7⟩:=hs.at h1 h2 (by omega)
     cases hr with
     | slx e1 e2=>rw [g1] at e1;cases e1;omega
     | sl0 e1 e2=>simp at hz
     | sl e1 e2 e3 e4 e5 e6=>
      rw [g1] at e1;cases e1;rw [g3] at e3;cases e3;refine .fz (fun j=>arr.getD (oo0+off+j) undef) (hown b0 ⟨_,_,_,g1,g3⟩) e6 (fun c hc=>AV.ok_mono hle (h3 c (List.mem_of_mem_drop (List.mem_of_mem_take hc)))) (fun j hj=>?_) (fun j c hj=>?_) (by omega)
      · have:oo0+off+j<arr.size:=by omega
        simp [World.cell?,g4,Array.getD,this]
      · rw [List.getElem?_take] at hj
        split at hj
        · rw [List.getElem?_drop] at hj
          obtain ⟨u,q1,q2⟩:=g7 _ c hj;rw [← Nat.add_assoc] at q1;rw [Array.getD_eq_getD_getElem?,q1];exact q2.move hm (h3 c (List.mem_of_getElem? hj))
        · cases hj
 · by_cases hx2:∃ id ver off,x=.ptr id ver off
   · obtain ⟨id,ver,off,rfl⟩:=hx2
     obtain ⟨ob,cells,h1,h2,h3,h4⟩:=hf;simp only [yx,h1,h2];obtain ⟨l0,b0,oo0,arr,T,lo,hi,g1,g2,g3,g4,g5,g6,g7⟩:=hs.at h1 h2 (by omega);cases hr with
     | ptrx e1 e2=>rw [g1] at e1;cases e1;omega
     | ptr e1 e2 e3=>
      rw [g1] at e1;cases e1;rw [g3] at e3;cases e3;refine .fp (fun j=>arr.getD (oo0+off+j) undef) (hown b0 ⟨_,_,_,g1,g3⟩) (fun c hc=>AV.ok_mono hle (h3 c (List.mem_of_mem_drop hc))) (fun j hj=>?_) (fun j c hj=>?_) (by simp;omega)
      · simp only [List.length_drop] at hj
        have:oo0+off+j<arr.size:=by omega
        simp [World.cell?,g4,Array.getD,this]
      · rw [List.getElem?_drop] at hj
        obtain ⟨u,q1,q2⟩:=g7 _ c hj;rw [← Nat.add_assoc] at q1;rw [Array.getD_eq_getD_getElem?,q1];exact q2.move hm (h3 c (List.mem_of_getElem? hj))
   · have e1:yx h out x=x:=by cases x<;>first|rfl|exact absurd ⟨_,_,_,_,_,rfl⟩ hx|exact absurd ⟨_,_,_,rfl⟩ hx2
     have e2:x.ok lv=true:=by
      cases x<;>first|exact hf|exact absurd ⟨_,_,_,_,_,rfl⟩ hx|exact absurd ⟨_,_,_,rfl⟩ hx2
     rw [e1];exact hr.move hm e2
section
variable {P:Program} {te:TE}
def xO (te:TE) (s:AS):ResultVar→AV→Prop
 | .tmp t,x=>s.t t=x
 | .cell a ty,x=>∃ id ver po ob cells ti,s.t a=.ptr id ver po∧s.h id=some ob∧ob.at ver=some cells∧te.get ty=some ti∧
  ((cells.drop po).take ti.size).length=ti.size∧0<ti.size∧jM ti.k.agg ((cells.drop po).take ti.size)=x
def iK (te:TE) (s:AS):List ResultVar→List AV→Prop
 | [],[]=>True
 | r::rs,x::xs=>xO te s r x∧iK te s rs xs
 | _,_=>False
def bX:List AV→AV
 | [x]=>x
 | xs=>.tup xs
def BH (tmps:Array Value):ResultVar→Sem Value
 | .tmp t=>pure (tmps.getD t undef)
 | .cell ad t=>do loadVar t (← asAddr (tmps.getD ad undef))
theorem ml (fn:Func) (tmps:Array Value):results fn tmps=(do let vs ← fn.results.mapM (BH tmps);pure (if h:vs.size=1 then vs[0] else .tuple vs)):=rfl
theorem vK {n:Nat} {w:World} {φ:aD} {Λ:aW} {s:AS} {a:Act} (hte:TEok P te) (hs:Sim n w φ Λ s a) {r:ResultVar} {x:AV} (h:xO te s r x) :
 ∃ v,(BH a.tmps r).run P w=.ok v w∧Rep w φ Λ x v:=by
 cases r with
 | tmp t=>exact ⟨_,rfl,h▸hs.tmps t⟩
 | cell ad ty=>
  obtain ⟨id,ver,po,ob,cells,ti,h1,h2,h3,h4,h5,h6,h7⟩:=h;have hlen:((cells.drop po).take ti.size).length=min ti.size (cells.length-po):=by simp
  obtain ⟨l,b,oo,arr,T,lo,hi,g1,g2,g3,g4,g5,g6,g7⟩:=hs.hs.at h2 h3 (by omega);have hr:=hs.tmps ad;rw [h1] at hr;generalize hv:a.tmps.getD ad undef=v at hr;cases hr with
  | ptrx e1 e2=>rw [g1] at e1;cases e1;omega
  | ptr e1 e2 e3=>
   rw [g1] at e1;cases e1;rw [g3] at e3;cases e3;obtain ⟨z,z1,z2⟩:=ii (P:=P) (w:=w) (φ:=φ) (Λ:=Λ) (hte.tells h4) b (oo+po) ((cells.drop po).take ti.size) (fun j=>arr.getD (oo+po+j) undef) h5 h6
    (fun j hj=>by
     have:oo+po+j<arr.size:=by omega
     simp [World.cell?,g4,Array.getD,this])
    (fun j c hj=>by
     rw [List.getElem?_take] at hj;split at hj
     · rw [List.getElem?_drop] at hj
       obtain ⟨z,z1,z2⟩:=g7 (po+j) c hj;rw [← Nat.add_assoc] at z1;rw [Array.getD_eq_getD_getElem?,z1];exact z2
     · cases hj)
   refine ⟨z,?_,h7▸z2⟩;simp only [BH,hv,asAddr,Sem.run_bind,Sem.run_pure,Result.andThen_ok];exact z1
theorem fj {n:Nat} {w:World} {φ:aD} {Λ:aW} {s:AS} {a:Act} (hte:TEok P te) (hs:Sim n w φ Λ s a):∀ {rs:List ResultVar} {xs:List AV},iK te s rs xs→
 ∃ vs:List Value,(rs.mapM (BH a.tmps)).run P w=.ok vs w∧vs.length=xs.length∧
  ∀ (j:Nat) c,xs[j]?=some c→∃ v,vs[j]?=some v∧Rep w φ Λ c v
 | [],[],_=>⟨[],by simp,rfl,fun j c hj=>by simp at hj⟩
 | r::rs,x::xs,h=>by
  obtain ⟨v,h1,h2⟩:=vK hte hs h.1;obtain ⟨vs,h3,h4,h5⟩:=fj hte hs h.2;refine ⟨v::vs,?_,by simp [h4],fun j c hj=>?_⟩
  · rw [List.mapM_cons,Sem.run_bind,h1]
    simp only [Result.andThen_ok,Sem.run_bind,h3,Sem.run_pure]
  · cases j with
    | zero=>simp at hj;subst hj;exact ⟨v,rfl,h2⟩
    | succ j=>simpa using h5 j c (by simpa using hj)
 | [],_::_,h=>h.elim
 | _::_,[],h=>h.elim
def Fin (te:TE) (fn:Func) (R:AEnd→aX→Prop) (s:AS):Prop:=
 ∃ xs r h',iK te s fn.results.toList xs∧Sees s.h (bX xs) h' r∧R (.ret r) h'
def Post (te:TE) (fn:Func) (R:AEnd→aX→Prop):bB
 | .normal,s=>Fin te fn R s
 | .ret,s=>Fin te fn R s
 | .panic x,s=>∃ h',Sees s.h .any h' .any∧R (.panic x) h'
 | _,_=>False
theorem AC.intro (hte:TEok P te) {f:FuncId} {fn:Func} {c:Code} {args:List AV} {h:aX} {R:AEnd→aX→Prop} (hb:wC P f fn c) (hn:args.length≤fn.ntmps)
 (hw:AWp P fn.ntmps c (Post te fn R) ⟨fun i=>args.getD i (.v undef),h⟩):AC P f args h R:=by
 refine ⟨⟨fn,c,hb⟩,fun Λ w φ vals hs ha QQ hret hpan=>?_⟩;have hs0:Sim fn.ntmps w φ Λ ⟨fun i=>args.getD i (.v undef),h⟩ { tmps:=vals++Array.replicate (fn.ntmps-vals.size) undef,defers:=[] }:=by
  refine ⟨rfl,by simp [ha.1];omega,fun i=>?_,hs⟩;simp only [Array.getD_eq_getD_getElem?,List.getD_eq_getElem?_getD];by_cases hi:i<args.length
  · obtain ⟨v,h1,h2⟩:=ha.2 i args[i] (List.getElem?_eq_getElem hi)
    rw [Array.getElem?_append_left (by rw [ha.1];exact hi),h1,List.getElem?_eq_getElem hi];exact h2
  · rw [List.getElem?_eq_none (by omega),Array.getElem?_append_right (by rw [ha.1];omega)]
    have:((Array.replicate (fn.ntmps-vals.size) undef)[i-vals.size]?).getD undef=undef:=by
     rw [Array.getElem?_replicate];split<;>rfl
    rw [this];exact .v
 refine calls_of_wp hb.1 hb.2.1 (hw Λ w φ _ hs0 _ ?_);intro ae s' w' φ' a' q hs' g;have fin:Fin te fn R s'→a'.defers=[]∧∃ v,(results fn a'.tmps).run P w'=.ok v w'∧QQ (.returned v) w':=by
  rintro ⟨xs,r,h',h1,h2,h3⟩;refine ⟨hs'.defs,?_⟩;obtain ⟨vs,v1,v2,v3⟩:=fj hte hs' h1;have hrun:(results fn a'.tmps).run P w'=.ok (if h:vs.toArray.size=1 then vs.toArray[0] else .tuple vs.toArray) w':=by
   rw [ml,← Array.toArray_toList (xs:=fn.results),List.mapM_toArray];simp only [Sem.run_bind,Sem.run_map,v1,Result.andThen_ok,Sem.run_pure]
  have hrep:Rep w' φ' Λ (bX xs) (if h:vs.toArray.size=1 then vs.toArray[0] else .tuple vs.toArray):=by
   by_cases hx:∃ x,xs=[x]
   · obtain ⟨x,rfl⟩:=hx
     have hvl:vs.length=1:=by simpa using v2
     obtain ⟨v,hv1,hv2⟩:=v3 0 x rfl;rw [dif_pos (by simpa using hvl)];simp only [bX];have:vs.toArray[0]'(by simp;omega)=v:=by
      have:=(List.getElem?_eq_some_iff.1 hv1).2
      simpa using this
     rw [this];exact hv2
   · have hne:vs.length≠1:=by
      intro h1;rw [v2] at h1;obtain ⟨x,hx2⟩:=List.length_eq_one_iff.1 h1;exact hx ⟨x,hx2⟩
     rw [dif_neg (by simpa using hne)];have:bX xs=.tup xs:=by
      unfold bX;split
      · exact absurd ⟨_,rfl⟩ hx
      · rfl
     rw [this];refine .tup (fun j=>vs.getD j undef) (by simp [v2]) (fun j hj=>?_) (fun j c hj=>?_)
     · rw [List.getElem?_toArray,List.getElem?_eq_getElem (by omega),List.getD_eq_getElem?_getD,List.getElem?_eq_getElem (by omega)]
       rfl
     · obtain ⟨v,k1,k2⟩:=v3 j c hj
       rw [List.getD_eq_getElem?_getD,k1];exact k2
  obtain ⟨φ2,k1,k2,k3⟩:=h2 w' φ' Λ _ hs'.hs hrep;exact ⟨_,hrun,hret r h' w' φ2 _ h3 k1 (g.trans k3) k2⟩
 cases ae with
 | normal=>exact fin q
 | ret=>exact fin q
 | panic x=>
  obtain ⟨h',k1,k2⟩:=q;obtain ⟨φ2,e1,_,e3⟩:=k1 w' φ' Λ undef hs'.hs .any;exact ⟨hs'.defs,hpan x h' w' φ2 k2 e1 (g.trans e3)⟩
 | exit id=>exact q.elim
 | goto l=>exact q.elim
end
section rules
variable {P:Program} {n:Nat} {Q:bB} {s:AS} {te:TE} {o:Oper} {d:Option Tmp} {ops:Array Oper}
theorem fQ {a:Act} {w:World} {f:FuncId} {fn:Func} {c:Code} {fop:Operand} {argops:Array Operand} {tys:Array TypeId} {first caps:Array Value} (hb:wC P f fn c)
 (ho:o.op=.call { callee:=.value fop,args:=argops,argTypes:=tys }) (hf:a.eval fop=.func (.func f) first caps) :
 (execOp a.eval o).run P w=.ok (.enter f (first++argops.map a.eval++caps)) w:=by
 obtain ⟨h1,h2,h3⟩:=hb;have h4:fn.name ≠ "runtime.NumGoroutine" := by simpa using h3
 simp [execOp,ho,resolve,hf,Deferred.ofValue,invoke,callFunc,h1,h2,h4]
def OpX (P:Program) (n:Nat) (o:Oper) (Q:bB) (s:AS) (K:AS→Prop):Prop:=
 ∀ Λ w φ a,Sim n w φ Λ s a→∀ (next:Act→World→Prop) (QQ:Exit→Act→World→Prop),
  (∀ s' w' φ' a',K s'→Sim n w' φ' Λ s' a'→Goes w φ w' φ'→next a' w')→
  (∀ x s' w' φ' a',Q (.panic x) s'→Sim n w' φ' Λ s' a'→Goes w φ w' φ'→QQ (.panic [{ v:=x,recovered:=false }]) a' w')→o.wp P a w next QQ
theorem AOps.consx {i:Nat} {rest:List Nat} (ho:ops[i]?=some o) (hg:o.guard=none) (h:OpX P n o Q s (AOps P n ops Q rest)):AOps P n ops Q (i::rest) s:=by
 intro Λ w φ a hs QQ hQ;simp only [wpOps,ho,Region.wanted,hg,if_true];exact .inl (h Λ w φ a hs _ _ (fun s' w' φ' a' hk hs' g=>hk Λ w' φ' a' hs' QQ fun ae s2 w2 φ2 a2 q2 hs2 g2=>hQ ae s2 w2 φ2 a2 q2 hs2 (g.trans g2))
  (fun x s' w' φ' a' q hs' g=>hQ (.panic x) s' w' φ' a' q hs' g))
end rules
mutual
def AV.refs (S:Nat→Bool):AV→Bool
 | .ptr id _ _|.sl id _ _ _ _|.mp id _|.dp id _ _ _=>S id
 | .agg cs|.tup cs=>AV.refss S cs
 | .fn _ a b=>AV.refss S a&&AV.refss S b
 | .ifc _ x=>x.refs S
 | .p _ x=>x.refs S
 | _=>true
def AV.refss (S:Nat→Bool):List AV→Bool
 | []=>true
 | c::cs=>c.refs S&&AV.refss S cs
end
theorem AV.refss_iff {S:Nat→Bool}:∀ {l:List AV},AV.refss S l=true↔∀ c∈l,c.refs S=true
 | []=>by simp [AV.refss]
 | c::cs=>by simp [AV.refss,AV.refss_iff (l:=cs)]
mutual
theorem AV.refs_ok {S:Nat→Bool} {lv:Nat}:∀ {x:AV},x.ok lv=true→x.refs S=true
 | .v _,_|.any,_|.bl,_|.fz ..,_|.fp ..,_=>rfl
 | .ptr ..,h|.sl ..,h|.mp ..,h|.dp ..,h=>by simp [AV.ok] at h
 | .agg cs,h|.tup cs,h=>by
  simp only [AV.ok] at h;simp only [AV.refs];exact AV.refss_ok h
 | .fn _ a b,h=>by
  simp only [AV.ok,Bool.and_eq_true] at h;simp only [AV.refs,Bool.and_eq_true];exact ⟨AV.refss_ok h.1,AV.refss_ok h.2⟩
 | .ifc _ x,h=>by
  simp only [AV.ok] at h;simp only [AV.refs];exact AV.refs_ok h
 | .p _ x,h=>by
  simp only [AV.ok] at h;simp only [AV.refs];exact AV.refs_ok h
theorem AV.refss_ok {S:Nat→Bool} {lv:Nat}:∀ {x:List AV},AV.oks lv x=true→AV.refss S x=true
 | [],_=>rfl
 | c::cs,h=>by
  simp only [AV.oks,Bool.and_eq_true] at h;simp only [AV.refss,Bool.and_eq_true];exact ⟨AV.refs_ok h.1,AV.refss_ok h.2⟩
end
def restrict (S:Nat→Bool) (φ:aD):aD:=fun id=>bif S id then φ id else none
theorem bH {S:Nat→Bool} {φ:aD} {id:Nat} {l:Loc} (h:restrict S φ id=some l):S id=true∧φ id=some l:=by
 unfold restrict at h;cases hs:S id with
 | true=>rw [hs] at h;exact ⟨rfl,h⟩
 | false=>rw [hs] at h;cases h
theorem bR {S:Nat→Bool} {φ:aD} {id:Nat} {l:Loc} (hs:S id=true) (h:φ id=some l):restrict S φ id=some l:=by
 unfold restrict;rw [hs];exact h
theorem bY {S:Nat→Bool} {φ:aD} {b:Nat} (h:bp (restrict S φ) b):bp φ b:=by
 obtain ⟨id,l,o,h1,h2⟩:=h;exact ⟨id,l,o,(bH h1).2,h2⟩
theorem Rep.restrict {w:World} {φ:aD} {Λ:aW} {S:Nat→Bool} {x:AV} {v:Value} (h:Rep w φ Λ x v) (hS:x.refs S=true):Rep w (restrict S φ) Λ x v:=by
 induction h with
 | v=>exact .v
 | any=>exact .any
 | bl=>exact .bl
 | fz0=>exact .fz0
 | fz vf hm hn hok hc hr hp ih=>exact .fz vf ⟨fun h=>hm.1 (bY h),hm.2⟩ hn hok hc (fun j c hj=>ih j c hj (AV.refs_ok (hok c (List.mem_of_getElem? hj)))) hp
 | fp vf hm hok hc hr hp ih=>exact .fp vf ⟨fun h=>hm.1 (bY h),hm.2⟩ hok hc (fun j c hj=>ih j c hj (AV.refs_ok (hok c (List.mem_of_getElem? hj)))) hp
 | agg vf h1 h2 h3 ih=>exact .agg vf h1 h2 (fun j c hj=>ih j c hj (AV.refss_iff.1 (by simpa [AV.refs] using hS) c (List.mem_of_getElem? hj)))
 | tup vf h1 h2 h3 ih=>exact .tup vf h1 h2 (fun j c hj=>ih j c hj (AV.refss_iff.1 (by simpa [AV.refs] using hS) c (List.mem_of_getElem? hj)))
 | fn vf wf h1 h2 h3 h4 h5 h6 ih1 ih2=>
  simp only [AV.refs,Bool.and_eq_true] at hS;exact .fn vf wf h1 h2 (fun j c hj=>ih1 j c hj (AV.refss_iff.1 hS.1 c (List.mem_of_getElem? hj))) h4 h5 (fun j c hj=>ih2 j c hj (AV.refss_iff.1 hS.2 c (List.mem_of_getElem? hj)))
 | ifc h ih=>exact .ifc (ih (by simpa [AV.refs] using hS))
 | p a b h ih=>exact .p a b (ih (by simpa [AV.refs] using hS))
 | ptr h1 h2 h3=>exact .ptr (bR hS h1) h2 h3
 | ptrx h1 h2=>exact .ptrx (bR hS h1) h2
 | sl h1 h2 h3 h4 h5 h6=>exact .sl (bR hS h1) h2 h3 h4 h5 h6
 | sl0 h1 h2=>exact .sl0 (bR hS h1) h2
 | slx h1 h2 h3=>exact .slx (bR hS h1) h2 h3
 | mp h1 h2 h3=>exact .mp (bR hS h1) h2 h3
 | dp h1 h2 h3 h4 h5=>exact .dp (bR hS h1) h2 h3 h4 h5
 | dp0 h1=>exact .dp0 (bR hS h1)
 | dpx h1 h2=>exact .dpx (bR hS h1) h2
 | mpx h1 h2=>exact .mpx (bR hS h1) h2
def ObjIn (S:Nat→Bool):AObj→Prop
 | .gbox _ cs=>AV.refss S cs=true
 | .grow _ cs _ _=>AV.refss S cs=true
 | .map es=>∀ p∈es,p.2.refs S=true
theorem CellsRep.restrict {w:World} {φ:aD} {Λ:aW} {S:Nat→Bool} {arr:Array Value} {o:Nat} {cells:List AV} (h:CellsRep w φ Λ arr o cells) (hS:AV.refss S cells=true) :
 CellsRep w (Fw.restrict S φ) Λ arr o cells:=fun j c hj=>by
 obtain ⟨v,h1,h2⟩:=h j c hj;exact ⟨v,h1,h2.restrict (AV.refss_iff.1 hS c (List.mem_of_getElem? hj))⟩
theorem ObjRep.restrict {w:World} {φ:aD} {Λ:aW} {S:Nat→Bool} {ob:AObj} {l:Loc} (h:ObjRep w φ Λ ob l) (hS:ObjIn S ob):ObjRep w (Fw.restrict S φ) Λ ob l:=by
 cases ob with
 | gbox ty cs=>
  obtain ⟨b,arr,T,h1,h2,h3,h4,h5⟩:=h;exact ⟨b,arr,T,h1,h2,h3,h4,h5.restrict hS⟩
 | grow ty cs e v=>
  obtain ⟨h0,h1⟩:=h;refine ⟨h0,?_⟩;rcases h1 with h1|⟨b,o,arr,T,lo,hi,h1,h2,h3,h4,h5⟩
  · exact .inl h1
  · exact .inr ⟨b,o,arr,T,lo,hi,h1,h2,h3,h4,h5.restrict hS⟩
 | map es=>
  obtain ⟨b,ents,clock,h1,h2,h3,h4,h5⟩:=h;refine ⟨b,ents,clock,h1,h2,h3,h4,fun j p hp=>?_⟩;obtain ⟨e,h6,h7,h8⟩:=h5 j p hp;exact ⟨e,h6,h7,h8.restrict (hS p (List.mem_of_getElem? hp))⟩
theorem HSim.restrict {w:World} {φ:aD} {Λ:aW} {h h':aX} (hs:HSim w φ Λ h) {S:Nat→Bool} (h1:∀ id,S id=true→h' id=h id) (h2:∀ id,S id=false→h' id=none)
 (h3:∀ id ob,h' id=some ob→ObjIn S ob):HSim w (Fw.restrict S φ) Λ h' where
 heap id ob hi:=by
  cases hS:S id with
  | false=>rw [h2 id hS] at hi;cases hi
  | true=>
   obtain ⟨l,k1,k2⟩:=hs.heap id ob ((h1 id hS).symm.trans hi);exact ⟨l,bR hS k1,k2.restrict (h3 id ob hi)⟩
 dom id hi:=by
  unfold Fw.restrict;cases hS:S id with
  | false=>rfl
  | true=>exact hs.dom id ((h1 id hS).symm.trans hi)
 lt id l b o k1 k2:=hs.lt id l b o (bH k1).2 k2
 inj id id' l l' b o o' k1 k2:=hs.inj id id' l l' b o o' (bH k1).2 (bH k2).2
 lent:=hs.lent
theorem lZ (w:World) (S:Nat→Bool) (φ:aD) (hp:∀ id,id<8→S id=false→φ id=none):Goes w φ w (restrict S φ):=
 ⟨fun _ _ _=>rfl,Nat.le_refl _,fun b h=>.inl (bY h),rfl,rfl,rfl,(fun id l hi hl=>by
  cases hs:S id with
  | false=>rw [hp id hi hs] at hl;cases hl
  | true=>exact ⟨l,bR hs hl,.inl rfl,fun _ b o arr T m _ hh=>⟨arr,T,m,hh,Nat.le_refl _⟩⟩),.refl w⟩
def dY (h:aX) (S:Nat→Bool):Bool:=(List.range 8).all fun id=>S id || (h id).isNone
theorem oH {h:aX} {S:Nat→Bool} (hp:dY h S=true) {id:Nat} (hi:id<8) (hs:S id=false):h id=none:=by
 have:=List.all_eq_true.1 hp id (List.mem_range.2 hi)
 simpa [hs] using this
def jm:List (Nat×AV)→Nat→AV
 | [],_=>.any
 | (k,x)::r,i=>bif Nat.beq i k then x else jm r i
def ao:List (Nat×AObj)→aX
 | [],_=>none
 | (k,x)::r,i=>bif Nat.beq i k then some x else ao r i
def mkS (t:List (Nat×AV)) (h:List (Nat×AObj)):AS:=⟨jm t,ao h⟩
def dS:List (Nat×AObj)→Nat→Bool
 | [],_=>false
 | (k,_)::r,i=>Nat.beq i k || dS r i
def HasT (s:AS) (S:Nat→Bool):List (Nat×AV)→Prop
 | []=>True
 | (k,x)::r=>(s.t k=x∧x.refs S=true)∧HasT s S r
def HasH (h:aX) (S:Nat→Bool):List (Nat×AObj)→Prop
 | []=>True
 | (k,x)::r=>(h k=some x∧ObjIn S x)∧HasH h S r
section rules
variable {P:Program} {n:Nat} {Q:bB} {s:AS}
def Ret (r:AV):AEnd→aX→Prop:=fun e h=>e=.ret r∧h=emp
end rules
end Go.Proofs.YthnfcmgpedppaaaGreat.Fw
