/- The texts Q23, Q24, Q25, Q26, Q27, Q19, Q16, Q18, Q17, Z1, W01, W01b, one behind the other: what the walks and plain laws need; conditions stand with each theorem. -/
import Derived.Lib.SlBytesConst
import Derived.Defers
import Derived.Recover
import Derived.Tactics
import Derived.Tactics2
import Derived.Test.YthnfcmgpedppaaaGreatCat4
set_option linter.unusedVariables false
set_option linter.unusedSimpArgs false
set_option linter.unusedSectionVars false
set_option maxRecDepth 20000
set_option maxHeartbeats 4000000
namespace Go.Proofs.YthnfcmgpedppaaaGreat.Fw
open Go.RowKit
namespace J
section
variable [hJ:HasJ]
def DDn (m:Nat) (v:Value):Prop:=∃ ad cap,v=.slice ad m cap∧(0<m→∃ b o,ad=some ⟨b,o,none⟩∧∀ j,j<m→hJ.J b (o+j))
def DD (v:Value):Prop:=∃ m,m≤140737488355328∧DDn m v
def PJ (v:Value):Prop:=∃ b o,v=.pointer (some ⟨b,o,none⟩)∧hJ.J b o
theorem Dy {x:AV}:NU (.p DD x):=fun w φ Λ v h k e=>by
 cases h with
 | p a b c=>
  obtain ⟨m,_,ad,cap,h1,_⟩:=a;rw [e] at h1;cases h1
section rules
variable {n:Nat} {Q:bB} {s:AS} {ops:Array Oper} {o:Oper} {d:Option Tmp}
theorem AOps.open_ {l:List Nat} (q:Nat) (hx:s.t q=.p DD .any) (h:∀ m,m≤140737488355328→AOps Tryz.prog n ops Q l (s.put (some q) (.p (DDn m) .any))):AOps Tryz.prog n ops Q l s:=by
 intro w φ a hs hj QQ hQ;have hr:=hs.tmps q;rw [hx] at hr;generalize hv:a.tmps.getD q undef=v at hr;cases hr with
 | p a1 a2 a3=>
  obtain ⟨m,hm,hd⟩:=a1;refine h m hm w φ a ⟨hs.defs,hs.size,fun i=>?_,hs.hs⟩ hj QQ hQ;show Rep w φ NoL (upd s.t q (.p (DDn m) .any) i) _;by_cases hi:i=q
  · subst hi
    rw [aZ,hv];exact .p hd a2 .any
  · rw [bf _ _ _ _ hi]
    exact hs.tmps i
theorem Eo {t e:TypeId} {x:Operand} {m:Nat} {ti:TI} (ho:o.op=.call { callee:=.builtin .len,args:=#[x],argTypes:=#[t] }:=by exact rfl) (hx:s.ev x=.p (DDn m) .any:=by exact rfl) (ht:te.get t=some ti:=by exact rfl)
 (hk:ti.k=.slice e:=by exact rfl) (hdd:o.dst=d:=by conv=>lhs;whnf) (hd:d.all (Nat.blt · n)=true:=by exact rfl):OpOk Tryz.prog n o s (s.put d (i64 m)):=
 .val hdd hd fun Λ w φ a hs=>⟨.int .i64 m,by
  have hu:=(te_ok.tells ht).slice hk;have hr:=hs.ev x;rw [hx] at hr;generalize hv:a.eval x=v at hr;cases hr with
  | p a1 a2 a3=>
   obtain ⟨ad,cap,rfl,_⟩:=a1;simp [execOp,ho,resolve,invoke,builtin,hv,Builtin.len_,run_underlying hu,goInt],.v⟩
theorem Dx {t e:TypeId} {x y:Operand} {k:IntKind} {i:Int} {m:Nat} {ti tj:TI} (ho:o.op=.indexAddr t x y:=by exact rfl) (hx:s.ev x=.p (DDn m) .any:=by exact rfl) (hy:s.ev y=.v (.int k i):=by exact rfl) (ht:te.get t=some ti:=by exact rfl)
 (hk:ti.k=.slice e:=by exact rfl) (he:te.get e=some tj:=by exact rfl) (h1:tj.size=1:=by exact rfl) (h0:0≤i:=by first|omega|(simp;omega)) (hm:i<m:=by first|omega|(simp;omega))
 (hdd:o.dst=d:=by conv=>lhs;whnf) (hd:d.all (Nat.blt · n)=true:=by exact rfl):OpOk Tryz.prog n o s (s.put d (.p PJ .any)):=
 .val hdd hd fun Λ w φ a hs=>by
  have hu:=(te_ok.tells ht).slice hk;have hr:=hs.ev x;rw [hx] at hr;generalize hv:a.eval x=v at hr;cases hr with
  | p a1 a2 a3=>
   obtain ⟨ad,cap,rfl,h⟩:=a1;obtain ⟨b,of,rfl,hj⟩:=h (by omega);refine ⟨.pointer (some ⟨b,of+i.toNat,none⟩),?_,.p ⟨b,_,rfl,hj _ (by omega)⟩ rfl .any⟩;simp [execOp,ho,hv,cc hs hy,Instr.indexAt,asIntOf,run_underlying hu,h0,hm,(te_ok.tells he).run_sizeOf,Addr.add_lit,h1]
theorem AOps.loadj {i:Nat} {rest:List Nat} {t:TypeId} {x:Operand} {ti:TI} (h:∀ c:UInt8,AOps Tryz.prog n ops Q rest (s.put d (u8 c.toNat))) (hi:ops[i]?=some o:=by exact rfl) (hg:o.guard=none:=by exact rfl) (ho:o.op=.load t x:=by exact rfl)
 (hx:s.ev x=.p PJ .any:=by exact rfl) (ht:te.get t=some ti:=by exact rfl) (h1:ti.size=1:=by exact rfl) (hk:ti.k.agg=false:=by exact rfl)
 (hdd:o.dst=d:=by conv=>lhs;whnf) (hd:d.all (Nat.blt · n)=true:=by exact rfl):AOps Tryz.prog n ops Q (i::rest) s:=by
 refine AOps.consj hi hg fun w φ a hs hj next QQ hN=>?_
 have hr:=hs.ev x;rw [hx] at hr;generalize hv:a.eval x=v at hr;cases hr with
 | p a1 a2 a3=>
  obtain ⟨b,of,rfl,hjc⟩:=a1;obtain ⟨_,_,c,hc⟩:=hj b of hjc;obtain ⟨z,z1,z2⟩:=ii (P:=Tryz.prog) (Λ:=NoL) (φ:=φ) (te_ok.tells ht) b of [u8 c.toNat] (fun _=>.int .u8 c.toNat) (by rw [h1];rfl) (by omega) (fun j hj2=>by
   have:j=0:=by simpa using hj2
   subst this;exact hc) (fun j y hj2=>by
   match j,hj2 with
   | 0,hj2=>cases hj2;exact .v)
  rw [hk] at z2;subst hdd;unfold Oper.wp;have hrun:(execOp a.eval o).run Tryz.prog w=.ok (.value z) w:=by simp [execOp,ho,hv,Instr.loadAt,Instr.sureAddr,z1]
  rw [hrun];exact hN _ w φ _ (h c) (hs.put o.dst hd z2) (JG.refl w φ) hj
theorem AOps.storej {i:Nat} {rest:List Nat} {t:TypeId} {x y:Operand} {c:UInt8} {ti:TI} (hsf:∀ i,SF (s.t i)) (hsh:∀ id ob,s.h id=some ob→SFO ob) (h:AOps Tryz.prog n ops Q rest (s.put d (.v undef)))
 (hi:ops[i]?=some o:=by exact rfl) (hg:o.guard=none:=by exact rfl) (ho:o.op=.store t x y:=by exact rfl)
 (hx:s.ev x=.p PJ .any:=by exact rfl) (hy:s.ev y=u8 c.toNat:=by exact rfl) (ht:te.get t=some ti:=by exact rfl) (h1:ti.size=1:=by exact rfl)
 (hdd:o.dst=d:=by conv=>lhs;whnf) (hd:d.all (Nat.blt · n)=true:=by exact rfl):AOps Tryz.prog n ops Q (i::rest) s:=by
 refine AOps.consj hi hg fun w φ a hs hj next QQ hN=>?_
 have hr:=hs.ev x;rw [hx] at hr;generalize hv:a.eval x=v at hr;cases hr with
 | p a1 a2 a3=>
  obtain ⟨b,of,rfl,hjc⟩:=a1;obtain ⟨hno,hun,c0,hc⟩:=hj b of hjc;obtain ⟨arr,T,lo,hi',harr⟩:∃ arr T lo hi,w.heap[b]?=some (.cells arr T (lo,hi)):=by
   unfold World.cell? at hc;simp only at hc;split at hc
   · rename_i cs T m e
     exact ⟨cs,T,m.1,m.2,e⟩
   · cases hc
  have hlt:of<arr.size:=by
   simp only [World.cell?,harr] at hc;exact (Array.getElem?_eq_some_iff.1 hc).1
  have hst:=dX (P:=Tryz.prog) b of T lo hi' [.int .u8 c.toNat] 0 arr w harr (hun _ _ _ _ harr) (by simp;omega) (by intro v hv;simp at hv;subst hv;rfl);simp only [Nat.add_zero,List.length_singleton] at hst;obtain ⟨W,hW⟩:∃ W,W=w.setRow b (arr.toList.take of++[Value.int .u8 c.toNat]++arr.toList.drop (of+1)).toArray:=⟨_,rfl⟩;rw [← hW] at hst;have hsz:(arr.toList.take of++[Value.int .u8 c.toNat]++arr.toList.drop (of+1)).toArray.size=arr.size:=by simp;omega
  have hheap:W.heap[b]?=some (.cells (arr.toList.take of++[Value.int .u8 c.toNat]++arr.toList.drop (of+1)).toArray T (lo,hi')):=by rw [hW];exact setRow_heap w b arr _ T (lo,hi') harr
  have hother:∀ k,k≠b→W.heap[k]?=w.heap[k]?:=fun k hk=>by rw [hW];exact setRow_other w b k _ hk
  have hcell:∀ b' o',¬ (b'=b∧o'=of)→W.cell? ⟨b',o',none⟩=w.cell? ⟨b',o',none⟩:=by
   intro b' o' hne;by_cases hb:b'=b
   · subst hb
     have ho':o'≠of:=fun e=>hne ⟨rfl,e⟩
     simp only [World.cell?,hheap,harr,List.getElem?_toArray];rw [List.append_assoc];by_cases h2:o'<of
     · rw [List.getElem?_append_left (by simp;omega),List.getElem?_take,if_pos h2]
       simp
     · rw [List.getElem?_append_right (by simp;omega)]
       simp only [List.length_take,Array.length_toList];rw [Nat.min_eq_left (by omega),List.getElem?_append_right (by simp;omega),List.getElem?_drop];simp only [List.length_singleton];rw [show of+1+(o'-of-1)=o' by omega];simp
   · exact World.cell?_of_block (hother b' hb)
  have hnew:W.cell? ⟨b,of,none⟩=some (.int .u8 c.toNat):=by
   simp only [World.cell?,hheap,List.getElem?_toArray];rw [List.append_assoc,List.getElem?_append_right (by simp;omega)];simp only [List.length_take,Array.length_toList];rw [Nat.min_eq_left (by omega),Nat.sub_self];rfl
  have hs1:w.heap.size=W.heap.size:=by rw [hW];simp
  have kcc:∀ b' o' y,¬ hJ.J b' o'→w.cell? ⟨b',o',none⟩=some y→W.cell? ⟨b',o',none⟩=some y:=fun b' o' y hn hy2=>by
   rw [hcell b' o' (fun e=>hn (by rw [e.1,e.2];exact hjc))];exact hy2
  have hk:Kc w φ W:=⟨kcc,fun b' ho'=>hother b' (fun e=>hno (e▸ho')),by omega⟩;have hfro:Fro w W:=by rw [hW];exact pB harr hsz
  have hjg:JG w φ W φ:=⟨fun b' _ _ hn=>hother b' (fun e=>hn of (by rw [e];exact hjc)),fun b' o' y _ hn hy2=>kcc b' o' y hn hy2,by omega,fun _ h=>.inl h,by rw [hW];rfl,by rw [hW];rfl,by rw [hW];rfl,hfro⟩;have hji:JInv W φ:=fun b' o' hj2=>by
   obtain ⟨k1,k2,c2,k3⟩:=hj b' o' hj2;refine ⟨k1,?_,?_⟩
   · by_cases hb:b'=b
     · subst hb
       intro arr' T' lo' hi'' e;rw [hheap] at e;cases e;have:=hun _ _ _ _ harr;omega
     · exact k2.of (hother b' hb)
   · by_cases hb:b'=b∧o'=of
     · exact ⟨c,by rw [hb.1,hb.2];exact hnew⟩
     · exact ⟨c2,by rw [hcell b' o' hb];exact k3⟩
  have hsim:=Sim.kc hk hj hs hsf hsh;subst hdd;unfold Oper.wp;have hrun:(execOp a.eval o).run Tryz.prog w=.ok .skip W:=by
   have hyv:=cc hs hy;have hcl:(Value.int IntKind.u8 (c.toNat:Int)).cells=#[.int .u8 c.toNat]:=rfl;simp [execOp,ho,hv,hyv,Instr.storeAt,Instr.sureAddr,storeVar,(te_ok.tells ht).run_sizeOf,h1,hcl,hst]
  rw [hrun];exact hN _ W φ _ h (hsim.put o.dst hd .v) hjg hji
theorem AOps.callj {i:Nat} {rest:List Nat} {fop:Operand} {argops:Array Operand} {tys:Array TypeId} {f:FuncId} {first caps A:List AV} (lv:Nat) (hsf:∀ i,SF (s.t i)) (hsh:∀ id ob,s.h id=some ob→SFO ob)
 (hc:AC Tryz.prog f A emp (Ret (.tup []))) (h:AOps Tryz.prog n ops Q rest (s.put d (.tup []))) (hi:ops[i]?=some o:=by exact rfl) (hg:o.guard=none:=by exact rfl)
 (ho:o.op=.call { callee:=.value fop,args:=argops,argTypes:=tys }:=by exact rfl) (hf:s.ev fop=.fn (.func f) first caps:=by exact rfl)
 (hA:FVals s.h lv (lv+1) (first++argops.toList.map s.ev++caps) A:=by repeat' (first|exact trivial|refine ⟨?_,?_⟩|exact km rfl|exact fv_nilz|exact pA rfl .row (fun _=>rfl) (Nat.le_of_ble_eq_true rfl) (fun _=>rfl)))
 (hdd:o.dst=d:=by conv=>lhs;whnf) (hd:d.all (Nat.blt · n)=true:=by exact rfl):AOps Tryz.prog n ops Q (i::rest) s:=by
 refine AOps.consj hi hg fun w φ a hs hj next QQ hN=>?_
 subst hdd;obtain ⟨⟨fn,c,hb⟩,hcall⟩:=hc;have hs0:HSim w (fun _=>none) NoL emp:=⟨(fun id ob h=>by cases h),fun _ _=>rfl,(fun id l b o h=>by cases h),(fun id id' l l' b o o' h=>by cases h),fun k b h=>h.elim⟩;obtain ⟨fv,cv,hfv,hsz,hargs0⟩:=np hs hf;have hmay:∀ l b,may (fun _=>none) NoL l b:=fun l b=>⟨fun h1=>aI h1,fun _ _ h=>h.elim⟩
 have hargs:eI w (fun _=>none) NoL A (fv++argops.map a.eval++cv):=by
  refine ⟨by rw [hsz,hA.length],fun j b hj=>?_⟩;obtain ⟨x,h1,h2⟩:=hA.get j b hj;obtain ⟨v,h3,h4⟩:=hargs0 j x h1;exact ⟨v,h3,h2 (Nat.le_succ lv) w φ NoL NoL v hs.hs (fun l b _ _ _=>hmay l b) (fun b _=>hmay _ b) h4⟩
 have hj0:JInv w (fun _=>none):=fun b o hjc=>by
  obtain ⟨_,k2,k3⟩:=hj b o hjc;exact ⟨fun h1=>aI h1,k2,k3⟩
 unfold Oper.wp;rw [fQ hb ho hfv];refine Calls.mono (hcall w (fun _=>none) _ hs0 hargs hj0 (fun e w'=>match e with
  | .returned v=>next (a.put o.dst v) w'
  | .panicked chain=>QQ (.panic chain) a w'
  | .outgrown=>False) ?_) ?_
 · intro r h' w' φ' v hR hs' g hj' hr
   obtain ⟨e,_⟩:=hR;cases e;have hkb:∀ b,bp φ b→w'.heap[b]?=w.heap[b]?:=fun b ho'=>by
    obtain ⟨id,l,oo,e1,e2⟩:=ho';exact g.keep b (hs.hs.lt id l b oo e1 e2).1 (fun h1=>aI h1) fun o hjc=>(hj b o hjc).1 ⟨id,l,oo,e1,e2⟩
   have hk:Kc w φ w':=⟨fun b o x hn hx=>g.kc b o x (fun h1=>aI h1) hn hx,hkb,g.size⟩;have hsim:=Sim.kc hk hj hs hsf hsh;have hji:JInv w' φ:=fun b o hjc=>by
    obtain ⟨_,k2,k3⟩:=hj' b o hjc;exact ⟨(hj b o hjc).1,k2,k3⟩
   have hrep:Rep w' φ NoL (.tup []) v:=by
    cases hr with
    | tup vf h1 h2 h3=>exact .tup vf h1 h2 fun j c hj=>by simp at hj
   exact hN _ w' φ _ h (hsim.put o.dst hd hrep) ⟨fun b hb _ hn=>g.keep b hb (fun h1=>aI h1) hn,fun b o x _ hn hx=>g.kc b o x (fun h1=>aI h1) hn hx,g.size,fun _ h=>.inl h,g.os,g.tape,g.output,g.fro⟩ hji
 · intro e w' h
   cases e with
   | returned v=>exact h
   | panicked chain=>exact h
   | outgrown=>exact h.elim
end rules
end
end J
mutual
def AV.mf:AV→Bool
 | .v _=>true
 | .agg cs|.tup cs=>AV.mfs cs
 | _=>false
def AV.mfs:List AV→Bool
 | []=>true
 | c::cs=>c.mf&&AV.mfs cs
end
theorem AV.mfs_iff:∀ {l:List AV},AV.mfs l=true↔∀ c∈l,c.mf=true
 | []=>by simp [AV.mfs]
 | c::cs=>by simp [AV.mfs,AV.mfs_iff (l:=cs)]
theorem vM {w w':World} {φ φ':aD} {Λ Λ':aW} {x:AV} {v:Value} (h:Rep w φ Λ x v):x.mf=true→Rep w' φ' Λ' x v:=by
 induction h with
 | v=>exact fun _=>.v
 | agg vf h1 h2 h3 ih=>exact fun hm=>.agg vf h1 h2 fun j c hj=>ih j c hj (AV.mfs_iff.1 (by simpa [AV.mf] using hm) c (List.mem_of_getElem? hj))
 | tup vf h1 h2 h3 ih=>exact fun hm=>.tup vf h1 h2 fun j c hj=>ih j c hj (AV.mfs_iff.1 (by simpa [AV.mf] using hm) c (List.mem_of_getElem? hj))
 | _=>intro hm;simp [AV.mf] at hm
def FJ (h:aX) (a b:AV):Prop:=∀ (w:World) (φ:aD) (Λ:aW) (v:Value),HSim w φ Λ h→Rep w φ Λ a v→Rep w (fun _=>none) NoL b v
def EVals (h:aX):List AV→List AV→Prop
 | [],[]=>True
 | a::xs,b::ys=>FJ h a b∧EVals h xs ys
 | _,_=>False
theorem EVals.length {h:aX}:∀ {xs ys:List AV},EVals h xs ys→xs.length=ys.length
 | [],[],_=>rfl
 | _::_,_::_,e=>congrArg (·+1) e.2.length
 | [],_::_,e=>e.elim
 | _::_,[],e=>e.elim
theorem EVals.get {h:aX}:∀ {xs ys:List AV},EVals h xs ys→∀ (j:Nat) b,ys[j]?=some b→∃ a,xs[j]?=some a∧FJ h a b
 | [],[],_,j,b,hj=>by simp at hj
 | a::xs,b::ys,e,0,b',hj=>by cases hj;exact ⟨a,rfl,e.1⟩
 | a::xs,b::ys,e,j+1,b',hj=>EVals.get (xs:=xs) (ys:=ys) e.2 j b' hj
 | [],_::_,e,_,_,_=>e.elim
 | _::_,[],e,_,_,_=>e.elim
section
variable {n:Nat} {s:AS} {o:Oper} {d:Option Tmp}
theorem pr {f:FuncId} {A:List AV} {r:AV} {fop:Operand} {argops:Array Operand} {tys:Array TypeId} {first caps:List AV}
 (ho:o.op=.call { callee:=.value fop,args:=argops,argTypes:=tys }:=by exact rfl) (hf:s.ev fop=.fn (.func f) first caps:=by exact rfl) (hA:EVals s.h (first++argops.toList.map s.ev++caps) A) (hr:r.mf=true:=by exact rfl)
 (hdd:o.dst=d:=by conv=>lhs;whnf) (hd:d.all (Nat.blt · n)=true:=by exact rfl) (hc:AC Tryz.prog f A emp (Ret r)):OpOk Tryz.prog n o s (s.put d r):=by
 intro Λ w φ a hs next QQ hN;subst hdd;obtain ⟨⟨fn,c,hb⟩,hcall⟩:=hc;have hs0:HSim w (fun _=>none) NoL emp:=⟨(fun id ob h=>by cases h),fun _ _=>rfl,(fun id l b o h=>by cases h),(fun id id' l l' b o o' h=>by cases h),fun k b h=>h.elim⟩;obtain ⟨fv,cv,hfv,hsz,hargs0⟩:=np hs hf;have hargs:eI w (fun _=>none) NoL A (fv++argops.map a.eval++cv):=by
  refine ⟨by rw [hsz,hA.length],fun j b hj=>?_⟩;obtain ⟨x,h1,h2⟩:=hA.get j b hj;obtain ⟨v,h3,h4⟩:=hargs0 j x h1;exact ⟨v,h3,h2 w φ Λ v hs.hs h4⟩
 unfold Oper.wp;rw [fQ hb ho hfv];refine Calls.mono (hcall NoL w (fun _=>none) _ hs0 hargs (fun e w'=>match e with
  | .returned v=>next (a.put o.dst v) w'
  | .panicked chain=>QQ (.panic chain) a w'
  | .outgrown=>False) ?_ ?_) ?_
 · intro r' h' w' φ' v hR hs' g hr'
   obtain ⟨e,_⟩:=hR;cases e;have hkeep:∀ b,b<w.heap.size→w'.heap[b]?=w.heap[b]?:=fun b hb=>g.keep b hb fun h1=>aI h1
   have st:Stays w φ w' φ:=⟨fun id l h=>⟨l,h,.inl rfl⟩,fun id l h1 _ b oo arr T m h2 h3=>⟨arr,T,m,by rw [hkeep b (hs.hs.lt _ _ _ _ h1 h2).1];exact h3,Nat.le_refl _⟩⟩;have g2:Goes w φ w' φ:=⟨fun b hb _=>hkeep b hb,g.size,fun _ h=>.inl h,g.os,g.tape,g.output,st.pin,g.fro⟩;have hs2:HSim w' φ Λ s.h:=⟨fun id ob h=>by
    obtain ⟨l,h1,h2⟩:=hs.hs.heap id ob h;exact ⟨l,h1,h2.goes g2 st fun b oo h3=>hkeep b (hs.hs.lt _ _ _ _ h1 h3).1⟩,hs.hs.dom,fun id l b oo h1 h2=>by
    obtain ⟨h3,h4⟩:=hs.hs.lt id l b oo h1 h2;exact ⟨Nat.lt_of_lt_of_le h3 g.size,h4⟩,hs.hs.inj,fun k b h=>Nat.lt_of_lt_of_le (hs.hs.lent k b h) g.size⟩
   have hsa:Sim n w' φ Λ s a:=⟨hs.defs,hs.size,fun i=>(hs.tmps i).goes g2 st,hs2⟩;exact hN w' φ _ (hsa.put o.dst hd (vM hr' hr)) g2
 · intro x h' w' φ' hR
   exact absurd hR.1 (by simp)
 · intro e w' h
   cases e with
   | returned v=>exact h
   | panicked chain=>exact h
   | outgrown=>exact h.elim
end
section
variable {w w':World} {φ φ':aD} {Λ Λ':aW}
theorem Rep.mv (hφ:∀ id l,φ id=some l→φ' id=some l) (K1:∀ b,b<w.heap.size→bp φ b→w'.heap[b]?=w.heap[b]?) (K0:∀ b,b<w.heap.size→may φ Λ 0 b→w'.heap[b]?=w.heap[b]?) (M:∀ b,b<w.heap.size→may φ Λ 0 b→may φ' Λ' 0 b)
 {x:AV} {v:Value} (h:Rep w φ Λ x v) (hl:x.lev 0=true):Rep w' φ' Λ' x v:=by
 induction h with
 | v=>exact .v
 | any=>exact .any
 | bl=>exact .bl
 | fz0=>exact .fz0
 | fz vf a b c d e f ih=>
  obtain rfl:=Nat.le_zero.1 (Nat.le_of_ble_eq_true hl);have hb:=e9 (d 0 f);refine .fz vf (M _ hb a) b c (fun j hj=>?_) (fun j y hj=>ih j y hj (AV.lev_ok (c y (List.mem_of_getElem? hj)))) f;rw [World.cell?_of_block (K0 _ hb a)];exact d j hj
 | fp vf a c d e f ih=>
  obtain rfl:=Nat.le_zero.1 (Nat.le_of_ble_eq_true hl);have hb:=e9 (d 0 f);refine .fp vf (M _ hb a) c (fun j hj=>?_) (fun j y hj=>ih j y hj (AV.lev_ok (c y (List.mem_of_getElem? hj)))) f;rw [World.cell?_of_block (K0 _ hb a)];exact d j hj
 | agg vf a b c ih=>exact .agg vf a b fun j y hj=>ih j y hj (AV.levs_iff.1 hl y (List.mem_of_getElem? hj))
 | tup vf a b c ih=>exact .tup vf a b fun j y hj=>ih j y hj (AV.levs_iff.1 hl y (List.mem_of_getElem? hj))
 | fn vf wf a b c d e f ih1 ih2=>
  simp only [AV.lev,Bool.and_eq_true] at hl;exact .fn vf wf a b (fun j y hj=>ih1 j y hj (AV.levs_iff.1 hl.1 y (List.mem_of_getElem? hj))) d e fun j y hj=>ih2 j y hj (AV.levs_iff.1 hl.2 y (List.mem_of_getElem? hj))
 | ifc h ih=>exact .ifc (ih hl)
 | p a b h ih=>exact .p a b (ih hl)
 | ptr a b c=>exact .ptr (hφ _ _ a) b c
 | ptrx a b=>exact .ptrx (hφ _ _ a) b
 | sl a b c d e f=>exact .sl (hφ _ _ a) b c ((K1 _ (Array.getElem?_eq_some_iff.1 d).1 ⟨_,_,_,a,c⟩).trans d) e f
 | sl0 a b=>exact .sl0 (hφ _ _ a) b
 | slx a b c=>exact .slx (hφ _ _ a) b c
 | mp a b c=>exact .mp (hφ _ _ a) b c
 | mpx a b=>exact .mpx (hφ _ _ a) b
 | dp a b c d e=>exact .dp (hφ _ _ a) b c ((K1 _ (Array.getElem?_eq_some_iff.1 d).1 ⟨_,_,_,a,c⟩).trans d) e
 | dp0 a=>exact .dp0 (hφ _ _ a)
 | dpx a b=>exact .dpx (hφ _ _ a) b
theorem ObjRep.mv (hφ:∀ id l,φ id=some l→φ' id=some l) (K1:∀ b,b<w.heap.size→bp φ b→w'.heap[b]?=w.heap[b]?) (K0:∀ b,b<w.heap.size→may φ Λ 0 b→w'.heap[b]?=w.heap[b]?) (M:∀ b,b<w.heap.size→may φ Λ 0 b→may φ' Λ' 0 b)
 {ob:AObj} {id:Nat} {l:Loc} (hid:φ id=some l) (h:ObjRep w φ Λ ob l) (hl:ob.lev 0=true):ObjRep w' φ' Λ' ob l:=by
 have cells:∀ {arr:Array Value} {o:Nat} {cs:List AV},CellsRep w φ Λ arr o cs→AV.levs 0 cs=true→CellsRep w' φ' Λ' arr o cs:=fun hc e j c hj=>by
  obtain ⟨v,g1,g2⟩:=hc j c hj;exact ⟨v,g1,g2.mv hφ K1 K0 M (AV.levs_iff.1 e c (List.mem_of_getElem? hj))⟩
 cases ob with
 | gbox ty cs=>
  obtain ⟨b,arr,T,g1,g2,g3,g4,g5⟩:=h;exact ⟨b,arr,T,g1,g2,(K1 b (Array.getElem?_eq_some_iff.1 g3).1 ⟨id,l,_,hid,g1⟩).trans g3,g4,cells g5 hl⟩
 | grow ty cs e v=>
  obtain ⟨g0,g⟩:=h;refine ⟨g0,?_⟩;rcases g with g|⟨b,o,arr,T,lo,hi,g1,g2,g3,g4,g5⟩
  · exact .inl g
  · exact .inr ⟨b,o,arr,T,lo,hi,g1,(K1 b (Array.getElem?_eq_some_iff.1 g2).1 ⟨id,l,_,hid,g1⟩).trans g2,g3,g4,cells g5 hl⟩
 | map es=>
  obtain ⟨b,ents,clock,g1,g2,g3,g4,g5⟩:=h;refine ⟨b,ents,clock,g1,g2,(K1 b (Array.getElem?_eq_some_iff.1 g3).1 ⟨id,l,_,hid,g1⟩).trans g3,g4,fun j p hp=>?_⟩;obtain ⟨e,k1,k2,k3⟩:=g5 j p hp;exact ⟨e,k1,k2,k3.mv hφ K1 K0 M (AV.levs_iff.1 hl p.2 (List.mem_map_of_mem (List.mem_of_getElem? hp)))⟩
end
section
variable {K:Type} [DecidableEq K] {Λ:aW} {w w':World} {ψ:K→aD} {H:K→aX} {k k1 k2:K}
def up {β:Type} (f:K→β) (k:K) (x:β):K→β:=fun i=>if i=k then x else f i
theorem aB {β:Type} {f:K→β} {x:β}:up f k x k=x:=if_pos rfl
theorem aO {β:Type} {f:K→β} {x:β} {i:K} (h:i≠k):up f k x i=f i:=if_neg h
def Lt (Λ:aW) (ψ:K→aD) (k:K):aW:=fun l y=>Λ l y∨(l=1∧∃ i,i≠k∧bp (ψ i) y)
structure Parts (Λ:aW) (w:World) (ψ:K→aD) (H:K→aX):Prop where
 sim:∀ k,HSim w (ψ k) (Lt Λ ψ k) (H k)
 lev:∀ k id ob,H k id=some ob→ob.lev 0=true
theorem Lt.up {φ:aD}:Lt Λ (up ψ k φ) k=Lt Λ ψ k:=by
 funext l y
 refine propext (or_congr Iff.rfl (and_congr Iff.rfl ⟨?_,?_⟩))
 · rintro ⟨i,h1,h2⟩;rw [aO h1] at h2;exact ⟨i,h1,h2⟩
 · rintro ⟨i,h1,h2⟩;exact ⟨i,h1,by rw [aO h1];exact h2⟩
theorem Parts.apart (p:Parts Λ w ψ H) (hk:k1≠k2) {y:Nat} (h1:bp (ψ k1) y) (h2:bp (ψ k2) y):False:=by
 obtain ⟨id,l,o,e1,e2⟩:=h1;exact ((p.sim k1).lt id l y o e1 e2).2 1 (.inr ⟨rfl,k2,hk.symm,h2⟩)
theorem Parts.size (p:Parts Λ w ψ H) {y:Nat} (h:bp (ψ k) y):y<w.heap.size:=by
 obtain ⟨id,l,o,e1,e2⟩:=h;exact ((p.sim k).lt id l y o e1 e2).1
theorem Parts.step (p:Parts Λ w ψ H) {φ':aD} {h':aX} (g:Goes w (ψ k) w' φ') (hs:HSim w' φ' (Lt Λ ψ k) h') (hl:∀ id ob,h' id=some ob→ob.lev 0=true):Parts Λ w' (up ψ k φ') (up H k h') where
 sim i:=by
  by_cases hi:i=k
  · subst hi
    rw [aB,aB,Lt.up];exact hs
  · rw [aO hi,aO hi]
    have q:=p.sim i;have K1:∀ b,b<w.heap.size→bp (ψ i) b→w'.heap[b]?=w.heap[b]?:=fun b hb ho=>g.keep b hb fun hk=>p.apart hi ho hk
    have K0:∀ b,b<w.heap.size→may (ψ i) (Lt Λ ψ i) 0 b→w'.heap[b]?=w.heap[b]?:=fun b hb hm=>g.keep b hb fun hk=>hm.2 1 Nat.one_pos (.inr ⟨rfl,k,fun e=>hi e.symm,hk⟩)
    have same:∀ j b,b<w.heap.size→Lt Λ (Fw.up ψ k φ') i j b→Lt Λ ψ i j b:=fun j b hb h=>by
     rcases h with h|⟨h1,i',h2,h3⟩
     · exact .inl h
     · by_cases e:i'=k
       · subst e
         rw [aB] at h3;rcases g.own b h3 with h4|h4
         · exact .inr ⟨h1,i',h2,h4⟩
         · omega
       · rw [aO e] at h3
         exact .inr ⟨h1,i',h2,h3⟩
    have M:∀ b,b<w.heap.size→may (ψ i) (Lt Λ ψ i) 0 b→may (ψ i) (Lt Λ (Fw.up ψ k φ') i) 0 b:=fun b hb hm=>⟨hm.1,fun j hj h=>hm.2 j hj (same j b hb h)⟩
    refine ⟨fun id ob e=>?_,q.dom,fun id l b o e1 e2=>?_,q.inj,fun j b h=>?_⟩
    · obtain ⟨l,h1,h2⟩:=q.heap id ob e
      exact ⟨l,h1,h2.mv (fun _ _ h=>h) K1 K0 M h1 (p.lev i id ob e)⟩
    · have h:=q.lt id l b o e1 e2
      exact ⟨Nat.lt_of_lt_of_le h.1 g.size,fun j hj=>h.2 j (same j b h.1 hj)⟩
    · rcases h with h|⟨h1,i',h2,h3⟩
      · exact Nat.lt_of_lt_of_le (q.lent j b (.inl h)) g.size
      · by_cases e:i'=k
        · subst e
          rw [aB] at h3;obtain ⟨id,l,o,e1,e2⟩:=h3;exact (hs.lt id l b o e1 e2).1
        · rw [aO e] at h3
          exact Nat.lt_of_lt_of_le (p.size h3) g.size
 lev i id ob e:=by
  by_cases hi:i=k
  · subst hi;rw [aB] at e;exact hl id ob e
  · rw [aO hi] at e;exact p.lev i id ob e
def mrg {β:Type} (S:Nat→Bool) (f g:Nat→Option β):Nat→Option β:=fun id=>bif S id then f id else g id
theorem Parts.merge (p:Parts Λ w ψ H) (hk:k1≠k2) (S:Nat→Bool) (h1:∀ id,S id=false→H k1 id=none) (h2:∀ id,S id=true→H k2 id=none) :
 Parts Λ w (up (up ψ k1 (mrg S (ψ k1) (ψ k2))) k2 fun _=>none) (up (up H k1 (mrg S (H k1) (H k2))) k2 emp):=by
 have d1:∀ id l,ψ k1 id=some l→S id=true:=fun id l e=>by
  cases hs:S id with
  | true=>rfl
  | false=>rw [(p.sim k1).dom id (h1 id hs)] at e;cases e
 have d2:∀ id l,ψ k2 id=some l→S id=false:=fun id l e=>by
  cases hs:S id with
  | false=>rfl
  | true=>rw [(p.sim k2).dom id (h2 id hs)] at e;cases e
 have m1:∀ id l,ψ k1 id=some l→mrg S (ψ k1) (ψ k2) id=some l:=fun id l e=>by unfold mrg;rw [d1 id l e];exact e
 have m2:∀ id l,ψ k2 id=some l→mrg S (ψ k1) (ψ k2) id=some l:=fun id l e=>by unfold mrg;rw [d2 id l e];exact e
 have m3:∀ id l,mrg S (ψ k1) (ψ k2) id=some l→(S id=true∧ψ k1 id=some l)∨(S id=false∧ψ k2 id=some l):=fun id l e=>by
  unfold mrg at e;cases hs:S id with
  | true=>rw [hs] at e;exact .inl ⟨rfl,e⟩
  | false=>rw [hs] at e;exact .inr ⟨rfl,e⟩
 have o1:∀ {y},bp (mrg S (ψ k1) (ψ k2)) y→bp (ψ k1) y∨bp (ψ k2) y:=fun ⟨id,l,o,e1,e2⟩=>(m3 id l e1).imp (fun h=>⟨id,l,o,h.2,e2⟩) fun h=>⟨id,l,o,h.2,e2⟩
 have o2:∀ {y},bp (ψ k1) y→bp (mrg S (ψ k1) (ψ k2)) y:=fun ⟨id,l,o,e1,e2⟩=>⟨id,l,o,m1 id l e1,e2⟩
 have o3:∀ {y},bp (ψ k2) y→bp (mrg S (ψ k1) (ψ k2)) y:=fun ⟨id,l,o,e1,e2⟩=>⟨id,l,o,m2 id l e1,e2⟩
 generalize hφ:mrg S (ψ k1) (ψ k2)=φ at *;have back:∀ i j y,i≠k1→i≠k2→Lt Λ (up (up ψ k1 φ) k2 fun _=>none) i j y→Lt Λ ψ i j y:=fun i j y n1 n2 h=>by
  rcases h with h|⟨e,i',h3,h4⟩
  · exact .inl h
  · by_cases e2:i'=k2
    · subst e2;rw [aB] at h4;obtain ⟨_,_,_,h5,_⟩:=h4;cases h5
    · rw [aO e2] at h4
      by_cases e1:i'=k1
      · subst e1;rw [aB] at h4
        rcases o1 h4 with h5|h5
        · exact .inr ⟨e,i',h3,h5⟩
        · exact .inr ⟨e,k2,fun k=>n2 k.symm,h5⟩
      · rw [aO e1] at h4;exact .inr ⟨e,i',h3,h4⟩
 have out:∀ i j y,i=k1∨i=k2→Lt Λ (up (up ψ k1 φ) k2 fun _=>none) k1 j y→Lt Λ ψ i j y:=fun i j y hi h=>by
  rcases h with h|⟨e,i',h3,h4⟩
  · exact .inl h
  · by_cases e2:i'=k2
    · subst e2;rw [aB] at h4;obtain ⟨_,_,_,h5,_⟩:=h4;cases h5
    · rw [aO e2,aO h3] at h4
      exact .inr ⟨e,i',by rcases hi with rfl|rfl<;>assumption,h4⟩
 have all:∀ i y,bp (up (up ψ k1 φ) k2 (fun _=>none) i) y→y<w.heap.size:=fun i y h=>by
  by_cases e2:i=k2
  · subst e2;rw [aB] at h;obtain ⟨_,_,_,h5,_⟩:=h;cases h5
  · rw [aO e2] at h
    by_cases e1:i=k1
    · subst e1;rw [aB] at h;exact (o1 h).elim p.size p.size
    · rw [aO e1] at h;exact p.size h
 refine ⟨fun i=>?_,fun i id ob e=>?_⟩
 · by_cases e2:i=k2
   · subst e2
     rw [aB,aB];exact ⟨(fun id ob e=>by cases e),(fun _ _=>rfl),(fun id l b o e=>by cases e),(fun id id' l l' b o o' e=>by cases e),fun j b h=>h.elim (fun h=>(p.sim i).lent j b (.inl h)) fun ⟨_,i',_,h⟩=>all i' b h⟩
   · rw [aO e2,aO e2]
     by_cases e1:i=k1
     · subst e1
       rw [aB,aB];have M1:∀ b,b<w.heap.size→may (ψ i) (Lt Λ ψ i) 0 b→may φ (Lt Λ (up (up ψ i φ) k2 fun _=>none) i) 0 b:=fun b hb hm=>⟨fun h=>(o1 h).elim hm.1 fun h=>hm.2 1 Nat.one_pos (.inr ⟨rfl,k2,hk.symm,h⟩),fun j hj h=>hm.2 j hj (out i j b (.inl rfl) h)⟩
       have M2:∀ b,b<w.heap.size→may (ψ k2) (Lt Λ ψ k2) 0 b→may φ (Lt Λ (up (up ψ i φ) k2 fun _=>none) i) 0 b:=fun b hb hm=>⟨fun h=>(o1 h).elim (fun h=>hm.2 1 Nat.one_pos (.inr ⟨rfl,i,hk,h⟩)) hm.1,fun j hj h=>hm.2 j hj (out k2 j b (.inr rfl) h)⟩
       refine ⟨fun id ob e=>?_,fun id e=>?_,fun id l b o e3 e4=>?_,fun id id' l l' b o o' e3 e4 e5 e6=>?_,fun j b h=>h.elim (fun h=>(p.sim i).lent j b (.inl h)) fun ⟨_,i',_,h⟩=>all i' b h⟩
       · unfold mrg at e
         cases hs:S id with
         | true=>
          rw [hs] at e;obtain ⟨l,q1,q2⟩:=(p.sim i).heap id ob e;exact ⟨l,m1 id l q1,q2.mv m1 (fun _ _ _=>rfl) (fun _ _ _=>rfl) M1 q1 (p.lev i id ob e)⟩
         | false=>
          rw [hs] at e;obtain ⟨l,q1,q2⟩:=(p.sim k2).heap id ob e;exact ⟨l,m2 id l q1,q2.mv m2 (fun _ _ _=>rfl) (fun _ _ _=>rfl) M2 q1 (p.lev k2 id ob e)⟩
       · subst hφ
         unfold mrg at e ⊢;cases hs:S id with
         | true=>rw [hs] at e;exact (p.sim i).dom id e
         | false=>rw [hs] at e;exact (p.sim k2).dom id e
       · rcases m3 id l e3 with h|h
         · exact ⟨((p.sim i).lt id l b o h.2 e4).1,fun j hj=>((p.sim i).lt id l b o h.2 e4).2 j (out i j b (.inl rfl) hj)⟩
         · exact ⟨((p.sim k2).lt id l b o h.2 e4).1,fun j hj=>((p.sim k2).lt id l b o h.2 e4).2 j (out k2 j b (.inr rfl) hj)⟩
       · rcases m3 id l e3 with h|h<;>rcases m3 id' l' e4 with h'|h'
         · exact (p.sim i).inj id id' l l' b o o' h.2 h'.2 e5 e6
         · exact (p.apart hk ⟨id,l,o,h.2,e5⟩ ⟨id',l',o',h'.2,e6⟩).elim
         · exact (p.apart hk ⟨id',l',o',h'.2,e6⟩ ⟨id,l,o,h.2,e5⟩).elim
         · exact (p.sim k2).inj id id' l l' b o o' h.2 h'.2 e5 e6
     · rw [aO e1,aO e1]
       have q:=p.sim i;refine ⟨fun id ob e=>?_,q.dom,fun id l b o e3 e4=>⟨(q.lt id l b o e3 e4).1,fun j hj=>(q.lt id l b o e3 e4).2 j (back i j b e1 e2 hj)⟩,q.inj,fun j b h=>h.elim (fun h=>q.lent j b (.inl h)) fun ⟨_,i',_,h⟩=>all i' b h⟩;obtain ⟨l,q1,q2⟩:=q.heap id ob e;exact ⟨l,q1,q2.mv (fun _ _ h=>h) (fun _ _ _=>rfl) (fun _ _ _=>rfl) (fun b hb hm=>⟨hm.1,fun j hj h=>hm.2 j hj (back i j b e1 e2 h)⟩) q1 (p.lev i id ob e)⟩
 · by_cases e2:i=k2
   · subst e2;rw [aB] at e;cases e
   · rw [aO e2] at e
     by_cases e1:i=k1
     · subst e1;rw [aB] at e
       unfold mrg at e;cases hs:S id with
       | true=>rw [hs] at e;exact p.lev i id ob e
       | false=>rw [hs] at e;exact p.lev k2 id ob e
     · rw [aO e1] at e;exact p.lev i id ob e
def only {β:Type} (S:Nat→Bool) (f:Nat→Option β):Nat→Option β:=fun id=>bif S id then f id else none
theorem Parts.split (p:Parts Λ w ψ H) (hk:k1≠k2) (S:Nat→Bool) (he:∀ id,H k2 id=none) (h1:∀ id ob,S id=true→H k1 id=some ob→ObjIn S ob) (h2:∀ id ob,S id=false→H k1 id=some ob→ObjIn (fun i=>!S i) ob) :
 Parts Λ w (up (up ψ k1 (restrict S (ψ k1))) k2 (restrict (fun i=>!S i) (ψ k1))) (up (up H k1 (only S (H k1))) k2 (only (fun i=>!S i) (H k1))):=by
 have n2:∀ id,ψ k2 id=none:=fun id=>(p.sim k2).dom id (he id)
 have sides:∀ y,bp (restrict S (ψ k1)) y→bp (restrict (fun i=>!S i) (ψ k1)) y→False:=fun y ⟨id,l,o,e1,e2⟩ ⟨id',l',o',e3,e4⟩=>by
  have a:=bH e1;have b:=bH e3;have:=(p.sim k1).inj id id' l l' y o o' a.2 b.2 e2 e4;subst this;rw [a.1] at b;cases b.1
 have cases':∀ i y,bp (up (up ψ k1 (restrict S (ψ k1))) k2 (restrict (fun i=>!S i) (ψ k1)) i) y→(i=k2∧bp (restrict (fun i=>!S i) (ψ k1)) y)∨(i=k1∧bp (restrict S (ψ k1)) y)∨(i≠k1∧i≠k2∧bp (ψ i) y):=fun i y h=>by
  by_cases e2:i=k2
  · subst e2;rw [aB] at h;exact .inl ⟨rfl,h⟩
  · rw [aO e2] at h
    by_cases e1:i=k1
    · subst e1;rw [aB] at h;exact .inr (.inl ⟨rfl,h⟩)
    · rw [aO e1] at h;exact .inr (.inr ⟨e1,e2,h⟩)
 have all:∀ i y,bp (up (up ψ k1 (restrict S (ψ k1))) k2 (restrict (fun i=>!S i) (ψ k1)) i) y→y<w.heap.size:=fun i y h=>by
  rcases cases' i y h with h|h|h
  · exact p.size (bY h.2)
  · exact p.size (bY h.2)
  · exact p.size h.2.2
 have good:∀ (T:Nat→Bool) (i:K),(∀ id ob,T id=true→H k1 id=some ob→ObjIn T ob)→(∀ j y,Lt Λ (up (up ψ k1 (restrict S (ψ k1))) k2 (restrict (fun i=>!S i) (ψ k1))) i j y→Lt Λ ψ k1 j y∨bp (restrict (fun i=>!T i) (ψ k1)) y)→
  (∀ y,bp (restrict T (ψ k1)) y→bp (restrict (fun i=>!T i) (ψ k1)) y→False)→HSim w (restrict T (ψ k1)) (Lt Λ (up (up ψ k1 (restrict S (ψ k1))) k2 (restrict (fun i=>!S i) (ψ k1))) i) (only T (H k1)):=fun T i hT hL hS=>by
  have q:=p.sim k1;refine ⟨fun id ob e=>?_,fun id e=>?_,fun id l b o e3 e4=>⟨(q.lt id l b o (bH e3).2 e4).1,fun j hj=>?_⟩,fun id id' l l' b o o' e3 e4=>q.inj id id' l l' b o o' (bH e3).2 (bH e4).2,fun j b h=>h.elim (fun h=>q.lent j b (.inl h)) fun ⟨_,i',_,h⟩=>all i' b h⟩
  · unfold only at e
    cases ht:T id with
    | false=>rw [ht] at e;cases e
    | true=>
     rw [ht] at e;obtain ⟨l,q1,q2⟩:=q.heap id ob e;exact ⟨l,bR ht q1,(q2.mv (fun _ _ h=>h) (fun _ _ _=>rfl) (fun _ _ _=>rfl) (fun b hb hm=>⟨hm.1,fun j hj h=>(hL j b h).elim (hm.2 j hj) fun h=>hm.1 (bY h)⟩) q1 (p.lev k1 id ob e)).restrict (hT id ob ht e)⟩
  · unfold only at e
    unfold restrict;cases ht:T id with
    | false=>rfl
    | true=>rw [ht] at e;exact q.dom id e
  · exact (hL j b hj).elim ((q.lt id l b o (bH e3).2 e4).2 j) (hS b ⟨id,l,o,e3,e4⟩)
 have g1:=good S k1 h1 (fun j y h=>by
  rcases h with h|⟨e,i',h3,h4⟩
  · exact .inl (.inl h)
  · rcases cases' i' y h4 with h|h|h
    · exact .inr h.2
    · exact absurd h.1 h3
    · exact .inl (.inr ⟨e,i',h3,h.2.2⟩)) sides
 have nn:(fun i=>!(!S i))=S:=by funext i;simp
 have g2:=good (fun i=>!S i) k2 (fun id ob e=>h2 id ob (by simpa using e)) (fun j y h=>by
  rcases h with h|⟨e,i',h3,h4⟩
  · exact .inl (.inl h)
  · rcases cases' i' y h4 with h|h|h
    · exact absurd h.1 h3
    · exact .inr (by rw [nn];exact h.2)
    · exact .inl (.inr ⟨e,i',h.1,h.2.2⟩)) (fun y a b=>sides y (by rw [nn] at b;exact b) a)
 refine ⟨fun i=>?_,fun i id ob e=>?_⟩
 · by_cases e2:i=k2
   · subst e2
     rw [aB (f:=up ψ k1 _),aB (f:=up H k1 _)];exact g2
   · rw [aO (f:=up ψ k1 _) e2,aO (f:=up H k1 _) e2]
     by_cases e1:i=k1
     · subst e1
       rw [aB (f:=ψ),aB (f:=H)];exact g1
     · rw [aO (f:=ψ) e1,aO (f:=H) e1]
       have q:=p.sim i;have same:∀ j y,Lt Λ (up (up ψ k1 (restrict S (ψ k1))) k2 (restrict (fun i=>!S i) (ψ k1))) i j y→Lt Λ ψ i j y:=fun j y h=>by
        rcases h with h|⟨e,i',h3,h4⟩
        · exact .inl h
        · rcases cases' i' y h4 with h|h|h
          · exact .inr ⟨e,k1,fun k=>e1 k.symm,bY h.2⟩
          · exact .inr ⟨e,k1,fun k=>e1 k.symm,bY h.2⟩
          · exact .inr ⟨e,i',h3,h.2.2⟩
       refine ⟨fun id ob e=>?_,q.dom,fun id l b o e3 e4=>⟨(q.lt id l b o e3 e4).1,fun j hj=>(q.lt id l b o e3 e4).2 j (same j b hj)⟩,q.inj,fun j b h=>q.lent j b (same j b h)⟩;obtain ⟨l,q1,q2⟩:=q.heap id ob e;exact ⟨l,q1,q2.mv (fun _ _ h=>h) (fun _ _ _=>rfl) (fun _ _ _=>rfl) (fun b hb hm=>⟨hm.1,fun j hj h=>hm.2 j hj (same j b h)⟩) q1 (p.lev i id ob e)⟩
 · by_cases e2:i=k2
   · subst e2;rw [aB] at e
     unfold only at e;cases hs:S id with
     | false=>simp only [hs,Bool.not_false,cond_true] at e;exact p.lev k1 id ob e
     | true=>simp [hs] at e
   · rw [aO e2] at e
     by_cases e1:i=k1
     · subst e1;rw [aB] at e
       unfold only at e;cases hs:S id with
       | true=>rw [hs] at e;exact p.lev i id ob e
       | false=>rw [hs] at e;cases e
     · rw [aO e1] at e;exact p.lev i id ob e
end
def Da (lo:Nat) (c:AV):AV:=bif c.ok lo then c else .any
theorem D9 {lo:Nat} {c:AV}:(Da lo c).ok lo=true:=by
 unfold Da;cases h:c.ok lo with
 | true=>exact h
 | false=>rfl
theorem xm {h:aX} {lo hi id ver:Nat} {ob:AObj} {cells cs:List AV} (h1:h id=some ob) (h2:ObAt ob ver cells) (h4:Nat.ble 1 cells.length=true) (h6:cells.map (Da lo)=cs):lP h lo hi (.ptr id ver 0) (.fp hi cs):=by
 intro hle w φ Λ Λ' v hs hm hown hr;subst h6;have h4:=Nat.le_of_ble_eq_true h4;obtain ⟨l0,b0,oo0,arr,T,lo1,hi1,g1,g2,g3,g4,g5,g6,g7⟩:=hs.at h1 h2.at (by omega);cases hr with
 | ptrx e1 e2=>rw [g1] at e1;cases e1;omega
 | ptr e1 e2 e3=>
  rw [g1] at e1;cases e1;rw [g3] at e3;cases e3;refine .fp (fun j=>arr.getD (oo0+0+j) undef) (hown b0 ⟨_,_,_,g1,g3⟩) (fun c hc=>?_) (fun j hj=>?_) (fun j c hj=>?_) (by simp;omega)
  · obtain ⟨c0,_,rfl⟩:=List.mem_map.1 hc
    exact AV.ok_mono hle D9
  · simp only [List.length_map] at hj
    have:oo0+0+j<arr.size:=by omega
    simp only [World.cell?,g4,Array.getD,this,dif_pos];simp [this]
  · rw [List.getElem?_map,Option.map_eq_some_iff] at hj
    obtain ⟨c0,hj,rfl⟩:=hj;obtain ⟨u,q1,q2⟩:=g7 _ c0 hj;rw [Array.getD_eq_getD_getElem?,Nat.add_zero,q1];unfold Da;cases hk:c0.ok lo with
    | true=>exact q2.move hm hk
    | false=>exact .any
theorem AR {α:Type} [Inhabited α] {f:α→List AV} {e:Nat} (hf:∀ x,(f x).length=e) {l:List α} {j off sz:Nat} (hj:j<l.length) (ho:off+sz≤e):((cl f l).drop (j*e+off)).take sz=((f (l.getD j default)).drop off).take sz:=by
 rw [← m6 hf hj,← List.drop_drop,List.drop_take,List.take_take,Nat.min_eq_left (by omega)]
theorem CD {α:Type} [Inhabited α] {f:α→List AV} {e:Nat} (hf:∀ x,(f x).length=e) {l:List α} {j off:Nat} {cs:List AV} (a:α) (hj:j<l.length) (ho:off+cs.length≤e) (ha:(f (l.getD j default)).take off++cs++(f (l.getD j default)).drop (off+cs.length)=f a) :
 (cl f l).take (j*e+off)++cs++(cl f l).drop (j*e+off+cs.length)=cl f (l.set j a):=by
 rw [← tg hf a hj,hf,← ha,← m6 hf hj,List.take_add];have e1:(List.take e (List.drop (j*e) (cl f l))).take off=(List.drop (j*e) (cl f l)).take off:=by rw [List.take_take,Nat.min_eq_left (by omega)]
 have e2:(List.drop (j*e) (cl f l)).drop (off+cs.length)=(List.take e (List.drop (j*e) (cl f l))).drop (off+cs.length)++(cl f l).drop (j*e+e):=by
  have h:=List.take_append_drop e (List.drop (j*e) (cl f l));conv=>lhs;rw [← h]
  have hl:(List.take e (List.drop (j*e) (cl f l))).length=e:=by rw [m6 hf hj,hf]
  rw [List.drop_append_of_le_length (by omega),List.drop_drop]
 rw [e1,show j*e+off+cs.length=j*e+(off+cs.length) by omega,← List.drop_drop,e2];simp only [List.append_assoc]
section
variable {n:Nat} {s:AS} {o:Oper} {d:Option Tmp}
theorem sI {α:Type} [Inhabited α] {f:α→List AV} {l:List α} {a:α} {e j off id ver:Nat} {ob:AObj} {t:TypeId} {x:Operand} {ti:TI} {z:AV} {cs:List AV} (hel:l.getD j default=a) (hj:j<l.length) (ho:o.op=.load t x:=by exact rfl) (hx:s.ev x=.ptr id ver (j*e+off):=by exact rfl)
 (hob:s.h id=some ob:=by exact rfl) (hat:ObAt ob ver (cl f l):=by first|exact .row|exact .box) (hf:∀ x,(f x).length=e:=by exact fun _=>rfl) (ht:te.get t=some ti:=by exact rfl) (hp:0<ti.size:=by exact Nat.le_of_ble_eq_true rfl) (hoe:off+ti.size≤e:=by exact Nat.le_of_ble_eq_true rfl)
 (hcs:((f a).drop off).take ti.size=cs:=by exact rfl) (hl:cs.length=ti.size:=by exact rfl) (hy:jM ti.k.agg cs=z:=by conv=>lhs;whnf) (hdd:o.dst=d:=by conv=>lhs;whnf) (hd:d.all (Nat.blt · n)=true:=by exact rfl):OpOk Tryz.prog n o s (s.put d z):=
 io te_ok ho hx hob hat.at ht (by rw [AR hf hj hoe,hel];exact hcs) hl hp hy hdd hd
theorem qd {α:Type} [Inhabited α] {f:α→List AV} {l:List α} {b:α} (a:α) {e j off id ver:Nat} {ob ob'':AObj} {t:TypeId} {x y:Operand} {ti:TI} {v:AV} {cs:List AV} (hel:l.getD j default=b) (hj:j<l.length) (ho:o.op=.store t x y:=by exact rfl) (hx:s.ev x=.ptr id ver (j*e+off):=by exact rfl)
 (hy:s.ev y=v:=by conv=>lhs;whnf) (hv:v.flat=some cs:=by exact rfl) (h1:cs.all AV.one=true:=by exact rfl) (hob:s.h id=some ob:=by exact rfl) (hat:ObAt ob ver (cl f l):=by first|exact .row|exact .box) (hf:∀ x,(f x).length=e:=by exact fun _=>rfl) (he:0<e:=by exact Nat.le_of_ble_eq_true rfl)
 (ht:te.get t=some ti:=by exact rfl) (hl:cs.length=ti.size:=by exact rfl) (hoe:off+cs.length≤e:=by exact Nat.le_of_ble_eq_true rfl) (ha:(f b).take off++cs++(f b).drop (off+cs.length)=f a:=by exact rfl) (hw:ob.withCells (cl f (l.set j a))=ob'':=by conv=>lhs;whnf)
 (hdd:o.dst=d:=by conv=>lhs;whnf) (hd:d.all (Nat.blt · n)=true:=by exact rfl):OpOk Tryz.prog n o s ((s.seth id (some ob'')).put d (.v undef)):=by
 subst hw;have h3:=bJ hf l;have h4:(j+1)*e≤l.length*e:=Nat.mul_le_mul_right e hj;rw [Nat.add_mul,Nat.one_mul] at h4;exact fq te_ok ho hx hy hv h1 hob hat.at ht hl (by rw [h3];omega) (by rw [h3];omega) (CD hf a hj hoe (by rw [hel];exact ha)) hdd hd
end
section
variable {n:Nat} {s:AS} {o:Oper} {d:Option Tmp}
theorem ue (a m:Nat) {t t2 e:TypeId} {x y:Operand} {id ver id2 ver2 esz bt off:Nat} {ty:Option TypeId} {α:Type} {f:α→List AV} {l k:List α} {ob2:AObj} {ti tj tk:TI} (ham:a+m≤k.length) (h1:∀ x,(f x).all AV.one=true) (ho:o.op=.call { callee:=.builtin .append,args:=#[x,y],argTypes:=#[t,t2] }:=by exact rfl)
 (hx:s.ev x=.sl id ver 0 l.length esz:=by exact rfl) (hob:s.h id=some (.grow ty (cl f l) esz ver):=by exact rfl) (hy:s.ev y=.sl id2 ver2 off m esz:=by exact rfl) (hoff:off=a*esz:=by first|exact rfl|omega) (hob2:s.h id2=some ob2:=by exact rfl) (hat2:ObAt ob2 ver2 (cl f k):=by exact .row) (ht:te.get t=some ti:=by exact rfl) (hk:ti.k=.slice e:=by exact rfl) (he:te.get e=some tj:=by exact rfl)
 (hty:ty.getD e=e:=by exact rfl) (hesz:tj.size=esz:=by exact rfl) (hbt:tj.bytes=bt:=by conv=>lhs;whnf) (ht2:te.get t2=some tk:=by exact rfl) (hk2:(match tk.k with|.slice _|.str=>true|_=>false)=true:=by exact rfl) (hf:∀ x,(f x).length=esz:=by exact fun _=>rfl)
 (hb:(l.length+m)*bt≤140737488355328:=by first|omega|(simp;omega)) (hbp:0<bt:=by exact Nat.le_of_ble_eq_true rfl)
 (hdd:o.dst=d:=by conv=>lhs;whnf) (hd:d.all (Nat.blt · n)=true:=by exact rfl):OpOk Tryz.prog n o s ((s.seth id (some (.grow ty (cl f (l++(k.drop a).take m)) esz (ver+1)))).put d (.sl id (ver+1) 0 (l++(k.drop a).take m).length esz)):=by
 subst hesz;subst hbt;subst hoff;have hml:((k.drop a).take m).length=m:=by simp;omega
 rw [List.length_append,oh,hml];have hle:l.length+m≤(l.length+m)*tj.bytes:=Nat.le_mul_of_pos_right _ hbp;exact ji te_ok hty ho hx hob (by rw [Nat.zero_add,bJ hf]) ht hk he rfl ht2 hk2 (zk hy hob2 hat2.at (by rw [nl hf,pH hf]) (by rw [bJ hf,hml])) (wr h1) (by rw [List.drop_zero]) hb (by omega) hdd hd
end
def mix {α:Type} (i:Nat) (l:List α):List (Bool×α):=(l.take i).map (Prod.mk true)++(l.drop i).map (Prod.mk false)
theorem lm {α:Type} {i:Nat} {l:List α}:(mix i l).length=l.length:=by simp [mix];omega
theorem nY {α:Type} [Inhabited α] {i:Nat} {l:List α} (h:i<l.length):(mix i l).getD i default=(false,l.getD i default):=by
 have h1:((l.take i).map (Prod.mk true)).length=i:=by simp;omega
 rw [mix,List.getD_eq_getElem?_getD,List.getElem?_append_right (by omega),h1,Nat.sub_self,List.drop_eq_getElem_cons h];simp [List.getD_eq_getElem?_getD,List.getElem?_eq_getElem h]
theorem sV {α:Type} [Inhabited α] {i:Nat} {l:List α} (h:i<l.length):(mix i l).set i (true,l.getD i default)=mix (i+1) l:=by
 have h1:((l.take i).map (Prod.mk true)).length=i:=by simp;omega
 have h2:l.getD i default=l[i]:=by rw [List.getD_eq_getElem?_getD,List.getElem?_eq_getElem h];rfl
 rw [mix,mix,List.set_append_right _ _ (by omega),h1,Nat.sub_self,List.drop_eq_getElem_cons h,List.take_succ_eq_append_getElem h,h2,List.map_cons,List.set_cons_zero,List.map_append,List.append_assoc];rfl
theorem tn {α:Type} {f:Bool×α→List AV} {g:α→List AV} (h:∀ x,f (false,x)=g x) (l:List α):cl f (mix 0 l)=cl g l:=by
 simp only [mix,List.take_zero,List.map_nil,List.nil_append,List.drop_zero];induction l with
 | nil=>rfl
 | cons a l ih=>rw [List.map_cons,c6,c6,ih,h]
theorem tm {α:Type} {f:Bool×α→List AV} {g:α→List AV} (h:∀ x,f (true,x)=g x) (l:List α):cl f (mix l.length l)=cl g l:=by
 simp only [mix,List.take_length,List.drop_length,List.map_nil,List.append_nil];induction l with
 | nil=>rfl
 | cons a l ih=>rw [List.map_cons,c6,c6,ih,h]
section
structure Base where
 w:World
 B:Nat→Prop
 bnd:∀ b,B b→b<w.heap.size
variable {K:Type} [DecidableEq K] {Λ:aW} {w0:Base} {w w1 w':World} {ψ ψ1 ψ':K→aD} {H H1 H':K→aX} {k k1 k2:K}
def tL (ψ:K→aD) (y:Nat):Prop:=∀ i,¬ bp (ψ i) y
theorem ez {i:K} {y:Nat}:may (ψ i) (Lt Λ ψ i) 0 y↔tL ψ y∧∀ j,0<j→¬ Λ j y:=by
 constructor
 · rintro ⟨h1,h2⟩
   refine ⟨fun i' ho=>?_,fun j hj h=>h2 j hj (.inl h)⟩;by_cases e:i'=i
   · subst e;exact h1 ho
   · exact h2 1 Nat.one_pos (.inr ⟨rfl,i',e,ho⟩)
 · rintro ⟨h1,h2⟩
   refine ⟨h1 i,fun j hj h=>?_⟩;rcases h with h|⟨_,i',_,h⟩
   · exact h2 j hj h
   · exact h1 i' h
theorem dR {i j:K} {x:AV} {v:Value} (h:Rep w (ψ i) (Lt Λ ψ i) x v) (hx:x.ok 0=true):Rep w (ψ j) (Lt Λ ψ j) x v:=
 h.move (lv:=0) (fun l b hl _ hm=>by obtain rfl:=Nat.le_zero.1 hl;exact ez.2 (ez.1 hm)) hx
structure Rn (w0:Base) (w:World):Prop where
 keep:∀ b,w0.B b→w.heap[b]?=w0.w.heap[b]?
 size:w0.w.heap.size≤w.heap.size
 os:w.os=w0.w.os
 tape:w.tape=w0.w.tape
 output:w.output=w0.w.output
 fro:Fro w0.w w
theorem Rn.refl (w0:Base):Rn w0 w0.w:=⟨fun _ _=>rfl,Nat.le_refl _,rfl,rfl,rfl,.refl _⟩
structure PS (Λ:aW) (w0:Base) (w:World) (ψ:K→aD) (H:K→aX):Prop where
 parts:Parts Λ w ψ H
 new:∀ i y,bp (ψ i) y→¬ w0.B y
 rn:Rn w0 w
structure Mv (Λ:aW) (w0:Base) (T:K→Prop) (w:World) (ψ:K→aD) (H:K→aX) (w':World) (ψ':K→aD) (H':K→aX):Prop where
 ps:PS Λ w0 w' ψ' H'
 same:∀ i,¬ T i→ψ' i=ψ i∧H' i=H i
 rep:∀ i x v,¬ T i→x.lev 0=true→Rep w (ψ i) (Lt Λ ψ i) x v→Rep w' (ψ' i) (Lt Λ ψ' i) x v
theorem Mv.trans {T:K→Prop} (a:Mv Λ w0 T w ψ H w1 ψ1 H1) (b:Mv Λ w0 T w1 ψ1 H1 w' ψ' H'):Mv Λ w0 T w ψ H w' ψ' H':=
 ⟨b.ps,fun i h=>⟨(b.same i h).1.trans (a.same i h).1,(b.same i h).2.trans (a.same i h).2⟩,fun i x v h hl hr=>b.rep i x v h hl (a.rep i x v h hl hr)⟩
theorem Mv.mono {T T':K→Prop} (a:Mv Λ w0 T w ψ H w' ψ' H') (h:∀ i,T i→T' i):Mv Λ w0 T' w ψ H w' ψ' H':=
 ⟨a.ps,fun i n=>a.same i fun t=>n (h i t),fun i x v n=>a.rep i x v fun t=>n (h i t)⟩
theorem q9 {i:K} (e:ψ' i=ψ i) (hs:∀ y,tL ψ y→tL ψ' y) {x:AV} {v:Value} (hl:x.lev 0=true) (h:Rep w (ψ i) (Lt Λ ψ i) x v):Rep w (ψ' i) (Lt Λ ψ' i) x v:=
 h.mv (fun id l hid=>by rw [e];exact hid) (fun _ _ _=>rfl) (fun _ _ _=>rfl) (fun b _ hm=>ez.2 ⟨hs b (ez.1 hm).1,(ez.1 hm).2⟩) hl
theorem PS.step {φ':aD} {h':aX} (p:PS Λ w0 w ψ H) (g:Goes w (ψ k) w' φ') (hs:HSim w' φ' (Lt Λ ψ k) h') (hl:∀ id ob,h' id=some ob→ob.lev 0=true):Mv Λ w0 (·=k) w ψ H w' (up ψ k φ') (up H k h') where
 ps:=by
  refine ⟨p.parts.step g hs hl,fun i y ho=>?_,?_⟩
  · by_cases hi:i=k
    · subst hi
      rw [aB] at ho;rcases g.own y ho with h|h
      · exact p.new i y h
      · exact fun hb=>absurd (w0.bnd y hb) (by have:=p.rn.size;omega)
    · rw [aO hi] at ho
      exact p.new i y ho
  · exact ⟨fun b hb=>by rw [g.keep b (Nat.lt_of_lt_of_le (w0.bnd b hb) p.rn.size) fun h=>p.new k b h hb,p.rn.keep b hb],Nat.le_trans p.rn.size g.size,g.os.trans p.rn.os,g.tape.trans p.rn.tape,g.output.trans p.rn.output,p.rn.fro.trans g.fro⟩
 same i hi:=⟨aO hi,aO hi⟩
 rep i x v hi hx h:=by
  have e:up ψ k φ' i=ψ i:=aO hi;refine h.mv (fun id l hid=>by rw [e];exact hid) (fun b hb ho=>g.keep b hb fun hk=>p.parts.apart hi ho hk) (fun b hb hm=>g.keep b hb fun hk=>(ez.1 hm).1 k hk) (fun b hb hm=>?_) hx;obtain ⟨h1,h2⟩:=ez.1 hm;refine ez.2 ⟨fun i' ho=>?_,h2⟩;by_cases e':i'=k
  · subst e'
    rw [aB] at ho;rcases g.own b ho with h|h
    · exact h1 i' h
    · omega
  · rw [aO e'] at ho
    exact h1 i' ho
theorem PS.ren {φ':aD} {h':aX} (p:PS Λ w0 w ψ H) (k:K) (hs:HSim w φ' (Lt Λ ψ k) h') (ho:∀ y,bp φ' y→bp (ψ k) y) (hl:∀ id ob,h' id=some ob→ob.lev 0=true):Mv Λ w0 (·=k) w ψ H w (up ψ k φ') (up H k h'):=by
 have sub:∀ y,tL ψ y→tL (up ψ k φ') y:=fun y h i hi=>by
  by_cases e:i=k
  · subst e;rw [aB] at hi;exact h i (ho y hi)
  · rw [aO e] at hi;exact h i hi
 have back:∀ i j y,i≠k→Lt Λ (up ψ k φ') i j y→Lt Λ ψ i j y:=fun i j y hi h=>by
  rcases h with h|⟨e,i',h3,h4⟩
  · exact .inl h
  · by_cases e1:i'=k
    · subst e1;rw [aB] at h4;exact .inr ⟨e,i',h3,ho y h4⟩
    · rw [aO e1] at h4;exact .inr ⟨e,i',h3,h4⟩
 refine ⟨⟨⟨fun i=>?_,fun i id ob e=>?_⟩,fun i y hi=>?_,p.rn⟩,fun i hi=>⟨aO hi,aO hi⟩,fun i x v hi hx h=>q9 (aO hi) sub hx h⟩
 · by_cases e:i=k
   · subst e
     rw [aB,aB,Lt.up];exact hs
   · rw [aO e,aO e]
     have q:=p.parts.sim i;refine ⟨fun id ob e2=>?_,q.dom,fun id l b o e1 e2=>⟨(q.lt id l b o e1 e2).1,fun j hj=>(q.lt id l b o e1 e2).2 j (back i j b e hj)⟩,q.inj,fun j b h=>q.lent j b (back i j b e h)⟩;obtain ⟨l,h1,h2⟩:=q.heap id ob e2;exact ⟨l,h1,h2.mv (fun _ _ h=>h) (fun _ _ _=>rfl) (fun _ _ _=>rfl) (fun b _ hm=>⟨hm.1,fun j hj h=>hm.2 j hj (back i j b e h)⟩) h1 (p.parts.lev i id ob e2)⟩
 · by_cases e2:i=k
   · subst e2;rw [aB] at e;exact hl id ob e
   · rw [aO e2] at e;exact p.parts.lev i id ob e
 · by_cases e2:i=k
   · subst e2;rw [aB] at hi;exact p.new i y (ho y hi)
   · rw [aO e2] at hi;exact p.new i y hi
theorem PS.conv {h':aX} (p:PS Λ w0 w ψ H) (k:K) (hs:HSim w (ψ k) (Lt Λ ψ k) h') (hl:∀ id ob,h' id=some ob→ob.lev 0=true):Mv Λ w0 (·=k) w ψ H w ψ (up H k h'):=by
 have m:=p.ren k hs (fun _ h=>h) hl;have e:up ψ k (ψ k)=ψ:=by
  funext i
  by_cases e:i=k
  · subst e;rw [aB]
  · rw [aO e]
 rw [e] at m;exact m
theorem uq (hk:k1≠k2) {S:Nat→Bool} {y:Nat} (h:tL ψ y):tL (up (up ψ k1 (mrg S (ψ k1) (ψ k2))) k2 fun _=>none) y:=fun i hi=>by
 by_cases e2:i=k2
 · subst e2;rw [aB] at hi;obtain ⟨_,_,_,h5,_⟩:=hi;cases h5
 · rw [aO e2] at hi
   by_cases e1:i=k1
   · subst e1
     rw [aB] at hi;obtain ⟨id,l,o,a,b⟩:=hi;unfold mrg at a;cases hs:S id with
     | true=>rw [hs] at a;exact h i ⟨id,l,o,a,b⟩
     | false=>rw [hs] at a;exact h k2 ⟨id,l,o,a,b⟩
   · rw [aO e1] at hi;exact h i hi
theorem PS.merge (p:PS Λ w0 w ψ H) (hk:k1≠k2) (S:Nat→Bool) (h1:∀ id,S id=false→H k1 id=none) (h2:∀ id,S id=true→H k2 id=none) :
 Mv Λ w0 (fun i=>i=k1∨i=k2) w ψ H w (up (up ψ k1 (mrg S (ψ k1) (ψ k2))) k2 fun _=>none) (up (up H k1 (mrg S (H k1) (H k2))) k2 emp):=by
 refine ⟨⟨p.parts.merge hk S h1 h2,fun i y hi=>?_,p.rn⟩,fun i hi=>?_,fun i x v hi hx h=>?_⟩
 · exact fun hb=>uq (ψ:=ψ) hk (S:=S) (fun i' h'=>p.new i' y h' hb) i hi
 · rw [aO fun e=>hi (.inr e),aO fun e=>hi (.inl e),aO fun e=>hi (.inr e),aO fun e=>hi (.inl e)]
   exact ⟨rfl,rfl⟩
 · exact q9 (by rw [aO fun e=>hi (.inr e),aO fun e=>hi (.inl e)]) (fun y=>uq hk) hx h
theorem pQ {S:Nat→Bool} {y:Nat} (h:tL ψ y):tL (up (up ψ k1 (restrict S (ψ k1))) k2 (restrict (fun i=>!S i) (ψ k1))) y:=fun i hi=>by
 by_cases e2:i=k2
 · subst e2;rw [aB (f:=up ψ k1 _)] at hi;exact h k1 (bY hi)
 · rw [aO (f:=up ψ k1 _) e2] at hi
   by_cases e1:i=k1
   · subst e1;rw [aB (f:=ψ)] at hi;exact h i (bY hi)
   · rw [aO (f:=ψ) e1] at hi;exact h i hi
theorem PS.split (p:PS Λ w0 w ψ H) (hk:k1≠k2) (S:Nat→Bool) (he:∀ id,H k2 id=none) (h1:∀ id ob,S id=true→H k1 id=some ob→ObjIn S ob) (h2:∀ id ob,S id=false→H k1 id=some ob→ObjIn (fun i=>!S i) ob) :
 Mv Λ w0 (fun i=>i=k1∨i=k2) w ψ H w (up (up ψ k1 (restrict S (ψ k1))) k2 (restrict (fun i=>!S i) (ψ k1))) (up (up H k1 (only S (H k1))) k2 (only (fun i=>!S i) (H k1))):=by
 refine ⟨⟨p.parts.split hk S he h1 h2,fun i y hi=>?_,p.rn⟩,fun i hi=>?_,fun i x v hi hx h=>?_⟩
 · exact fun hb=>pQ (ψ:=ψ) (S:=S) (fun i' h'=>p.new i' y h' hb) i hi
 · rw [aO (f:=up ψ k1 _) fun e=>hi (.inr e),aO (f:=ψ) fun e=>hi (.inl e),aO (f:=up H k1 _) fun e=>hi (.inr e),aO (f:=H) fun e=>hi (.inl e)]
   exact ⟨rfl,rfl⟩
 · exact q9 (by rw [aO (f:=up ψ k1 _) fun e=>hi (.inr e),aO (f:=ψ) fun e=>hi (.inl e)]) (fun y=>pQ) hx h
theorem PS.single {φ:aD} {h:aX} (k:K) (hs:HSim w φ Λ h) (hl:∀ id ob,h id=some ob→ob.lev 0=true) (hn:∀ y,bp φ y→¬ w0.B y) (r:Rn w0 w):PS Λ w0 w (up (fun _ _=>none) k φ) (up (fun _=>emp) k h):=by
 have hL:Lt Λ (up (fun _ _=>none) k φ) k=Λ:=by
  funext l y
  refine propext ⟨fun h=>h.elim id fun ⟨_,i,h1,h2⟩=>?_,.inl⟩;rw [aO h1] at h2;exact (aI h2).elim
 refine ⟨⟨fun i=>?_,fun i id ob e=>?_⟩,fun i y hi=>?_,r⟩
 · by_cases e:i=k
   · subst e;rw [aB,aB,hL];exact hs
   · rw [aO e,aO e]
     refine ⟨(fun id ob h=>by cases h),fun _ _=>rfl,(fun id l b o h=>by cases h),(fun id id' l l' b o o' h=>by cases h),fun j b h=>?_⟩;rcases h with h|⟨_,i',_,h⟩
     · exact hs.lent j b h
     · by_cases e':i'=k
       · subst e';rw [aB] at h;obtain ⟨id,l,o,e1,e2⟩:=h;exact (hs.lt id l b o e1 e2).1
       · rw [aO e'] at h;exact (aI h).elim
 · by_cases e':i=k
   · subst e';rw [aB] at e;exact hl id ob e
   · rw [aO e'] at e;cases e
 · by_cases e':i=k
   · subst e';rw [aB] at hi;exact hn y hi
   · rw [aO e'] at hi;exact (aI hi).elim
theorem Mv.sim {T:K→Prop} {n:Nat} {s:AS} {a:Act} (m:Mv Λ w0 T w ψ H w' ψ' H') (hk:¬ T k) (hs:Sim n w (ψ k) (Lt Λ ψ k) s a) (he:H k=s.h) (hl:∀ i,(s.t i).lev 0=true):Sim n w' (ψ' k) (Lt Λ ψ' k) s a:=
 ⟨hs.defs,hs.size,fun i=>m.rep k _ _ hk (hl i) (hs.tmps i),by rw [← he,← (m.same k hk).2];exact m.ps.parts.sim k⟩
theorem dq:∀ {t:List (Nat×AV)},(t.all fun p=>p.2.lev 0)=true→∀ i,(jm t i).lev 0=true
 | [],_,i=>rfl
 | (k,x)::r,h,i=>by
  simp only [List.all_cons,Bool.and_eq_true] at h;simp only [jm];cases Nat.beq i k with
  | true=>exact h.1
  | false=>exact dq h.2 i
theorem ax:∀ {l:List (Nat×AObj)},(l.all fun p=>p.2.lev 0)=true→∀ id ob,ao l id=some ob→ob.lev 0=true
 | [],_,i,ob,e=>by cases e
 | (k,x)::r,h,i,ob,e=>by
  simp only [List.all_cons,Bool.and_eq_true] at h;simp only [ao] at e;cases hb:Nat.beq i k with
  | true=>rw [hb] at e;cases e;exact h.1
  | false=>rw [hb] at e;exact ax h.2 i ob e
theorem PS.call {P:Program} {f:FuncId} {args:List AV} {r:AV} {hl:List (Nat×AObj)} {vals:Array Value} (p:PS Λ w0 w ψ H) (k:K) (hc:AC P f args (H k) (bZ r hl)) (ha:eI w (ψ k) (Lt Λ ψ k) args vals) (hl0:(hl.all fun p=>p.2.lev 0)=true) {QQ:Ending→World→Prop}
 (next:∀ w' φ' v,Mv Λ w0 (·=k) w ψ H w' (up ψ k φ') (up H k (ao hl))→Goes w (ψ k) w' φ'→Rep w' (up ψ k φ' k) (Lt Λ (up ψ k φ') k) r v→QQ (.returned v) w'):Calls P f vals w QQ:=by
 refine hc.2 _ w (ψ k) vals (p.parts.sim k) ha QQ (fun r' h' w' φ' v hR hs g hr=>?_) (fun x h' w' φ' hR=>absurd hR.1 (by simp));obtain ⟨e1,e2⟩:=hR;cases e1;subst e2;exact next w' φ' v (p.step g hs (ax hl0)) g (by rw [aB,Lt.up];exact hr)
theorem PS.run {P:Program} {n:Nat} {c:Code} {Q:bB} {s:AS} {a:Act} (p:PS Λ w0 w ψ H) (k:K) (hw:AWp P n c Q s) (hs:Sim n w (ψ k) (Lt Λ ψ k) s a) (R:AExit→AS→Prop) (hR:∀ ae s',Q ae s'→∃ s2,Weak s' s2∧R ae s2∧∀ id ob,s2.h id=some ob→ob.lev 0=true) {QQ:Exit→Act→World→Prop}
 (next:∀ ae s' w' φ' a',R ae s'→Sim n w' (up ψ k φ' k) (Lt Λ (up ψ k φ') k) s' a'→Mv Λ w0 (·=k) w ψ H w' (up ψ k φ') (up H k s'.h)→QQ ae.conc a' w'):c.wp P QQ a w:=by
 refine hw _ w (ψ k) a hs QQ fun ae s' w' φ' a' q hs' g=>?_
 obtain ⟨s2,hW,r,hl⟩:=hR ae s' q;obtain ⟨φ2,hs2,g2⟩:=hW _ _ w' φ' a' hs';exact next ae s2 w' φ2 a' r (by rw [aB,Lt.up];exact hs2) (p.step (g.trans g2) hs2.hs hl)
theorem PS.ops {P:Program} {n:Nat} {ops:Array Oper} {l:List Nat} {Q:bB} {s:AS} {a:Act} (p:PS Λ w0 w ψ H) (k:K) (hw:AOps P n ops Q l s) (hs:Sim n w (ψ k) (Lt Λ ψ k) s a) (R:AExit→AS→Prop) (hR:∀ ae s',Q ae s'→∃ s2,Weak s' s2∧R ae s2∧∀ id ob,s2.h id=some ob→ob.lev 0=true) {QQ:Exit→Act→World→Prop}
 (next:∀ ae s' w' φ' a',R ae s'→Sim n w' (up ψ k φ' k) (Lt Λ (up ψ k φ') k) s' a'→Mv Λ w0 (·=k) w ψ H w' (up ψ k φ') (up H k s'.h)→QQ ae.conc a' w'):wpOps P ops QQ l a w:=by
 refine hw _ w (ψ k) a hs QQ fun ae s' w' φ' a' q hs' g=>?_
 obtain ⟨s2,hW,r,hl⟩:=hR ae s' q;obtain ⟨φ2,hs2,g2⟩:=hW _ _ w' φ' a' hs';exact next ae s2 w' φ2 a' r (by rw [aB,Lt.up];exact hs2) (p.step (g.trans g2) hs2.hs hl)
def GB (B:Nat→Prop):aW:=fun k y=>k=1∧¬ B y
theorem PS.base (p:PS Λ w0 w ψ H) {B:Nat→Prop} (hB0:∀ b,B b→w0.B b) {x:AV} {v:Value} (h:Rep w0.w (fun _=>none) (GB B) x v) (hx:x.lev 0=true) {φ':aD} {Λ':aW} (M:∀ b,B b→may φ' Λ' 0 b):Rep w φ' Λ' x v:=by
 have hB:∀ b,may (fun _=>none) (GB B) 0 b→B b:=fun b hm=>Classical.byContradiction fun n=>hm.2 1 Nat.one_pos ⟨rfl,n⟩
 exact h.mv (fun _ _ h=>by cases h) (fun b _ ho=>(aI ho).elim) (fun b _ hm=>p.rn.keep b (hB0 b (hB b hm))) (fun b _ hm=>M b (hB b hm)) hx
theorem PS.base0 (p:PS Λ w0 w ψ H) (k:K) {B:Nat→Prop} (hB0:∀ b,B b→w0.B b) (hΛ:∀ j b,0<j→B b→¬ Λ j b) {x:AV} {v:Value} (h:Rep w0.w (fun _=>none) (GB B) x v) (hx:x.lev 0=true):Rep w (ψ k) (Lt Λ ψ k) x v:=
 p.base hB0 h hx fun b hb=>ez.2 ⟨fun i ho=>p.new i b ho (hB0 b hb),fun j hj h=>hΛ j b hj hb h⟩
theorem PS.jstep (p:PS Λ w0 w ψ H) (keep:∀ b,b<w.heap.size→(∀ j,0<j→¬ Λ j b)→w'.heap[b]?=w.heap[b]?) (hsz:w.heap.size≤w'.heap.size) (b0:Base) (hb0:b0.w=w') (hB:∀ b,b0.B b→w0.B b):PS Λ b0 w' ψ H:=by
 have K1:∀ i b,b<w.heap.size→bp (ψ i) b→w'.heap[b]?=w.heap[b]?:=fun i b hb ⟨id,l,o,e1,e2⟩=>keep b hb fun j _ h=>((p.parts.sim i).lt id l b o e1 e2).2 j (.inl h)
 have K0:∀ i b,b<w.heap.size→may (ψ i) (Lt Λ ψ i) 0 b→w'.heap[b]?=w.heap[b]?:=fun i b hb hm=>keep b hb (ez.1 hm).2
 refine ⟨⟨fun i=>?_,p.parts.lev⟩,fun i y ho hb=>p.new i y ho (hB y hb),by subst hb0;exact Rn.refl b0⟩;have q:=p.parts.sim i;refine ⟨fun id ob e=>?_,q.dom,fun id l b o e1 e2=>⟨Nat.lt_of_lt_of_le (q.lt id l b o e1 e2).1 hsz,(q.lt id l b o e1 e2).2⟩,q.inj,fun j b h=>Nat.lt_of_lt_of_le (q.lent j b h) hsz⟩;obtain ⟨l,h1,h2⟩:=q.heap id ob e;exact ⟨l,h1,h2.mv (fun _ _ h=>h) (K1 i) (K0 i) (fun _ _ h=>h) h1 (p.parts.lev i id ob e)⟩
def Go1 (P:Program) (n:Nat) (ops:Array Oper) (pre:List Nat) (s s':AS):Prop:=
 ∀ Λ w φ a rest (QQ:Exit→Act→World→Prop),Sim n w φ Λ s a→(∀ w' φ' a',Sim n w' φ' Λ s' a'→Goes w φ w' φ'→wpOps P ops QQ rest a' w')→wpOps P ops QQ (pre++rest) a w
theorem Go1.nil {P:Program} {n:Nat} {ops:Array Oper} {s s':AS} (hw:Weak s s'):Go1 P n ops [] s s':=fun Λ w φ a rest QQ hs h=>by
 obtain ⟨φ1,hs1,g1⟩:=hw n Λ w φ a hs;exact h w φ1 a hs1 g1
theorem Go1.cons {P:Program} {n:Nat} {ops:Array Oper} {i:Nat} {o:Oper} {pre:List Nat} {s s1 s':AS} (ho:ops[i]?=some o) (hg:o.guard=none) (h:OpOk P n o s s1) (k:Go1 P n ops pre s1 s'):Go1 P n ops (i::pre) s s':=fun Λ w φ a rest QQ hs hn=>by
 simp only [List.cons_append,wpOps,ho,Region.wanted,hg,if_true];exact .inl (h Λ w φ a hs _ _ fun w' φ' a' hs' g=>k Λ w' φ' a' rest QQ hs' fun w2 φ2 a2 hs2 g2=>hn w2 φ2 a2 hs2 (g.trans g2))
theorem PS.pre {P:Program} {n:Nat} {ops:Array Oper} {pre rest:List Nat} {s s':AS} {a:Act} (p:PS Λ w0 w ψ H) (k:K) (hw:Go1 P n ops pre s s') (hs:Sim n w (ψ k) (Lt Λ ψ k) s a) (hl:∀ id ob,s'.h id=some ob→ob.lev 0=true) {QQ:Exit→Act→World→Prop}
 (next:∀ w' φ' a',Sim n w' (up ψ k φ' k) (Lt Λ (up ψ k φ') k) s' a'→Mv Λ w0 (·=k) w ψ H w' (up ψ k φ') (up H k s'.h)→wpOps P ops QQ rest a' w'):wpOps P ops QQ (pre++rest) a w:=
 hw _ w (ψ k) a rest QQ hs fun w' φ' a' hs' g=>next w' φ' a' (by rw [aB,Lt.up];exact hs') (p.step g hs'.hs hl)
end
theorem pX {P:Program} {t k e:TypeId} {a:Option Nat} (ht:P.underlying t=some (.map k e)) (w:World):(Op.equal t (.map a) (.map none)).run P w=.ok a.isNone w:=by
 have h:∀ q,(Op.equalIn (q+1) t (.map a) (.map none)).run P w=.ok a.isNone w:=fun q=>by cases a<;>simp [Op.equalIn,run_underlying ht]
 exact h 9999
def rU:AV→Option Bool
 | .mp ..=>some false
 | .v (.map a)=>some a.isNone
 | _=>none
theorem zx {w:World} {φ:aD} {Λ:aW} {x:AV} {v:Value} {b:Bool} (h:Rep w φ Λ x v) (hb:rU x=some b):∃ a,v=.map a∧a.isNone=b:=by
 cases h with
 | v=>
  cases v<;>simp [rU] at hb
  exact ⟨_,rfl,hb⟩
 | mp=>exact ⟨_,rfl,by simpa [rU] using hb⟩
 | mpx=>exact ⟨_,rfl,by simpa [rU] using hb⟩
 | _=>simp [rU] at hb
section
variable {n:Nat} {s:AS} {o:Oper} {d:Option Tmp} {Q:bB}
theorem qh {op:BinOp} {t u k e:TypeId} {x y:Operand} {a:AV} {b r:Bool} {ti:TI} (ho:o.op=.binOp op t x y u:=by exact rfl) (hx:s.ev x=a:=by conv=>lhs;whnf) (ha:rU a=some b:=by exact rfl) (hy:s.ev y=.v (.map none):=by exact rfl)
 (ht:te.get t=some ti:=by exact rfl) (hk:ti.k=.map k e:=by exact rfl) (hop:(op=.eql∧r=b)∨(op=.neq∧r=!b):=by first|exact .inl ⟨rfl,rfl⟩|exact .inr ⟨rfl,rfl⟩)
 (hdd:o.dst=d:=by conv=>lhs;whnf) (hd:d.all (Nat.blt · n)=true:=by exact rfl):OpOk Tryz.prog n o s (s.put d (tf r)):=
 .val hdd hd fun Λ w φ ac hs=>by
  have hr:=hs.ev x;rw [hx] at hr;obtain ⟨ad,e1,e2⟩:=zx hr ha;have e3:=pX (a:=ad) ((te_ok.tells ht).map hk) w;refine ⟨.bool r,?_,.v⟩;rcases hop with ⟨rfl,rfl⟩|⟨rfl,rfl⟩<;>simp [execOp,ho,e1,cc hs hy,eqGuard,binOp,e3,e2]
end
section rules
variable {n:Nat} {s:AS} {o:Oper} {d:Option Tmp} {Q:bB} {κ β:Type} [DecidableEq κ]
theorem jY {t kt et:TypeId} {x y z:Operand} {id:Nat} (K:MKey κ) {f:β→AV} {m:List (κ×β)} {k:κ} (v:β) {ti:TI} (ho:o.op=.insert t x y z:=by exact rfl) (hx:s.ev x=.mp id 0:=by exact rfl) (hy:s.ev y=.v (K.kv k):=by exact rfl)
 (hob:s.h id=some (.map (me K f m)):=by exact rfl) (hz:s.ev z=f v:=by exact rfl) (ht:te.get t=some ti:=by exact rfl) (hk:ti.k=.map kt et:=by exact rfl) (hkd:Tryz.prog.underlying kt=some K.d:=by exact rfl)
 (hdd:o.dst=d:=by conv=>lhs;whnf) (hd:d.all (Nat.blt · n)=true:=by exact rfl):OpOk Tryz.prog n o s ((s.seth id (some (.map (me K f (cp m k v))))).put d (.v undef)):=
 .chg hdd hd fun Λ w φ a hs=>by
  obtain ⟨l,b,ents,clock,h1,h2,h3,h4,h5⟩:=qx hs.hs hob;have hxv:=hs.ev x;rw [hx] at hxv;have e1:=q8 hxv h1 h3 h2;have e2:=cc hs hy;have e3:=hs.ev z;rw [hz] at e3;have hu:=(te_ok.tells ht).map hk;have hck:=MapKept.run_checkKey (w:=w) hkd (K.isKey k) false 9999;rcases ux m k with ⟨g1,g2,g3,_⟩|⟨j,p,g1,g2,g3,g4,g5,_⟩
  · have hf:=MapKept.run_findKey (w:=w) hkd (h5.none g2)
    have hc:=Chg.map hs.hs h1 h2 h4 (.map (ents.push { key:=K.kv k,val:=a.eval z,born:=clock }) (clock+1));refine ⟨.skip,_,l,?_,hc,⟨b,_,_,h2,h3,(MapKept.heap_set h4).1,?_,fun q r hq=>?_⟩,undef,.inr ⟨rfl,rfl⟩,.v⟩
    · simp [execOp,ho,e1,e2,Instr.mapUpdate,run_underlying hu,MapKept.run_getObj_map h4,hck,hf,Result.andThen,MapKept.run_setObj_map _ h4]
    · rw [g3];simp [me,h5.size]
    · rw [g3,me,List.getElem?_map,Option.map_eq_some_iff] at hq
      obtain ⟨p,hp,rfl⟩:=hq;by_cases hlt:q<m.length
      · rw [List.getElem?_append_left hlt] at hp
        obtain ⟨e,q1,q2,q3⟩:=h5.at' q p hp;exact ⟨e,by rw [Array.getElem?_push,if_neg (by rw [h5.size];omega)];exact q1,q2,hc.rep q3⟩
      · rw [List.getElem?_append_right (by omega)] at hp
        have hq0:q-m.length=0:=by
         have:=(List.getElem?_eq_some_iff.1 hp).1;simp at this;omega
        rw [hq0] at hp;simp at hp;subst hp;exact ⟨{ key:=K.kv k,val:=a.eval z,born:=clock },by rw [Array.getElem?_push,if_pos (by rw [h5.size];omega)],rfl,hc.rep e3⟩
  · obtain ⟨e,q1,q2,q3,q4⟩:=h5.some g1 g2 g3
    have hf:=MapKept.run_findKey (w:=w) hkd q4;have hc:=Chg.map hs.hs h1 h2 h4 (.map (ents.modify j fun e=>{ e with key:=K.kv k,val:=a.eval z }) clock);refine ⟨.skip,_,l,?_,hc,⟨b,_,_,h2,h3,(MapKept.heap_set h4).1,?_,fun q r hq=>?_⟩,undef,.inr ⟨rfl,rfl⟩,.v⟩
    · simp [execOp,ho,e1,e2,Instr.mapUpdate,run_underlying hu,MapKept.run_getObj_map h4,hck,hf,Result.andThen,MapKept.run_setObj_map _ h4,q1,q2,Instr.keyThatStays,K.same]
    · rw [g5];simp [me,h5.size]
    · rw [g5,me,List.getElem?_map,Option.map_eq_some_iff] at hq
      obtain ⟨p',hp,rfl⟩:=hq;rw [List.getElem?_set] at hp;by_cases hjq:j=q
      · subst hjq
        have hlt:=(List.getElem?_eq_some_iff.1 g1).1;simp [hlt] at hp;subst hp;exact ⟨{ e with key:=K.kv k,val:=a.eval z },by rw [Array.getElem?_modify,if_pos rfl,q1];rfl,rfl,hc.rep e3⟩
      · rw [if_neg hjq] at hp
        obtain ⟨e',r1,r2,r3⟩:=h5.at' q p' hp;exact ⟨e',by rw [Array.getElem?_modify,if_neg hjq];exact r1,r2,hc.rep r3⟩
end rules
section jumpsR
variable {P:Program} {n:Nat} {Q:bB} {s:AS}
def AExit.jumpB (l:Nat) (J:AS→Prop) (Q:bB):bB
 | .goto l',s'=>l'=l∧J s'
 | e,s'=>Q e s'
theorem AWp.jumpsR {α:Type} {c rest:Code} (l:Nat) (K:List Nat) (T:α→List (Nat×AV)) (H:α→List (Nat×AObj)) (I:α→Prop) (μ:α→Nat) (hf:findLabel c l=some (.seq .skip rest))
 (first:(∀ s',(∃ x,I x∧Back s s' K (T x) (H x))→AWp P n (.seq (.label l) rest) (AExit.jumpTo l (fun x=>s.over K (T x) (H x)) I Q) s')→AWp P n c (AExit.jumpTo l (fun x=>s.over K (T x) (H x)) I Q) s)
 (pass:∀ x,I x→AWp P n rest (AExit.jumpB l (fun s'=>∃ x',I x'∧Back s s' K (T x') (H x')∧μ x'<μ x) Q) (s.over K (T x) (H x))):AWp P n (.scope c) Q s:=
 .dom fun hd=>AWp.jumps l (fun x=>s.over K (T x) (H x)) I μ hf (fun hj=>first fun s' ⟨x,a,b⟩=>hj s' ⟨x,a,b.weak hd⟩) fun x hx=>(pass x hx).mono fun e s' q=>by
  cases e with
  | goto l'=>obtain ⟨h1,x',h2,h3,h4⟩:=q;exact ⟨h1,x',h2,h3.weak hd,h4⟩
  | normal=>exact q
  | exit id=>exact q
  | ret=>exact q
  | panic v=>exact q
end jumpsR
section bad
theorem AC.bad {f:FuncId} {A:List AV} {h:aX} {po:Option Value} {r:AV} {hl:List (Nat×AObj)} {hp:Int→List (Nat×AObj)} {x:Value} (hx:po=some x) (hc:AC Tryz.prog f A h (oA po r hl hp)):AC Tryz.prog f A h (oA po (.fz 0 1 []) (hp 0) hp):=by
 subst hx;exact hc.mono fun e h' k=>k
theorem AWp.bot {P:Program} {n d:Nat} {c:Code} {Q:bB} {s:AS} (h:s.t d=.fz 0 1 []):AWp P n c Q s:=by
 intro Λ w φ a hs;have e:=hs.ev (.tmp d);have e2:s.ev (.tmp d)=.fz 0 1 []:=h;rw [e2] at e;generalize a.eval (.tmp d)=v at e;exfalso;cases e with
 | fz vf h1 h2 h3 h4 h5 h6=>exact absurd h6 (by simp)
theorem OpAtX.bot {P:Program} {n d i:Nat} {ops:Array Oper} {QP:Value→AS→Prop} {s s':AS} (h:s.t d=.fz 0 1 []):OpAtX P n ops QP i s s':=by
 intro Λ w φ a hs;have e:=hs.ev (.tmp d);have e2:s.ev (.tmp d)=.fz 0 1 []:=h;rw [e2] at e;generalize a.eval (.tmp d)=v at e;exfalso;cases e with
 | fz vf h1 h2 h3 h4 h5 h6=>exact absurd h6 (by simp)
end bad
section rules
variable {n:Nat} {s:AS} {d:Option Tmp} {Q:bB}
end rules
section
variable {P:Program}
theorem xo {te:TE} (hte:TEok P te) {fn:Func} {R:AEnd→aX→Prop} {n:Nat} {s':AS} {w':World} {φ':aD} {Λ:aW} {a':Act} (hf:Fin te fn R s') (hs':Sim n w' φ' Λ s' a') :
 ∃ v r h' φ2,(results fn a'.tmps).run P w'=.ok v w'∧R (.ret r) h'∧HSim w' φ2 Λ h'∧Goes w' φ' w' φ2∧Rep w' φ2 Λ r v:=by
 obtain ⟨xs,r,h',h1,h2,h3⟩:=hf;obtain ⟨vs,v1,v2,v3⟩:=fj hte hs' h1;have hrun:(results fn a'.tmps).run P w'=.ok (if h:vs.toArray.size=1 then vs.toArray[0] else .tuple vs.toArray) w':=by
  rw [ml,← Array.toArray_toList (xs:=fn.results),List.mapM_toArray];simp only [Sem.run_bind,Sem.run_map,v1,Result.andThen_ok,Sem.run_pure]
 have hrep:Rep w' φ' Λ (bX xs) (if h:vs.toArray.size=1 then vs.toArray[0] else .tuple vs.toArray):=by
  by_cases hx:∃ x,xs=[x]
  · obtain ⟨x,rfl⟩:=hx
    have hvl:vs.length=1:=by simpa using v2
    obtain ⟨v,hv1,hv2⟩:=v3 0 x rfl;rw [dif_pos (by simpa using hvl)];simp only [bX];have:vs.toArray[0]'(by simp;omega)=v:=by
     have:=(List.getElem?_eq_some_iff.1 hv1).2
     simpa using this
    rw [this];exact hv2
  · have hne:vs.length≠1:=by
     intro h1;rw [v2] at h1;obtain ⟨x,hx2⟩:=List.length_eq_one_iff.1 h1;exact hx ⟨x,hx2⟩
    rw [dif_neg (by simpa using hne)];have:bX xs=.tup xs:=by
     unfold bX;split
     · exact absurd ⟨_,rfl⟩ hx
     · rfl
    rw [this];refine .tup (fun j=>vs.getD j undef) (by simp [v2]) (fun j hj=>?_) (fun j c hj=>?_)
    · rw [List.getElem?_toArray,List.getElem?_eq_getElem (by omega),List.getD_eq_getElem?_getD,List.getElem?_eq_getElem (by omega)]
      rfl
    · obtain ⟨v,k1,k2⟩:=v3 j c hj
      rw [List.getD_eq_getElem?_getD,k1];exact k2
 obtain ⟨φ2,k1,k2,k3⟩:=h2 w' φ' Λ _ hs'.hs hrep;exact ⟨_,r,h',φ2,hrun,h3,k1,k3,k2⟩
theorem xV {n:Nat} {w:World} {φ:aD} {Λ:aW} {args:List AV} {vals:Array Value} {h:aX} (hs:HSim w φ Λ h) (ha:eI w φ Λ args vals) (hn:args.length≤n) :
 Sim n w φ Λ ⟨fun i=>args.getD i (.v undef),h⟩ { tmps:=vals++Array.replicate (n-vals.size) undef,defers:=[] }:=by
 refine ⟨rfl,by simp [ha.1];omega,fun i=>?_,hs⟩;simp only [Array.getD_eq_getD_getElem?,List.getD_eq_getElem?_getD];by_cases hi:i<args.length
 · obtain ⟨v,h1,h2⟩:=ha.2 i args[i] (List.getElem?_eq_getElem hi)
   rw [Array.getElem?_append_left (by rw [ha.1];exact hi),h1,List.getElem?_eq_getElem hi];exact h2
 · rw [List.getElem?_eq_none (by omega),Array.getElem?_append_right (by rw [ha.1];omega)]
   have:((Array.replicate (n-vals.size) undef)[i-vals.size]?).getD undef=undef:=by
    rw [Array.getElem?_replicate];split<;>rfl
   rw [this];exact .v
theorem lj (a:Act) (d:Option Tmp) (v:Value) (ds:List Deferred):({ a with defers:=a.defers++ds }:Act).put d v={ a.put d v with defers:=(a.put d v).defers++ds }:=by
 cases d<;>rfl
theorem wm {o:Oper} {a:Act} {next:Act→World→Prop} {Q:Exit→Act→World→Prop} (ds:List Deferred) (r:Result Next)
 (h:o.upon P a (fun a' w'=>next { a' with defers:=a'.defers++ds } w') (fun e a' w'=>Q e { a' with defers:=a'.defers++ds } w') r) :
 o.upon P { a with defers:=a.defers++ds } next Q r:=by
 unfold Oper.upon at h ⊢;split
 · simp only at h;rw [lj];exact h
 · simp only at h;rw [lj];exact h
 · rename_i d w'
   simp only at h;have:=lj { a with defers:=d::a.defers } o.dst undef ds;simp only [List.cons_append] at this;rw [this];exact h
 · simp only at h
   refine h.mono fun e w'' q=>?_
   cases e with
   | returned v=>simp only at q ⊢;rw [lj];exact q
   | panicked c=>exact q
   | outgrown=>obtain ⟨a0,w0,q0⟩:=q;exact ⟨_,w0,q0⟩
 · simp only at h
   refine h.mono fun v w'' q=>?_
   rw [lj];exact q
 · exact h
 · simp_all
theorem Oper.upon_next {o:Oper} {a:Act} {n1 n2:Act→World→Prop} {Q:Exit→Act→World→Prop} (hn:∀ a w,n1 a w→n2 a w) {r:Result Next} (h:o.upon P a n1 Q r):o.upon P a n2 Q r:=by
 unfold Oper.upon at h ⊢;split
 · exact hn _ _ h
 · exact hn _ _ h
 · exact hn _ _ h
 · simp only at h
   refine h.mono fun e w'' q=>?_
   cases e with
   | returned v=>exact hn _ _ q
   | panicked c=>exact q
   | outgrown=>exact q
 · simp only at h
   exact h.mono fun v w'' q=>hn _ _ q
 · exact h
 · simp_all
theorem lr {ops:Array Oper} {Q:Exit→Act→World→Prop} (ds:List Deferred):∀ (l:List Nat) (a:Act) (w:World),
 wpOps P ops (fun e a' w'=>Q e { a' with defers:=a'.defers++ds } w') l a w→wpOps P ops Q l { a with defers:=a.defers++ds } w
 | [],a,w,h=>h
 | i::rest,a,w,h=>by
  simp only [wpOps] at h ⊢;cases ho:ops[i]? with
  | none=>simp only [ho] at h ⊢;exact lr ds rest a w h
  | some o=>
   simp only [ho] at h ⊢;split
   · rename_i hw
     rw [if_pos hw] at h;rcases h with h|h
     · left
       refine wm ds _ ?_;have hn:∀ a' w',wpOps P ops (fun e a' w'=>Q e { a' with defers:=a'.defers++ds } w') rest a' w'→wpOps P ops Q rest { a' with defers:=a'.defers++ds } w':=fun a' w'=>lr ds rest a' w'
       exact Oper.upon_next hn h
     · right
       obtain ⟨h1,a0,w0,q0⟩:=h;exact ⟨h1,_,w0,q0⟩
   · rename_i hw
     rw [if_neg hw] at h;rw [lj];exact lr ds rest _ w h
theorem gk {I:Act→Prop} {ops:Array Oper} {Q:Exit→Act→World→Prop} (hI:∀ (i:Nat) (o:Oper),ops[i]?=some o→∀ a v,I a→I (a.put o.dst v)) (hD:∀ (a:Act) ds,I a→I { a with defers:=ds }):∀ (l:List Nat) (a:Act) (w:World),I a→
 wpOps P ops (fun e a' w'=>(e≠.outgrown→I a')→Q e a' w') l a w→wpOps P ops Q l a w
 | [],a,w,ha,h=>h fun _=>ha
 | i::rest,a,w,ha,h=>by
  simp only [wpOps] at h ⊢;cases ho:ops[i]? with
  | none=>simp only [ho] at h ⊢;exact gk hI hD rest a w ha h
  | some o=>
   simp only [ho] at h ⊢;have hp:=hI i o ho;split
   · rename_i hw
     rw [if_pos hw] at h;rcases h with h|h
     · left
       unfold Oper.wp at h ⊢;generalize (execOp a.eval o).run P w=r at h;unfold Oper.upon at h ⊢;split
       · exact gk hI hD rest _ _ (hp a _ ha) h
       · exact gk hI hD rest _ _ (hp a _ ha) h
       · exact gk hI hD rest _ _ (hp _ _ (hD a _ ha)) h
       · simp only at h
         refine h.mono fun e w'' q=>?_
         cases e with
         | returned v=>exact gk hI hD rest _ _ (hp a _ ha) q
         | panicked c=>exact q fun _=>ha
         | outgrown=>obtain ⟨a0,w0,q0⟩:=q;exact ⟨a0,w0,q0 fun k=>absurd rfl k⟩
       · simp only at h
         exact h.mono fun v w'' q=>gk hI hD rest _ _ (hp a _ ha) q
       · exact h fun _=>ha
       · simp_all
     · right
       obtain ⟨h1,a0,w0,q0⟩:=h;exact ⟨h1,a0,w0,q0 fun k=>absurd rfl k⟩
   · rename_i hw
     rw [if_neg hw] at h;exact gk hI hD rest _ _ (hp a _ ha) h
theorem CB (ae:AExit):ae.conc≠.outgrown:=by cases ae<;>simp [AExit.conc]
theorem AOps.framed {I:Act→Prop} {n:Nat} {ops:Array Oper} {Q:bB} {l:List Nat} {s:AS} (hI:∀ (i:Nat) (o:Oper),ops[i]?=some o→∀ a v,I a→I (a.put o.dst v)) (hD:∀ (a:Act) ds,I a→I { a with defers:=ds }) (h:AOps P n ops Q l s)
 {Λ:aW} {w:World} {φ:aD} {a:Act} (ds:List Deferred) (hs:Sim n w φ Λ s a) (ha:I a) {QQ:Exit→Act→World→Prop}
 (hQ:∀ ae s' w' φ' a',Q ae s'→Sim n w' φ' Λ s' a'→Goes w φ w' φ'→I a'→QQ ae.conc { a' with defers:=ds } w'):wpOps P ops QQ l { a with defers:=ds } w:=by
 have e0:({ a with defers:=ds }:Act)={ a with defers:=a.defers++ds }:=by rw [hs.defs];rfl
 rw [e0];refine lr ds l a w (gk hI hD l a w ha ?_);refine h Λ w φ a hs _ fun ae s' w' φ' a' q hs' g hi=>?_
 have e1:({ a' with defers:=a'.defers++ds }:Act)={ a' with defers:=ds }:=by rw [hs'.defs];rfl
 rw [e1];exact hQ ae s' w' φ' a' q hs' g (hi (CB ae))
def hY:Code→Array Oper
 | .region _ o _=>o
 | _=>#[]
def nb:Code→Code
 | .seq x _=>x
 | c=>c
def ew:Code→Code
 | .seq _ y=>y
 | c=>c
theorem pN {ops:Array Oper} {Q:Exit→Act→World→Prop} {i:Nat} {rest:List Nat} {o:Oper} {a:Act} {w:World} (ho:ops[i]?=some o) (hg:o.guard=none) (h:o.wp P a w (wpOps P ops Q rest) Q):wpOps P ops Q (i::rest) a w:=by
 simp only [wpOps,ho,Region.wanted,hg,if_true];exact .inl h
end
def zW {α:Type}:List α→Nat→Option α
 | [],_=>none
 | a::_,0=>some a
 | _::l,n+1=>zW l n
theorem wX {α:Type}:∀ (l:List α) (i:Nat),zW l i=l[i]?
 | [],i=>by cases i<;>rfl
 | a::l,0=>rfl
 | a::l,n+1=>by rw [zW,wX l n];rfl
theorem C1 {α:Type} {a:Array α} {i:Nat} {x:α} (h:zW a.toList i=some x):a[i]?=some x:=by rw [wX] at h;rw [← Array.getElem?_toList];exact h
theorem cns2 {P:Program} {n:Nat} {ops:Array Oper} {Q:bB} {s s':AS} {i:Nat} {rest:List Nat} {o:Oper} (ho:zW ops.toList i=some o) (hg:o.guard=none) (h:OpOk P n o s s') (hr:AOps P n ops Q rest s'):AOps P n ops Q (i::rest) s:=AOps.cons (C1 ho) hg h hr
theorem ab {A B:Prop} (h:B) (e:B→A:=by first|exact fun h=>cns2 rfl rfl (by first|exact aA|exact gh|exact bb|exact sH|exact fJ|exact lW|exact cI|exact bM|exact cW|exact mR|exact jE|exact vQ|exact wT|exact gY|exact BP|exact lh|exact oG|exact wS|exact zE|exact lf|exact lg) h|exact fun h=>AOps.nil h|exact fun h=>AWp.seq h|exact fun h=>AWp.region h|exact fun h=>AOps.gskip rfl rfl rfl rfl rfl rfl rfl rfl h|exact fun h=>AOps.gcons rfl rfl rfl rfl rfl (by first|exact aA|exact gh|exact bb|exact sH|exact fJ|exact lW|exact cI|exact bM|exact cW|exact mR|exact jE|exact vQ|exact wT|exact gY|exact BP|exact lh|exact oG|exact wS|exact zE|exact lf|exact lg) h|exact fun h=>AWp.cond_t rfl h|exact fun h=>AWp.cond_f rfl h|exact fun h=>AWp.skip h|exact fun h=>AWp.block h|exact fun h=>AWp.ret (show Fin te _ _ _ from h)|exact fun h=>AWp.ret h|exact fun h=>AWp.exit h):A:=e h
theorem am {A B C:Prop} {p:Prop} (ht:p→B) (hf:¬ p→C) (e:(p→B)→(¬ p→C)→A:=by first|exact fun h k=>AOps.dec rfl rfl (by first|exact e8|exact dm|exact gV|exact gW|exact gX|exact zA|exact qf|exact iN) h k|exact fun h k=>AOps.gdec rfl rfl rfl rfl rfl (by first|exact e8|exact dm|exact gV|exact gW|exact gX|exact zA|exact qf|exact iN) h k):A:=e ht hf
abbrev ai:=@AOps.cons
abbrev cw:=@AOps.gcons
theorem aE {m n:Nat} (h:Nat.ble m n=true):m≤n:=Nat.le_of_ble_eq_true h
abbrev ag {i:Nat} {rt rh:List Nat} {d:Option Tmp} {x:AV}:DS:=⟨i,rt,rh,d,x,[]⟩
abbrev bv {i:Nat} {rt rh:List Nat} {d:Option Tmp} {x:AV} (w:List (Nat×AObj)):DS:=⟨i,rt,rh,d,x,w⟩
def kopt:Nat→Option Tmp
 | 0=>none
 | n+1=>some n
def af (rt rh:List Nat) (d:Nat) (w:List Nat:=[]):Nat→DS:=fun i=>⟨i,rt,rh,kopt d,.any,w.map fun j=>(j,.box [])⟩
def Ce:Nat→List (Nat→DS)→List DS
 | _,[]=>[]
 | i,f::r=>f i::Ce (i+1) r
theorem bj {n id:Nat} {ops:Array Oper} {Q:bB} {s s2:AS} (es:List DS) (l:List (Nat→DS)) (hk:es.map DS.strip=Ce 0 l) (hg:Good Tryz.prog n ops es s) (hQ:Q .normal s2) (he:cS es s=s2:=by dsimp only [cS,DS.upd,AS.seto,ag,bv]) (hok:ep ops (Ce 0 l)=true:=by kernel_rfl):AWp Tryz.prog n (.region id ops true) Q s:=
 AWp.draws es (Ce 0 l) cE hk hok hg (he▸hQ)
theorem ah {n:Nat} {ops:Array Oper} {e:DS} {s:AS} (h:∀ s0,OpAt Tryz.prog n ops e.i (over s e.rt e.rh s0) (e.upd (over s e.rt e.rh s0)):=by first|exact fun s0=>OpAt.go rfl rfl (by first|exact aA|exact bb|exact fJ|exact cW|exact gh|exact vQ|exact cI|exact sH|exact lW|exact gY|exact BP|exact lh|exact bM|exact wS|exact jE|exact oG|exact wT|exact lf|exact lg|exact mR)|exact fun s0=>OpAt.gskip rfl rfl rfl rfl rfl rfl rfl rfl|exact fun s0=>OpAt.ggo rfl rfl rfl rfl rfl (by first|exact aA|exact bb|exact fJ|exact cW|exact gh|exact vQ|exact cI|exact sH|exact lW|exact gY|exact BP|exact lh|exact bM|exact wS|exact jE|exact oG|exact wT|exact lf|exact lg|exact mR)):e.Ok Tryz.prog n ops s:=DS.ok_over h
abbrev aC:=@DS.ok_over
abbrev aN:=@OpAt.go
abbrev dV:=@OpAt.ggo
theorem bE {p:Prop} (h:p:=by first|assumption|omega|decide|(simp;omega)|(simp [*];done)):p:=h
section
variable {s:AS}
theorem rHa (lv:Nat) (rn:List Nat) (xs ys:List AV) (hl:List (Nat×AObj)) {fn:Func} {r:AV} (h3:bX ys=r) (h1:iK te s fn.results.toList xs:=by repeat' (first|exact trivial|exact mM|exact kZ|refine ⟨?_,?_⟩))
 (hobj:BObjs (inl rn) (idm hl) s.h lv lv (idm hl) hl:=by repeat' (first|exact trivial|exact aK rfl|exact bd rfl rfl|exact iv rfl rfl .row rfl|exact aV rfl rfl|exact bw rfl rfl|exact cJ|exact Af|exact cT rfl rfl .row (fun _=>rfl) (Nat.le_of_ble_eq_true rfl) (fun _=>rfl)|exact aF (fun _=>rfl)|exact lobj_rown (fun _=>rfl)|exact dF (fun _=>rfl)|refine ar ?_|refine ⟨rfl,⟨_,rfl,?_⟩,?_⟩|refine ⟨?_,?_⟩))
 (h2:LVals (inl rn) (idm hl) s.h lv lv xs ys:=by repeat' (first|exact trivial|exact aK rfl|exact aV rfl rfl|exact bd rfl rfl|exact cJ|exact cT rfl rfl .row (fun _=>rfl) (Nat.le_of_ble_eq_true rfl) (fun _=>rfl)|refine EK ?_|exact Af|refine ⟨?_,?_⟩))
 (hrn:(rn.all fun c=>Nat.ble 8 c)=true:=by exact rfl) (hp:dY s.h (dS hl)=true:=by exact rfl):Fin te fn (bZ r hl) s:=Fin.retH lv rn hl h1 hobj h2 h3 hrn hp
end
section
attribute [local irreducible] AWp AOps
def gN (n:List UInt8):Option (List (List UInt8)):=
 match n with
 | []=>none
 | k::r=>if k=0 then (if r=[] then some [] else none) else if 63<k.toNat∨r.length<k.toNat then none else (gN (r.drop k.toNat)).map (r.take k.toNat::·)
termination_by n.length
decreasing_by simp;omega
def aw (ls:List (List UInt8)):List UInt8:=ls.flatMap (fun l=>ct (l.length:Int)::l)++[0]
def GoodN (ls:List (List UInt8)):Prop:=∀ l∈ls,1≤l.length∧l.length≤63
theorem fb:aw []=[0]:=rfl
theorem b7 (l:List UInt8) (ls:List (List UInt8)):aw (l::ls)=ct (l.length:Int)::(l++aw ls):=by simp [aw,List.append_assoc]
theorem Be {k:Nat} (h:k<256):(ct (k:Int)).toNat=k:=by
 have:=bV (k:Int);omega
theorem gn {l:List UInt8} (h:l.length≤63):(ct (l.length:Int)).toNat=l.length:=Be (by omega)
theorem CM {l:List UInt8} (h:1≤l.length∧l.length≤63):ct (l.length:Int)≠0:=fun e=>by
 have:=gn h.2;rw [e] at this;simp at this;omega
theorem GoodN.tail {l:List UInt8} {ls:List (List UInt8)} (h:GoodN (l::ls)):GoodN ls:=fun x hx=>h x (by simp [hx])
theorem GoodN.head {l:List UInt8} {ls:List (List UInt8)} (h:GoodN (l::ls)):1≤l.length∧l.length≤63:=h l (by simp)
theorem GoodN.nil:GoodN []:=fun x hx=>by cases hx
theorem iV:∀ {ls:List (List UInt8)},GoodN ls→gN (aw ls)=some ls
 | [],_=>by rw [fb,gN];rfl
 | l::ls,h=>by
  have h1:=gn h.head.2;rw [b7,gN,if_neg (CM h.head),h1,if_neg (by simp;have:=h.head;omega),List.drop_left,List.take_left,iV h.tail];rfl
theorem ym:∀ {n:List UInt8} {ls:List (List UInt8)},gN n=some ls→n=aw ls∧GoodN ls:=by
 intro n;induction h:n.length using Nat.strongRecOn generalizing n with
 | ind m ih=>
  intro ls hl
  match n,h,hl with
  | [],_,hl=>rw [gN] at hl;cases hl
  | k::r,h,hl=>
   rw [gN] at hl;by_cases hk:k=0
   · rw [if_pos hk] at hl
     by_cases hr:r=[]
     · rw [if_pos hr] at hl
       cases hl;exact ⟨by rw [hk,hr];rfl,GoodN.nil⟩
     · rw [if_neg hr] at hl;cases hl
   · rw [if_neg hk] at hl
     have hkp:0<k.toNat:=by
      rcases Nat.eq_zero_or_pos k.toNat with e|e
      · exact absurd (UInt8.toNat_inj.1 (by simpa using e)) hk
      · exact e
     split at hl
     · cases hl
     · rename_i hc
       obtain ⟨q,hq,rfl⟩:=Option.map_eq_some_iff.1 hl;obtain ⟨e,g⟩:=ih (r.drop k.toNat).length (by rw [← h];simp;omega) rfl hq;have hlen:(r.take k.toNat).length=k.toNat:=by rw [List.length_take];omega
       refine ⟨?_,fun x hx=>?_⟩
       · rw [b7,← e,List.take_append_drop,hlen,mb]
       · rcases List.mem_cons.1 hx with rfl|hx
         · omega
         · exact g x hx
theorem yq {a b:List (List UInt8)} (ha:GoodN a) (hb:GoodN b) (h:aw a=aw b):a=b:=by
 have h1:=iV ha;have h2:=iV hb;rw [h,h2] at h1;exact (Option.some.inj h1).symm
def bm (n:List UInt8):Bool:=(gN n).isSome&&decide (n.length≤255)
def aP (n:List UInt8):List (List UInt8):=if bm n then (gN n).getD [] else []
theorem d9 {n:List UInt8}:bm n=true↔∃ ls,GoodN ls∧n=aw ls∧(aw ls).length≤255:=by
 simp only [bm,Bool.and_eq_true,decide_eq_true_eq];constructor
 · rintro ⟨h1,h2⟩
   obtain ⟨ls,hl⟩:=Option.isSome_iff_exists.1 h1;obtain ⟨rfl,g⟩:=ym hl;exact ⟨ls,g,rfl,h2⟩
 · rintro ⟨ls,g,rfl,h⟩
   exact ⟨by rw [iV g];rfl,h⟩
theorem dr {ls:List (List UInt8)} (g:GoodN ls) (h:(aw ls).length≤255):aP (aw ls)=ls:=by
 rw [aP,if_pos (d9.2 ⟨ls,g,rfl,h⟩),iV g];rfl
theorem mY {n:List UInt8} (h:bm n=false):aP n=[]:=by rw [aP,if_neg (by simp [h])]
theorem cK (ls:List (List UInt8)):ls.length<(aw ls).length:=by
 induction ls with
 | nil=>simp [aw]
 | cons l ls ih=>rw [b7];simp;omega
theorem i0 {l:List UInt8} {ls:List (List UInt8)}:(aw ls).length<(aw (l::ls)).length:=by rw [b7];simp;omega
theorem iW (n:List UInt8):(aP n).length≤254:=by
 cases h:bm n with
 | false=>simp [mY h]
 | true=>
  obtain ⟨ls,g,rfl,hl⟩:=d9.1 h;have:=cK ls;rw [dr g hl];omega
def cr (n:List UInt8):Bool:=decide (n.length=0∨(n.getD 0 0).toNat=0∨63<(n.getD 0 0).toNat∨n.length<2+(n.getD 0 0).toNat)
def oM (n:List UInt8):List UInt8:=if cr n then [] else (n.take (1+(n.getD 0 0).toNat)).drop 1
def eY (n:List UInt8):List UInt8:=if cr n then n else n.drop (1+(n.getD 0 0).toNat)
theorem nX {l:List UInt8} {ls:List (List UInt8)} (g:GoodN (l::ls)):cr (aw (l::ls))=false∧oM (aw (l::ls))=l∧eY (aw (l::ls))=aw ls:=by
 have h1:=gn g.head.2;have h0:(aw (l::ls)).getD 0 0=ct (l.length:Int):=by rw [b7];rfl
 have hl:=cK ls;have hb:cr (aw (l::ls))=false:=by
  have:=g.head;simp only [cr,h0,h1,decide_eq_false_iff_not];rw [b7,List.length_cons,List.length_append];omega
 refine ⟨hb,?_,?_⟩
 · rw [oM,hb,h0,h1,b7,Nat.add_comm,List.take_succ_cons,List.drop_succ_cons,List.drop_zero,List.take_left]
   rfl
 · rw [eY,hb,h0,h1,b7,Nat.add_comm,List.drop_succ_cons,List.drop_left]
   rfl
theorem yf:cr (aw [])=true:=by simp [cr,aw]
theorem iQ {n:List UInt8} (h:cr n=false):(eY n).length<n.length:=by
 have h1:=h;simp only [cr,decide_eq_false_iff_not] at h1;rw [eY,h];simp only [Bool.false_eq_true,if_false,List.length_drop];omega
def p9 (n:List UInt8):List UInt8:=if h:cr n=true then n else p9 (eY n)
termination_by n.length
decreasing_by exact iQ (by simpa using h)
theorem o8 {n:List UInt8} (h:cr n=true):p9 n=n:=by rw [p9,dif_pos h]
theorem s8 {n:List UInt8} (h:cr n=false):p9 n=p9 (eY n):=by rw [p9,dif_neg (by simp [h])]
theorem yl {n:List UInt8} (h:cr n=false):(gN n).isSome=(gN (eY n)).isSome:=by
 have h1:=h;simp only [cr,decide_eq_false_iff_not] at h1
 match n,h,h1 with
 | [],_,h1=>simp at h1
 | k::r,h,h1=>
  simp only [List.getD_cons_zero,List.length_cons] at h1;have hk:k≠0:=fun e=>by subst e;simp at h1
  rw [eY,h,gN,if_neg hk,if_neg (by omega)];simp only [Bool.false_eq_true,if_false,List.getD_cons_zero,Option.isSome_map];rw [Nat.add_comm,List.drop_succ_cons]
theorem yk {n:List UInt8} (h:cr n=true):(gN n).isSome=decide (n=[0]):=by
 simp only [cr,decide_eq_true_eq] at h
 match n,h with
 | [],_=>rw [gN];rfl
 | k::r,h=>
  simp only [List.getD_cons_zero,List.length_cons] at h;rw [gN];by_cases hk:k=0
  · subst hk
    rw [if_pos rfl];by_cases hr:r=[]
    · simp [hr]
    · simp [hr]
  · rw [if_neg hk]
    have hkp:0<k.toNat:=by
     rcases Nat.eq_zero_or_pos k.toNat with e|e
     · exact absurd (UInt8.toNat_inj.1 (by simpa using e)) hk
     · exact e
    rw [decide_eq_false (by simp [hk])];split
    · rfl
    · rename_i hc
      have:r.drop k.toNat=[]:=List.drop_eq_nil_of_le (by omega);rw [this,gN];rfl
theorem AA (n:List UInt8):decide (p9 n=[0])=(gN n).isSome:=by
 induction h:n.length using Nat.strongRecOn generalizing n with
 | ind m ih=>
  cases hb:cr n with
  | true=>rw [o8 hb,yk hb]
  | false=>rw [s8 hb,yl hb,ih (eY n).length (by rw [← h];exact iQ hb) _ rfl]
def i8 (c:UInt8):UInt8:=if 65≤c.toNat∧c.toNat≤90 then c ||| 32 else c
def eK (n:List UInt8):List UInt8:=if bm n then n.map i8 else []
theorem Ah:∀ c:UInt8,65≤c.toNat∧c.toNat≤90→c+32=c ||| 32:=by
 have h:∀ k:_root_.Fin 256,65≤k.val∧k.val≤90→UInt8.ofNat k.val+32=UInt8.ofNat k.val ||| 32:=by decide
 intro c hc;have:=h ⟨c.toNat,c.toNat_lt⟩ hc
 simpa using this
theorem wg {c:UInt8} (h:c.toNat≤64):i8 c=c:=if_neg (by omega)
def sX (ls:List (List UInt8)):List (List UInt8):=ls.map (·.map i8)
theorem uy {ls:List (List UInt8)} (g:GoodN ls):(aw ls).map i8=aw (sX ls):=by
 induction ls with
 | nil=>rfl
 | cons l ls ih=>
  have h1:i8 (ct (l.length:Int))=ct (l.length:Int):=wg (by rw [gn g.head.2];have:=g.head;omega);rw [b7,List.map_cons,List.map_append,ih g.tail,h1];simp [sX,b7]
theorem we {ls:List (List UInt8)} (g:GoodN ls):(aw (sX ls)).length=(aw ls).length:=by rw [← uy g,List.length_map]
theorem yj {ls:List (List UInt8)} (g:GoodN ls) (h:(aw ls).length≤255):eK (aw ls)=aw (sX ls):=by
 rw [eK,if_pos (d9.2 ⟨ls,g,rfl,h⟩),uy g]
theorem uY {ls:List (List UInt8)} (g:GoodN ls) (h:(aw ls).length≤255):bm (aw ls)=true:=d9.2 ⟨ls,g,rfl,h⟩
def bi (a b:List UInt8):Bool:=bm a&&bm b&&decide (eK a=eK b)
def dt (n:List UInt8):Int:=(aP n).length
def Es (n:List UInt8):List UInt8:=aw ((aP n).drop 1)
def qC (n:List UInt8):Bool:=decide (aP n≠[])
def sP (n:List UInt8):List UInt8:=if qC n then Es n else []
def mG (n:List UInt8) (k:Int):List UInt8:=if bm n then aw ((aP n).drop ((aP n).length-min (max k 0).toNat (aP n).length)) else []
def bQ (n z:List UInt8):Bool:=bm n&&bm z&&decide (dt z≤dt n)&&bi (mG n (dt z)) z
theorem ip {n:List UInt8} (h:cr n=true):oM n=[]∧eY n=n:=by simp [oM,eY,h]
theorem zZ {n:List UInt8} (h:cr n=false):oM n=(n.take (1+(n.getD 0 0).toNat)).drop 1∧eY n=n.drop (1+(n.getD 0 0).toNat):=by simp [oM,eY,h]
theorem xA (n:List UInt8):bm n=(decide (p9 n=[0])&&decide (n.length≤255)):=by rw [bm,AA]
theorem rY {m:List UInt8} (h:bm m=true) (hb:cr m=false):aP m=oM m::aP (eY m)∧bm (eY m)=true:=by
 obtain ⟨ls,g,rfl,hl⟩:=d9.1 h
 match ls,g,hl,hb with
 | [],_,_,hb=>rw [yf] at hb;cases hb
 | l::ls,g,hl,hb=>
  obtain ⟨_,e1,e2⟩:=nX g;have hl2:(aw ls).length≤255:=by have:=i0 (l:=l) (ls:=ls);omega
  rw [e1,e2,dr g hl,dr g.tail hl2];exact ⟨rfl,uY g.tail hl2⟩
theorem uD {m:List UInt8} (h:bm m=true) (hb:cr m=true):aP m=[]∧m=[0]:=by
 obtain ⟨ls,g,rfl,hl⟩:=d9.1 h
 match ls,g,hl,hb with
 | [],g,hl,_=>exact ⟨dr g hl,rfl⟩
 | l::ls,g,_,hb=>rw [(nX g).1] at hb;cases hb
theorem qN {n:List UInt8} (h:bm n=true):n.length≤255:=by
 simp only [bm,Bool.and_eq_true,decide_eq_true_eq] at h;exact h.2
theorem y8 {n:List UInt8} (h:bm n=true) (hb:cr n=false):sP n=eY n∧qC n=true:=by
 obtain ⟨e1,e2⟩:=rY h hb;have hp:qC n=true:=by simp [qC,e1]
 refine ⟨?_,hp⟩;rw [sP,if_pos hp,Es,e1,List.drop_succ_cons,List.drop_zero];obtain ⟨ls,g,e,hl⟩:=d9.1 e2;rw [e,dr g hl]
theorem sO {n:List UInt8} (h:aP n=[]):sP n=[]∧qC n=false:=by
 have hp:qC n=false:=by simp [qC,h]
 exact ⟨by rw [sP,if_neg (by simp [hp])],hp⟩
theorem nG {n:List UInt8} (h:bm n=true) {j:Nat} (hj:j<(aP n).length):eY (aw ((aP n).drop j))=aw ((aP n).drop (j+1))∧(aw ((aP n).drop j)).length≤255:=by
 obtain ⟨ls,g,rfl,hl⟩:=d9.1 h;rw [dr g hl] at hj ⊢;have gd:∀ j,GoodN (ls.drop j):=fun j x hx=>g x (List.mem_of_mem_drop hx)
 have hlen:∀ j,(aw (ls.drop j)).length≤255:=by
  intro j;have:∀ (ls:List (List UInt8)) (j:Nat),(aw (ls.drop j)).length≤(aw ls).length:=by
   intro ls;induction ls with
   | nil=>intro j;simp
   | cons l ls ih=>
    intro j;cases j with
    | zero=>simp
    | succ j=>
     have:=ih j;have:=i0 (l:=l) (ls:=ls);simp only [List.drop_succ_cons];omega
  have:=this ls j;omega
 refine ⟨?_,hlen j⟩;have e:=List.drop_eq_getElem_cons hj;have gj:=gd j;rw [e] at gj ⊢;exact (nX gj).2.2
theorem vH {n:List UInt8} (h:bm n=true):n=aw ((aP n).drop 0):=by
 obtain ⟨ls,g,rfl,hl⟩:=d9.1 h;rw [dr g hl,List.drop_zero]
theorem mr {n b:List UInt8} {i:Nat} (hi:i<n.length) (hb:b=(n.take i).map i8++n.drop i):b.getD i default=n.getD i default∧b.set i (i8 (n.getD i default))=(n.take (i+1)).map i8++n.drop (i+1):=by
 have hl:((n.take i).map i8).length=i:=by simp;omega
 have e:=List.drop_eq_getElem_cons hi;have hg:n.getD i default=n[i]:=by simp [List.getD_eq_getElem?_getD,List.getElem?_eq_getElem hi]
 rw [hg];subst hb;refine ⟨?_,?_⟩
 · rw [List.getD_eq_getElem?_getD,List.getElem?_append_right (by omega),hl,e,Nat.sub_self]
   rfl
 · rw [List.set_append_right _ _ (by omega),hl,Nat.sub_self,e,List.set_cons_zero,List.take_succ_eq_append_getElem hi,List.map_append,List.append_assoc]
   rfl
theorem jl {n b:List UInt8} {i:Nat} (hi:i<n.length) (hb:b=(n.take i).map i8++n.drop i) (hc:i8 (n.getD i default)=n.getD i default):b=(n.take (i+1)).map i8++n.drop (i+1):=by
 obtain ⟨e1,e2⟩:=mr hi hb;rw [hc] at e2;rw [← e2];have hlt:i<b.length:=by rw [hb];simp;omega
 apply List.ext_getElem?
 intro j;rw [List.getElem?_set];split
 · rename_i h
   subst h;rw [← e1,List.getD_eq_getElem?_getD,List.getElem?_eq_getElem hlt];rfl
 · rfl
theorem rW {n b:List UInt8} {i:Nat} (hi:i≤n.length) (hb:b=(n.take i).map i8++n.drop i):b.length=n.length:=by
 rw [hb];simp;omega
theorem iC (n:List UInt8) (h:n.length≤140737488355328):AC Tryz.prog 111 [str n] emp (Ret (.tup [str (oM n),str (eY n),tf (!cr n)])):=by
 refine AC.intro te_ok (fn:=Tryz.f111) ⟨Tryz.func111,rfl,rfl⟩ (aE rfl) ?_;iterate 11 refine ab ?_
 refine am (fun h1_2=>?_) (fun h1_2=>?_)
 ·
  iterate 29 refine ab ?_
  refine ak (0) [_,_,_] [_,_,_] ?_;have hb:cr n=true:=by simp only [cr,decide_eq_true_eq];omega
  rw [(ip hb).1,(ip hb).2,hb];rfl
 ·
  iterate 2 refine ab ?_
  refine cw rfl rfl rfl rfl rfl (lV) ?_;refine am (fun h1_6=>?_) (fun h1_6=>?_)
  ·
   iterate 25 refine ab ?_
   refine ak (0) [_,_,_] [_,_,_] ?_;have hb:cr n=true:=by simp only [cr,decide_eq_true_eq];simp at *;omega
   rw [(ip hb).1,(ip hb).2,hb];rfl
  ·
   iterate 3 refine ab ?_
   refine cw rfl rfl rfl rfl rfl (lV) ?_;refine am (fun h1_11=>?_) (fun h1_11=>?_)
   ·
    iterate 20 refine ab ?_
    refine ak (0) [_,_,_] [_,_,_] ?_;have hb:cr n=true:=by simp only [cr,decide_eq_true_eq];simp at *;omega
    rw [(ip hb).1,(ip hb).2,hb];rfl
   ·
    iterate 5 refine ab ?_
    refine cw rfl rfl rfl rfl rfl (lV) ?_;iterate 2 refine ab ?_
    refine am (fun h1_20=>?_) (fun h1_20=>?_)
    ·
     iterate 11 refine ab ?_
     refine ak (0) [_,_,_] [_,_,_] ?_;have hb:cr n=true:=by simp only [cr,decide_eq_true_eq];simp at *;omega
     rw [(ip hb).1,(ip hb).2,hb];rfl
    ·
     iterate 6 refine ab ?_
     have k1:¬ ((n.getD 0 0).toNat:Int)=0:=h1_6;have k2:¬ 63<((n.getD 0 0).toNat:Int):=h1_11;have k3:¬ (n.length:Int)<2+((n.getD 0 0).toNat:Int):=h1_20;have hb:cr n=false:=by simp only [cr,decide_eq_false_iff_not];omega
     obtain ⟨e1,e2⟩:=zZ hb;have hk:=(n.getD 0 0).toNat_lt;refine ab ?_;refine ai rfl rfl (lV) ?_;iterate 5 refine ab ?_
     refine bj [ag,ag,ag,ag,ag,ag,ag,ag,ag] [af [0] [] 34,af [5] [] 35,af [33,34] [] 36,af [0] [] 37,af [5] [] 38,af [36,37] [] 39,af [35] [] 3,af [38] [] 4,af [] [] 5] rfl ⟨ah,ah,aC fun _=>aN rfl rfl (Dt),ah,ah,aC fun _=>aN rfl rfl (qe),ah,ah,ah,trivial⟩ ?_;refine ab ?_;refine ak (0) [_,_,_] [_,_,_] ?_;have hk2:((1:Int)+((n.getD 0 0).toNat:Int)).toNat=1+(n.getD 0 0).toNat:=by omega
     show bX [str (List.drop 1 (List.take ((1:Int)+((n.getD 0 0).toNat:Int)).toNat n)),str (List.drop ((1:Int)+((n.getD 0 0).toNat:Int)).toNat n),tf true]=_;rw [e1,e2,hb,hk2];rfl
theorem cu (n:List UInt8) (h:n.length≤140737488355328):AC Tryz.prog 67 [str n] emp (Ret (tf (bm n))):=by
 refine AC.intro te_ok (fn:=Tryz.f67) ⟨Tryz.func67,rfl,rfl⟩ (aE rfl) ?_;iterate 4 refine ab ?_
 refine AWp.scope ?_;iterate 6 refine ab ?_
 refine AWp.label ?_;iterate 2 refine ab ?_
 refine AWp.loopR (α:=List UInt8) [3,4,5,6,8,9,10,11,12,13,14,15,16] (fun r=>[(3,str r)]) (fun r=>[]) (fun r=>p9 r=p9 n∧r.length≤n.length) (fun r=>r.length) n ?_ (Back.mk' (HasT.cons HasT.nil) HasH.nil) ?_
 ·
  exact ⟨rfl,Nat.le_refl _⟩
 ·
  rintro r ⟨hf,hl⟩;iterate 4 refine ab ?_
  refine ai rfl rfl (aj (0) (hc:=iC _ bE)) ?_;iterate 3 refine ab ?_
  refine AOps.bool rfl rfl (bM) (fun h2_5=>?_) (fun h2_5=>?_)
  ·
   iterate 16 refine ab ?_
   refine ⟨eY r,?_,Back.mk' (HasT.cons HasT.nil) HasH.nil,?_⟩
   ·
    have hb:cr r=false:=by simpa using h2_5
    have:=iQ hb;exact ⟨by rw [← s8 hb,hf],by omega⟩
   ·
    exact iQ (by simpa using h2_5)
  ·
   iterate 15 refine ab ?_
   refine am (fun h5_1=>?_) (fun h5_1=>?_)
   ·
    iterate 3 refine ab ?_
    refine cw rfl rfl rfl rfl rfl (iN) ?_;iterate 4 refine ab ?_
    refine ak (0) [_] [_] ?_;have e:p9 n=r:=by rw [← hf,o8 (by simpa using h2_5)]
    rw [xA,e,h5_1];simp [bX];omega
   ·
    iterate 8 refine ab ?_
    refine ak (0) [_] [_] ?_;have e:p9 n=r:=by rw [← hf,o8 (by simpa using h2_5)]
    rw [xA,e,decide_eq_false h5_1];rfl
theorem yF (n:List UInt8) (h:n.length≤140737488355328):AC Tryz.prog 148 [str n] (ao []) (bZ (.sl 8 0 0 (aP n).length 1) [(8,.row (cl sc (aP n)) 1 0)]):=by
 refine AC.intro te_ok (fn:=Tryz.f148) ⟨Tryz.func148,rfl,rfl⟩ (aE rfl) ?_;iterate 2 refine ab ?_
 refine ai rfl rfl (aR (0) sc) ?_;iterate 3 refine ab ?_
 refine ai rfl rfl (bD 8 1 sc) ?_;iterate 3 refine ab ?_
 refine AWp.loopR (α:=List UInt8×List (List UInt8)×Nat) [0,3,4,5,6,7,8,9,10,11,12,13,14,15,16,17,18,19,20,21] (fun x_=>[(0,str (x_.1)),(3,.sl 8 (x_.2.2) 0 (x_.2.1).length 1)]) (fun x_=>[(8,.row (cl sc (x_.2.1)) 1 (x_.2.2))]) (fun x_=>aP n=(x_.2.1)++aP (x_.1)∧(x_.1).length≤n.length) (fun x_=>(x_.1).length) (n,[],0) ?_ (Back.mk' (HasT.cons (HasT.cons HasT.nil)) (HasH.cons HasH.nil)) ?_
 ·
  exact ⟨rfl,Nat.le_refl _⟩
 ·
  rintro ⟨m,acc,v⟩ hI2;change aP n=acc++aP m∧m.length≤n.length at hI2;obtain ⟨hI,hm⟩:=hI2;refine AWp.as (s':=AS.over _ [0,3,4,5,6,7,8,9,10,11,12,13,14,15,16,17,18,19,20,21] [(0,str m),(3,.sl 8 v 0 acc.length 1)] [(8,.row (cl sc acc) 1 v)]) rfl ?_;have hll:=iW n;rw [hI,List.length_append] at hll;iterate 4 refine ab ?_
  refine AOps.bool rfl rfl (aj (0) (hc:=cu _ bE)) (fun h2_1=>?_) (fun h2_1=>?_)
  ·
   iterate 7 refine ab ?_
   refine ai rfl rfl (aj (0) (hc:=iC _ bE)) ?_;iterate 3 refine ab ?_
   refine AOps.bool rfl rfl (bM) (fun h3_5=>?_) (fun h3_5=>?_)
   ·
    iterate 15 refine ab ?_
    refine ai rfl rfl (bO 602 sc [_] [(_,_)]) ?_;iterate 5 refine ab ?_
    refine ⟨(eY m,_,_),?_,Back.mk' (HasT.cons (HasT.cons HasT.nil)) (HasH.cons HasH.nil),?_⟩
    ·
     try dsimp only
     have hb:cr m=false:=by simpa using h3_5
     have:=iQ hb;exact ⟨by rw [hI,(rY h2_1 hb).1];simp,by omega⟩
    ·
     try dsimp only
     exact iQ (by simpa using h3_5)
   ·
    iterate 18 refine ab ?_
    obtain rfl:acc=aP n:=by rw [hI,(uD h2_1 (by simpa using h3_5)).1,List.append_nil]
    refine aQ (0) [8] [_] [.sl 8 0 0 _ 1] [(8,.row (cl sc _) 1 0)] ?_;rfl
  ·
   iterate 9 refine ab ?_
   obtain rfl:acc=aP n:=by rw [hI,mY h2_1,List.append_nil]
   refine aQ (0) [8] [_] [.sl 8 0 0 _ 1] [(8,.row (cl sc _) 1 0)] ?_;rfl
theorem gO (n:List UInt8) (h:n.length≤140737488355328):AC Tryz.prog 34 [str n] emp (Ret (str (eK n))):=by
 refine AC.intro te_ok (fn:=Tryz.f34) ⟨Tryz.func34,rfl,rfl⟩ (aE rfl) ?_;iterate 8 refine ab ?_
 refine AOps.bool rfl rfl (aj (0) (hc:=cu _ bE)) (fun h1_1=>?_) (fun h1_1=>?_)
 ·
  iterate 7 refine ab ?_
  refine ai rfl rfl (rN 401) ?_;iterate 10 refine ab ?_
  refine AWp.loopR (α:=Nat×List UInt8) [4,5,13,14,15,16,17,18,19,20,21,22,23,24,25,26,27,28,29] (fun x_=>[(13,i64 (x_.1))]) (fun x_=>[(401,.row (cl bc (x_.2)) 1 0)]) (fun x_=>(x_.1)≤n.length∧(x_.2)=(n.take (x_.1)).map i8++n.drop (x_.1)) (fun x_=>n.length-(x_.1)) (0,n) ?_ (Back.mk' (HasT.cons HasT.nil) (HasH.cons HasH.nil)) ?_
  ·
   exact ⟨Nat.zero_le _,by simp⟩
  ·
   rintro ⟨i,b⟩ hI5;change i≤n.length∧b=(n.take i).map i8++n.drop i at hI5;obtain ⟨hi,hb⟩:=hI5;refine AWp.as (s':=AS.over _ [4,5,13,14,15,16,17,18,19,20,21,22,23,24,25,26,27,28,29] [(13,i64 i)] [(401,.row (cl bc b) 1 0)]) rfl ?_;have hbl:=rW hi hb;iterate 2 refine ab ?_
   refine am (fun h5_0=>?_) (fun h5_0=>?_)
   ·
    iterate 16 refine ab ?_
    have hx:=mr (by omega) hb;refine ab ?_;refine am (fun h7_1=>?_) (fun h7_1=>?_)
    ·
     iterate 2 refine ab ?_
     refine am (fun h7_4=>?_) (fun h7_4=>?_)
     ·
      iterate 7 refine ab ?_
      refine ai rfl rfl (Gp _ 32) ?_;iterate 7 refine ab ?_
      refine ⟨(i+1,_),?_,Back.mk' (HasT.cons HasT.nil) (HasH.cons HasH.nil),?_⟩
      ·
       try dsimp only
       have k1:65≤((b.getD i default).toNat:Int):=h7_1;have k2:((b.getD i default).toNat:Int)≤90:=h7_4;rw [hx.1] at k1 k2;have e:=hx.2;rw [show i8 (n.getD i default)=n.getD i default ||| 32 from (if_pos ⟨by omega,by omega⟩).trans (rfl),← hx.1] at e;exact ⟨by omega,e⟩
      ·
       try dsimp only
       first|omega|(simp;omega)
     ·
      iterate 8 refine ab ?_
      refine ⟨(i+1,_),?_,Back.mk' (HasT.cons HasT.nil) (HasH.cons HasH.nil),?_⟩
      ·
       try dsimp only
       exact ⟨by omega,jl (by omega) hb (if_neg (by have k1:¬ ((b.getD i default).toNat:Int)≤90:=h7_4;rw [hx.1] at k1;omega))⟩
      ·
       try dsimp only
       first|omega|(simp;omega)
    ·
     iterate 11 refine ab ?_
     refine ⟨(i+1,_),?_,Back.mk' (HasT.cons HasT.nil) (HasH.cons HasH.nil),?_⟩
     ·
      try dsimp only
      exact ⟨by omega,jl (by omega) hb (if_neg (by have k1:¬ 65≤((b.getD i default).toNat:Int):=h7_1;rw [hx.1] at k1;omega))⟩
     ·
      try dsimp only
      first|omega|(simp;omega)
   ·
    iterate 6 refine ab ?_
    obtain rfl:i=n.length:=by simp at h5_0;omega
    have hb2:b=n.map i8:=by rw [hb,List.take_length,List.drop_length,List.append_nil]
    subst hb2;refine ab ?_;refine ai rfl rfl (aU) ?_;iterate 3 refine ab ?_
    refine ak (0) [_] [_] ?_;rw [eK,if_pos h1_1];rfl
 ·
  iterate 8 refine ab ?_
  refine ak (0) [_] [_] ?_;rw [eK,if_neg (by simp [h1_1])];rfl
end
section
attribute [local irreducible] AWp AOps
theorem C3 {n:List UInt8} (hc:bm n=true) (h0:¬ n=[0]):cr n=false:=by
 cases hb:cr n with
 | false=>rfl
 | true=>exact absurd (uD hc hb).2 h0
theorem uz (n:List UInt8):(eK n).length≤255:=by
 unfold eK;split
 · rename_i h;rw [List.length_map];exact qN h
 · simp
theorem rH (n:List UInt8) (k:Int):(mG n k).length≤255:=by
 unfold mG;split
 · rename_i h
   by_cases e:(aP n).length-min (max k 0).toNat (aP n).length<(aP n).length
   · exact (nG h e).2
   · rw [List.drop_of_length_le (by omega)];simp [aw]
 · simp
theorem pG (n:List UInt8):0≤dt n∧dt n≤254:=by have:=iW n;unfold dt;omega
theorem bT (a b:List UInt8) (ha:a.length≤140737488355328) (hb:b.length≤140737488355328):AC Tryz.prog 72 [str a,str b] emp (Ret (tf (bi a b))):=by
 have h1:=uz a;have h2:=uz b;refine AC.intro te_ok (fn:=Tryz.f72) ⟨Tryz.func72,rfl,rfl⟩ (aE rfl) ?_;iterate 7 refine ab ?_
 refine AOps.bool rfl rfl (aj (0) (hc:=cu _ bE)) (fun h1_1=>?_) (fun h1_1=>?_)
 ·
  iterate 2 refine ab ?_
  refine AOps.gbool rfl rfl rfl rfl rfl (aj (0) (hc:=cu _ bE)) (fun h1_4=>?_) (fun h1_4=>?_)
  ·
   iterate 3 refine ab ?_
   refine cw rfl rfl rfl rfl rfl (aj (0) (hc:=gO _ bE)) ?_;refine ab ?_;refine cw rfl rfl rfl rfl rfl (aj (0) (hc:=gO _ bE)) ?_;refine cw rfl rfl rfl rfl rfl (qf) ?_;iterate 4 refine ab ?_
   refine ak (0) [_] [_] ?_;simp only [bi,h1_1,h1_4];rfl
  ·
   iterate 11 refine ab ?_
   refine ak (0) [_] [_] ?_;simp only [bi,h1_1,h1_4];rfl
 ·
  iterate 14 refine ab ?_
  refine ak (0) [_] [_] ?_;simp only [bi,h1_1];rfl
theorem cL (n:List UInt8) (h:n.length≤140737488355328):AC Tryz.prog 112 [str n] emp (Ret (i64 (dt n))):=by
 refine AC.intro te_ok (fn:=Tryz.f112) ⟨Tryz.func112,rfl,rfl⟩ (aE rfl) ?_;iterate 7 refine ab ?_
 refine ai rfl rfl (ay (0) [] [(8,2018)] [(_,_)] (hc:=yF _ bE)) ?_;iterate 4 refine ab ?_
 refine ak (0) [_] [_] ?_;rfl
theorem ma (n:List UInt8) (h:n.length≤140737488355328):AC Tryz.prog 144 [str n] emp (Ret (.tup [str (sP n),tf (qC n)])):=by
 refine AC.intro te_ok (fn:=Tryz.f144) ⟨Tryz.func144,rfl,rfl⟩ (aE rfl) ?_;iterate 9 refine ab ?_
 refine AOps.bool rfl rfl (aj (0) (hc:=cu _ bE)) (fun h1_1=>?_) (fun h1_1=>?_)
 ·
  iterate 3 refine ab ?_
  refine am (fun h1_5=>?_) (fun h1_5=>?_)
  ·
   iterate 9 refine ab ?_
   refine ak (0) [_,_] [_,_] ?_;have e:=sO (n:=n) (by rw [h1_5];exact dr GoodN.nil (by decide));rw [e.1,e.2];rfl
  ·
   iterate 7 refine ab ?_
   refine ai rfl rfl (aj (0) (hc:=iC _ bE)) ?_;iterate 16 refine ab ?_
   refine ak (0) [_,_] [_,_] ?_;have hb:=C3 h1_1 h1_5;obtain ⟨e1,e2⟩:=y8 h1_1 hb;rw [e1,e2,hb];rfl
 ·
  iterate 13 refine ab ?_
  refine ak (0) [_,_] [_,_] ?_;rw [(sO (mY h1_1)).1,(sO (mY h1_1)).2];rfl
theorem vt (n:List UInt8) (h:n.length≤140737488355328) (k:Int) (hk:-9223372036854775808≤k∧k≤9223372036854775807):AC Tryz.prog 113 [str n,i64 k] emp (Ret (str (mG n k))):=by
 have hll:=iW n;have hm:max k 0=((max k 0).toNat:Int):=by omega
 refine AC.intro te_ok (fn:=Tryz.f113) ⟨Tryz.func113,rfl,rfl⟩ (aE rfl) ?_;iterate 8 refine ab ?_
 refine AOps.bool rfl rfl (aj (0) (hc:=cu _ bE)) (fun h1_1=>?_) (fun h1_1=>?_)
 ·
  iterate 8 refine ab ?_
  refine ai rfl rfl (aj (0) (hc:=cL _ bE)) ?_;iterate 3 refine ab ?_
  refine AWp.loopR (α:=Nat) [0,5,11,12,13,14,15,16,17,18,19,20,21,22] (fun j=>[(0,str (aw ((aP n).drop j))),(5,i64 ((aP n).length-j))]) (fun j=>[]) (fun j=>j≤(aP n).length-min (max k 0).toNat (aP n).length) (fun j=>(aP n).length-j) 0 ?_ (Back.mk' (HasT.cons (HasT.cons HasT.nil (h1:=by exact ci (by unfold dt;omega)) ) (h1:=by rw [← vH h1_1];rfl) ) HasH.nil) ?_
  ·
   exact Nat.zero_le _
  ·
   rintro j hI4;iterate 5 refine ab ?_
   refine ai rfl rfl (Dw) ?_;refine am (fun h4_3=>?_) (fun h4_3=>?_)
   ·
    iterate 6 refine ab ?_
    have hj2:=(nG h1_1 (j:=j) (by omega)).2;refine ab ?_;refine ai rfl rfl (aj (0) (hc:=iC _ bE)) ?_;iterate 11 refine ab ?_
    have hj:j<(aP n).length:=by omega
    refine ⟨j+1,?_,Back.mk' (HasT.cons (HasT.cons HasT.nil (h1:=by exact ci (by omega)) ) (h1:=by rw [← (nG h1_1 hj).1];rfl) ) HasH.nil,?_⟩
    ·
     omega
    ·
     omega
   ·
    iterate 9 refine ab ?_
    refine ak (0) [_] [_] ?_;rw [mG,if_pos h1_1,show j=(aP n).length-min (max k 0).toNat (aP n).length by omega];rfl
 ·
  iterate 8 refine ab ?_
  refine ak (0) [_] [_] ?_;rw [mG,if_neg (by simp [h1_1])];rfl
theorem df (a b:List UInt8) (ha:a.length≤140737488355328) (hb:b.length≤140737488355328):AC Tryz.prog 71 [str a,str b] emp (Ret (tf (bQ a b))):=by
 have h1:=pG a;have h2:=pG b;have h3:=rH a (dt b);refine AC.intro te_ok (fn:=Tryz.f71) ⟨Tryz.func71,rfl,rfl⟩ (aE rfl) ?_;iterate 7 refine ab ?_
 refine AOps.bool rfl rfl (aj (0) (hc:=cu _ bE)) (fun h1_1=>?_) (fun h1_1=>?_)
 ·
  iterate 2 refine ab ?_
  refine AOps.gbool rfl rfl rfl rfl rfl (aj (0) (hc:=cu _ bE)) (fun h1_4=>?_) (fun h1_4=>?_)
  ·
   iterate 3 refine ab ?_
   refine cw rfl rfl rfl rfl rfl (aj (0) (hc:=cL _ bE)) ?_;refine ab ?_;refine cw rfl rfl rfl rfl rfl (aj (0) (hc:=cL _ bE)) ?_;refine am (fun h1_11=>?_) (fun h1_11=>?_)
   ·
    iterate 4 refine ab ?_
    refine cw rfl rfl rfl rfl rfl (aj (0) (hc:=cL _ bE)) ?_;refine cw rfl rfl rfl rfl rfl (aj (0) (hc:=vt _ bE _ bE)) ?_;refine ab ?_;refine cw rfl rfl rfl rfl rfl (aj (0) (hc:=bT _ _ bE bE)) ?_;iterate 4 refine ab ?_
    refine ak (0) [_] [_] ?_;simp only [bQ,h1_1,h1_4,decide_eq_true (show dt b≤dt a by omega)];rfl
   ·
    iterate 12 refine ab ?_
    refine ak (0) [_] [_] ?_;simp only [bQ,h1_1,h1_4,decide_eq_false (show ¬ dt b≤dt a by omega)];rfl
  ·
   iterate 19 refine ab ?_
   refine ak (0) [_] [_] ?_;simp only [bQ,h1_1,h1_4];rfl
 ·
  iterate 22 refine ab ?_
  refine ak (0) [_] [_] ?_;simp only [bQ,h1_1];rfl
end
end Go.Proofs.YthnfcmgpedppaaaGreat.Fw
