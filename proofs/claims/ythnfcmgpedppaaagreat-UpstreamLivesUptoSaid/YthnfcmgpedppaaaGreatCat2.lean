/- The texts Q2, Q3, FwO, FwP, FwS, Q4, Q5, Q6, Q20, Q7, Q8, Q9, Q10, Q11, Q12, Q13, Q14, Q15, Q22, Q23, Q24, Q25, Q26, Q27, Q19, Q16, Q18, Q17, Z1, one behind the other: what the walks and plain laws need; conditions stand with each theorem. -/
import Derived.Test.YthnfcmgpedppaaaGreatRows
import Derived.ProofKit
import Derived.OpenShut
import Derived.ShutString
import Derived.ChangeOld
import Derived.SizedLaws
import Derived.Carry
import Derived.Lib.ConvBytes
import Derived.Laws.AppendOwn
import Derived.JoinedCond
import Derived.Laws.MakeOwn
import Derived.MapKept
import Derived.ScopeJumps
import Derived.Lib.SlBytesConst
import Derived.Defers
import Derived.Recover
import Derived.Tactics
import Derived.Tactics2
import Derived.Test.YthnfcmgpedppaaaGreatCat1
set_option linter.unusedVariables false
set_option linter.unusedSimpArgs false
set_option linter.unusedSectionVars false
set_option maxRecDepth 20000
set_option maxHeartbeats 4000000
namespace Go.Proofs.YthnfcmgpedppaaaGreat.Fw
open Go.RowKit
theorem m6 {α:Type} [Inhabited α] {f:α→List AV} {e:Nat} (hf:∀ x,(f x).length=e):∀ {l:List α} {i:Nat},i<l.length→((cl f l).drop (i*e)).take e=f (l.getD i default)
 | [],i,h=>by simp at h
 | a::l,0,_=>by
  rw [c6,Nat.zero_mul,List.drop_zero,List.take_append_of_le_length (by rw [hf];omega),List.take_of_length_le (by rw [hf];omega)];rfl
 | a::l,i+1,h=>by
  have:=m6 (l:=l) (i:=i) hf (by simpa using h);rw [c6,Nat.add_mul,Nat.one_mul,Nat.add_comm (i*e) e,← List.drop_drop,List.drop_append_of_le_length (by rw [hf];omega),List.drop_of_length_le (l:=f a) (by rw [hf];omega),List.nil_append,this];rfl
theorem tg {α:Type} {f:α→List AV} {e:Nat} (hf:∀ x,(f x).length=e) (a:α):∀ {l:List α} {i:Nat},i<l.length→(cl f l).take (i*e)++f a++(cl f l).drop (i*e+(f a).length)=cl f (l.set i a)
 | [],i,h=>by simp at h
 | b::l,0,_=>by
  rw [List.set_cons_zero,c6,c6,Nat.zero_mul,List.take_zero,List.nil_append,Nat.zero_add,hf,List.drop_append_of_le_length (by rw [hf];omega),List.drop_of_length_le (l:=f b) (by rw [hf];omega),List.nil_append]
 | b::l,i+1,h=>by
  have:=tg (l:=l) (i:=i) hf a (by simpa using h);have e1:(i+1)*e=e+i*e:=by rw [Nat.add_mul];omega
  rw [List.set_cons_succ,c6,c6,e1,← this,List.take_append,hf,List.take_of_length_le (by rw [hf];omega),Nat.add_sub_cancel_left,Nat.add_assoc,← List.drop_drop,List.drop_append_of_le_length (by rw [hf];omega),List.drop_of_length_le (l:=f b) (by rw [hf];omega),List.nil_append];simp [List.append_assoc]
theorem mu {α:Type} {f:α→List AV} {l:List α} {lv:Nat} (h:∀ x,AV.oks lv (f x)=true):AV.oks lv (cl f l)=true:=AV.oks_of fun c hc=>gu (p:=fun c=>c.ok lv=true) (fun x _ c hc=>AV.oks_iff.1 (h x) c hc) c hc
theorem wr {α:Type} {f:α→List AV} {l:List α} {p:AV→Bool} (h:∀ x,(f x).all p=true):∀ c∈cl f l,p c=true:=gu fun x _=>List.all_eq_true.1 (h x)
inductive ObAt:AObj→Nat→List AV→Prop
 | box {ty c}:ObAt (.gbox ty c) 0 c
 | row {ty c e v}:ObAt (.grow ty c e v) v c
theorem ObAt.at {ob:AObj} {v:Nat} {c:List AV} (h:ObAt ob v c):ob.at v=some c:=by
 cases h with
 | box=>rfl
 | row=>
  simp only [AObj.at];rw [show Nat.beq v v=true from by simp];rfl
section
variable {n:Nat} {s:AS} {o:Oper} {d:Option Tmp} {Q:bC}
theorem aU {src dst e id ver len:Nat} {x:Operand} {l:List UInt8} {i j tj:TI} {ob:AObj} (ho:o.op=.convert src dst x:=by exact rfl) (hx:s.ev x=.sl id ver 0 len 1:=by exact rfl) (hob:s.h id=some ob:=by exact rfl)
 (hat:ObAt ob ver (cl bc l):=by exact .row) (hlen:len=l.length:=by first|exact rfl|(simp;done)|omega) (hi:te.get src=some i:=by exact rfl) (hk:i.k=.slice e:=by exact rfl)
 (he:te.get e=some tj:=by exact rfl) (hk2:tj.k=.int .u8:=by exact rfl) (hj:te.get dst=some j:=by exact rfl) (hk3:j.k=.str:=by exact rfl)
 (hdd:o.dst=d:=by conv=>lhs;whnf) (hd:d.all (Nat.blt · n)=true:=by exact rfl):OpOk Tryz.prog n o s (s.put d (str l)):=by
 subst hlen;exact lX te_ok ho hx (.inr (.inr ⟨id,ver,0,ob,_,rfl,hob,hat.at,by rw [List.drop_zero,List.take_of_length_le (by rw [j6];omega)]⟩)) hi hk he hk2 hj hk3 hdd hd
inductive PtrTo (s:AS) (off sz:Nat):AV→AV→Prop
 | fp {lv cells} (h:((cells.drop off).take sz).length=sz):PtrTo s off sz (.fp lv cells) (.fp lv ((cells.drop off).take sz))
 | ptr {id ver po ob cells} (hob:s.h id=some ob) (hat:ObAt ob ver cells):PtrTo s off sz (.ptr id ver po) (.ptr id ver (po+off))
theorem fJ {t ft:TypeId} {x:Operand} {f off:Nat} {l:List (Nat×TypeId)} {ti tj:TI} {y z z':AV} (ho:o.op=.fieldAddr t x f:=by exact rfl) (hx:s.ev x=y:=by conv=>lhs;whnf)
 (ht:te.get t=some ti:=by exact rfl) (hk:ti.k=.struct l:=by exact rfl) (hf:l[f]?=some (off,ft):=by exact rfl) (hj:te.get ft=some tj:=by exact rfl) (hp:0<tj.size:=by exact Nat.le_of_ble_eq_true rfl)
 (hz:PtrTo s off tj.size y z:=by first|exact .fp rfl|exact .ptr rfl .box|exact .ptr rfl .row) (hz':z=z':=by conv=>lhs;whnf)
 (hdd:o.dst=d:=by conv=>lhs;whnf) (hd:d.all (Nat.blt · n)=true:=by exact rfl):OpOk Tryz.prog n o s (s.put d z'):=by
 subst hz';cases hz with
 | fp h=>exact p6 te_ok ho hx ht hk hf hj hp rfl h hdd hd
 | ptr hob hat=>exact nU te_ok ho hx ht hk hf hj hp ⟨_,hob,by cases hat<;>rfl⟩ hdd hd
inductive LoadTo (s:AS) (sz:Nat):AV→List AV→Prop
 | fp {lv cells} (h:cells.length=sz):LoadTo s sz (.fp lv cells) cells
 | ptr {id ver po ob cells} (hob:s.h id=some ob) (hat:ObAt ob ver cells) (h:((cells.drop po).take sz).length=sz):LoadTo s sz (.ptr id ver po) ((cells.drop po).take sz)
 | el {α:Type} [Inhabited α] {id ver j ob} {f:α→List AV} {l:List α} (hob:s.h id=some ob) (hat:ObAt ob ver (cl f l)) (hf:∀ x,(f x).length=sz) (hj:j<l.length):LoadTo s sz (.ptr id ver (j*sz)) (f (l.getD j default))
 | el1 {α:Type} [Inhabited α] {id ver j ob} {f:α→List AV} {l:List α} (hsz:sz=1) (hob:s.h id=some ob) (hat:ObAt ob ver (cl f l)) (hf:∀ x,(f x).length=1) (hj:j<l.length):LoadTo s sz (.ptr id ver j) (f (l.getD j default))
theorem bb {t:TypeId} {x:Operand} {ti:TI} {y z:AV} {cs:List AV} (ho:o.op=.load t x:=by exact rfl) (hx:s.ev x=y:=by conv=>lhs;whnf) (ht:te.get t=some ti:=by exact rfl) (hp:0<ti.size:=by exact Nat.le_of_ble_eq_true rfl)
 (hz:LoadTo s ti.size y cs:=by first|exact .fp rfl|exact .ptr rfl .box rfl|exact .ptr rfl .row rfl|exact .el rfl .row (fun _=>rfl) (by first|omega|(simp;omega))|exact .el rfl .box (fun _=>rfl) (by first|omega|(simp;omega))|exact .el1 rfl rfl .row (fun _=>rfl) (by first|omega|(simp;omega))|exact .el1 rfl rfl .box (fun _=>rfl) (by first|omega|(simp;omega)))
 (hy:jM ti.k.agg cs=z:=by conv=>lhs;whnf) (hdd:o.dst=d:=by conv=>lhs;whnf) (hd:d.all (Nat.blt · n)=true:=by exact rfl):OpOk Tryz.prog n o s (s.put d z):=by
 cases hz with
 | fp h=>exact vV te_ok ho hx ht h hp hy hdd hd
 | ptr hob hat h=>exact io te_ok ho hx hob hat.at ht rfl h hp hy hdd hd
 | el hob hat hf hj=>
  have e:=m6 hf hj;exact io te_ok ho hx hob hat.at ht e (hf _) hp hy hdd hd
 | @el1 α _ id ver j ob f l hsz hob hat hf hj=>
  have e:=m6 (i:=j) hf hj;rw [Nat.mul_one] at e;exact io te_ok ho hx hob hat.at ht (by rw [hsz];exact e) (by rw [hsz];exact hf _) hp hy hdd hd
inductive IxTo (s:AS) (i e:Nat):AV→AV→Prop
 | fz {α:Type} [Inhabited α] {lv} {f:α→List AV} {l:List α} (hf:∀ x,(f x).length=e):IxTo s i e (.fz lv l.length (cl f l)) (.fp lv (f (l.getD i default)))
 | sl0 {id ver len ob cells} (hob:s.h id=some ob) (hat:ObAt ob ver cells):IxTo s i e (.sl id ver 0 len e) (.ptr id ver (i*e))
 | sl {id ver off len ob cells} (hob:s.h id=some ob) (hat:ObAt ob ver cells):IxTo s i e (.sl id ver off len e) (.ptr id ver (off+i*e))
theorem vQ {t e:TypeId} {x y:Operand} {k:IntKind} {i:Int} {ti tj:TI} {a z:AV} {m:Nat} (ho:o.op=.indexAddr t x y:=by exact rfl) (hx:s.ev x=a:=by conv=>lhs;whnf) (hy:s.ev y=.v (.int k i):=by exact rfl)
 (ht:te.get t=some ti:=by exact rfl) (hk:ti.k=.slice e:=by exact rfl) (he:te.get e=some tj:=by exact rfl) (hm:a.len?=some m:=by exact rfl)
 (h0:0≤i:=by first|omega|decide|(simp;omega)) (h1:i<m:=by first|omega|decide|(simp;omega)) (hp:0<tj.size:=by exact Nat.le_of_ble_eq_true rfl)
 (hz:IxTo s i.toNat tj.size a z:=by first|exact .fz (fun _=>rfl)|exact .sl0 rfl .row|exact .sl0 rfl .box|exact .sl rfl .row|exact .sl rfl .box)
 (hdd:o.dst=d:=by conv=>lhs;whnf) (hd:d.all (Nat.blt · n)=true:=by exact rfl):OpOk Tryz.prog n o s (s.put d z):=by
 cases hz with
 | fz hf=>
  simp only [AV.len?,Option.some.injEq] at hm;subst hm;exact p5 te_ok ho hx hy ht hk he h0 h1 (m6 hf (by omega)) (hf _) hp hdd hd
 | sl0 hob hat=>
  simp only [AV.len?,Option.some.injEq] at hm;subst hm;have:=jG (P:=Tryz.prog) (n:=n) (s:=s) te_ok ho hx hy ht hk he h0 h1 hob hat.at hdd hd
  simpa using this
 | sl hob hat=>
  simp only [AV.len?,Option.some.injEq] at hm;subst hm;exact jG te_ok ho hx hy ht hk he h0 h1 hob hat.at hdd hd
theorem wT {t e:TypeId} {x y:Operand} {id ver po po' len:Nat} {k:IntKind} {i:Int} {ob:AObj} {cells:List AV} {ti tj:TI} (ho:o.op=.indexAddr t x y:=by exact rfl)
 (hx:s.ev x=.ptr id ver po:=by exact rfl) (hy:s.ev y=.v (.int k i):=by exact rfl) (ht:te.get t=some ti:=by exact rfl) (hk:ti.k=.arr len e:=by exact rfl) (he:te.get e=some tj:=by exact rfl)
 (h0:0≤i:=by first|omega|decide|(simp;omega)) (h1:i<len:=by first|omega|decide|(simp;omega)) (hob:s.h id=some ob:=by exact rfl) (hat:ObAt ob ver cells:=by first|exact .box|exact .row)
 (hpo:po+i.toNat*tj.size=po':=by first|(conv=>lhs;rw [Nat.zero_add])|exact rfl)
 (hdd:o.dst=d:=by conv=>lhs;whnf) (hd:d.all (Nat.blt · n)=true:=by exact rfl):OpOk Tryz.prog n o s (s.put d (.ptr id ver po')):=
 hpo▸nT te_ok ho hx hy ht hk he h0 h1 hob hat.at hdd hd
theorem sJ {α:Type} [Inhabited α] {t e:TypeId} {m:Nat} {x y:Operand} {f:α→List AV} {l:List α} {k:IntKind} {i:Int} {ti tj:TI} {v:AV} (ho:o.op=.index t x y:=by exact rfl) (hx:s.ev x=.agg (cl f l):=by exact rfl)
 (hy:s.ev y=.v (.int k i):=by exact rfl) (ht:te.get t=some ti:=by exact rfl) (hk:ti.k=.arr m e:=by exact rfl) (he:te.get e=some tj:=by exact rfl) (hj:tj.k.agg=false:=by exact rfl) (h1:tj.size=1:=by exact rfl)
 (hf:∀ x,f x=[(f x).headD .any]:=by exact fun _=>rfl) (h0:0≤i:=by first|omega|decide|(simp;omega)) (hm:i<m:=by first|omega|decide|(simp;omega)) (hl:i<l.length:=by first|omega|decide|(simp;omega))
 (hv:(f (l.getD i.toNat default)).headD .any=v:=by conv=>lhs;whnf)
 (hdd:o.dst=d:=by conv=>lhs;whnf) (hd:d.all (Nat.blt · n)=true:=by exact rfl):OpOk Tryz.prog n o s (s.put d v):=by
 refine sS te_ok ho hx hy ht hk he hj h1 ?_ h0 hm hdd hd;have e1:=m6 (f:=f) (e:=1) (fun x=>by rw [hf x];rfl) (l:=l) (i:=i.toNat) (by omega);rw [Nat.mul_one,hf,hv] at e1;have:((cl f l).drop i.toNat)[0]?=some v:=by
  have h2:(((cl f l).drop i.toNat).take 1)[0]?=some v:=by rw [e1];rfl
  rwa [List.getElem?_take,if_pos (by omega)] at h2
 rwa [List.getElem?_drop,Nat.add_zero] at this
inductive StoreTo (s:AS):AV→List AV→AObj→Nat→Prop
 | ptr {id ver po ob cells cs c'} (hob:s.h id=some ob) (hat:ObAt ob ver cells) (hb:po+cs.length≤cells.length) (hp:0<cells.length) (hc:cells.take po++cs++cells.drop (po+cs.length)=c') :
  StoreTo s (.ptr id ver po) cs (ob.withCells c') id
 | whole {id ver ob cells cs} (hob:s.h id=some ob) (hat:ObAt ob ver cells) (hl:cs.length=cells.length) (hp:0<cells.length):StoreTo s (.ptr id ver 0) cs (ob.withCells cs) id
 | el {α:Type} {id ver j sz ob cs} {f:α→List AV} {l:List α} {a:α} (hob:s.h id=some ob) (hat:ObAt ob ver (cl f l)) (hcs:f a=cs) (hf:∀ x,(f x).length=sz) (h0:0<sz) (hj:j<l.length):StoreTo s (.ptr id ver (j*sz)) cs (ob.withCells (cl f (l.set j a))) id
 | el1 {α:Type} {id ver j ob cs} {f:α→List AV} {l:List α} {a:α} (hob:s.h id=some ob) (hat:ObAt ob ver (cl f l)) (hcs:f a=cs) (hf:∀ x,(f x).length=1) (hj:j<l.length):StoreTo s (.ptr id ver j) cs (ob.withCells (cl f (l.set j a))) id
theorem cI {t:TypeId} {x y:Operand} {id:Nat} {ob' ob'':AObj} {ti:TI} {p v:AV} {cs:List AV} (ho:o.op=.store t x y:=by exact rfl) (hx:s.ev x=p:=by conv=>lhs;whnf) (hy:s.ev y=v:=by conv=>lhs;whnf)
 (hf:v.flat=some cs:=by exact rfl) (h1:cs.all AV.one=true:=by exact rfl) (ht:te.get t=some ti:=by exact rfl) (hl:cs.length=ti.size:=by exact rfl)
 (hs:StoreTo s p cs ob' id:=by first|exact .whole rfl .box rfl (Nat.le_of_ble_eq_true rfl)|exact .ptr rfl .box (Nat.le_of_ble_eq_true rfl) (Nat.le_of_ble_eq_true rfl) (by first|(simp only [List.take_succ_cons,List.take_zero,List.drop_succ_cons,List.drop_zero,List.drop_nil,List.take_nil,List.nil_append,List.cons_append,List.append_nil];rfl)|exact rfl)|exact .el rfl .row rfl (fun _=>rfl) (Nat.le_of_ble_eq_true rfl) (by first|omega|(simp;omega))|exact .el rfl .box rfl (fun _=>rfl) (Nat.le_of_ble_eq_true rfl) (by first|omega|(simp;omega))|exact .el1 rfl .row rfl (fun _=>rfl) (by first|omega|(simp;omega))|exact .el1 rfl .box rfl (fun _=>rfl) (by first|omega|(simp;omega)))
 (hw:ob'=ob'':=by conv=>lhs;whnf) (hdd:o.dst=d:=by conv=>lhs;whnf) (hd:d.all (Nat.blt · n)=true:=by exact rfl):OpOk Tryz.prog n o s ((s.seth id (some ob'')).put d (.v undef)):=by
 subst hw;cases hs with
 | ptr hob hat hb hp hc=>exact fq te_ok ho hx hy hf h1 hob hat.at ht hl hb hp hc hdd hd
 | @whole _ ver ob cells _ hob hat hl2 hp=>exact fq te_ok ho hx hy hf h1 hob hat.at ht hl (by omega) hp (by rw [List.take_zero,List.nil_append,List.drop_of_length_le (by omega),List.append_nil]) hdd hd
 | @el α _ ver j sz ob _ f l a hob hat hcs hf2 h0 hj=>
  subst hcs;have h3:=bJ hf2 l;have h4:(j+1)*sz≤l.length*sz:=Nat.mul_le_mul_right sz hj;rw [Nat.add_mul,Nat.one_mul] at h4;exact fq te_ok ho hx hy hf h1 hob hat.at ht hl (by rw [hf2,h3];omega) (by rw [h3];omega) (tg hf2 a hj) hdd hd
 | @el1 α _ ver j ob _ f l a hob hat hcs hf2 hj=>
  subst hcs;have h3:=bJ hf2 l;have h4:=tg hf2 a hj;rw [Nat.mul_one] at h4;exact fq te_ok ho hx hy hf h1 hob hat.at ht hl (by rw [hf2,h3];omega) (by rw [h3];omega) h4 hdd hd
theorem ap (id:Nat) {t:TypeId} {ti:TI} {zs:List AV} (ho:o.op=.alloc t:=by exact rfl) (ht:te.get t=some ti:=by exact rfl) (hid:s.h id=none:=by exact rfl)
 (hz:ti.zero.map (fun z=>AV.v z.val)=zs:=by first|(simp only [List.map_cons,List.map_nil,ZC.val];rfl)|exact rfl) (hdd:o.dst=d:=by conv=>lhs;whnf) (hd:d.all (Nat.blt · n)=true:=by exact rfl) :
 OpOk Tryz.prog n o s ((s.seth id (some (.box zs))).put d (.ptr id 0 0)):=zP te_ok ho ht hid hz hdd hd
theorem aS (id:Nat) {t:TypeId} {x:Operand} {y:AV} {cs:List AV} (ho:o.op=.box t x:=by exact rfl) (hx:s.ev x=y:=by conv=>lhs;whnf) (hf:y.flat=some cs:=by exact rfl) (hid:s.h id=none:=by exact rfl)
 (hdd:o.dst=d:=by conv=>lhs;whnf) (hd:d.all (Nat.blt · n)=true:=by exact rfl):OpOk Tryz.prog n o s ((s.seth id (some (.box cs))).put d (.ptr id 0 0)):=Ey te_ok ho hx hf hid hdd hd
theorem aL (vals:List (Nat×AV)) {t:TypeId} {parts:Array (Nat×Operand)} {l:List (Nat×TypeId)} {ti:TI} {cs cs':List AV} (ho:o.op=.build t parts:=by exact rfl)
 (hv:EvL s parts.toList vals:=by repeat' (first|exact trivial|refine ⟨rfl,?_,?_⟩|(conv=>lhs;whnf))) (ht:te.get t=some ti:=by exact rfl) (hk:ti.k=.struct l:=by exact rfl)
 (hall:(l.all fun p=>(te.get p.2).isSome)=true:=by exact rfl) (hcs:eo (dv te l) (ti.zero.map fun z=>AV.v z.val) vals=some cs:=by exact rfl)
 (hc':cs=cs':=by first|(simp only [List.take_succ_cons,List.take_zero,List.drop_succ_cons,List.drop_zero,List.drop_nil,List.take_nil,List.nil_append,List.cons_append,List.append_nil,List.map_cons,List.map_nil,ZC.val,jc];rfl)|exact rfl)
 (hdd:o.dst=d:=by conv=>lhs;whnf) (hd:d.all (Nat.blt · n)=true:=by exact rfl):OpOk Tryz.prog n o s (s.put d (.agg cs')):=nW te_ok ho hv ht hk hall hcs hc' hdd hd
theorem cb {α:Type} (f:α→List AV) (xs:List α) (vals:List (Nat×AV)) {t e:TypeId} {m:Nat} {parts:Array (Nat×Operand)} {ti tj:TI} {cs:List AV} (ho:o.op=.build t parts:=by exact rfl)
 (hv:EvL s parts.toList vals:=by repeat' (first|exact trivial|refine ⟨rfl,?_,?_⟩|(conv=>lhs;whnf))) (ht:te.get t=some ti:=by exact rfl) (hk:ti.k=.arr m e:=by exact rfl) (he:te.get e=some tj:=by exact rfl)
 (hcs:eo (j7 tj.size) (ti.zero.map fun z=>AV.v z.val) vals=some cs:=by exact rfl) (hc':cs=cl f xs:=by first|(simp only [List.take_succ_cons,List.take_zero,List.drop_succ_cons,List.drop_zero,List.drop_nil,List.take_nil,List.nil_append,List.cons_append,List.append_nil,List.map_cons,List.map_nil,ZC.val,jc];exact rfl)|exact rfl)
 (hdd:o.dst=d:=by conv=>lhs;whnf) (hd:d.all (Nat.blt · n)=true:=by exact rfl):OpOk Tryz.prog n o s (s.put d (.agg (cl f xs))):=hc'▸ri te_ok ho hv ht hk he hcs rfl hdd hd
theorem bO (id:Nat) {α:Type} (f:α→List AV) (xs:List α) (vals:List (Nat×AV)) {t e:TypeId} {m:Nat} {parts:Array (Nat×Operand)} {ti tj:TI} {cs:List AV} (ho:o.op=.buildSlice t m parts:=by exact rfl)
 (hv:EvL s parts.toList vals:=by repeat' (first|exact trivial|refine ⟨rfl,?_,?_⟩|(conv=>lhs;whnf))) (ht:te.get t=some ti:=by exact rfl) (hk:ti.k=.slice e:=by exact rfl) (he:te.get e=some tj:=by exact rfl)
 (hid:s.h id=none:=by exact rfl) (hcs:eo (j7 tj.size) (jc tj.zero m) vals=some cs:=by exact rfl)
 (hc':cs=cl f xs:=by first|(simp only [List.take_succ_cons,List.take_zero,List.drop_succ_cons,List.drop_zero,List.drop_nil,List.take_nil,List.nil_append,List.cons_append,List.append_nil,List.map_cons,List.map_nil,ZC.val,jc];exact rfl)|exact rfl)
 (hz:Nat.beq tj.zero.length tj.size=true:=by exact rfl) (hsm:Nat.ble (m*tj.size) 1000=true:=by exact rfl) (hm:m=xs.length:=by exact rfl)
 (hdd:o.dst=d:=by conv=>lhs;whnf) (hd:d.all (Nat.blt · n)=true:=by exact rfl):OpOk Tryz.prog n o s ((s.seth id (some (.row (cl f xs) tj.size 0))).put d (.sl id 0 0 xs.length tj.size)):=by
 subst hm;exact qn te_ok ho hv ht hk he hid hcs hc' hz hsm hdd hd
theorem ca (fv cv:List AV) {f:Fn} {first caps:Array Operand} (ho:o.op=.makeFunc f first caps:=by exact rfl) (h1:EvA s first.toList fv:=by repeat' (first|exact trivial|refine ⟨?_,?_⟩|(conv=>lhs;whnf)))
 (h2:EvA s caps.toList cv:=by repeat' (first|exact trivial|refine ⟨?_,?_⟩|(conv=>lhs;whnf))) (hdd:o.dst=d:=by conv=>lhs;whnf) (hd:d.all (Nat.blt · n)=true:=by exact rfl) :
 OpOk Tryz.prog n o s (s.put d (.fn f fv cv)):=um ho h1 h2 hdd hd
theorem Gm {ty:Array TypeId} {x y:Operand} {a b:Int} {k:IntKind} (ho:o.op=.call { callee:=.builtin .min,args:=#[x,y],argTypes:=ty }:=by exact rfl) (hx:s.ev x=.v (.int k a):=by exact rfl) (hy:s.ev y=.v (.int k b):=by exact rfl)
 (hdd:o.dst=d:=by conv=>lhs;whnf) (hd:d.all (Nat.blt · n)=true:=by exact rfl):OpOk Tryz.prog n o s (s.put d (.v (.int k (min a b)))):=Ew ty ho hx hy hdd hd
theorem Dt {ty:Array TypeId} {x y:Operand} {a b:Int} {k:IntKind} (ho:o.op=.call { callee:=.builtin .max,args:=#[x,y],argTypes:=ty }:=by exact rfl) (hx:s.ev x=.v (.int k a):=by exact rfl) (hy:s.ev y=.v (.int k b):=by exact rfl)
 (hdd:o.dst=d:=by conv=>lhs;whnf) (hd:d.all (Nat.blt · n)=true:=by exact rfl):OpOk Tryz.prog n o s (s.put d (.v (.int k (max a b)))):=Ex ty ho hx hy hdd hd
def Ag (s:AS):Option Operand→Int→Prop
 | none,i=>i=0
 | some x,i=>∃ k,s.ev x=.v (.int k i)
def uI (s:AS) (m:Nat):Option Operand→Int→Prop
 | none,j=>j=m
 | some x,j=>∃ k,s.ev x=.v (.int k j)
inductive SlTo (i j:Nat) (e:Nat):Option Operand→Option Operand→AV→AV→Prop
 | fz_all {α:Type} {lv} {f:α→List AV} {l:List α} (hf:∀ x,(f x).length=e):SlTo i j e none none (.fz lv l.length (cl f l)) (.fz lv l.length (cl f l))
 | fz_hi {x} {α:Type} {lv} {f:α→List AV} {l:List α} (hf:∀ x,(f x).length=e):SlTo i j e none (some x) (.fz lv l.length (cl f l)) (.fz lv (l.take j).length (cl f (l.take j)))
 | fz_lo {x} {α:Type} {lv} {f:α→List AV} {l:List α} (hf:∀ x,(f x).length=e):SlTo i j e (some x) none (.fz lv l.length (cl f l)) (.fz lv (l.drop i).length (cl f (l.drop i)))
 | fz {lo hi} {α:Type} {lv} {f:α→List AV} {l:List α} (hf:∀ x,(f x).length=e):SlTo i j e lo hi (.fz lv l.length (cl f l)) (.fz lv ((l.take j).drop i).length (cl f ((l.take j).drop i)))
 | sl_all {id ver off len}:SlTo i j e none none (.sl id ver off len e) (.sl id ver off len e)
 | sl_hi {x} {id ver off len}:SlTo i j e none (some x) (.sl id ver off len e) (.sl id ver off j e)
 | sl_lo {x} {id ver off len}:SlTo i j e (some x) none (.sl id ver off len e) (.sl id ver (off+i*e) (len-i) e)
 | sl {lo hi} {id ver off len}:SlTo i j e lo hi (.sl id ver off len e) (.sl id ver (off+i*e) (j-i) e)
inductive SlBase (i j:Nat) (e:Nat):AV→AV→Prop
 | fz {α:Type} {lv} {f:α→List AV} {l:List α} (hf:∀ x,(f x).length=e):SlBase i j e (.fz lv l.length (cl f l)) (.fz lv ((l.take j).drop i).length (cl f ((l.take j).drop i)))
 | sl {id ver off len}:SlBase i j e (.sl id ver off len e) (.sl id ver (off+i*e) (j-i) e)
theorem SlTo.base {i j e:Nat} {lo hi:Option Operand} {a z:AV} {m:Nat} (h:SlTo i j e lo hi a z) (hm:a.len?=some m) (h1:lo=none→i=0) (h2:hi=none→j=m):SlBase i j e a z:=by
 cases h with
 | @fz_all α lv f l hf=>
  simp only [AV.len?,Option.some.injEq] at hm;obtain rfl:=h1 rfl;obtain rfl:=(h2 rfl).trans hm.symm;have:=SlBase.fz (i:=0) (j:=l.length) (lv:=lv) (l:=l) hf
  simpa using this
 | @fz_hi x α lv f l hf=>
  obtain rfl:=h1 rfl;have:=SlBase.fz (i:=0) (j:=j) (lv:=lv) (l:=l) hf
  simpa using this
 | @fz_lo x α lv f l hf=>
  simp only [AV.len?,Option.some.injEq] at hm;obtain rfl:=(h2 rfl).trans hm.symm;have:=SlBase.fz (i:=i) (j:=l.length) (lv:=lv) (l:=l) hf
  simpa using this
 | fz hf=>exact .fz hf
 | @sl_all id ver off len=>
  simp only [AV.len?,Option.some.injEq] at hm;obtain rfl:=h1 rfl;obtain rfl:=(h2 rfl).trans hm.symm;have:=SlBase.sl (i:=0) (j:=j) (e:=e) (id:=id) (ver:=ver) (off:=off) (len:=j)
  simpa using this
 | @sl_hi x id ver off len=>
  obtain rfl:=h1 rfl;have:=SlBase.sl (i:=0) (j:=j) (e:=e) (id:=id) (ver:=ver) (off:=off) (len:=len)
  simpa using this
 | @sl_lo x id ver off len=>
  simp only [AV.len?,Option.some.injEq] at hm;obtain rfl:=(h2 rfl).trans hm.symm;exact .sl
 | sl=>exact .sl
theorem BN {t e:TypeId} {x:Operand} {lo hi mx:Option Operand} {a z:AV} {m:Nat} {i j:Int} {ti tj:TI} (ho:o.op=.slice t x lo hi mx:=by exact rfl) (hx:s.ev x=a:=by conv=>lhs;whnf)
 (ht:te.get t=some ti:=by exact rfl) (hk:ti.k=.slice e:=by exact rfl) (he:te.get e=some tj:=by exact rfl) (hm:a.len?=some m:=by exact rfl) (hl:Ag s lo i:=by first|exact ⟨_,rfl⟩|exact rfl) (hh:uI s m hi j:=by first|exact ⟨_,rfl⟩|exact rfl)
 (h0:0≤i:=by first|omega|decide|(simp;omega)) (h1:i≤j:=by first|omega|decide|(simp;omega)) (h2:j≤m:=by first|omega|decide|(simp;omega))
 (hp:0<tj.size:=by exact Nat.le_of_ble_eq_true rfl) (hz:SlTo i.toNat j.toNat tj.size lo hi a z:=by first|exact .fz_all (fun _=>rfl)|exact .fz_hi (fun _=>rfl)|exact .fz_lo (fun _=>rfl)|exact .fz (fun _=>rfl)|exact .sl_all|exact .sl_hi|exact .sl_lo|exact .sl) (hmx:mx=none∨(mx=hi∧mx.isSome=true∧∃ lv k c,a=.fz lv k c):=by first|exact .inl rfl|exact .inr ⟨rfl,rfl,_,_,_,rfl⟩)
 (hob:(match a with|.sl id ver _ _ _=>∃ ob cells,s.h id=some ob∧ObAt ob ver cells|_=>True):=by first|exact trivial|exact ⟨_,_,rfl,.row⟩|exact ⟨_,_,rfl,.box⟩)
 (hdd:o.dst=d:=by conv=>lhs;whnf) (hd:d.all (Nat.blt · n)=true:=by exact rfl):OpOk Tryz.prog n o s (s.put d z):=by
 have b1:Bnd s hi m j.toNat:=by
  cases hi with
  | none=>simp only [uI] at hh;subst hh;exact Int.toNat_natCast m
  | some x=>obtain ⟨k,hh⟩:=hh;exact ⟨k,j,hh,by omega,rfl⟩
 have b2:Bnd s lo 0 i.toNat:=by
  cases lo with
  | none=>simp only [Ag] at hl;subst hl;rfl
  | some x=>obtain ⟨k,hl⟩:=hl;exact ⟨k,i,hl,h0,rfl⟩
 have hz:=hz.base hm (fun h=>by subst h;simp only [Ag] at hl;omega) (fun h=>by subst h;simp only [uI] at hh;omega);cases hz with
 | @fz α lv f l hf=>
  simp only [AV.len?,Option.some.injEq] at hm;subst hm;have e1:((l.take j.toNat).drop i.toNat).length=j.toNat-i.toNat:=by
   rw [List.length_drop,List.length_take,Nat.min_eq_left (by omega)]
  rw [e1];refine ul te_ok ho hx ht hk he ?_ b1 b2 (by omega) (by omega) (bJ hf l) ?_ hp hdd hd
  · rcases hmx with h|⟨h,h3,_⟩
    · exact .inl h
    · exact .inr ⟨h,h3⟩
  · rw [nl hf,pH hf,List.take_drop]
    congr 3;omega
 | sl=>
  simp only [AV.len?,Option.some.injEq] at hm;subst hm;obtain ⟨ob,cells,hob,hat⟩:=hob;rcases hmx with h|⟨_,_,_,_,_,h⟩
  · subst h
    exact uk te_ok ho hx ht hk he rfl b1 b2 (by omega) (by omega) hob hat.at hdd hd
  · cases h
theorem Dr {t e:TypeId} {x:Operand} {lo hi:Option Operand} {id ver po len:Nat} {i j:Int} {ob:AObj} {cells:List AV} {ti tj:TI} (ho:o.op=.slice t x lo hi none:=by exact rfl) (hx:s.ev x=.ptr id ver po:=by exact rfl)
 (ht:te.get t=some ti:=by exact rfl) (hk:ti.k=.arr len e:=by exact rfl) (he:te.get e=some tj:=by exact rfl) (hl:Ag s lo i:=by first|exact ⟨_,rfl⟩|exact rfl) (hh:uI s len hi j:=by first|exact ⟨_,rfl⟩|exact rfl)
 (h0:0≤i:=by first|omega|decide|(simp;omega)) (h1:i≤j:=by first|omega|decide|(simp;omega)) (h2:j≤len:=by first|omega|decide|(simp;omega)) (h3:i<len:=by first|omega|decide|(simp;omega))
 (hob:s.h id=some ob:=by exact rfl) (hat:ObAt ob ver cells:=by first|exact .box|exact .row) (hsz:po+len*tj.size≤cells.length:=by first|exact Nat.le_of_ble_eq_true rfl|(simp;omega)) (hp:0<cells.length:=by first|exact Nat.le_of_ble_eq_true rfl|(simp;omega))
 (hdd:o.dst=d:=by conv=>lhs;whnf) (hd:d.all (Nat.blt · n)=true:=by exact rfl):OpOk Tryz.prog n o s (s.put d (.sl id ver (po+i.toNat*tj.size) (j.toNat-i.toNat) tj.size)):=by
 have b1:Bnd s hi len j.toNat:=by
  cases hi with
  | none=>simp only [uI] at hh;subst hh;exact Int.toNat_natCast len
  | some x=>obtain ⟨k,hh⟩:=hh;exact ⟨k,j,hh,by omega,rfl⟩
 have b2:Bnd s lo 0 i.toNat:=by
  cases lo with
  | none=>simp only [Ag] at hl;subst hl;rfl
  | some x=>obtain ⟨k,hl⟩:=hl;exact ⟨k,i,hl,h0,rfl⟩
 exact sQ te_ok ho hx ht hk he b1 b2 (by omega) (by omega) (by omega) hob hat.at hsz hp hdd hd
inductive SrcTo (s:AS) (y:Operand):{α:Type}→(α→List AV)→Nat→List α→Prop
 | str {l:List UInt8} (hy:s.ev y=str l):SrcTo s y bc 1 l
 | nil {α:Type} {f:α→List AV} {e k:Nat} (hy:s.ev y=.v (.slice none 0 k)):SrcTo s y f e []
 | fz {α:Type} {f:α→List AV} {e lv:Nat} {l:List α} (hy:s.ev y=.fz lv l.length (cl f l)) (hf:∀ x,(f x).length=e):SrcTo s y f e l
 | sl {α:Type} {f:α→List AV} {e id ver:Nat} {l:List α} {ob:AObj} (hy:s.ev y=.sl id ver 0 l.length e) (hob:s.h id=some ob) (hat:ObAt ob ver (cl f l)) (hf:∀ x,(f x).length=e):SrcTo s y f e l
theorem SrcTo.src {y:Operand} {α:Type} {f:α→List AV} {e:Nat} {m:List α} (h:SrcTo s y f e m):Src Tryz.prog n s y e m.length (cl f m):=by
 cases h with
 | str hy=>exact By hy (kT _).symm
 | nil hy=>exact Bz hy
 | fz hy hf=>exact E8 hy (bJ hf _)
 | sl hy hob hat hf=>exact zj hy hob hat.at (by rw [List.drop_zero,List.take_of_length_le (by rw [bJ hf];omega)]) (bJ hf _)
theorem gY {t t2 e:TypeId} {x y:Operand} {id ver esz bt:Nat} {ty:Option TypeId} {α:Type} {f:α→List AV} {l m:List α} {ti tj tk:TI} (ho:o.op=.call { callee:=.builtin .append,args:=#[x,y],argTypes:=#[t,t2] }:=by exact rfl)
 (hx:s.ev x=.sl id ver 0 l.length esz:=by exact rfl) (hob:s.h id=some (.grow ty (cl f l) esz ver):=by exact rfl) (ht:te.get t=some ti:=by exact rfl) (hk:ti.k=.slice e:=by exact rfl) (he:te.get e=some tj:=by exact rfl)
 (hty:ty.getD e=e:=by exact rfl) (hesz:tj.size=esz:=by exact rfl) (hbt:tj.bytes=bt:=by conv=>lhs;whnf) (ht2:te.get t2=some tk:=by exact rfl) (hk2:(match tk.k with|.slice _|.str=>true|_=>false)=true:=by exact rfl)
 (hsrc:SrcTo s y f esz m:=by first|exact .sl rfl rfl .row (fun _=>rfl)|exact .fz rfl (fun _=>rfl)|exact .str rfl|exact .nil rfl) (hf:∀ x,(f x).length=esz:=by exact fun _=>rfl) (h1:∀ x,(f x).all AV.one=true:=by exact fun _=>rfl)
 (hb:(l.length+m.length)*bt≤140737488355328:=by first|omega|(simp;omega)) (hbp:0<bt:=by exact Nat.le_of_ble_eq_true rfl)
 (hdd:o.dst=d:=by conv=>lhs;whnf) (hd:d.all (Nat.blt · n)=true:=by exact rfl):OpOk Tryz.prog n o s ((s.seth id (some (.grow ty (cl f (l++m)) esz (ver+1)))).put d (.sl id (ver+1) 0 (l++m).length esz)):=by
 subst hesz;subst hbt;rw [List.length_append,oh];have hle:l.length+m.length≤(l.length+m.length)*tj.bytes:=Nat.le_mul_of_pos_right _ hbp;exact ji te_ok hty ho hx hob (by rw [Nat.zero_add,bJ hf]) ht hk he rfl ht2 hk2 hsrc.src (wr h1) (by rw [List.drop_zero]) hb (by omega) hdd hd
theorem Em (a:Nat) {t t2 e:TypeId} {x y:Operand} {id ver off len:Nat} {ty:Option TypeId} {α:Type} {f:α→List AV} {l m:List α} {esz bt:Nat} {ti tj tk:TI} (ho:o.op=.call { callee:=.builtin .append,args:=#[x,y],argTypes:=#[t,t2] }:=by exact rfl)
 (hx:s.ev x=.sl id ver off len esz:=by exact rfl) (hob:s.h id=some (.grow ty (cl f l) esz ver):=by exact rfl) (ha:off=a*esz:=by first|exact rfl|omega|(simp;done)) (hle:a≤l.length:=by omega) (hlen:len=l.length-a:=by first|exact rfl|omega|(simp;omega))
 (ht:te.get t=some ti:=by exact rfl) (hk:ti.k=.slice e:=by exact rfl) (he:te.get e=some tj:=by exact rfl)
 (hty:ty.getD e=e:=by exact rfl) (hesz:tj.size=esz:=by exact rfl) (hbt:tj.bytes=bt:=by conv=>lhs;whnf) (ht2:te.get t2=some tk:=by exact rfl) (hk2:(match tk.k with|.slice _|.str=>true|_=>false)=true:=by exact rfl)
 (hsrc:SrcTo s y f esz m:=by first|exact .sl rfl rfl .row (fun _=>rfl)|exact .fz rfl (fun _=>rfl)|exact .str rfl|exact .nil rfl) (hf:∀ x,(f x).length=esz:=by exact fun _=>rfl) (h1:∀ x,(f x).all AV.one=true:=by exact fun _=>rfl)
 (hb:(l.length-a+m.length)*bt≤140737488355328:=by first|omega|(simp;omega)) (hbp:0<bt:=by exact Nat.le_of_ble_eq_true rfl)
 (hdd:o.dst=d:=by conv=>lhs;whnf) (hd:d.all (Nat.blt · n)=true:=by exact rfl):OpOk Tryz.prog n o s ((s.seth id (some (.grow ty (cl f (l.drop a++m)) esz (ver+1)))).put d (.sl id (ver+1) 0 (l.drop a++m).length esz)):=by
 subst hesz;subst hbt;subst ha;subst hlen;rw [List.length_append,oh,List.length_drop];have hle2:l.length-a+m.length≤(l.length-a+m.length)*tj.bytes:=Nat.le_mul_of_pos_right _ hbp;exact ji te_ok hty ho hx hob (by rw [← Nat.add_mul,bJ hf];congr 1;omega) ht hk he rfl ht2 hk2 hsrc.src (wr h1) (by rw [nl hf]) hb (by omega) hdd hd
end
mutual
theorem AV.refs_mono {S S':Nat→Bool} (h:∀ i,S i=true→S' i=true):∀ {x:AV},x.refs S=true→x.refs S'=true
 | .v _,_|.any,_|.bl,_|.fz ..,_|.fp ..,_=>rfl
 | .ptr ..,h1|.sl ..,h1|.mp ..,h1|.dp ..,h1=>by
  simp only [AV.refs] at h1 ⊢;exact h _ h1
 | .agg cs,h1|.tup cs,h1=>by
  simp only [AV.refs] at h1 ⊢;exact AV.refss_mono h h1
 | .fn _ a b,h1=>by
  simp only [AV.refs,Bool.and_eq_true] at h1 ⊢;exact ⟨AV.refss_mono h h1.1,AV.refss_mono h h1.2⟩
 | .ifc _ x,h1=>by
  simp only [AV.refs] at h1 ⊢;exact AV.refs_mono h h1
 | .p _ x,h1=>by
  simp only [AV.refs] at h1 ⊢;exact AV.refs_mono h h1
theorem AV.refss_mono {S S':Nat→Bool} (h:∀ i,S i=true→S' i=true):∀ {x:List AV},AV.refss S x=true→AV.refss S' x=true
 | [],_=>rfl
 | c::cs,h1=>by
  simp only [AV.refss,Bool.and_eq_true] at h1 ⊢;exact ⟨AV.refs_mono h h1.1,AV.refss_mono h h1.2⟩
end
theorem ObjIn.mono {S S':Nat→Bool} (h:∀ i,S i=true→S' i=true) {ob:AObj} (k:ObjIn S ob):ObjIn S' ob:=by
 cases ob with
 | gbox ty c=>exact AV.refss_mono h k
 | grow ty c e v=>exact AV.refss_mono h k
 | map es=>exact fun p hp=>AV.refs_mono h (k p hp)
theorem l6 {S:Nat→Bool} {cs:List AV} (h:∀ (j:Nat) c,cs[j]?=some c→c.refs S=true):AV.refss S cs=true:=AV.refss_iff.2 fun c hc=>by
 obtain ⟨j,hj⟩:=List.getElem?_of_mem hc;exact h j c hj
theorem Rep.refs_dom {w:World} {φ:aD} {Λ:aW} {x:AV} {v:Value} (h:Rep w φ Λ x v):x.refs (fun id=>(φ id).isSome)=true:=by
 induction h with
 | v=>rfl
 | any=>rfl
 | bl=>rfl
 | fz0=>rfl
 | fz=>rfl
 | fp=>rfl
 | agg vf h1 h2 h3 ih=>exact l6 ih
 | tup vf h1 h2 h3 ih=>exact l6 ih
 | fn vf wf h1 h2 h3 h4 h5 h6 ih1 ih2=>
  simp only [AV.refs,Bool.and_eq_true];exact ⟨l6 ih1,l6 ih2⟩
 | ifc h ih=>simpa only [AV.refs] using ih
 | p a b h ih=>simpa only [AV.refs] using ih
 | ptr h=>simp only [AV.refs,h,Option.isSome_some]
 | ptrx h=>simp only [AV.refs,h,Option.isSome_some]
 | sl h=>simp only [AV.refs,h,Option.isSome_some]
 | sl0 h=>simp only [AV.refs,h,Option.isSome_some]
 | slx h=>simp only [AV.refs,h,Option.isSome_some]
 | mp h=>simp only [AV.refs,h,Option.isSome_some]
 | mpx h=>simp only [AV.refs,h,Option.isSome_some]
 | dp h=>simp only [AV.refs,h,Option.isSome_some]
 | dp0 h=>simp only [AV.refs,h,Option.isSome_some]
 | dpx h=>simp only [AV.refs,h,Option.isSome_some]
def qA (h:aX) (id:Nat):Bool:=(h id).isSome
def Dom (s:AS):Prop:=(∀ i,(s.t i).refs (qA s.h)=true)∧∀ k ob,s.h k=some ob→ObjIn (qA s.h) ob
theorem HSim.has {w:World} {φ:aD} {Λ:aW} {h:aX} (hs:HSim w φ Λ h) {id:Nat} (hk:(φ id).isSome=true):qA h id=true:=by
 cases he:h id with
 | none=>rw [hs.dom id he] at hk;cases hk
 | some ob=>simp [qA,he]
theorem Sim.dom {n:Nat} {w:World} {φ:aD} {Λ:aW} {s:AS} {a:Act} (hs:Sim n w φ Λ s a):Dom s:=by
 have hcell:∀ {arr:Array Value} {o:Nat} {cells:List AV},CellsRep w φ Λ arr o cells→AV.refss (qA s.h) cells=true:=fun {arr o cells} h=>AV.refss_iff.2 fun c hc=>by
  obtain ⟨j,hj⟩:=List.getElem?_of_mem hc;obtain ⟨v,_,h2⟩:=h j c hj;exact AV.refs_mono (fun i=>hs.hs.has) h2.refs_dom
 refine ⟨fun i=>AV.refs_mono (fun i=>hs.hs.has) (hs.tmps i).refs_dom,fun k ob hk=>?_⟩;obtain ⟨l,_,ho⟩:=hs.hs.heap k ob hk;cases ob with
 | gbox ty c=>
  obtain ⟨b,arr,T,_,_,_,_,h⟩:=ho;exact hcell h
 | grow ty c e v=>
  obtain ⟨_,h|⟨b,o,arr,T,lo,hi,_,_,_,_,h⟩⟩:=ho
  · rw [h.2];rfl
  · exact hcell h
 | map es=>
  obtain ⟨b,ents,clock,_,_,_,_,h⟩:=ho;intro p hp;obtain ⟨j,hj⟩:=List.getElem?_of_mem hp;obtain ⟨e,_,_,h2⟩:=h j p hj;exact AV.refs_mono (fun i=>hs.hs.has) h2.refs_dom
theorem AWp.dom {P:Program} {n:Nat} {c:Code} {Q:bC} {s:AS} (h:Dom s→AWp P n c Q s):AWp P n c Q s:=fun Λ w φ a hs=>h hs.dom Λ w φ a hs
def p8:List Nat→Nat→Bool
 | [],_=>false
 | k::r,i=>bif Nat.beq i k then true else p8 r i
def jF (K:List Nat):List (Nat×AV)→(Nat→AV)→Nat→AV
 | [],f,i=>bif p8 K i then .any else f i
 | (k,x)::r,f,i=>bif Nat.beq i k then x else jF K r f i
def ke:List (Nat×AObj)→aX→aX
 | [],h,i=>h i
 | (k,x)::r,h,i=>bif Nat.beq i k then some x else ke r h i
def AS.over (s:AS) (K:List Nat) (T:List (Nat×AV)) (H:List (Nat×AObj)):AS:=⟨jF K T s.t,ke H s.h⟩
def keep (H:List (Nat×AObj)) (h:aX) (id:Nat):Bool:=dS H id || qA h id
def AgT (K:List Nat) (f g:Nat→AV):Prop:=∀ i,p8 K i=false→f i=g i
def AgH (H:List (Nat×AObj)) (h h0:aX):Prop:=∀ k,dS H k=false→qA h0 k=true→h k=h0 k
theorem oI {K:List Nat} {f:Nat→AV} {s:AS} {S:Nat→Bool}:∀ {T:List (Nat×AV)},HasT s S T→∀ i,(jF K T f i=.any)∨(jF K T f i=f i∧p8 K i=false)∨(s.t i=jF K T f i∧(jF K T f i).refs S=true)
 | [],_,i=>by
  simp only [jF];cases p8 K i
  · exact .inr (.inl ⟨rfl,rfl⟩)
  · exact .inl rfl
 | (k,x)::r,h,i=>by
  simp only [jF];cases hb:Nat.beq i k with
  | true=>
   have:=Nat.eq_of_beq_eq_true hb;subst this;exact .inr (.inr h.1)
  | false=>exact oI h.2 i
theorem iP:∀ {H:List (Nat×AObj)} {h:aX} {i:Nat},dS H i=false→ke H h i=h i
 | [],_,_,_=>rfl
 | (k,x)::r,h,i,e=>by
  simp only [dS,Bool.or_eq_false_iff] at e;simp only [ke,e.1,cond_false];exact iP e.2
theorem ql {h1:aX} {S:Nat→Bool}:∀ {H:List (Nat×AObj)} {h:aX},HasH h1 S H→∀ {i:Nat},dS H i=true→ke H h i=h1 i∧∃ ob,ke H h i=some ob∧ObjIn S ob
 | [],_,_,i,hk=>by simp [dS] at hk
 | (k,x)::r,h,hh,i,hk=>by
  simp only [ke];cases hb:Nat.beq i k with
  | true=>
   have:=Nat.eq_of_beq_eq_true hb;subst this;exact ⟨hh.1.1.symm,x,rfl,hh.1.2⟩
  | false=>
   simp only [dS,hb,Bool.false_or] at hk;exact ql hh.2 hk
structure Back (s0 s':AS) (K:List Nat) (T:List (Nat×AV)) (H:List (Nat×AObj)):Prop where
 hT:HasT s' (keep H s0.h) T
 hH:HasH s'.h (keep H s0.h) H
 aT:AgT K s'.t s0.t
 aH:AgH H s'.h s0.h
 hp:dY s'.h (keep H s0.h)=true
theorem Back.weak {s0 s':AS} {K:List Nat} {T:List (Nat×AV)} {H:List (Nat×AObj)} (hd:Dom s0) (b:Back s0 s' K T H):Weak s' (s0.over K T H):=by
 intro n Λ w φ a hs;have hS:∀ i,qA s0.h i=true→keep H s0.h i=true:=fun i h=>by simp [keep,h]
 refine ⟨restrict (keep H s0.h) φ,⟨hs.defs,hs.size,fun i=>?_,?_⟩,lZ w _ φ fun id hi hk=>hs.hs.dom id (oH b.hp hi hk)⟩
 · show Rep w _ Λ (jF K T s0.t i) _
   rcases oI (K:=K) (f:=s0.t) b.hT i with e|⟨e,e2⟩|⟨e1,e2⟩
   · rw [e];exact .any
   · rw [e,← b.aT i e2]
     refine (hs.tmps i).restrict ?_;rw [b.aT i e2];exact AV.refs_mono hS (hd.1 i)
   · rw [← e1] at e2 ⊢
     exact (hs.tmps i).restrict e2
 · refine hs.hs.restrict (fun id hk=>?_) (fun id hk=>?_) (fun id ob hk=>?_)
   · show ke H s0.h id=s'.h id
     cases hb:dS H id with
     | true=>exact (ql b.hH hb).1
     | false=>
      simp only [keep,hb,Bool.false_or] at hk;rw [iP hb,b.aH id hb hk]
   · simp only [keep,Bool.or_eq_false_iff] at hk
     show ke H s0.h id=none;rw [iP hk.1];have:=hk.2;simp only [qA] at this
     simpa using this
   · replace hk:ke H s0.h id=some ob:=hk
     cases hb:dS H id with
     | true=>
      obtain ⟨_,ob',e1,e2⟩:=ql (h:=s0.h) b.hH hb;rw [e1] at hk;cases hk;exact e2
     | false=>
      rw [iP hb] at hk;exact ObjIn.mono hS (hd.2 id ob hk)
theorem AgT.refl (K:List Nat) (f:Nat→AV):AgT K f f:=fun _ _=>rfl
theorem AgT.put {K:List Nat} {s:AS} {g:Nat→AV} {d:Nat} {x:AV} (h:p8 K d=true) (k:AgT K s.t g):AgT K (s.put (some d) x).t g:=fun i hi=>by
 have:i≠d:=fun e=>by rw [e,h] at hi;cases hi
 show upd s.t d x i=_;rw [bf _ _ _ _ this];exact k i hi
theorem AgT.over {K K':List Nat} {T:List (Nat×AV)} {H:List (Nat×AObj)} {s:AS} {g:Nat→AV} (h1:(T.all fun p=>p8 K p.1)=true) (h2:(K'.all (p8 K))=true) (k:AgT K s.t g):AgT K (s.over K' T H).t g:=fun i hi=>by
 show jF K' T s.t i=g i;rw [← k i hi];induction T with
 | nil=>
  simp only [jF];have:p8 K' i=false:=by
   cases hb:p8 K' i with
   | false=>rfl
   | true=>
    exfalso;have:∀ {L:List Nat},p8 L i=true→i∈L:=fun {L}=>by
     induction L with
     | nil=>intro h;cases h
     | cons a r ih=>
      intro h;simp only [p8] at h;cases hc:Nat.beq i a with
      | true=>rw [Nat.eq_of_beq_eq_true hc];exact List.mem_cons_self
      | false=>rw [hc] at h;exact List.mem_cons_of_mem _ (ih h)
    have h3:=List.all_eq_true.1 h2 i (this hb);rw [h3] at hi;cases hi
  rw [this];rfl
 | cons p r ih=>
  obtain ⟨k',x⟩:=p;simp only [List.all_cons,Bool.and_eq_true] at h1;simp only [jF];have:Nat.beq i k'=false:=by
   cases hb:Nat.beq i k' with
   | false=>rfl
   | true=>rw [Nat.eq_of_beq_eq_true hb,h1.1] at hi;cases hi
  rw [this];exact ih h1.2
theorem AgH.refl (H:List (Nat×AObj)) (h:aX):AgH H h h:=fun _ _ _=>rfl
theorem AgH.put {H:List (Nat×AObj)} {s:AS} {h0:aX} {d:Option Nat} {x:AV} (k:AgH H s.h h0):AgH H (s.put d x).h h0:=by
 cases d<;>exact k
theorem AgH.seth {H:List (Nat×AObj)} {s:AS} {h0:aX} {id:Nat} {ob:Option AObj} (h:(dS H id || !(qA h0 id))=true) (k:AgH H s.h h0):AgH H (s.seth id ob).h h0:=fun i h1 h2=>by
 have:i≠id:=fun e=>by rw [e] at h1 h2;rw [h1,h2] at h;cases h
 show upd s.h id ob i=_;rw [bf _ _ _ _ this];exact k i h1 h2
theorem AgH.over {H H':List (Nat×AObj)} {K:List Nat} {T:List (Nat×AV)} {s:AS} {h0:aX} (h:(H'.all fun p=>dS H p.1 || !(qA h0 p.1))=true) (k:AgH H s.h h0):AgH H (s.over K T H').h h0:=fun i h1 h2=>by
 show ke H' s.h i=_;rw [← k i h1 h2];refine iP ?_;induction H' with
 | nil=>rfl
 | cons p r ih=>
  obtain ⟨k',x⟩:=p;simp only [List.all_cons,Bool.and_eq_true] at h;simp only [dS,Bool.or_eq_false_iff];refine ⟨?_,ih h.2⟩;cases hb:Nat.beq i k' with
  | false=>rfl
  | true=>
   have e:=Nat.eq_of_beq_eq_true hb;subst e;rw [h1,h2] at h;simp at h
theorem HasT.nil {s:AS} {S:Nat→Bool}:HasT s S []:=trivial
theorem HasT.cons {s:AS} {S:Nat→Bool} {k:Nat} {x:AV} {r:List (Nat×AV)} (h:HasT s S r) (h1:s.t k=x:=by first|exact rfl|exact ci (by omega)|exact str_eq (by simp))
 (h2:x.refs S=true:=by exact rfl):HasT s S ((k,x)::r):=⟨⟨h1,h2⟩,h⟩
theorem HasH.nil {s:aX} {S:Nat→Bool}:HasH s S []:=trivial
theorem CB {α:Type} {f:α→List AV} {l:List α} {S:Nat→Bool} (h:∀ x,AV.refss S (f x)=true):AV.refss S (cl f l)=true:=AV.refss_iff.2 (gu fun x _=>AV.refss_iff.1 (h x))
theorem HasH.cons {s:aX} {S:Nat→Bool} {k:Nat} {x:AObj} {r:List (Nat×AObj)} (h:HasH s S r) (h1:s k=some x:=by first|exact rfl)
 (h2:ObjIn S x:=by first|exact rfl|exact CB (fun _=>rfl)):HasH s S ((k,x)::r):=⟨⟨h1,h2⟩,h⟩
theorem Back.mk' {s0 s':AS} {K:List Nat} {T:List (Nat×AV)} {H:List (Nat×AObj)} (hT:HasT s' (keep H s0.h) T) (hH:HasH s'.h (keep H s0.h) H)
 (aT:AgT K s'.t s0.t:=by repeat (first|exact AgT.refl _ _|refine AgT.put rfl ?_|refine AgT.putn ?_|refine AgT.seth ?_|refine AgT.setl ?_|refine AgT.over rfl rfl ?_))
 (aH:AgH H s'.h s0.h:=by repeat (first|exact AgH.refl _ _|refine AgH.put ?_|refine AgH.seth rfl ?_|refine AgH.setl rfl ?_|refine AgH.over rfl ?_))
 (hp:dY s'.h (keep H s0.h)=true:=by exact rfl):Back s0 s' K T H:=⟨hT,hH,aT,aH,hp⟩
section
variable {P:Program} {n:Nat} {Q:bC} {s:AS} {te:TE}
theorem AWp.as {c:Code} {s':AS} (h:s=s') (k:AWp P n c Q s'):AWp P n c Q s:=h▸k
theorem AWp.loopR {α:Type} {c:Code} (K:List Nat) (T:α→List (Nat×AV)) (H:α→List (Nat×AObj)) (I:α→Prop) (μ:α→Nat) (x0:α) (hI:I x0) (h0:Back s s K (T x0) (H x0))
 (round:∀ x,I x→AWp P n c (AExit.then (fun s'=>∃ x',I x'∧Back s s' K (T x') (H x')∧μ x'<μ x) Q) (s.over K (T x) (H x))):AWp P n (.loop c) Q s:=
 .dom fun hd=>AWp.loopI (fun x=>s.over K (T x) (H x)) I μ x0 hI (h0.weak hd) fun x hx=>(round x hx).mono fun e s' q=>by
  cases e with
  | normal=>
   obtain ⟨x',h1,h2,h3⟩:=q;exact ⟨x',h1,h2.weak hd,h3⟩
  | exit id=>exact q
  | goto l=>exact q
  | ret=>exact q
  | panic x=>exact q
theorem AWp.cutR {α:Type} {x y:Code} (K:List Nat) (T:α→List (Nat×AV)) (H:α→List (Nat×AObj)) (I:α→Prop) (h1:AWp P n x (AExit.then (fun s'=>∃ a,I a∧Back s s' K (T a) (H a)) Q) s)
 (h2:∀ a,I a→AWp P n y Q (s.over K (T a) (H a))):AWp P n (.seq x y) Q s:=
 .dom fun hd=>AWp.cutI (fun a=>s.over K (T a) (H a)) I (h1.mono fun e s' q=>by
  cases e with
  | normal=>
   obtain ⟨a,h1,h2⟩:=q;exact ⟨a,h1,h2.weak hd⟩
  | exit id=>exact q
  | goto l=>exact q
  | ret=>exact q
  | panic x=>exact q) h2
end
section
variable {h:aX} {lo hi:Nat}
theorem pA {id ver esz:Nat} {α:Type} {f:α→List AV} {l:List α} {ob:AObj} (h1:h id=some ob) (h2:ObAt ob ver (cl f l)) (hf:∀ x,(f x).length=esz) (h5:0<esz) (h3:∀ x,AV.oks lo (f x)=true) :
 lP h lo hi (.sl id ver 0 l.length esz) (.fz hi l.length (cl f l)):=
 wl h1 h2.at (mu h3) (by rw [bJ hf];omega) h5 (by rw [List.drop_zero,List.take_of_length_le (by rw [bJ hf];omega)])
theorem jp {id ver off:Nat} {ob:AObj} {cells cs:List AV} (h1:h id=some ob) (h2:ObAt ob ver cells) (h3:AV.oks lo cells=true) (h4:Nat.ble (off+1) cells.length=true) (h6:cells.drop off=cs):lP h lo hi (.ptr id ver off) (.fp hi cs):=
 EO h1 h2.at h3 (Nat.le_of_ble_eq_true h4) h6
theorem dG {a b:AV} (hab:a=b) (e:b.ok lo=true):lP h lo hi a b:=by
 subst hab;exact km e
theorem fG {a b:Nat} (h:a≤b):Nat.ble a b=true:=Nat.ble_eq_true_of_le h
theorem xk {id ver a m:Nat} {α:Type} {f:α→List AV} {l:List α} {ob:AObj} (h1:h id=some ob) (h2:ObAt ob ver (cl f l)) (hf:∀ x,(f x).length=1) (h3:∀ x,AV.oks lo (f x)=true) (hm:a+m≤l.length) :
 lP h lo hi (.sl id ver a m 1) (.fz hi ((l.drop a).take m).length (cl f ((l.drop a).take m))):=by
 have e:((l.drop a).take m).length=m:=by simp;omega
 rw [e];refine wl h1 h2.at (mu h3) (by rw [bJ hf];omega) (by decide) ?_;have e1:=nl hf l a;have e2:=pH hf (l.drop a) m;rw [Nat.mul_one] at e1 e2 ⊢;rw [e1,e2]
end
section
variable {n:Nat} {s:AS} {o:Oper} {d:Option Tmp} {Q:bC}
theorem mM {t:Tmp} {x:AV} (h:s.t t=x:=by conv=>lhs;whnf):xN te s (.tmp t) x:=h
theorem kZ {a:Tmp} {ty:TypeId} {x y:AV} {cs:List AV} {ti:TI} (hx:s.t a=y:=by conv=>lhs;whnf) (ht:te.get ty=some ti:=by exact rfl) (hp:0<ti.size:=by exact Nat.le_of_ble_eq_true rfl) (hz:LoadTo s ti.size y cs:=by first|exact .ptr rfl .box rfl)
 (hptr:(match y with|.ptr ..=>true|_=>false)=true:=by exact rfl) (hy:jM ti.k.agg cs=x:=by conv=>lhs;whnf):xN te s (.cell a ty) x:=by
 cases hz with
 | fp h=>cases hptr
 | ptr hob hat h=>exact ⟨_,_,_,_,_,_,hx,hob,hat.at,ht,h,hp,hy⟩
 | el hob hat hf hj=>
  have e:=m6 hf hj;exact ⟨_,_,_,_,_,_,hx,hob,hat.at,ht,by rw [e];exact hf _,hp,by rw [e];exact hy⟩
 | @el1 α _ id ver j ob f l hsz hob hat hf hj=>
  have e:=m6 (i:=j) hf hj;rw [Nat.mul_one,← hsz] at e;exact ⟨_,_,_,_,_,_,hx,hob,hat.at,ht,by rw [e,hsz];exact hf _,hp,by rw [e];exact hy⟩
theorem aj (lv:Nat) {f:FuncId} {A:List AV} {r:AV} {fop:Operand} {argops:Array Operand} {tys:Array TypeId} {first caps:List AV}
 (ho:o.op=.call { callee:=.value fop,args:=argops,argTypes:=tys }:=by exact rfl) (hf:s.ev fop=.fn (.func f) first caps:=by exact rfl)
 (hA:FVals s.h lv (lv+1) (first++argops.toList.map s.ev++caps) A:=by repeat' (first|exact trivial|refine ⟨?_,?_⟩|exact km rfl|exact fv_nilz|exact pA rfl .row (fun _=>rfl) (Nat.le_of_ble_eq_true rfl) (fun _=>rfl)|exact fv_rowe rfl .row (fun _=>rfl) (Nat.le_of_ble_eq_true rfl) (fun _=>rfl) (by simp only [List.length_set];done)|exact xk rfl .row (fun _=>rfl) (fun _=>rfl) (by first|omega|(simp;omega))|exact jp rfl .box rfl rfl rfl|refine xm ?_ ?_|exact dG rfl (fG (by omega))|(refine dG rfl ?_;simp [AV.ok,AV.oks];done)))
 (hr:r.ok lv=true:=by first|exact rfl|exact fG (by omega)|(simp [AV.ok,AV.oks];done)) (hdd:o.dst=d:=by conv=>lhs;whnf) (hd:d.all (Nat.blt · n)=true:=by exact rfl) (hc:AC Tryz.prog f A emp (Ret r)):OpOk Tryz.prog n o s (s.put d r):=BY lv ho hf hc hA hr hdd hd
theorem ak (lv:Nat) (xs ys:List AV) {fn:Func} {r:AV} (h3:bX ys=r) (h1:iK te s fn.results.toList xs:=by repeat' (first|exact trivial|exact mM|exact kZ|refine ⟨?_,?_⟩))
 (h2:FVals s.h lv lv xs ys:=by repeat' (first|exact trivial|refine ⟨?_,?_⟩|exact km rfl|exact fv_nilz|exact pA rfl .row (fun _=>rfl) (Nat.le_of_ble_eq_true rfl) (fun _=>rfl)|exact fv_rowe rfl .row (fun _=>rfl) (Nat.le_of_ble_eq_true rfl) (fun _=>rfl) (by simp only [List.length_set];done)|exact xk rfl .row (fun _=>rfl) (fun _=>rfl) (by first|omega|(simp;omega))|exact jp rfl .box rfl rfl rfl|refine xm ?_ ?_|exact dG rfl (fG (by omega))|(refine dG rfl ?_;simp [AV.ok,AV.oks];done)))
 (hp:mS s.h=true:=by exact rfl):Fin te fn (Ret r) s:=Fin.ret2 lv h1 h2 h3 hp
end
open Go.RowKit Go.ChangeShapes Go.WideShapes
def fw (te:TE):Nat→List (Nat×TypeId)→Nat→Bool
 | o,[],z=>Nat.beq o z
 | o,(o',t)::r,z=>Nat.beq o o'&&match te.get t with|some j=>fw te (o+j.size) r z|none=>false
def bS (te:TE):Nat→TypeId→Bool
 | 0,_=>false
 | d+1,t=>match te.get t with
  | none=>false
  | some i=>match i.k with
   | .int _|.bool|.str=>true
   | .slice e=>bS te d e&&(match te.get e with|some j=>Nat.blt 0 j.size|none=>false)
   | .arr m e=>bS te d e&&(match te.get e with|some j=>Nat.blt 0 j.size&&Nat.beq i.size (m*j.size)|none=>false)
   | .struct fs=>fw te 0 fs i.size&&fs.all (fun p=>bS te d p.2)
   | _=>false
def oO (H:TypeId→List AV→Prop):List (Nat×TypeId)→List AV→Prop
 | [],cs=>cs=[]
 | (_,t)::r,cs=>∃ a b,cs=a++b∧H t a∧oO H r b
def Has (te:TE):Nat→TypeId→List AV→Prop
 | 0,_,_=>False
 | d+1,t,cs=>match te.get t with
  | none=>False
  | some i=>match i.k with
   | .bool=>∃ b,cs=[tf b]
   | .int k=>∃ n:Int,(Lit.int k n).wf=true∧cs=[.v (.int k n)]
   | .str=>∃ l:List UInt8,l.length≤reachBytes∧cs=[str l]
   | .slice e=>∃ es:List (List AV),(∀ c∈es,Has te d e c)∧(∀ j,te.get e=some j→es.length*j.bytes≤reachBytes)∧cs=[.fz 0 es.length es.flatten]
   | .arr m e=>∃ es:List (List AV),es.length=m∧(∀ c∈es,Has te d e c)∧cs=es.flatten
   | .struct fs=>oO (Has te d) fs cs
   | _=>False
section
variable {P:Program} {te:TE} {w:World} {H:Type} {enc:TypeId×Value→H} {held:Bool}
theorem Tells.cells {t:TypeId} {i:TI} (h:Tells P t i):P.cellsOf t=i.size∧P.bytesOf t=i.bytes:=by
 obtain ⟨f,z,h1,h2,h3,_⟩:=h.info;exact ⟨by simp [Program.cellsOf,h1,h2],by simp [Program.bytesOf,h1,h3]⟩
end
open Go.RowKit Go.ChangeShapes Go.WideShapes
section
variable {P:Program} {te:TE} {w:World} {H:Type} {enc:TypeId×Value→H}
end
section
variable {te:TE}
theorem has_u8 {d:Nat} {t:TypeId} {i:TI} {cs:List AV} (h:Has te d t cs) (hg:te.get t=some i) (hk:i.k=.int .u8):∃ b:UInt8,cs=[u8 b.toNat]:=by
 cases d with
 | zero=>simp [Has] at h
 | succ d=>
  simp only [Has,hg,hk] at h;obtain ⟨n,h1,rfl⟩:=h;have h2:(0:Int)≤n∧n≤255:=by
   simp only [Lit.wf,Bool.and_eq_true,decide_eq_true_eq] at h1;have e1:IntKind.u8.min=0:=by decide
   have e2:IntKind.u8.max=255:=by decide
   omega
  refine ⟨ct n,?_⟩;rw [bV,Int.emod_eq_of_lt h2.1 (by omega)]
theorem has_int {d:Nat} {t:TypeId} {i:TI} {cs:List AV} (h:Has te d t cs) (hg:te.get t=some i) (hk:i.k=.int .i64):∃ n:Int,cs=[i64 n]∧-9223372036854775808≤n∧n≤9223372036854775807:=by
 cases d with
 | zero=>simp [Has] at h
 | succ d=>
  simp only [Has,hg,hk] at h;obtain ⟨n,h1,rfl⟩:=h;simp only [Lit.wf,Bool.and_eq_true,decide_eq_true_eq] at h1;have e1:IntKind.i64.min=-9223372036854775808:=by decide
  have e2:IntKind.i64.max=9223372036854775807:=by decide
  exact ⟨n,rfl,by omega,by omega⟩
theorem has_bool {d:Nat} {t:TypeId} {i:TI} {cs:List AV} (h:Has te d t cs) (hg:te.get t=some i) (hk:i.k=.bool):∃ b:Bool,cs=[tf b]:=by
 cases d with
 | zero=>simp [Has] at h
 | succ d=>simpa only [Has,hg,hk] using h
theorem t5 {d:Nat} {t:TypeId} {i:TI} {cs:List AV} (h:Has te d t cs) (hg:te.get t=some i) (hk:i.k=.str):∃ l:List UInt8,cs=[str l]∧l.length≤140737488351232:=by
 cases d with
 | zero=>simp [Has] at h
 | succ d=>
  simp only [Has,hg,hk] at h;obtain ⟨l,h1,h2⟩:=h;exact ⟨l,h2,h1⟩
theorem choose_eq {α:Type} {f:α→List AV} {q:α→Prop}:∀ {es:List (List AV)},(∀ c∈es,∃ a,c=f a∧q a)→∃ l:List α,es=l.map f∧∀ a∈l,q a
 | [],_=>⟨[],rfl,fun a h=>by simp at h⟩
 | c::es,h=>by
  obtain ⟨a,rfl,ha⟩:=h c List.mem_cons_self;obtain ⟨l,h1,h2⟩:=choose_eq fun x hx=>h x (List.mem_cons_of_mem _ hx)
  refine ⟨a::l,by rw [h1];rfl,fun x hx=>?_⟩;rcases List.mem_cons.1 hx with rfl|hx
  · exact ha
  · exact h2 x hx
theorem has_slice {α:Type} {f:α→List AV} {q:α→Prop} {d:Nat} {t e:TypeId} {i j:TI} {cs:List AV} (h:Has te (d+1) t cs) (hg:te.get t=some i) (hk:i.k=.slice e) (he:te.get e=some j)
 (hq:∀ c,Has te d e c→∃ a,c=f a∧q a):∃ l:List α,cs=[.fz 0 l.length (l.flatMap f)]∧l.length*j.bytes≤140737488351232∧∀ a∈l,q a:=by
 simp only [Has,hg,hk] at h;obtain ⟨es,h1,h2,h3⟩:=h;obtain ⟨l,rfl,h4⟩:=choose_eq (f:=f) (q:=q) fun c hc=>hq c (h1 c hc)
 exact ⟨l,by rw [h3,List.length_map,List.flatMap_def],by have:=h2 j he;rw [List.length_map] at this;exact this,h4⟩
theorem has_bytes {d:Nat} {t e:TypeId} {i j:TI} {cs:List AV} (h:Has te (d+1) t cs) (hg:te.get t=some i) (hk:i.k=.slice e) (he:te.get e=some j) (hj:j.k=.int .u8) (hb:j.bytes=1) :
 ∃ l:List UInt8,cs=[.fz 0 l.length (cl bc l)]∧l.length≤140737488351232:=by
 obtain ⟨l,h1,h2,_⟩:=has_slice (f:=bc) (q:=fun _=>True) h hg hk he fun c hc=>by
  obtain ⟨b,hb⟩:=has_u8 hc he hj;exact ⟨b,hb,trivial⟩
 exact ⟨l,h1,by rw [hb] at h2;omega⟩
theorem has_struct {d:Nat} {t:TypeId} {i:TI} {fs:List (Nat×TypeId)} {cs:List AV} (h:Has te (d+1) t cs) (hg:te.get t=some i) (hk:i.k=.struct fs):oO (Has te d) fs cs:=by
 simpa only [Has,hg,hk] using h
end
section
variable {n:Nat} {s:AS} {o:Oper} {d:Option Tmp}
theorem pW {P:Program} {t e:TypeId} {a:Option Addr} (ht:P.underlying t=some (.pointer e)) (w:World):(Op.equal t (.pointer a) (.pointer none)).run P w=.ok a.isNone w:=by
 have h:∀ q,(Op.equalIn (q+1) t (.pointer a) (.pointer none)).run P w=.ok a.isNone w:=fun q=>by cases a<;>simp [Op.equalIn,run_underlying ht]
 exact h 9999
theorem pV {P:Program} {t e:TypeId} {a:Option Addr} {k m l:Nat} (ht:P.underlying t=some (.slice e)) (w:World):(Op.equal t (.slice a k m) (.slice none 0 l)).run P w=.ok a.isNone w:=by
 have h:∀ q,(Op.equalIn (q+1) t (.slice a k m) (.slice none 0 l)).run P w=.ok a.isNone w:=fun q=>by cases a<;>simp [Op.equalIn,run_underlying ht]
 exact h 9999
def qk:AV→Option Bool
 | .ptr ..|.fp ..=>some false
 | .v (.pointer a)=>some a.isNone
 | _=>none
theorem zv {w:World} {φ:aD} {Λ:aW} {x:AV} {v:Value} {b:Bool} (h:Rep w φ Λ x v) (hb:qk x=some b):∃ a,v=.pointer a∧a.isNone=b:=by
 cases h with
 | v=>
  cases v<;>simp [qk] at hb
  exact ⟨_,rfl,hb⟩
 | fp=>simp [qk] at hb;subst hb;exact ⟨_,rfl,rfl⟩
 | ptr=>simp [qk] at hb;subst hb;exact ⟨_,rfl,rfl⟩
 | ptrx=>simp [qk] at hb;subst hb;exact ⟨_,rfl,rfl⟩
 | _=>simp [qk] at hb
theorem zD {op:BinOp} {t u e:TypeId} {x y:Operand} {a:AV} {b r:Bool} {ti:TI} (ho:o.op=.binOp op t x y u:=by exact rfl) (hx:s.ev x=a:=by conv=>lhs;whnf) (ha:qk a=some b:=by exact rfl) (hy:s.ev y=.v (.pointer none):=by exact rfl)
 (ht:te.get t=some ti:=by exact rfl) (hk:ti.k=.ptr e:=by exact rfl) (hop:(op=.eql∧r=b)∨(op=.neq∧r=!b):=by first|exact .inl ⟨rfl,rfl⟩|exact .inr ⟨rfl,rfl⟩)
 (hdd:o.dst=d:=by conv=>lhs;whnf) (hd:d.all (Nat.blt · n)=true:=by exact rfl):OpOk Tryz.prog n o s (s.put d (tf r)):=
 .val hdd hd fun Λ w φ ac hs=>by
  have hr:=hs.ev x;rw [hx] at hr;obtain ⟨ad,e1,e2⟩:=zv hr ha;have e3:=pW (a:=ad) ((te_ok.tells ht).ptr hk) w;refine ⟨.bool r,?_,.v⟩;rcases hop with ⟨rfl,rfl⟩|⟨rfl,rfl⟩<;>simp [execOp,ho,e1,cc hs hy,eqGuard,binOp,e3,e2]
end
def gv (te:TE):Nat→TypeId→List ZC
 | 0,_=>[]
 | d+1,t=>match te.get t with
  | none=>[]
  | some i=>match i.k with
   | .int k=>[.int k]
   | .bool=>[.bool]
   | .str=>[.str]
   | .arr m e=>(List.replicate m (gv te d e)).flatten
   | .struct fs=>(fs.map fun p=>gv te d p.2).flatten
   | _=>[]
def gL (P:Program) (te:TE):Nat→TypeId→Bool
 | 0,_=>false
 | d+1,t=>match te.get t with
  | none=>false
  | some i=>(gv te (d+1) t).length == i.size&&match i.k with
   | .int _|.bool|.str=>true
   | .arr m e=>gL P te d e&&(match te.get e with|some j=>Nat.blt 0 j.size|none=>false)
   | .struct fs=>fw te 0 fs i.size&&fs.all (fun p=>gL P te d p.2)&&!P.stoodInHeld t&&(P.fieldsOf t).toList.all fun f=>decide (f.name ≠ "_")
   | _=>false
def eq1:Value→Value→Bool
 | .int _ a,.int _ b=>decide (a=b)
 | .bool a,.bool b=>a == b
 | .string a,.string b=>decide (a.data.toList=b.data.toList)
 | _,_=>false
def eqV:List Value→List Value→Bool
 | [],[]=>true
 | a::l,b::m=>eq1 a b&&eqV l m
 | _,_=>false
def kx:List ZC→List Value→Prop
 | [],[]=>True
 | .int k::zs,v::vs=>(∃ n,v=.int k n)∧kx zs vs
 | .bool::zs,v::vs=>(∃ b,v=.bool b)∧kx zs vs
 | .str::zs,v::vs=>(∃ b,v=.string b)∧kx zs vs
 | _,_=>False
theorem dw:∀ {zs:List ZC} {l:List Value},kx zs l→l.length=zs.length
 | [],[],_=>rfl
 | .int k::zs,v::vs,h=>by simp [dw h.2]
 | .bool::zs,v::vs,h=>by simp [dw h.2]
 | .str::zs,v::vs,h=>by simp [dw h.2]
 | .ptr::_,_::_,h|.slice::_,_::_,h|.map::_,_::_,h|.func::_,_::_,h|.iface::_,_::_,h=>h.elim
 | [],_::_,h=>h.elim
 | z::_,[],h=>by cases z<;>exact h.elim
theorem cM:∀ {zs ys:List ZC} {l:List Value},kx (zs++ys) l→kx zs (l.take zs.length)∧kx ys (l.drop zs.length)
 | [],ys,l,h=>by simpa [kx] using h
 | .int k::zs,ys,v::vs,h=>⟨⟨h.1,(cM h.2).1⟩,(cM h.2).2⟩
 | .bool::zs,ys,v::vs,h=>⟨⟨h.1,(cM h.2).1⟩,(cM h.2).2⟩
 | .str::zs,ys,v::vs,h=>⟨⟨h.1,(cM h.2).1⟩,(cM h.2).2⟩
 | .ptr::_,_,_::_,h|.slice::_,_,_::_,h|.map::_,_,_::_,h|.func::_,_,_::_,h|.iface::_,_,_::_,h=>h.elim
 | z::_,_,[],h=>by cases z<;>exact h.elim
theorem qI:∀ {a b c d:List Value},a.length=c.length→eqV (a++b) (c++d)=(eqV a c&&eqV b d)
 | [],b,[],d,_=>by simp [eqV]
 | x::a,b,y::c,d,h=>by
  simp only [List.cons_append,eqV];rw [qI (by simpa using h),Bool.and_assoc]
 | [],_,_::_,_,h=>by simp at h
 | _::_,_,[],_,h=>by simp at h
theorem xr {xs ys:List Value} {k:Nat} (h:xs.length=ys.length):eqV xs ys=(eqV (xs.take k) (ys.take k)&&eqV (xs.drop k) (ys.drop k)):=by
 conv=>lhs;rw [← List.take_append_drop k xs,← List.take_append_drop k ys]
 exact qI (by simp [h])
def whole (agg:Bool) (xs:List Value):Value:=bif agg then .agg xs.toArray else xs.headD undef
section
variable {P:Program} {te:TE}
theorem ig (hte:TEok P te) {t:TypeId} {i:TI} (ht:te.get t=some i) {xs:List Value} {off:Nat} (h:off+i.size≤xs.length) (hp:0<i.size∨i.k.agg=true) (w:World) :
 (part t xs.toArray off).run P w=.ok (whole i.k.agg ((xs.drop off).take i.size)) w:=by
 have h1:=(hte.tells ht).run_isAgg w;have h2:=(hte.tells ht).run_sizeOf w;unfold part;cases hk:i.k.agg with
 | true=>
  rw [hk] at h1;simp only [Sem.run_bind,h1,Result.andThen_ok,if_true,h2,Sem.run_pure,whole,cond_true];congr 2
  apply Array.ext'
  simp [List.take_drop]
 | false=>
  rw [hk] at h1;have hp:0<i.size:=by
   rcases hp with hp|hp
   · exact hp
   · rw [hk] at hp;cases hp
  have hlt:off<xs.length:=by omega
  simp only [Sem.run_bind,h1,Result.andThen_ok,Bool.false_eq_true,if_false,whole,cond_false,List.getElem?_toArray,List.getElem?_eq_getElem hlt,Sem.run_pure];congr 1;rw [List.drop_eq_getElem_cons hlt];obtain ⟨m,hm⟩:∃ m,i.size=m+1:=⟨i.size-1,by omega⟩;rw [hm];rfl
theorem jU (hte:TEok P te):∀ (d:Nat) {t:TypeId} {i:TI},te.get t=some i→gL P te d t=true→∀ (D:Nat),d≤D→∀ {xs ys:List Value},kx (gv te d t) xs→kx (gv te d t) ys→∀ w:World,
 (Op.equalIn D t (whole i.k.agg xs) (whole i.k.agg ys)).run P w=.ok (eqV xs ys) w
 | 0,_,_,_,h,_,_,_,_,_,_,_=>by cases h
 | d+1,t,i,ht,h,D,hD,xs,ys,hx,hy,w=>by
  obtain ⟨D,rfl⟩:∃ E,D=E+1:=⟨D-1,by omega⟩;simp only [gL,ht,Bool.and_eq_true,beq_iff_eq] at h;obtain ⟨hsz,h⟩:=h;have lx:=dw hx;have ly:=dw hy;simp only [gv,ht] at hx hy hsz lx ly;cases hk:i.k with
  | int k=>
   simp only [hk] at hx hy
   match xs,ys,hx,hy with
   | [x],[y],hx,hy=>
    obtain ⟨⟨a,rfl⟩,_⟩:=hx;obtain ⟨⟨b,rfl⟩,_⟩:=hy;simp only [TK.agg,whole,cond_false,List.headD_cons];rw [run_equalIn_int w D t k k a b ((hte.tells ht).int hk)];simp only [eqV,eq1,Bool.and_true];congr 1;try (by_cases h:a=b<;>simp [h])
  | bool=>
   simp only [hk] at hx hy
   match xs,ys,hx,hy with
   | [x],[y],hx,hy=>
    obtain ⟨⟨a,rfl⟩,_⟩:=hx;obtain ⟨⟨b,rfl⟩,_⟩:=hy;simp only [TK.agg,whole,cond_false,List.headD_cons];rw [run_equalIn_bool' w D t a b ((hte.tells ht).bool hk)];simp [eqV,eq1]
  | str=>
   simp only [hk] at hx hy
   match xs,ys,hx,hy with
   | [x],[y],hx,hy=>
    obtain ⟨⟨a,rfl⟩,_⟩:=hx;obtain ⟨⟨b,rfl⟩,_⟩:=hy;simp only [TK.agg,whole,cond_false,List.headD_cons];rw [run_equalIn_string w D t a b ((hte.tells ht).str hk)];obtain ⟨⟨a⟩⟩:=a;obtain ⟨⟨b⟩⟩:=b;simp only [eqV,eq1,Bool.and_true,nB];congr 1;try (by_cases h:a=b<;>simp [h])
  | arr m e=>
   simp only [hk,Bool.and_eq_true] at hx hy h hsz lx ly;obtain ⟨h1,h2⟩:=h;cases he:te.get e with
   | none=>rw [he] at h2;cases h2
   | some j=>
    rw [he] at h2;have hjp:0<j.size:=Nat.blt_eq.mp h2;have hjs:(gv te d e).length=j.size:=by
     cases d with
     | zero=>cases h1
     | succ d=>
      simp only [gL,he,Bool.and_eq_true,beq_iff_eq] at h1;exact h1.1
    have hu:=(hte.tells ht).arr hk;have hDd:d≤D:=by omega
    have ih:=fun {xs ys:List Value}=>jU hte d he h1 D hDd (xs:=xs) (ys:=ys)
    have hszo:=(hte.tells he).run_sizeOf w;have hl:(List.replicate m (gv te d e)).flatten.length=m*j.size:=by simp [hjs]
    rw [hl] at lx ly;have key:∀ (c k:Nat),k+c=m→kx (List.replicate c (gv te d e)).flatten (xs.drop (k*j.size))→kx (List.replicate c (gv te d e)).flatten (ys.drop (k*j.size))→
     ((forIn (List.range' k c) ((none,()):Option Bool×Unit) fun i (_:Option Bool×Unit)=>do
      let a ← part e xs.toArray (i*j.size)
      let b ← part e ys.toArray (i*j.size)
      let r ← Op.equalIn D e a b
      if (!r)=true then pure (ForInStep.done (some false,())) else pure (ForInStep.yield (none,())):Sem (Option Bool×Unit))).run P w =
      .ok (if eqV (xs.drop (k*j.size)) (ys.drop (k*j.size))=true then (none,()) else (some false,())) w:=by
     intro c;induction c with
     | zero=>
      intro k hkm _ _;have e1:xs.drop (k*j.size)=[]:=List.drop_eq_nil_of_le (by rw [lx,← hkm,Nat.add_zero];omega);have e2:ys.drop (k*j.size)=[]:=List.drop_eq_nil_of_le (by rw [ly,← hkm,Nat.add_zero];omega);simp [e1,e2,eqV]
     | succ c ihc=>
      intro k hkm fx fy;rw [List.replicate_succ,List.flatten_cons] at fx fy;obtain ⟨fx1,fx2⟩:=cM fx;obtain ⟨fy1,fy2⟩:=cM fy;rw [hjs] at fx1 fx2 fy1 fy2;rw [List.drop_drop] at fx2 fy2;have hkk:(k+1)*j.size≤m*j.size:=Nat.mul_le_mul_right _ (by omega);rw [Nat.add_mul,Nat.one_mul] at hkk;have p1:=ig hte he (xs:=xs) (off:=k*j.size) (by omega) (.inl hjp) w;have p2:=ig hte he (xs:=ys) (off:=k*j.size) (by omega) (.inl hjp) w;have p3:=ih fx1 fy1 w;have e3:k*j.size+j.size=(k+1)*j.size:=by rw [Nat.add_mul,Nat.one_mul]
      rw [e3] at fx2 fy2;rw [xr (k:=j.size) (by simp [lx,ly]),List.drop_drop,List.drop_drop,e3];simp only [List.range'_succ,List.forIn_cons,Sem.run_bind,p1,p2,p3,Result.andThen_ok];cases hq:eqV ((xs.drop (k*j.size)).take j.size) ((ys.drop (k*j.size)).take j.size) with
      | false=>simp
      | true=>
       simp only [Bool.not_true,Bool.false_eq_true,if_false,Sem.run_pure,Result.andThen_ok,Bool.true_and];exact ihc (k+1) (by omega) fx2 fy2
    have k0:=key m 0 (by omega) (by simpa using hx) (by simpa using hy);simp only [Nat.zero_mul,List.drop_zero] at k0;simp only [TK.agg,whole,cond_true,Op.equalIn,Sem.run_bind,run_underlying hu,Result.andThen_ok,hszo];rw [Std.Legacy.Range.forIn_eq_forIn_range'];simp only [Std.Legacy.Range.size,Nat.sub_zero,Nat.add_sub_cancel,Nat.div_one];rw [k0];cases eqV xs ys<;>simp
  | struct fs=>
   simp only [hk,Bool.and_eq_true,Bool.not_eq_true'] at hx hy h hsz lx ly;obtain ⟨⟨⟨h1,h2⟩,h3⟩,h4⟩:=h;obtain ⟨fa,hu,hfs⟩:=(hte.tells ht).struct hk;have hfo:P.fieldsOf t=fa:=by simp [Program.fieldsOf,hu]
   rw [hfo] at h4;have hu':P.underlying t=some (.struct (P.fieldsOf t)):=by rw [hfo];exact hu
   simp only [TK.agg,whole,cond_true];rw [run_equalIn_agg w D t _ _ hu' h3,hfo];rw [hsz] at lx ly;have key:∀ (l:List Field) (off:Nat),fw te off (l.map fun f=>(f.offset,f.type)) i.size=true→((l.map fun f=>(f.offset,f.type)).all fun p=>gL P te d p.2)=true→(l.all fun f=>decide (f.name ≠ "_"))=true→
    kx ((l.map fun f=>(f.offset,f.type)).map fun p=>gv te d p.2).flatten (xs.drop off)→kx ((l.map fun f=>(f.offset,f.type)).map fun p=>gv te d p.2).flatten (ys.drop off)→
    (Op.eqFields D xs.toArray ys.toArray l).run P w=.ok (eqV (xs.drop off) (ys.drop off)) w:=by
    intro l;induction l with
    | nil=>
     intro off hc _ _ _ _;have:=Nat.eq_of_beq_eq_true hc;subst this;rw [List.drop_eq_nil_of_le (by omega),List.drop_eq_nil_of_le (by omega)];simp [Op.eqFields,eqV]
    | cons f l ihl=>
     intro off hc ha hn fx fy;simp only [List.map_cons,fw,Bool.and_eq_true] at hc;obtain ⟨ho,hc⟩:=hc;have ho:=Nat.eq_of_beq_eq_true ho;subst ho;simp only [List.map_cons,List.all_cons,Bool.and_eq_true,decide_eq_true_eq] at ha hn;simp only [List.map_cons,List.flatten_cons] at fx fy;cases hj:te.get f.type with
     | none=>rw [hj] at hc;cases hc
     | some j=>
      rw [hj] at hc;have hjs:(gv te d f.type).length=j.size:=by
       cases d with
       | zero=>cases ha.1
       | succ d=>
        have h1:=ha.1;simp only [gL,hj,Bool.and_eq_true,beq_iff_eq] at h1;exact h1.1
      have hpos:0<j.size∨j.k.agg=true:=by
       cases d with
       | zero=>cases ha.1
       | succ d=>
        have h1:=ha.1;simp only [gL,hj,Bool.and_eq_true,beq_iff_eq] at h1;obtain ⟨h1,h2⟩:=h1;simp only [gv,hj] at h1;cases hjk:j.k<;>simp_all [TK.agg]
        all_goals omega
      obtain ⟨fx1,fx2⟩:=cM fx;obtain ⟨fy1,fy2⟩:=cM fy;have gx:=dw fx1;have gx2:=dw fx;have gy2:=dw fy;rw [hjs] at fx1 fx2 fy1 fy2;rw [List.drop_drop] at fx2 fy2;simp only [List.length_append,List.length_drop,hjs] at gx2 gy2;have hle:f.offset+j.size≤xs.length:=by
       rcases Nat.lt_or_ge xs.length f.offset with q|q
       · have:j.size=0:=by omega
         simp only [fw] at hc;have:∀ (l:List (Nat×TypeId)) (o z:Nat),fw te o l z=true→o≤z:=by
          intro l;induction l with
          | nil=>intro o z h;exact Nat.le_of_eq (Nat.eq_of_beq_eq_true h)
          | cons p l ih=>
           intro o z h;simp only [fw,Bool.and_eq_true] at h;cases hp:te.get p.2 with
           | none=>rw [hp] at h;cases h.2
           | some q=>
            rw [hp] at h;have:=ih _ _ h.2;omega
         have:=this _ _ _ hc;omega
       · omega
      have p1:=ig hte hj (xs:=xs) (off:=f.offset) hle hpos w;have p2:=ig hte hj (xs:=ys) (off:=f.offset) (by omega) hpos w;have p3:=jU hte d hj ha.1 D (by omega) fx1 fy1 w;rw [xr (k:=j.size) (by simp [lx,ly]),List.drop_drop,List.drop_drop];simp only [Op.eqFields,hn.1,ne_eq,not_false_eq_true,if_true,Sem.run_bind];simp only [p1,p2,p3,Result.andThen_ok];have ih2:=ihl (f.offset+j.size) hc ha.2 hn.2 fx2 fy2;cases hq:eqV ((xs.drop f.offset).take j.size) ((ys.drop f.offset).take j.size) with
      | false=>simp
      | true=>
       simp only [Bool.not_true,Bool.false_eq_true,if_false,Bool.true_and];exact ih2
   have:=key fa.toList 0 (by rw [hfs];exact h1) (by rw [hfs];exact h2) h4 (by rw [hfs];simpa using hx) (by rw [hfs];simpa using hy)
   simpa using this
  | slice e=>simp only [hk] at h;cases h
  | ptr e=>simp only [hk] at h;cases h
  | map a b=>simp only [hk] at h;cases h
  | iface b=>simp only [hk] at h;cases h
  | func=>simp only [hk] at h;cases h
  | other=>simp only [hk] at h;cases h
end
def unv:AV→Value
 | .v x=>x
 | _=>undef
def EQ:ZC→AV→Bool
 | .int k,.v (.int k' _)=>k == k'
 | .bool,.v (.bool _)=>true
 | .str,.v (.string _)=>true
 | _,_=>false
def wn:List ZC→List AV→Bool
 | [],[]=>true
 | z::zs,c::cs=>EQ z c&&wn zs cs
 | _,_=>false
theorem yz {z:ZC} {c:AV} (h:EQ z c=true):(∀ zs vs,kx zs vs→kx (z::zs) (unv c::vs))∧c=.v (unv c):=by
 unfold EQ at h;split at h
 · simp only [beq_iff_eq] at h
   subst h;exact ⟨fun zs vs k=>⟨⟨_,rfl⟩,k⟩,rfl⟩
 · exact ⟨fun zs vs k=>⟨⟨_,rfl⟩,k⟩,rfl⟩
 · exact ⟨fun zs vs k=>⟨⟨_,rfl⟩,k⟩,rfl⟩
 · cases h
theorem o7:∀ {zs:List ZC} {cs:List AV},wn zs cs=true→kx zs (cs.map unv)∧∀ c∈cs,c=.v (unv c)
 | [],[],_=>⟨trivial,fun c h=>by cases h⟩
 | z::zs,c::cs,h=>by
  simp only [wn,Bool.and_eq_true] at h;have h1:=yz h.1;have ih:=o7 h.2;exact ⟨h1.1 _ _ ih.1,fun x hx=>by
   rcases List.mem_cons.1 hx with rfl|hx
   · exact h1.2
   · exact ih.2 x hx⟩
 | [],_::_,h=>by simp [wn] at h
 | _::_,[],h=>by simp [wn] at h
theorem rI {w:World} {φ:aD} {Λ:aW} {cs:List AV} {v:Value} (h:Rep w φ Λ (.agg cs) v) (hc:∀ c∈cs,c=.v (unv c)):v=.agg (cs.map unv).toArray:=by
 cases h with
 | @agg _ vs vf h1 h2 h3=>
  congr 1
  apply Array.ext'
  apply List.ext_getElem?
  intro j;simp only [Array.getElem?_toList,List.getElem?_toArray,List.getElem?_map];by_cases hj:j<cs.length
  · have e:=h3 j cs[j] (List.getElem?_eq_getElem hj)
    have e2:=hc cs[j] (List.getElem_mem hj);rw [h2 j hj,List.getElem?_eq_getElem hj,Option.map_some];generalize vf j=z at e;rw [e2] at e;cases e;rfl
  · rw [List.getElem?_eq_none (by omega),Array.getElem?_eq_none (by omega)]
    rfl
section
variable {n:Nat} {s:AS} {o:Oper} {d:Option Tmp}
theorem qi {op:BinOp} {t u:TypeId} {x y:Operand} {cs ds:List AV} {r r':Bool} {ti:TI} (ho:o.op=.binOp op t x y u:=by exact rfl) (hx:s.ev x=.agg cs:=by exact rfl) (hy:s.ev y=.agg ds:=by exact rfl)
 (ht:te.get t=some ti:=by exact rfl) (hk:ti.k.agg=true:=by exact rfl) (hp:gL Tryz.prog te 9 t=true:=by kernel_rfl) (hm:Tryz.prog.eqGuardType Tryz.prog.depth t=false:=by kernel_rfl)
 (hc:wn (gv te 9 t) cs=true:=by exact rfl) (hc2:wn (gv te 9 t) ds=true:=by exact rfl) (hr:eqV (cs.map unv) (ds.map unv)=r:=by exact rfl)
 (hop:(op=.eql∧r'=r)∨(op=.neq∧r'=!r):=by first|exact .inl ⟨rfl,rfl⟩|exact .inr ⟨rfl,rfl⟩)
 (hdd:o.dst=d:=by conv=>lhs;whnf) (hd:d.all (Nat.blt · n)=true:=by exact rfl):OpOk Tryz.prog n o s (s.put d (tf r')):=
 .val hdd hd fun Λ w φ ac hs=>by
  obtain ⟨f1,g1⟩:=o7 hc;obtain ⟨f2,g2⟩:=o7 hc2;have r1:=hs.ev x;rw [hx] at r1;have e1:=rI r1 g1;have r2:=hs.ev y;rw [hy] at r2;have e2:=rI r2 g2;have e3:=jU te_ok 9 ht hp 10000 (by decide) f1 f2 w;rw [hk,hr] at e3;simp only [whole,cond_true] at e3;have e4:=run_eqGuard_agg w op t x y (cs.map unv).toArray (ds.map unv).toArray hm;refine ⟨.bool r',?_,.v⟩;rcases hop with ⟨rfl,rfl⟩|⟨rfl,rfl⟩
  · simp only [execOp,ho,e1,e2,Sem.run_bind,e4,Result.andThen_ok,run_eql_struct,e3,Sem.run_pure]
  · simp only [execOp,ho,e1,e2,Sem.run_bind,e4,Result.andThen_ok,run_neq_struct,e3,Sem.run_pure]
end
section
variable {ρ:Nat→Bool} {σ:IdMap} {h:aX} {lo hi:Nat}
theorem cJ {l k:Nat} {α:Type} {f:α→List AV}:ie ρ σ h lo hi (.v (.slice none 0 k)) (.fz l ([]:List α).length (cl f [])):=EG
theorem cT {id ver esz:Nat} {α:Type} {f:α→List AV} {l:List α} {ob:AObj} (hi':σ.inv id=none) (h1:h id=some ob) (h2:ObAt ob ver (cl f l)) (hf:∀ x,(f x).length=esz) (h5:0<esz) (h3:∀ x,AV.oks (min lo hi) (f x)=true) :
 ie ρ σ h lo hi (.sl id ver 0 l.length esz) (.fz hi l.length (cl f l)):=
 EF hi' h1 h2.at (mu h3) (by rw [bJ hf];omega) h5 (by rw [List.drop_zero,List.take_of_length_le (by rw [bJ hf];omega)])
theorem iv {c k ver off len esz:Nat} {ob:AObj} {cells:List AV} (e:σ.get c=some k) (ho:h k=some ob) (hc:ObAt ob ver cells) (hρ:ρ c=true):ie ρ σ h lo hi (.sl k ver off len esz) (.sl c 0 off len esz):=EE e ho hc.at hρ
theorem aF {ty:Option TypeId} {α:Type} {f:α→List AV} {l:List α} {e v:Nat} (h3:∀ x,AV.oks lo (f x)=true):LObj ρ σ h lo hi false (.grow ty (cl f l) e v) (.grow ty (cl f l) e v):=⟨⟨rfl,rfl⟩,rfl,wb (mu h3)⟩
theorem ar {ty:Option TypeId} {cs cs':List AV} {rn:Bool} (e:LVals ρ σ h lo hi cs cs'):LObj ρ σ h lo hi rn (.gbox ty cs) (.gbox ty cs'):=⟨rfl,e⟩
end
theorem cU {f:Nat→Nat} {ty:Option TypeId} {α:Type} {g:α→List AV} {l:List α} {e v:Nat} {lv:Nat} (h:∀ x,AV.oks lv (g x)=true):(AObj.grow ty (cl g l) e v).ren f=.grow ty (cl g l) e v:=EL (mu (lv:=lv) h)
theorem em {lv:Nat} {S:Nat→Bool} {ty:Option TypeId} {α:Type} {g:α→List AV} {l:List α} {e v:Nat} (h:∀ x,AV.oks lv (g x)=true):(AObj.grow ty (cl g l) e v).lev lv=true∧ObjIn S (.grow ty (cl g l) e v):=
 ⟨AV.levs_ok (mu h),AV.refss_ok (mu h)⟩
section
variable {n:Nat} {s:AS} {o:Oper} {d:Option Tmp} {Q:bC}
theorem ay (lv:Nat) (σ ν:IdMap) (hl':List (Nat×AObj)) {f:FuncId} {A:List AV} {r r':AV} {hb hl:List (Nat×AObj)} {fop:Operand} {argops:Array Operand} {tys:Array TypeId} {first caps:List AV}
 (ho:o.op=.call { callee:=.value fop,args:=argops,argTypes:=tys }:=by exact rfl) (hf:s.ev fop=.fn (.func f) first caps:=by exact rfl)
 (hwf:(σ++ν:IdMap).wf=true:=by exact rfl) (hwf1:σ.wf=true:=by exact rfl) (h8:(σ.all fun p=>Nat.blt p.1 8)=true:=by exact rfl) (hfresh:(ν.all fun p=>(s.h p.2).isNone)=true:=by exact rfl)
 (hobj:BObjs (fun _=>false) σ s.h lv (lv+1) σ hb:=by repeat' (first|exact trivial|exact aK rfl|exact bd rfl rfl|exact aV rfl rfl|exact bw rfl rfl|exact aF (fun _=>rfl)|refine ar ?_|refine ⟨rfl,⟨_,rfl,?_⟩,?_⟩|refine ⟨?_,?_⟩))
 (hA:LVals (fun _=>false) σ s.h lv (lv+1) (first++argops.toList.map s.ev++caps) A:=by repeat' (first|exact trivial|exact aK rfl|exact aV rfl rfl|exact bd rfl rfl|exact bw rfl rfl|exact cJ|exact cT rfl rfl .row (fun _=>rfl) (Nat.le_of_ble_eq_true rfl) (fun _=>rfl)|refine ⟨?_,?_⟩|exact lv_row1 rfl rfl .row (fun _=>rfl) (fun _=>rfl) (by first|omega|(simp;omega))))
 (hB:HB (IdMap.to (σ++ν)) (σ++ν) hl hl':=by repeat' (first|exact trivial|exact cU (lv:=0) (fun _=>rfl)|exact rfl|refine ⟨rfl,rfl,?_,?_⟩))
 (hL:HL lv (IdMap.has (σ++ν)) hl:=by repeat' (first|exact trivial|exact em (fun _=>rfl)|exact ⟨rfl,rfl⟩|refine ⟨?_,?_⟩))
 (hr:r.lev lv=true:=by exact rfl) (hr2:r.refs (IdMap.has (σ++ν))=true:=by exact rfl) (hr3:r.ren (IdMap.to (σ++ν))=r':=by conv=>lhs;whnf) (hdd:o.dst=d:=by conv=>lhs;whnf) (hd:d.all (Nat.blt · n)=true:=by exact rfl) (hc:AC Tryz.prog f A (ao hb) (bZ r hl)) :
 OpOk Tryz.prog n o s ((s.setl hl').put d r'):=zO lv σ ν hb hl' ho hf hc hwf hwf1 h8 hfresh hobj hA hB hL hr hr2 hr3 hdd hd
theorem aQ (lv:Nat) (rn:List Nat) (xs ys:List AV) (hl:List (Nat×AObj)) {fn:Func} {r:AV} (h3:bX ys=r) (h1:iK te s fn.results.toList xs:=by repeat' (first|exact trivial|exact mM|exact kZ|refine ⟨?_,?_⟩))
 (hobj:BObjs (inl rn) (idm hl) s.h lv lv (idm hl) hl:=by repeat' (first|exact trivial|exact aK rfl|exact bd rfl rfl|exact iv rfl rfl .row rfl|exact aV rfl rfl|exact bw rfl rfl|exact cJ|exact cT rfl rfl .row (fun _=>rfl) (Nat.le_of_ble_eq_true rfl) (fun _=>rfl)|exact aF (fun _=>rfl)|exact lobj_rown (fun _=>rfl)|refine ar ?_|refine ⟨rfl,⟨_,rfl,?_⟩,?_⟩|refine ⟨?_,?_⟩))
 (h2:LVals (inl rn) (idm hl) s.h lv lv xs ys:=by repeat' (first|exact trivial|exact aK rfl|exact aV rfl rfl|exact bd rfl rfl|exact iv rfl rfl .row rfl|exact bw rfl rfl|exact cJ|exact cT rfl rfl .row (fun _=>rfl) (Nat.le_of_ble_eq_true rfl) (fun _=>rfl)|refine ⟨?_,?_⟩))
 (hrn:(rn.all fun c=>Nat.ble 8 c)=true:=by exact rfl) (hp:dY s.h (dS hl)=true:=by exact rfl):Fin te fn (bZ r hl) s:=Fin.retH lv rn hl h1 hobj h2 h3 hrn hp
theorem im (lv hi:Nat) (rn:List Nat) (xs ys:List AV) (hl:List (Nat×AObj)) {fn:Func} {r:AV} (h3:bX ys=r) (h1:iK te s fn.results.toList xs:=by repeat' (first|exact trivial|exact mM|exact kZ|refine ⟨?_,?_⟩))
 (hobj:BObjs (inl rn) (idm hl) s.h lv hi (idm hl) hl:=by repeat' (first|exact trivial|exact aK rfl|exact bd rfl rfl|exact iv rfl rfl .row rfl|exact aV rfl rfl|exact bw rfl rfl|exact cJ|exact cT rfl rfl .row (fun _=>rfl) (Nat.le_of_ble_eq_true rfl) (fun _=>rfl)|exact aF (fun _=>rfl)|exact lobj_rown (fun _=>rfl)|refine ar ?_|refine ⟨rfl,⟨_,rfl,?_⟩,?_⟩|refine ⟨?_,?_⟩))
 (h2:LVals (inl rn) (idm hl) s.h lv hi xs ys:=by repeat' (first|exact trivial|exact aK rfl|exact aV rfl rfl|exact bd rfl rfl|exact iv rfl rfl .row rfl|exact bw rfl rfl|exact cJ|exact cT rfl rfl .row (fun _=>rfl) (Nat.le_of_ble_eq_true rfl) (fun _=>rfl)|refine ⟨?_,?_⟩))
 (hrn:(rn.all fun c=>Nat.ble 8 c)=true:=by exact rfl) (hp:dY s.h (dS hl)=true:=by exact rfl):Fin te fn (bZ r hl) s:=Fin.retHD lv hi rn hl h1 hobj h2 h3 hrn hp
theorem AC.fz {f:FuncId} {A:List AV} {h:aX} {r r':AV} {hl:List (Nat×AObj)} (hc:AC Tryz.prog f A h (bZ r hl)) (lv:Nat) (e:lP (ao hl) lv lv r r') (hp:mS (ao hl)=true:=by exact rfl):AC Tryz.prog f A h (Ret r'):=by
 refine ⟨hc.1,fun Λ w φ vals hs ha QQ h1 h2=>hc.2 Λ w φ vals hs ha QQ (fun r1 h' w' φ' v k hs' g hr=>?_) (fun x h' w' φ' k=>absurd k.1 (by simp))⟩;obtain ⟨k1,k2⟩:=k;cases k1;subst k2;obtain ⟨φ2,g1,g2,g3⟩:=Sees.fv e hp w' φ' Λ v hs' hr;exact h1 r' emp w' φ2 v ⟨rfl,rfl⟩ g1 (g.trans g3) g2
inductive NilTo (s:AS):AV→Nat→Prop
 | fz {lv m cs}:NilTo s (.fz lv m cs) m
 | sl {id ver off len esz ob cells} (hob:s.h id=some ob) (hat:ObAt ob ver cells):NilTo s (.sl id ver off len esz) len
theorem AOps.snil {ops:Array Oper} {i:Nat} {rest:List Nat} {op:BinOp} {t u e:TypeId} {x y:Operand} {a:AV} {m l:Nat} {ti:TI} {r:Bool} (ht':m=0→AOps Tryz.prog n ops Q rest (s.put d (tf r))) (hf':AOps Tryz.prog n ops Q rest (s.put d (tf (!r))))
 (hi:ops[i]?=some o:=by exact rfl) (hg:o.guard=none:=by exact rfl) (ho:o.op=.binOp op t x y u:=by exact rfl) (hx:s.ev x=a:=by conv=>lhs;whnf) (ha:NilTo s a m:=by first|exact .fz|exact .sl rfl .row) (hy:s.ev y=.v (.slice none 0 l):=by exact rfl)
 (ht:te.get t=some ti:=by exact rfl) (hk:ti.k=.slice e:=by exact rfl) (hop:(op=.eql∧r=true)∨(op=.neq∧r=false):=by first|exact .inl ⟨rfl,rfl⟩|exact .inr ⟨rfl,rfl⟩)
 (hdd:o.dst=d:=by conv=>lhs;whnf) (hd:d.all (Nat.blt · n)=true:=by exact rfl):AOps Tryz.prog n ops Q (i::rest) s:=by
 refine AOps.consx hi hg fun Λ w φ ac hs next QQ hN hP=>?_
 have hr:=hs.ev x;rw [hx] at hr;have hlen:∃ ad cap,ac.eval x=.slice ad m cap∧(ad=none→m=0):=by
  generalize ac.eval x=v at hr;cases ha with
  | fz=>
   cases hr with
   | fz0=>exact ⟨_,_,rfl,fun _=>rfl⟩
   | fz=>exact ⟨_,_,rfl,fun h=>by cases h⟩
  | sl hob hat=>
   obtain ⟨l1,g1,g2⟩:=hs.hs.ver hob hat.at;cases hr with
   | sl=>exact ⟨_,_,rfl,fun h=>by cases h⟩
   | sl0=>exact ⟨_,_,rfl,fun _=>rfl⟩
   | slx h1 h2=>rw [g1] at h1;cases h1;omega
 obtain ⟨ad,cap,e1,e0⟩:=hlen;have e3:=pV (a:=ad) (k:=m) (m:=cap) (l:=l) ((te_ok.tells ht).slice hk) w;subst hdd;have hrun:∀ q,(op=.eql→q=ad.isNone)→(op=.neq→q=!ad.isNone)→(execOp ac.eval o).run Tryz.prog w=.ok (.value (.bool q)) w:=by
  intro q h1 h2;rcases hop with ⟨rfl,_⟩|⟨rfl,_⟩
  · rw [h1 rfl];simp [execOp,ho,e1,cc hs hy,eqGuard,binOp,e3]
  · rw [h2 rfl];simp [execOp,ho,e1,cc hs hy,eqGuard,binOp,e3]
 cases hn:ad with
 | none=>
  have hq:=hrun r (fun h=>by rcases hop with ⟨_,h2⟩|⟨h1,_⟩;rw [h2,hn];rfl;rw [h] at h1;cases h1) (fun h=>by rcases hop with ⟨h1,_⟩|⟨_,h2⟩;rw [h] at h1;cases h1;rw [h2,hn];rfl);unfold Oper.wp;rw [hq];exact hN _ w φ _ (ht' (e0 hn)) (hs.put o.dst hd .v) (Goes.refl w φ)
 | some b=>
  have hq:=hrun (!r) (fun h=>by rcases hop with ⟨_,h2⟩|⟨h1,_⟩;rw [h2,hn];rfl;rw [h] at h1;cases h1) (fun h=>by rcases hop with ⟨h1,_⟩|⟨_,h2⟩;rw [h] at h1;cases h1;rw [h2,hn];rfl);unfold Oper.wp;rw [hq];exact hN _ w φ _ hf' (hs.put o.dst hd .v) (Goes.refl w φ)
theorem Weak.full (lv:Nat) (rn:List Nat) {t:List (Nat×AV)} {hl:List (Nat×AObj)} (h1:Db s (inl rn) (idm hl) lv t:=by repeat' (first|exact trivial|exact aK rfl|exact aV rfl rfl|exact bd rfl rfl|exact iv rfl rfl .row rfl|exact bw rfl rfl|exact cJ|exact cT rfl rfl .row (fun _=>rfl) (Nat.le_of_ble_eq_true rfl) (fun _=>rfl)|refine ⟨?_,?_⟩))
 (hobj:BObjs (inl rn) (idm hl) s.h lv lv (idm hl) hl:=by repeat' (first|exact trivial|exact aK rfl|exact bd rfl rfl|exact iv rfl rfl .row rfl|exact aV rfl rfl|exact bw rfl rfl|exact cJ|exact cT rfl rfl .row (fun _=>rfl) (Nat.le_of_ble_eq_true rfl) (fun _=>rfl)|exact aF (fun _=>rfl)|exact lobj_rown (fun _=>rfl)|refine ar ?_|refine ⟨rfl,⟨_,rfl,?_⟩,?_⟩|refine ⟨?_,?_⟩))
 (hrn:(rn.all fun c=>Nat.ble 8 c)=true:=by exact rfl) (hp:dY s.h (dS hl)=true:=by exact rfl):Weak s (mkS t hl):=Weak.lv lv rn h1 hobj hrn hp
theorem Weak.fullD (lv hi:Nat) (rn:List Nat) {t:List (Nat×AV)} {hl:List (Nat×AObj)} (h1:xO s (inl rn) (idm hl) lv hi t:=by repeat' (first|exact trivial|exact aK rfl|exact aV rfl rfl|exact bd rfl rfl|exact iv rfl rfl .row rfl|exact bw rfl rfl|exact cJ|exact cT rfl rfl .row (fun _=>rfl) (Nat.le_of_ble_eq_true rfl) (fun _=>rfl)|refine ⟨?_,?_⟩))
 (hobj:BObjs (inl rn) (idm hl) s.h lv hi (idm hl) hl:=by repeat' (first|exact trivial|exact aK rfl|exact bd rfl rfl|exact iv rfl rfl .row rfl|exact aV rfl rfl|exact bw rfl rfl|exact cJ|exact cT rfl rfl .row (fun _=>rfl) (Nat.le_of_ble_eq_true rfl) (fun _=>rfl)|exact aF (fun _=>rfl)|exact lobj_rown (fun _=>rfl)|refine ar ?_|refine ⟨rfl,⟨_,rfl,?_⟩,?_⟩|refine ⟨?_,?_⟩))
 (hrn:(rn.all fun c=>Nat.ble 8 c)=true:=by exact rfl) (hp:dY s.h (dS hl)=true:=by exact rfl):Weak s (mkS t hl):=Weak.lvD lv hi rn h1 hobj hrn hp
theorem zH {t e:TypeId} {x:Operand} {id ver off len esz m:Nat} {ob:AObj} {cells:List AV} {ti:TI} (ho:o.op=.sliceToArrayPointer t x:=by exact rfl) (hx:s.ev x=.sl id ver off len esz:=by exact rfl)
 (ht:te.get t=some ti:=by exact rfl) (hk:ti.k=.arr m e:=by exact rfl) (hm:m≤len:=by first|exact Nat.le_of_ble_eq_true rfl|omega|(simp;omega)) (hm0:0<m:=by exact Nat.le_of_ble_eq_true rfl) (hob:s.h id=some ob:=by exact rfl)
 (hat:ObAt ob ver cells:=by first|exact .box|exact .row) (hdd:o.dst=d:=by conv=>lhs;whnf) (hd:d.all (Nat.blt · n)=true:=by exact rfl):OpOk Tryz.prog n o s (s.put d (.ptr id ver off)):=yd te_ok ho hx ht hk hm hm0 hob hat.at hdd hd
theorem AOps.weak {P:Program} {ops:Array Oper} {l:List Nat} {s':AS} (hw:Weak s s') (h:AOps P n ops Q l s'):AOps P n ops Q l s:=by
 intro Λ w φ a hs QQ hQ;obtain ⟨φ1,hs1,g1⟩:=hw n Λ w φ a hs;exact h Λ w φ1 a hs1 QQ fun ae s2 w2 φ2 a2 q2 hs2 g2=>hQ ae s2 w2 φ2 a2 q2 hs2 (g1.trans g2)
theorem Weak.nilcellT (k id j esz:Nat) {ty ty':Option TypeId} {α:Type} (f:α→List AV) {cells cells':List AV} (hk:s.h k=some (.gbox ty cells):=by exact rfl) (hid:s.h id=none:=by exact rfl) (hj:cells[j]?=some (.v (.slice none 0 0)):=by exact rfl)
 (hc':cells.set j (.sl id 0 0 ([]:List α).length esz)=cells':=by first|(simp only [List.set_cons_zero,List.set_cons_succ];rfl)|exact rfl) :
 Weak s ((s.seth id (some (.grow ty' (cl f []) esz 0))).seth k (some (.gbox ty cells'))):=by
 subst hc';intro n Λ w φ a hs;have hn:=hs.hs.dom id hid;have hc:Chg w φ Λ s.h id ⟨none,0⟩ w:=⟨hs.hs,Nat.le_refl _,rfl,rfl,rfl,fun _ _ _=>rfl,(fun b' o' h=>by cases h),(fun l hl=>by rw [hn] at hl;cases hl),(fun l hl=>by rw [hn] at hl;cases hl),.refl w⟩;have h1:HSim w (upd φ id (some ⟨none,0⟩)) Λ (upd s.h id (some (.grow ty' (cl f []) esz 0))):=hc.hsim ⟨rfl,.inl ⟨rfl,rfl⟩⟩;have hne:k≠id:=fun e=>by rw [e,hid] at hk;cases hk
 refine ⟨upd φ id (some ⟨none,0⟩),⟨hs.defs,hs.size,fun i=>hc.rep (hs.tmps i),?_⟩,hc.goes⟩;refine ⟨fun i ob hi=>?_,fun i hi=>?_,h1.lt,h1.inj,h1.lent⟩
 · by_cases he:i=k
   · subst he
     replace hi:upd (upd s.h id (some (.grow ty' (cl f []) esz 0))) i (some (.gbox ty (cells.set j (.sl id 0 0 0 esz)))) i=some ob:=hi
     rw [aZ] at hi;cases hi;obtain ⟨l,g1,b,arr,T,g2,g3,g4,g5,g6⟩:=h1.heap i (.gbox ty cells) (by rw [bf _ _ _ _ hne];exact hk);refine ⟨l,g1,b,arr,T,g2,g3,g4,by simpa using g5,fun m c hm=>?_⟩;rw [List.getElem?_set] at hm;split at hm
     · rename_i e
       subst e;obtain ⟨v,e1,e2⟩:=g6 j _ hj;cases e2;split at hm
       · cases hm
         exact ⟨_,e1,.sl0 (aZ _ _ _) rfl⟩
       · cases hm
     · exact g6 m c hm
   · exact h1.heap i ob (by
      have:upd (upd s.h id (some (.grow ty' (cl f []) esz 0))) k (some (.gbox ty (cells.set j (.sl id 0 0 0 esz)))) i=some ob:=hi
      rwa [bf _ _ _ _ he] at this)
 · refine h1.dom i ?_
   replace hi:upd (upd s.h id (some (.grow ty' (cl f []) esz 0))) k (some (.gbox ty (cells.set j (.sl id 0 0 0 esz)))) i=none:=hi
   by_cases he:i=k
   · subst he
     rw [aZ] at hi;cases hi
   · rwa [bf _ _ _ _ he] at hi
theorem Weak.nilcell (k id j esz:Nat) {ty:Option TypeId} {α:Type} (f:α→List AV) {cells cells':List AV} (hk:s.h k=some (.gbox ty cells):=by exact rfl) (hid:s.h id=none:=by exact rfl) (hj:cells[j]?=some (.v (.slice none 0 0)):=by exact rfl)
 (hc':cells.set j (.sl id 0 0 ([]:List α).length esz)=cells':=by first|(simp only [List.set_cons_zero,List.set_cons_succ];rfl)|exact rfl) :
 Weak s ((s.seth id (some (.row (cl f []) esz 0))).seth k (some (.gbox ty cells'))):=Weak.nilcellT k id j esz f hk hid hj hc'
end
def ic (x:Int):List AV:=[i64 x]
def sc (x:List UInt8):List AV:=[str x]
def tc (x:Bool):List AV:=[tf x]
def lc {α:Type} (lv:Nat) (f:α→List AV) (l:List α):List AV:=[.fz lv l.length (cl f l)]
theorem dT {α:Type} [Inhabited α] {l:List α} {i:Nat} (h:i<l.length):l.getD i default∈l:=by
 rw [List.getD_eq_getElem?_getD,List.getElem?_eq_getElem h];exact List.getElem_mem h
theorem rN (id:Nat) {n:Nat} {s:AS} {o:Oper} {d:Option Tmp} {src dst e:TypeId} {x:Operand} {l:List UInt8} {ti tj tk:TI} (ho:o.op=.convert src dst x:=by exact rfl) (hx:s.ev x=str l:=by exact rfl) (hi:te.get src=some ti:=by exact rfl) (hk:ti.k=.str:=by exact rfl)
 (hj:te.get dst=some tj:=by exact rfl) (hk2:tj.k=.slice e:=by exact rfl) (he:te.get e=some tk:=by exact rfl) (hk3:tk.k=.int .u8:=by exact rfl) (hid:s.h id=none:=by exact rfl)
 (hdd:o.dst=d:=by conv=>lhs;whnf) (hd:d.all (Nat.blt · n)=true:=by exact rfl):OpOk Tryz.prog n o s ((s.seth id (some (.row (cl bc l) 1 0))).put d (.sl id 0 0 l.length 1)):=
 .chg hdd hd fun Λ w φ a hs=>by
  have hrun:=Lib.run_convert_string_bytes (P:=Tryz.prog) w src dst e ⟨⟨l⟩⟩ ((te_ok.tells hi).str hk) ((te_ok.tells hj).slice hk2) ((te_ok.tells he).int hk3);have hn:=hs.hs.dom id hid;have hsz:=Lib.bytesWorld_size w e ⟨⟨l⟩⟩;have hnew:=Lib.bytesWorld_at_new w e ⟨⟨l⟩⟩;have hl:(⟨⟨l⟩⟩:ByteArray).size=l.length:=rfl;have hc:Chg w φ Λ s.h id ⟨some (w.heap.size,0),0⟩ (Lib.bytesWorld w e ⟨⟨l⟩⟩):=by
   refine ⟨hs.hs,by omega,rfl,rfl,rfl,fun k hk _=>Lib.bytesWorld_at_old w e _ k hk,fun b' o' hb=>?_,fun l hl=>?_,fun l hl=>?_,.one (b0:=w.heap.size) (fun b hb=>?_) fun _ arr T lo hi k=>?_⟩
   · simp only [Option.some.injEq,Prod.mk.injEq] at hb
     obtain ⟨rfl,rfl⟩:=hb;exact ⟨by omega,.inl (Nat.le_refl _)⟩
   · rw [hn] at hl;cases hl
   · rw [hn] at hl;cases hl
   · rcases Nat.lt_or_ge b w.heap.size with h2|h2
     · exact Lib.bytesWorld_at_old w e _ b h2
     · rw [Array.getElem?_eq_none h2,Array.getElem?_eq_none (by omega)]
   · rw [hnew] at k
     cases k;exact .inl (Nat.le_refl _)
  have hcs:(Lib.bytesCells w e ⟨⟨l⟩⟩).size=l.length+(grownCap w l.length 0 e-l.length):=by simp [Lib.bytesCells,hl]
  refine ⟨_,_,_,?_,hc,⟨rfl,.inr ⟨w.heap.size,0,_,e,_,_,rfl,hnew,.inl (Nat.le_refl _),by rw [j6];omega,fun j c hj=>?_⟩⟩,.slice (some ⟨w.heap.size,0,none⟩) l.length (grownCap w l.length 0 e),.inl rfl,?_⟩
  · simp only [execOp,ho,cc hs hx,Sem.run_bind,hrun,Result.andThen_ok,Sem.run_pure,hl]
  · rw [kT,List.getElem?_map,Option.map_eq_some_iff] at hj
    obtain ⟨b,hb,rfl⟩:=hj;have hlt:=(List.getElem?_eq_some_iff.1 hb).1;refine ⟨.int .u8 b.toNat,?_,.v⟩;have hb2:l[j]=b:=by
     rw [List.getElem?_eq_getElem hlt] at hb;exact Option.some.inj hb
    simp [Lib.bytesCells,Array.getElem?_append,hlt,hb2]
  · have h0:=grownCap_ge w l.length 0 e
    exact Rep.sl (off:=0) (aZ _ _ _) rfl rfl hnew (by omega) h0
section
variable {te:TE}
theorem has_sl {α:Type} {f:α→List AV} {q:α→Prop} {d:Nat} {t e:TypeId} {i j:TI} {cs:List AV} (h:Has te (d+1) t cs) (hg:te.get t=some i) (hk:i.k=.slice e) (he:te.get e=some j)
 (hq:∀ c,Has te d e c→∃ a,c=f a∧q a):∃ l:List α,cs=[.fz 0 l.length (cl f l)]∧l.length*j.bytes≤140737488351232∧∀ a∈l,q a:=has_slice h hg hk he hq
theorem yt {d:Nat} {t e:TypeId} {i j:TI} {cs:List AV} (h:Has te (d+1) t cs) (hg:te.get t=some i) (hk:i.k=.slice e) (he:te.get e=some j) (hj:j.k=.int .i64) (hb:j.bytes=8) :
 ∃ l:List Int,cs=[.fz 0 l.length (cl ic l)]∧l.length*8≤140737488351232∧∀ n∈l,-9223372036854775808≤n∧n≤9223372036854775807:=by
 obtain ⟨l,h1,h2,h3⟩:=has_sl (f:=ic) (q:=fun n=>-9223372036854775808≤n∧n≤9223372036854775807) h hg hk he fun c hc=>by
  obtain ⟨b,h1,h2⟩:=has_int hc he hj;exact ⟨b,h1,h2⟩
 exact ⟨l,h1,by rw [hb] at h2;exact h2,h3⟩
end
end Go.Proofs.YthnfcmgpedppaaaGreat.Fw
namespace Go.Proofs.YthnfcmgpedppaaaGreat.Fw.Up
open Go.RowKit Go.ChangeShapes Go.WideShapes
def upB:Nat:=1073741824
def Has (te:TE):Nat→TypeId→List AV→Prop
 | 0,_,_=>False
 | d+1,t,cs=>match te.get t with
  | none=>False
  | some i=>match i.k with
   | .bool=>∃ b,cs=[tf b]
   | .int k=>∃ n:Int,(Lit.int k n).wf=true∧cs=[.v (.int k n)]
   | .str=>∃ l:List UInt8,l.length≤upB∧cs=[str l]
   | .slice e=>∃ es:List (List AV),(∀ c∈es,Has te d e c)∧(∀ j,te.get e=some j→es.length*j.bytes≤upB)∧cs=[.fz 0 es.length es.flatten]
   | .arr m e=>∃ es:List (List AV),es.length=m∧(∀ c∈es,Has te d e c)∧cs=es.flatten
   | .struct fs=>oO (Has te d) fs cs
   | _=>False
theorem kE {α:Type} {p:Nat→α→Prop}:∀ n:Nat,(∀ i,i<n→∃ x,p i x)→∃ l:List α,l.length=n∧∀ i x,l[i]?=some x→p i x
 | 0,_=>⟨[],rfl,fun i x h=>by simp at h⟩
 | n+1,h=>by
  obtain ⟨l,h1,h2⟩:=kE n fun i hi=>h i (by omega)
  obtain ⟨x,hx⟩:=h n (by omega);refine ⟨l++[x],by simp [h1],fun i y hy=>?_⟩;by_cases hi:i<n
  · rw [List.getElem?_append_left (by omega)] at hy
    exact h2 i y hy
  · rw [List.getElem?_append_right (by omega)] at hy
    have:i-l.length=0:=by
     have:=(List.getElem?_eq_some_iff.1 hy).1;simp at this;omega
    rw [this] at hy;simp at hy;subst hy;have:i=n:=by omega
    subst this;exact hx
theorem fu {α:Type} {m:Nat}:∀ {es:List (List α)},(∀ c∈es,c.length=m)→es.flatten.length=es.length*m
 | [],_=>by simp
 | c::es,h=>by
  rw [List.flatten_cons,List.length_append,h c List.mem_cons_self,fu fun x hx=>h x (List.mem_cons_of_mem _ hx),List.length_cons,Nat.add_mul,Nat.one_mul,Nat.add_comm]
theorem kp {α:Type} {m:Nat} (hm:0<m):∀ {es:List (List α)},(∀ c∈es,c.length=m)→∀ {j:Nat} {x:α},es.flatten[j]?=some x→∃ c,es[j / m]?=some c∧c[j%m]?=some x
 | [],_,j,x,hj=>by simp at hj
 | c::es,h,j,x,hj=>by
  have hc:=h c List.mem_cons_self;rw [List.flatten_cons] at hj;by_cases h1:j<m
  · rw [List.getElem?_append_left (by omega)] at hj
    exact ⟨c,by rw [Nat.div_eq_of_lt h1];rfl,by rw [Nat.mod_eq_of_lt h1];exact hj⟩
  · rw [List.getElem?_append_right (by omega),hc] at hj
    obtain ⟨c',k1,k2⟩:=kp hm (fun x hx=>h x (List.mem_cons_of_mem _ hx)) hj;refine ⟨c',?_,?_⟩
    · have:j / m=(j-m) / m+1:=by
       rw [Nat.div_eq_sub_div hm (by omega)]
      rw [this]
      simpa using k1
    · rw [Nat.mod_eq_sub_mod (by omega)]
      exact k2
abbrev noL:aW:=fun _ _=>False
abbrev noO:aD:=fun _=>none
theorem A9 (lv b:Nat):may noO noL lv b:=⟨aI,fun _ _ h=>h⟩
theorem gT {H:Type} {P:Program} {e:TypeId}:∀ {l:List (DataW H)} {d:DataW H},d∈l→∀ m∈d.weights P e,m∈DataW.weightsAll P e l
 | a::l,d,h,m,hm=>by
  simp only [DataW.weightsAll,List.mem_append];rcases List.mem_cons.1 h with rfl|h
  · exact .inl hm
  · exact .inr (gT h m hm)
section
variable {P:Program} {te:TE} {w:World} {H:Type} {enc:TypeId×Value→H} {held:Bool}
def CellsAre (w:World) (cs:List Value) (av:List AV):Prop:=av.length=cs.length∧∀ (j:Nat) c,av[j]?=some c→c.ok 0=true∧∃ v,cs[j]?=some v∧Rep w noO noL c v
theorem CellsAre.one {v:Value} {a:AV} (h1:a.ok 0=true) (h2:Rep w noO noL a v):CellsAre w [v] [a]:=
 ⟨rfl,fun j c hj=>by
  cases j with
  | zero=>simp at hj;subst hj;exact ⟨h1,v,rfl,h2⟩
  | succ j=>simp at hj⟩
theorem oJ (hte:TEok P te) {d n:Nat} (ih:∀ t,bS te d t=true→∀ n (cs:List Value) x,DataW.trod enc P w 0 (fun _=>true) held n t cs=some x→(∀ m∈x.1.weights P t,m≤upB)→∃ av,Has te d t av∧CellsAre w cs av)
 {cs:List Value}:∀ (l:List Field) (o:Nat) (xs:List (DataW H×List MemPlace)),xs.length=l.length→(∀ (i:Nat) (f:Field),l[i]?=some f→DataW.trod enc P w 0 (fun _=>true) held n f.type ((cs.drop f.offset).take (P.cellsOf f.type))=xs[i]?)→
  fw te o (l.map fun f=>(f.offset,f.type)) cs.length=true→((l.map fun f=>(f.offset,f.type)).all fun p=>bS te d p.2)=true→
  (∀ m∈DataW.weightsEach P (l.map (·.type)) (xs.map (·.1)),m≤upB)→∃ av,oO (Has te d) (l.map fun f=>(f.offset,f.type)) av∧CellsAre w (cs.drop o) av
 | [],o,xs,hx,hf,hc,hp,hw=>by
  simp only [List.map_nil,fw] at hc;have:=Nat.eq_of_beq_eq_true hc;refine ⟨[],rfl,by simp;omega,fun j c hj=>by simp at hj⟩
 | f::l,o,[],hx,hf,hc,hp,hw=>by simp at hx
 | f::l,o,y::xs,hx,hf,hc,hp,hw=>by
  simp only [List.map_cons,fw,Bool.and_eq_true] at hc;obtain ⟨c1,c2⟩:=hc;have c1:=Nat.eq_of_beq_eq_true c1;simp only [List.map_cons,List.all_cons,Bool.and_eq_true] at hp;have h0:=hf 0 f rfl;simp only [List.getElem?_cons_zero] at h0;simp only [List.map_cons,DataW.weightsEach,List.mem_append] at hw;obtain ⟨a,a1,a2⟩:=ih f.type hp.1 n _ y h0 fun m hm=>hw m (.inl hm)
  cases hg:te.get f.type with
  | none=>rw [hg] at c2;cases c2
  | some j=>
   rw [hg] at c2;simp only at c2;obtain ⟨b,b1,b2⟩:=oJ hte ih l (o+j.size) xs (by simpa using hx) (fun i g hg=>by simpa using hf (i+1) g (by simpa using hg)) c2 hp.2 (fun m hm=>hw m (.inr hm));rw [((hte.tells hg).cells).1,← c1] at a2;refine ⟨a++b,⟨a,b,rfl,a1,b1⟩,?_⟩;have hle:∀ (l:List (Nat×TypeId)) (o:Nat),fw te o l cs.length=true→o≤cs.length:=by
    intro l;induction l with
    | nil=>intro o h;simp only [fw] at h;exact Nat.le_of_eq (Nat.eq_of_beq_eq_true h)
    | cons p l ihl=>
     intro o h;obtain ⟨po,pt⟩:=p;simp only [fw,Bool.and_eq_true] at h;cases hgp:te.get pt with
     | none=>rw [hgp] at h;cases h.2
     | some q=>
      rw [hgp] at h;have:=ihl _ h.2;omega
   have hlen:=hle _ _ c2;have al:a.length=j.size:=by rw [a2.1];simp;omega
   refine ⟨by rw [List.length_append,al,b2.1];simp;omega,fun k c hk=>?_⟩;by_cases hk1:k<a.length
   · rw [List.getElem?_append_left hk1] at hk
     obtain ⟨z1,v,z2,z3⟩:=a2.2 k c hk;rw [List.getElem?_take,if_pos (by omega)] at z2;exact ⟨z1,v,z2,z3⟩
   · rw [List.getElem?_append_right (by omega)] at hk
     obtain ⟨z1,v,z2,z3⟩:=b2.2 _ c hk;refine ⟨z1,v,?_,z3⟩;rw [List.getElem?_drop] at z2 ⊢;rw [← z2];congr 1;omega
theorem uj (hte:TEok P te):∀ d t,bS te d t=true→∀ n (cs:List Value) x,DataW.trod enc P w 0 (fun _=>true) held n t cs=some x→(∀ m∈x.1.weights P t,m≤upB)→
 ∃ av,Has te d t av∧CellsAre w cs av
 | 0,t,hp,n,cs,x,h,hw=>by simp [bS] at hp
 | d+1,t,hp,n,cs,x,h,hw=>by
  have ih:=uj hte d;simp only [bS] at hp;simp only [Has];cases hg:te.get t with
  | none=>rw [hg] at hp;cases hp
  | some i=>
   rw [hg] at hp;have ht:=hte.tells hg;obtain ⟨k,size,bytes,zero⟩:=i;cases k with
   | int k=>
    obtain ⟨m,rfl,rfl,h3⟩:=DataW.trod_int (ht.int rfl) h;exact ⟨[.v (.int k m)],⟨m,h3,rfl⟩,.one rfl .v⟩
   | bool=>
    obtain ⟨b,rfl,rfl⟩:=DataW.trod_bool (ht.bool rfl) h;exact ⟨[tf b],⟨b,rfl⟩,.one rfl .v⟩
   | str=>
    obtain ⟨s,rfl,rfl,_⟩:=DataW.trod_string (ht.str rfl) h;exact ⟨[str s.data.toList],⟨_,hw _ (by simp [DataW.weights]),rfl⟩,.one rfl .v⟩
   | slice e=>
    simp only [Bool.and_eq_true] at hp;obtain ⟨hp1,hp2⟩:=hp;cases he:te.get e with
    | none=>rw [he] at hp2;cases hp2
    | some j=>
     rw [he] at hp2;have hpos:0<j.size:=Nat.blt_eq.mp hp2;have hce:=(hte.tells he).cells;rcases DataW.trod_slice (ht.slice rfl) h with ⟨rfl,rfl⟩|⟨a,len,cap,elems,rest,n',rfl,rfl,rfl,hb,hlc,hcm,hel,hget,_,_⟩
     · exact ⟨[.fz 0 0 []],⟨[],by simp,fun _ _=>by simp,rfl⟩,.one rfl .fz0⟩
     · have hwt:∀ y∈elems,∀ m∈y.1.weights P e,m≤upB:=fun y hy m hm=>by
        refine hw m ?_;simp only [DataW.weights,ht.slice rfl,List.mem_cons,List.mem_append];exact .inr (.inl (gT (List.mem_map_of_mem hy) m hm))
       have hone:∀ i,i<len→∃ av,Has te d e av∧av.length=j.size∧∀ (r:Nat) c,av[r]?=some c→c.ok 0=true∧∃ v,w.cell? ((a.add (i*j.size)).add r)=some v∧Rep w noO noL c v:=by
        intro i hi;have h1:=hget i hi;have hil:i<elems.length:=by omega
        rw [List.getElem?_eq_getElem hil] at h1;obtain ⟨cs',h2,h3⟩:=Option.bind_eq_some_iff.1 h1;obtain ⟨_,q1,q2⟩:=World.cells?_some h2;obtain ⟨av,b1,b2,b3⟩:=ih e hp1 n' cs' _ h3 (hwt _ (List.getElem_mem hil));rw [hce.1] at q1 q2;refine ⟨av,b1,by rw [b2,q1],fun r c hr=>?_⟩;obtain ⟨z1,v,z2,z3⟩:=b3 r c hr;have hrl:r<j.size:=by rw [← q1,← b2];exact (List.getElem?_eq_some_iff.1 hr).1
        exact ⟨z1,v,by rw [q2 r hrl,z2],z3⟩
       obtain ⟨es,l1,l2⟩:=kE len hone;have hlen:∀ c∈es,c.length=j.size:=fun c hc=>by
        obtain ⟨i,hi⟩:=List.mem_iff_getElem?.1 hc;exact (l2 i c hi).2.1
       have hfl:=fu hlen;refine ⟨[.fz 0 es.length es.flatten],⟨es,fun c hc=>?_,fun j' hj'=>?_,rfl⟩,.one rfl ?_⟩
       · obtain ⟨i,hi⟩:=List.mem_iff_getElem?.1 hc
         exact (l2 i c hi).1
       · rw [he] at hj'
         cases hj';have:=hw ((elems.length+rest.length)*P.bytesOf e) (by simp [DataW.weights,ht.slice rfl]);rw [hce.2] at this;have h2:es.length*j.bytes≤(elems.length+rest.length)*j.bytes:=Nat.mul_le_mul_right _ (by omega);omega
       · by_cases hl0:len=0
         · have:es=[]:=List.eq_nil_of_length_eq_zero (by omega)
           subst this;rw [hl0];exact .fz0
         ·
          have hc0:∀ q,q<es.flatten.length→∃ c v,es.flatten[q]?=some c∧c.ok 0=true∧w.cell? (a.add q)=some v∧Rep w noO noL c v:=by
           intro q hq;obtain ⟨c,k1,k2⟩:=kp hpos hlen (List.getElem?_eq_getElem hq);obtain ⟨_,_,g3⟩:=l2 _ c k1;obtain ⟨z1,v,z2,z3⟩:=g3 _ _ k2;refine ⟨_,v,List.getElem?_eq_getElem hq,z1,?_,z3⟩;rw [Addr.add_add,Nat.mul_comm,Nat.div_add_mod] at z2;exact z2
          have hpf:0<es.flatten.length:=by rw [hfl,l1];exact Nat.mul_pos (by omega) hpos
          obtain ⟨b,o,sp⟩:=a;have hsp:sp=none:=by
           obtain ⟨c,v,_,_,h3,_⟩:=hc0 0 hpf;simp only [Addr.add,if_true,World.cell?] at h3;split at h3
           · split at h3
             · cases h3
             · rename_i hs
               simpa using hs
           · cases h3
          subst hsp;rw [l1];refine .fz (fun q=>(w.cell? ⟨b,o+q,none⟩).getD undef) (A9 _ _) hlc (fun c hc=>?_) (fun q hq=>?_) (fun q c hq=>?_) hpf
          · obtain ⟨q,hq⟩:=List.mem_iff_getElem?.1 hc
            obtain ⟨c',v,h1,h2,_⟩:=hc0 q (List.getElem?_eq_some_iff.1 hq).1;rw [hq] at h1;cases h1;exact h2
          · obtain ⟨c',v,h1,h2,h3,h4⟩:=hc0 q hq
            rw [Addr.add_lit] at h3;rw [h3];rfl
          · obtain ⟨c',v,h1,h2,h3,h4⟩:=hc0 q (List.getElem?_eq_some_iff.1 hq).1
            rw [hq] at h1;cases h1;rw [Addr.add_lit] at h3;rw [h3];exact h4
   | arr m e=>
    simp only [Bool.and_eq_true] at hp;obtain ⟨hp1,hp2⟩:=hp;cases he:te.get e with
    | none=>rw [he] at hp2;cases hp2
    | some j=>
     rw [he] at hp2;simp only [Bool.and_eq_true] at hp2;have hpos:0<j.size:=Nat.blt_eq.mp hp2.1;have hsz:size=m*j.size:=Nat.eq_of_beq_eq_true hp2.2;have hce:=(hte.tells he).cells;obtain ⟨xs,n',rfl,rfl,hl,hxl,hget⟩:=DataW.trod_array (ht.arr rfl) h;have hl:cs.length=m*j.size:=by rw [hl,ht.cells.1,← hsz]
     have hone:∀ i,i<m→∃ av,Has te d e av∧CellsAre w ((cs.drop (i*j.size)).take j.size) av:=by
      intro i hi;have h1:=hget i hi;have hil:i<xs.length:=by omega
      rw [List.getElem?_eq_getElem hil,hce.1] at h1;refine ih e hp1 n' _ _ h1 fun q hq=>hw q ?_
      simp only [DataW.weights,ht.arr rfl];exact gT (List.mem_map_of_mem (List.getElem_mem hil)) q hq
     obtain ⟨es,l1,l2⟩:=kE m hone;have hlen:∀ c∈es,c.length=j.size:=fun c hc=>by
      obtain ⟨i,hi⟩:=List.mem_iff_getElem?.1 hc;have hil:i<m:=by rw [← l1];exact (List.getElem?_eq_some_iff.1 hi).1
      rw [(l2 i c hi).2.1];show ((cs.drop (i*j.size)).take j.size).length=j.size;have:(i+1)*j.size≤m*j.size:=Nat.mul_le_mul_right _ hil;rw [Nat.add_mul,Nat.one_mul,← hl] at this;simp;omega
     refine ⟨es.flatten,⟨es,l1,fun c hc=>?_,rfl⟩,by rw [fu hlen,l1,hl],fun q c hq=>?_⟩
     · obtain ⟨i,hi⟩:=List.mem_iff_getElem?.1 hc
       exact (l2 i c hi).1
     · obtain ⟨c',k1,k2⟩:=kp hpos hlen hq
       obtain ⟨z1,v,z2,z3⟩:=(l2 _ c' k1).2.2 _ c k2;refine ⟨z1,v,?_,z3⟩;rw [List.getElem?_take,if_pos (Nat.mod_lt _ hpos),List.getElem?_drop,Nat.mul_comm,Nat.div_add_mod] at z2;exact z2
   | struct fs=>
    simp only [Bool.and_eq_true] at hp;obtain ⟨fl,f1,f2⟩:=ht.struct rfl;obtain ⟨xs,n',rfl,rfl,hl,hxl,hget⟩:=DataW.trod_struct f1 h;rw [ht.cells.1] at hl;subst f2;simp only at hl;rw [← hl] at hp;have:=oJ hte ih (n:=n') (cs:=cs) fl.toList 0 xs (by simpa using hxl) (fun i f hf=>hget i f (by simpa using hf)) hp.1 hp.2 (fun m hm=>hw m (by simpa [DataW.weights,f1] using hm))
    simpa using this
   | _=>cases hp
end
def HasArgs (te:TE) (d:Nat):List TypeId→List AV→Prop
 | [],[]=>True
 | t::ts,a::r=>(∃ i cs,te.get t=some i∧Has te d t cs∧a=jM i.k.agg cs)∧HasArgs te d ts r
 | _,_=>False
section
variable {P:Program} {te:TE} {w:World} {H:Type} {enc:TypeId×Value→H}
theorem gI {t:TypeId} {v:Value} {dsc:TypeDesc} {r:Reach} {base:Nat} (hu:P.underlying t=some dsc) (hn:(match dsc with|.int _|.bool|.string|.slice _=>true|_=>false)=true)
 (h:Value.okWide P w r base t v):v.cells=#[v]:=by
 cases dsc<;>simp at hn
 · simp only [Value.okWide,hu,Cell.okWide] at h
   cases v<;>simp_all [Cell.ok,Value.cells]
 · simp only [Value.okWide,hu,Cell.okWide] at h
   cases v<;>simp_all [Cell.ok,Value.cells]
 · simp only [Value.okWide,hu,Cell.okWide] at h
   cases v<;>simp_all [Cell.ok,Value.cells]
 · simp only [Value.okWide,hu,Cell.okWide] at h
   cases v<;>simp_all [Cell.ok,Value.cells]
theorem D4 (hte:TEok P te) {d:Nat} {t:TypeId} {i:TI} {v:Value} {r:Reach} {base:Nat} {l:List AV} (hg:te.get t=some i) (hp:bS te d t=true) (hv:Value.okWide P w r base t v)
 (hc:CellsAre w v.cells.toList l):Rep w noO noL (jM i.k.agg l) v:=by
 cases d with
 | zero=>simp [bS] at hp
 | succ d=>
  simp only [bS,hg] at hp;have ht:=hte.tells hg;have one:v.cells=#[v]→i.k.agg=false→Rep w noO noL (jM i.k.agg l) v:=by
   intro h1 h2;rw [h1] at hc;obtain ⟨h3,h4⟩:=hc;have h3:l.length=1:=h3;obtain ⟨a,rfl⟩:=List.length_eq_one_iff.1 h3;obtain ⟨_,v',h5,h6⟩:=h4 0 a rfl;simp at h5;subst h5;rw [h2];exact h6
  have many:(∃ cs,v=.agg cs)→i.k.agg=true→Rep w noO noL (jM i.k.agg l) v:=by
   rintro ⟨cs,rfl⟩ h2;simp only [Value.cells] at hc;obtain ⟨h3,h4⟩:=hc;rw [h2];refine .agg (fun j=>cs.getD j undef) (by simpa using h3.symm) (fun j hj=>?_) (fun j c hj=>?_)
   · have:j<cs.size:=by simp at h3;omega
     simp [Array.getD,this]
   · obtain ⟨_,v,h5,h6⟩:=h4 j c hj
     rw [Array.getElem?_toList] at h5;rw [Array.getD_eq_getD_getElem?,h5];exact h6
  obtain ⟨k,size,bytes,zero⟩:=i;cases k with
  | int k=>exact one (gI (ht.int rfl) rfl hv) rfl
  | bool=>exact one (gI (ht.bool rfl) rfl hv) rfl
  | str=>exact one (gI (ht.str rfl) rfl hv) rfl
  | slice e=>exact one (gI (ht.slice rfl) rfl hv) rfl
  | arr m e=>
   refine many ?_ rfl;simp only [Value.okWide,ht.arr rfl] at hv;exact ⟨hv.choose,hv.choose_spec.1⟩
  | struct fs=>
   obtain ⟨fl,f1,f2⟩:=ht.struct rfl;refine many ?_ rfl;simp only [Value.okWide,f1] at hv;exact ⟨hv.choose,hv.choose_spec.1⟩
  | _=>cases hp
theorem rS (hte:TEok P te) {d:Nat} {r:Reach} {base:Nat}:∀ {ts:List TypeId} {vs:List Value} {ds:List (DataW H)} {ps:List MemPlace},DataW.TrodAll enc P w 0 (fun _=>true) true ts vs ds ps→(ts.all fun t=>bS te d t)=true→
 (∀ (j:Nat) t v,ts[j]?=some t→vs[j]?=some v→Value.okWide P w r base t v)→(∀ m∈DataW.weightsEach P ts ds,m≤upB)→
 ∃ l,HasArgs te d ts l∧vs.length=l.length∧∀ (j:Nat) c,l[j]?=some c→∃ v,vs[j]?=some v∧Rep w noO noL c v
 | [],[],[],ps,h,hp,hv,hw=>⟨[],trivial,rfl,fun j c hj=>by simp at hj⟩
 | t::ts,v::vs,x::ds,ps,h,hp,hv,hw=>by
  obtain ⟨p,q,⟨n,h1⟩,h2,rfl⟩:=h;simp only [List.all_cons,Bool.and_eq_true] at hp;simp only [DataW.weightsEach,List.mem_append] at hw;obtain ⟨l,l1,l2,l3⟩:=rS hte h2 hp.2 (fun j t v ht hv'=>hv (j+1) t v (by simpa using ht) (by simpa using hv')) (fun m hm=>hw m (.inr hm));obtain ⟨a,a1,a2⟩:=uj hte d t hp.1 n _ _ h1 (fun m hm=>hw m (.inl hm));have hg:∃ i,te.get t=some i:=by
   cases d with
   | zero=>simp [bS] at hp
   | succ d=>
    have:=hp.1;simp only [bS] at this;cases hg:te.get t with
    | none=>rw [hg] at this;cases this
    | some i=>exact ⟨i,rfl⟩
  obtain ⟨i,hg⟩:=hg;have hr:=D4 hte hg hp.1 (hv 0 t v rfl rfl) a2;refine ⟨jM i.k.agg a::l,⟨⟨i,a,hg,a1,rfl⟩,l1⟩,by simp [l2],fun j c hj=>?_⟩;cases j with
  | zero=>simp at hj;subst hj;exact ⟨v,rfl,hr⟩
  | succ j=>simpa using l3 j c (by simpa using hj)
 | [],_::_,_,_,h,_,_,_=>by simp [DataW.TrodAll] at h
 | [],[],_::_,_,h,_,_,_=>by simp [DataW.TrodAll] at h
 | _::_,[],_,_,h,_,_,_=>by simp [DataW.TrodAll] at h
 | _::_,_::_,[],_,h,_,_,_=>by simp [DataW.TrodAll] at h
theorem mF (hl:laidOutB P=true) {w':World} (hb:Below w.heap.size w w'):∀ {ts:List TypeId} {vs:List Value} {ds:List (DataW H)} {ps:List MemPlace},DataW.TrodAll enc P w 0 (fun _=>true) true ts vs ds ps→
 (ts.all fun t=>P.readableRec t&&decide (t<P.types.size))=true→DataW.TrodAll enc P w' 0 (fun b=>decide (b<w.heap.size)) true ts vs ds ps
 | [],[],[],ps,h,hp=>h
 | t::ts,v::vs,y::ds,ps,h,hp=>by
  obtain ⟨p,q,h1,h2,rfl⟩:=h;simp only [List.all_cons,Bool.and_eq_true,decide_eq_true_eq] at hp;have hlt:∀ x∈p,x.block<w.heap.size:=fun x hx=>by obtain ⟨n,h1⟩:=h1;exact DataW.trod_lt n _ _ _ h1 x hx
  exact ⟨p,q,Below.trod hl hp.1.1 hp.1.2 h1 hb hlt,mF hl hb h2 (by simpa using hp.2),rfl⟩
 | [],_::_,_,_,h,_=>by simp [DataW.TrodAll] at h
 | [],[],_::_,_,h,_=>by simp [DataW.TrodAll] at h
 | _::_,[],_,_,h,_=>by simp [DataW.TrodAll] at h
 | _::_,_::_,[],_,h,_=>by simp [DataW.TrodAll] at h
theorem law_row (hte:TEok P te) {f:FuncId} {fn:Func} {s:ChangeSpec} {d:Nat} {tb:TypeId} (hl:laidOutB P=true) (hp:(fn.params.toList.all fun t=>bS te d t)=true)
 (hp2:(fn.params.toList.all fun t=>P.readableRec t&&decide (t<P.types.size))=true) (hres:fn.resultTypes=#[tb]) (hb:P.underlying tb=some .bool) (hvars:s.vars=[])
 (hfn:∀ ds:List (DataW H),ds.length=fn.params.toList.length→(s.fn H ds).results=[.lit (.bool true)]∧(s.fn H ds).args=ds∧(s.fn H ds).vars=[])
 (hac:∀ l,HasArgs te d fn.params.toList l→AC P f l emp (Ret (tf true)))
 {W:World} {base:Nat} {args:Array Value} {ds gs:List (DataW H)} {before:List MemPlace}
 (hval:∀ (j:Nat) t v,fn.params[j]?=some t→args[j]?=some v→Value.okWide P W .any base t v) (hW:DataW.Whole enc P fn.params.toList s.vars false W args.toList ds gs before)
 (hsz:(DataW.weightsEach P (fn.params.toList++s.plain.varTypes P) (ds++gs)).all (·≤upB)=true) :
 Calls P f args W fun e W'=>∃ v,e=.returned v∧s.post enc P fn false true false false W args v W':=by
 have hW':=hW;obtain ⟨p,q,hA,hV,rfl,hfz,hnd⟩:=hW;rw [hvars] at hV;obtain ⟨rfl,rfl⟩:=trodVars_none hV;have hlen:∀ {ts:List TypeId} {vs:List Value} {ds:List (DataW H)} {ps:List MemPlace},DataW.TrodAll enc P W 0 (fun _=>true) true ts vs ds ps→ds.length=ts.length:=by
  intro ts;induction ts with
  | nil=>intro vs ds ps h;cases vs<;>cases ds<;>first|rfl|(simp [DataW.TrodAll] at h)
  | cons t ts ih=>
   intro vs ds ps h;cases vs with
   | nil=>simp [DataW.TrodAll] at h
   | cons v vs=>
    cases ds with
    | nil=>simp [DataW.TrodAll] at h
    | cons x ds=>
     obtain ⟨_,_,_,h2,_⟩:=h;simp [ih h2]
 have hdl:=hlen hA;obtain ⟨l,l1,l2,l3⟩:=rS hte hA hp (fun j t v ht hv=>hval j t v (by simpa using ht) (by simpa using hv)) (fun m hm=>by
  have:=List.all_eq_true.1 hsz m ?_
  · simpa using this
  · rw [List.append_nil]
    have key:∀ (ts us:List TypeId) (ds:List (DataW H)),m∈DataW.weightsEach P ts ds→m∈DataW.weightsEach P (ts++us) ds:=by
     intro ts;induction ts with
     | nil=>intro us ds h;simp [DataW.weightsEach] at h
     | cons t ts ih=>
      intro us ds h;cases ds with
      | nil=>simp [DataW.weightsEach] at h
      | cons x ds=>
       simp only [DataW.weightsEach,List.mem_append,List.cons_append] at h ⊢;exact h.imp id (ih us ds)
    exact key _ _ _ hm)
 obtain ⟨_,hcall⟩:=hac l l1;have hs0:HSim W noO noL emp:=⟨(fun id ob h=>by cases h),fun _ _=>rfl,(fun id l b o h=>by cases h),(fun id id' l l' b o o' h=>by cases h),fun k b h=>h.elim⟩;refine hcall noL W noO args hs0 ⟨by simpa using l2,fun j c hj=>by simpa using l3 j c hj⟩ _ ?_ ?_
 · intro r h' w' φ' v hR hs' g hr
   obtain ⟨hr1,_⟩:=hR;cases hr1;cases hr;have bel:Below W.heap.size W w':=⟨g.os,g.tape,g.output,g.size,fun k hk=>g.keep k hk aI⟩;obtain ⟨f1,f2,f3⟩:=hfn ds hdl;refine ⟨_,rfl,ds,[],p++[],[],p,[],hW',?_,?_,?_,bel.frame _,fun h=>by cases h⟩
   · rw [List.append_nil,f1,hres]
     exact trodAll_mk1 (shut_bool hb true)
   · rw [List.append_nil,f2]
     exact mF hl bel hA hp2
   · rw [List.append_nil,f3,hvars]
     rfl
 · intro x h' w' φ' hR
   exact absurd hR.1 (by simp)
end
section
variable {te:TE}
theorem has_u8 {d:Nat} {t:TypeId} {i:TI} {cs:List AV} (h:Has te d t cs) (hg:te.get t=some i) (hk:i.k=.int .u8):∃ b:UInt8,cs=[u8 b.toNat]:=by
 cases d with
 | zero=>simp [Has] at h
 | succ d=>
  simp only [Has,hg,hk] at h;obtain ⟨n,h1,rfl⟩:=h;have h2:(0:Int)≤n∧n≤255:=by
   simp only [Lit.wf,Bool.and_eq_true,decide_eq_true_eq] at h1;have e1:IntKind.u8.min=0:=by decide
   have e2:IntKind.u8.max=255:=by decide
   omega
  refine ⟨ct n,?_⟩;rw [bV,Int.emod_eq_of_lt h2.1 (by omega)]
theorem has_int {d:Nat} {t:TypeId} {i:TI} {cs:List AV} (h:Has te d t cs) (hg:te.get t=some i) (hk:i.k=.int .i64):∃ n:Int,cs=[i64 n]∧-9223372036854775808≤n∧n≤9223372036854775807:=by
 cases d with
 | zero=>simp [Has] at h
 | succ d=>
  simp only [Has,hg,hk] at h;obtain ⟨n,h1,rfl⟩:=h;simp only [Lit.wf,Bool.and_eq_true,decide_eq_true_eq] at h1;have e1:IntKind.i64.min=-9223372036854775808:=by decide
  have e2:IntKind.i64.max=9223372036854775807:=by decide
  exact ⟨n,rfl,by omega,by omega⟩
theorem has_bool {d:Nat} {t:TypeId} {i:TI} {cs:List AV} (h:Has te d t cs) (hg:te.get t=some i) (hk:i.k=.bool):∃ b:Bool,cs=[tf b]:=by
 cases d with
 | zero=>simp [Has] at h
 | succ d=>simpa only [Has,hg,hk] using h
theorem choose_eq {α:Type} {f:α→List AV} {q:α→Prop}:∀ {es:List (List AV)},(∀ c∈es,∃ a,c=f a∧q a)→∃ l:List α,es=l.map f∧∀ a∈l,q a
 | [],_=>⟨[],rfl,fun a h=>by simp at h⟩
 | c::es,h=>by
  obtain ⟨a,rfl,ha⟩:=h c List.mem_cons_self;obtain ⟨l,h1,h2⟩:=choose_eq fun x hx=>h x (List.mem_cons_of_mem _ hx)
  refine ⟨a::l,by rw [h1];rfl,fun x hx=>?_⟩;rcases List.mem_cons.1 hx with rfl|hx
  · exact ha
  · exact h2 x hx
theorem has_slice {α:Type} {f:α→List AV} {q:α→Prop} {d:Nat} {t e:TypeId} {i j:TI} {cs:List AV} (h:Has te (d+1) t cs) (hg:te.get t=some i) (hk:i.k=.slice e) (he:te.get e=some j)
 (hq:∀ c,Has te d e c→∃ a,c=f a∧q a):∃ l:List α,cs=[.fz 0 l.length (l.flatMap f)]∧l.length*j.bytes≤1073741824∧∀ a∈l,q a:=by
 simp only [Has,hg,hk] at h;obtain ⟨es,h1,h2,h3⟩:=h;obtain ⟨l,rfl,h4⟩:=choose_eq (f:=f) (q:=q) fun c hc=>hq c (h1 c hc)
 exact ⟨l,by rw [h3,List.length_map,List.flatMap_def],by have:=h2 j he;rw [List.length_map] at this;exact this,h4⟩
theorem has_bytes {d:Nat} {t e:TypeId} {i j:TI} {cs:List AV} (h:Has te (d+1) t cs) (hg:te.get t=some i) (hk:i.k=.slice e) (he:te.get e=some j) (hj:j.k=.int .u8) (hb:j.bytes=1) :
 ∃ l:List UInt8,cs=[.fz 0 l.length (cl bc l)]∧l.length≤1073741824:=by
 obtain ⟨l,h1,h2,_⟩:=has_slice (f:=bc) (q:=fun _=>True) h hg hk he fun c hc=>by
  obtain ⟨b,hb⟩:=has_u8 hc he hj;exact ⟨b,hb,trivial⟩
 exact ⟨l,h1,by rw [hb] at h2;omega⟩
theorem vB {d:Nat} {t:TypeId} {i:TI} {ts:List TypeId} {l:List AV} (h:HasArgs te d (t::ts) l) (hg:te.get t=some i):∃ cs r,Has te d t cs∧HasArgs te d ts r∧l=jM i.k.agg cs::r:=by
 cases l with
 | nil=>exact h.elim
 | cons a r=>
  obtain ⟨⟨i',cs,h1,h2,h3⟩,h4⟩:=h;rw [hg] at h1;cases h1;subst h3;exact ⟨cs,r,h2,h4,rfl⟩
theorem D5 {d:Nat} {l:List AV} (h:HasArgs te d [] l):l=[]:=by
 cases l with
 | nil=>rfl
 | cons a r=>exact h.elim
theorem GD {d:Nat} {t:TypeId} {i:TI} {l:List AV} (h:HasArgs te d [t] l) (hg:te.get t=some i):∃ cs,Has te d t cs∧l=[jM i.k.agg cs]:=by
 obtain ⟨cs,r,h1,h2,rfl⟩:=vB h hg;obtain rfl:=D5 h2;exact ⟨cs,h1,rfl⟩
theorem args2 {d:Nat} {t u:TypeId} {i j:TI} {l:List AV} (h:HasArgs te d [t,u] l) (hg:te.get t=some i) (hg2:te.get u=some j):∃ cs es,Has te d t cs∧Has te d u es∧l=[jM i.k.agg cs,jM j.k.agg es]:=by
 obtain ⟨cs,r,h1,h2,rfl⟩:=vB h hg;obtain ⟨es,h3,rfl⟩:=GD h2 hg2;exact ⟨cs,es,h1,h3,rfl⟩
theorem has_struct {d:Nat} {t:TypeId} {i:TI} {fs:List (Nat×TypeId)} {cs:List AV} (h:Has te (d+1) t cs) (hg:te.get t=some i) (hk:i.k=.struct fs):oO (Has te d) fs cs:=by
 simpa only [Has,hg,hk] using h
end
section
variable {te:TE}
theorem has_sl {α:Type} {f:α→List AV} {q:α→Prop} {d:Nat} {t e:TypeId} {i j:TI} {cs:List AV} (h:Has te (d+1) t cs) (hg:te.get t=some i) (hk:i.k=.slice e) (he:te.get e=some j)
 (hq:∀ c,Has te d e c→∃ a,c=f a∧q a):∃ l:List α,cs=[.fz 0 l.length (cl f l)]∧l.length*j.bytes≤1073741824∧∀ a∈l,q a:=has_slice h hg hk he hq
end
section
variable {H:Type} {P:Program} {K:Nat}
theorem Et (d:DataW H):1≤Rows.uptoBulk d:=by
 cases d with
 | lit l=>cases l<;>simp [Rows.uptoBulk]
 | nil=>simp [Rows.uptoBulk]
 | ptr d=>simp [Rows.uptoBulk]
 | slice elems spare=>simp [Rows.uptoBulk]
 | agg parts=>simp [Rows.uptoBulk]
 | iface t d=>simp [Rows.uptoBulk]
 | map entries=>simp [Rows.uptoBulk]
 | held h=>simp [Rows.uptoBulk]
theorem wi:∀ l:List (DataW H),l.length≤Rows.uptoBulkAll l
 | []=>by simp [Rows.uptoBulkAll]
 | x::r=>by have:=Et x;have:=wi r;simp only [Rows.uptoBulkAll,List.length_cons];omega
theorem C8 {m a b:Nat} (h:m≤a) (hb:1≤b):m≤a*b:=Nat.le_trans h (Nat.le_mul_of_pos_right _ hb)
theorem gZ {te:TE} (hte:TEok P te) {d:Nat} {t:TypeId} {D:TypeDesc} (h:bS te d t=true) (hu:P.underlying t=some D):∃ d' i,d=d'+1∧te.get t=some i∧i.k.chk D=true:=by
 cases d with
 | zero=>simp [bS] at h
 | succ d=>
  cases hg:te.get t with
  | none=>simp [bS,hg] at h
  | some i=>
   obtain ⟨D',h1,h2⟩:=(hte.tells hg).desc;rw [hu] at h1;cases h1;exact ⟨d,i,rfl,rfl,h2⟩
theorem uf {te:TE} (hte:TEok P te) {d:Nat} {t e:TypeId} (h:bS te d t=true) (hu:P.underlying t=some (.slice e)):∃ d',bS te d' e=true∧∃ j,te.get e=some j:=by
 obtain ⟨d',⟨k,sz,by_,z⟩,rfl,hg,hc⟩:=gZ hte h hu;cases k<;>simp only [TK.chk,Bool.false_eq_true] at hc
 rename_i e'
 have:=Nat.eq_of_beq_eq_true hc;subst this;simp only [bS,hg,Bool.and_eq_true] at h;cases he:te.get e' with
 | none=>rw [he] at h;cases h.2
 | some j=>exact ⟨d',h.1,j,rfl⟩
theorem y6 {te:TE} (hte:TEok P te) {d n:Nat} {t e:TypeId} (h:bS te d t=true) (hu:P.underlying t=some (.array n e)):∃ d',bS te d' e=true:=by
 obtain ⟨d',⟨k,sz,by_,z⟩,rfl,hg,hc⟩:=gZ hte h hu;cases k<;>simp only [TK.chk,Bool.false_eq_true,Bool.and_eq_true] at hc
 rename_i e'
 have:=Nat.eq_of_beq_eq_true hc.2;subst this;simp only [bS,hg,Bool.and_eq_true] at h;exact ⟨d',h.1⟩
theorem sN {te:TE} (hte:TEok P te) {d:Nat} {t:TypeId} {fs:Array Field} (h:bS te d t=true) (hu:P.underlying t=some (.struct fs)):∃ d',∀ t∈fs.toList.map (·.type),bS te d' t=true:=by
 obtain ⟨d',⟨k,sz,by_,z⟩,rfl,hg,hc⟩:=gZ hte h hu;cases k<;>simp only [TK.chk,Bool.false_eq_true] at hc
 rename_i l
 have hl:l=fs.toList.map fun f=>(f.offset,f.type):=by simpa using hc
 simp only [bS,hg,Bool.and_eq_true,List.all_eq_true] at h;refine ⟨d',fun t ht=>?_⟩;obtain ⟨f,hf,rfl⟩:=List.mem_map.1 ht;exact h.2 (f.offset,f.type) (by rw [hl];exact List.mem_map.2 ⟨f,hf,rfl⟩)
theorem y4 {te:TE} (hte:TEok P te) {d:Nat} {t e:TypeId} (h:bS te d t=true) (hu:P.underlying t=some (.pointer e)):False:=by
 obtain ⟨d',⟨k,sz,by_,z⟩,rfl,hg,hc⟩:=gZ hte h hu;cases k<;>simp only [TK.chk,Bool.false_eq_true] at hc
 simp [bS,hg] at h
theorem y5 {te:TE} (hte:TEok P te) {d:Nat} {t k e:TypeId} (h:bS te d t=true) (hu:P.underlying t=some (.map k e)):False:=by
 obtain ⟨d',⟨k,sz,by_,z⟩,rfl,hg,hc⟩:=gZ hte h hu;cases k<;>simp only [TK.chk,Bool.false_eq_true] at hc
 simp [bS,hg] at h
mutual
theorem G5 {te:TE} (hte:TEok P te) (hK:∀ t j,te.get t=some j→P.bytesOf t≤K) (h1:1≤K):∀ (x:DataW H) (d:Nat) (t:TypeId),bS te d t=true→∀ m∈x.weights P t,m≤Rows.uptoBulk x*K
 | .lit l,d,t,hp,m,h=>by
  cases l with
  | string b=>
   simp only [DataW.weights,List.mem_singleton] at h;subst h;exact C8 (by simp [Rows.uptoBulk]) h1
  | _=>simp [DataW.weights] at h
 | .nil,d,t,hp,m,h=>by simp [DataW.weights] at h
 | .ptr x,d,t,hp,m,h=>by
  simp only [DataW.weights] at h;split at h
  · rename_i hu;exact (y4 hte hp hu).elim
  · cases h
 | .slice es sp,d,t,hp,m,h=>by
  simp only [DataW.weights] at h;split at h
  · rename_i e hu
    obtain ⟨d',hp',j,hj⟩:=uf hte hp hu;rcases List.mem_cons.1 h with rfl|h
    · have h2:=wi es
      have h3:=wi sp;exact Nat.mul_le_mul (by simp only [Rows.uptoBulk];omega) (hK _ _ hj)
    · rcases List.mem_append.1 h with h|h
      · exact Nat.le_trans (wF hte hK h1 es d' e hp' m h) (Nat.mul_le_mul_right _ (by simp only [Rows.uptoBulk];omega))
      · exact Nat.le_trans (wF hte hK h1 sp d' e hp' m h) (Nat.mul_le_mul_right _ (by simp only [Rows.uptoBulk];omega))
  · cases h
 | .agg ps,d,t,hp,m,h=>by
  simp only [DataW.weights] at h;split at h
  · rename_i fs hu
    obtain ⟨d',hp'⟩:=sN hte hp hu;exact Nat.le_trans (vG hte hK h1 ps d' _ hp' m h) (Nat.mul_le_mul_right _ (by simp only [Rows.uptoBulk];omega))
  · rename_i n e hu
    obtain ⟨d',hp'⟩:=y6 hte hp hu;exact Nat.le_trans (wF hte hK h1 ps d' e hp' m h) (Nat.mul_le_mul_right _ (by simp only [Rows.uptoBulk];omega))
  · cases h
 | .iface t2 x,d,t,hp,m,h=>by simp [DataW.weights] at h
 | .map es,d,t,hp,m,h=>by
  simp only [DataW.weights] at h;split at h
  · rename_i hu;exact (y5 hte hp hu).elim
  · cases h
 | .held x,d,t,hp,m,h=>by simp [DataW.weights] at h
theorem wF {te:TE} (hte:TEok P te) (hK:∀ t j,te.get t=some j→P.bytesOf t≤K) (h1:1≤K):∀ (l:List (DataW H)) (d:Nat) (e:TypeId),bS te d e=true→∀ m∈DataW.weightsAll P e l,m≤Rows.uptoBulkAll l*K
 | [],d,e,hp,m,h=>by simp [DataW.weightsAll] at h
 | x::r,d,e,hp,m,h=>by
  simp only [DataW.weightsAll,List.mem_append] at h;rcases h with h|h
  · exact Nat.le_trans (G5 hte hK h1 x d e hp m h) (Nat.mul_le_mul_right _ (by simp only [Rows.uptoBulkAll];omega))
  · exact Nat.le_trans (wF hte hK h1 r d e hp m h) (Nat.mul_le_mul_right _ (by simp only [Rows.uptoBulkAll];omega))
theorem vG {te:TE} (hte:TEok P te) (hK:∀ t j,te.get t=some j→P.bytesOf t≤K) (h1:1≤K):∀ (l:List (DataW H)) (d:Nat) (ts:List TypeId),(∀ t∈ts,bS te d t=true)→∀ m∈DataW.weightsEach P ts l,m≤Rows.uptoBulkAll l*K
 | [],d,ts,hp,m,h=>by cases ts<;>simp [DataW.weightsEach] at h
 | x::r,d,[],hp,m,h=>by simp [DataW.weightsEach] at h
 | x::r,d,t::ts,hp,m,h=>by
  simp only [DataW.weightsEach,List.mem_append] at h;rcases h with h|h
  · exact Nat.le_trans (G5 hte hK h1 x d t (hp t List.mem_cons_self) m h) (Nat.mul_le_mul_right _ (by simp only [Rows.uptoBulkAll];omega))
  · exact Nat.le_trans (vG hte hK h1 r d ts (fun t ht=>hp t (List.mem_cons_of_mem _ ht)) m h) (Nat.mul_le_mul_right _ (by simp only [Rows.uptoBulkAll];omega))
end
theorem sized {te:TE} (hte:TEok P te) (hb:(te.all fun p=>Nat.ble p.2.bytes 1024)=true) {d:Nat} {ts us:List TypeId} {l:List (DataW H)} (hp:(ts.all fun t=>bS te d t)=true) (hus:us=[]) (hk:Rows.uptoSmall H l=true):(DataW.weightsEach P (ts++us) l).all (·≤upB)=true:=by
 have h:Rows.uptoBulkAll l≤1048576:=of_decide_eq_true hk;subst hus;rw [List.append_nil];refine List.all_eq_true.2 fun m hm=>decide_eq_true ?_
 have hK:∀ t j,te.get t=some j→P.bytesOf t≤1024:=fun t j hg=>by
  rw [((hte.tells hg).cells).2];have key:∀ r:TE,(r.all fun p=>Nat.ble p.2.bytes 1024)=true→TE.get r t=some j→j.bytes≤1024:=by
   intro r;induction r with
   | nil=>intro _ h;cases h
   | cons p r ih=>
    intro h1 h2;simp only [List.all_cons,Bool.and_eq_true] at h1;simp only [TE.get] at h2;cases hb:Nat.beq t p.1 with
    | true=>rw [hb] at h2;cases h2;exact Nat.le_of_ble_eq_true h1.1
    | false=>rw [hb] at h2;exact ih h1.2 h2
  exact key te hb hg
 have h2:=vG hte hK (by decide) l d ts (fun t ht=>List.all_eq_true.1 hp t ht) m hm;show m≤1073741824;omega
end
end Go.Proofs.YthnfcmgpedppaaaGreat.Fw.Up


namespace Go.Proofs.YthnfcmgpedppaaaGreat.Fw
open Go.RowKit
theorem Sim.yielded_no {n:Nat} {ops:Array Oper} {s:AS} {w:World} {φ:aD} {Λ:aW} {a:Act} (hs:Sim n w φ Λ s a) {j:Nat} {oj:Oper} {d:Nat} (hj:ops[j]?=some oj) (hd:oj.dst=some d)
 (hb:s.t d=.v undef):Go.yielded ops a.tmps j=none:=by
 have h:=hs.tmps d;rw [hb] at h;generalize hv:a.tmps.getD d undef=v at h;cases h;simp only [Go.yielded,hj,Option.bind_some,hd];cases hx:a.tmps[d]? with
 | none=>rfl
 | some y=>
  rw [Array.getD_eq_getD_getElem?,hx] at hv;simp only [Option.getD_some] at hv;rw [hv];rfl
theorem AOps.gskipu {P:Program} {n:Nat} {ops:Array Oper} {Q:bC} {s:AS} {i:Nat} {rest:List Nat} {o:Oper} {j:Nat} {want:Bool} {oj:Oper} {d:Nat} {dd:Option Tmp} (ho:ops[i]?=some o) (hg:o.guard=some (j,want)) (hj:ops[j]?=some oj)
 (hd:oj.dst=some d) (hb:s.t d=.v undef) (hdd:o.dst=dd) (hn:dd.all (Nat.blt · n)=true) (hr:AOps P n ops Q rest (s.put dd (.v undef))) :
 AOps P n ops Q (i::rest) s:=by
 intro Λ w φ a hs QQ hQ;have hy:=hs.yielded_no hj hd hb;have hw:((none:Option Bool) == some want)=false:=rfl;simp only [wpOps,ho,Region.wanted,hg,hy,hw,Bool.false_eq_true,if_false];subst hdd;exact hr Λ w φ _ (hs.put o.dst hn .v) QQ hQ
theorem OpAt.gskipu {P:Program} {n:Nat} {ops:Array Oper} {i:Nat} {o:Oper} {s:AS} {j:Nat} {want:Bool} {oj:Oper} {d:Nat} {dd:Option Tmp} (ho:ops[i]?=some o) (hg:o.guard=some (j,want)) (hj:ops[j]?=some oj)
 (hd:oj.dst=some d) (hb:s.t d=.v undef) (hdd:o.dst=dd) (hn:dd.all (Nat.blt · n)=true):OpAt P n ops i s (s.put dd (.v undef)):=by
 intro Λ w φ a hs K QQ hK;have hy:=hs.yielded_no hj hd hb;have hw:((none:Option Bool) == some want)=false:=rfl;simp only [wpOp,ho,Region.wanted,hg,hy,hw,Bool.false_eq_true,if_false];subst hdd;exact hK w φ _ (hs.put o.dst hn .v) (Goes.refl _ _)
theorem Gn {a b:Int} (ha:0≤a) (hb:0≤b∧b<256):(((a*2 ^ 8).toNat ||| b.toNat:Nat):Int)=a*256+b:=by
 have e:(a*2 ^ 8).toNat=2 ^ 8*a.toNat:=by omega
 rw [e,← Nat.two_pow_add_eq_or_of_lt (by omega:b.toNat<2 ^ 8) a.toNat];omega
theorem rM {n:Nat} {s:AS} {o:Oper} {d:Option Tmp} {t u:TypeId} {x y:Operand} {a b:Int} (ho:o.op=.binOp .or t x y u:=by exact rfl) (hx:s.ev x=i64 (a*2 ^ 8):=by exact rfl) (hy:s.ev y=i64 b:=by exact rfl)
 (ha:0≤a∧a≤36028797018963967:=by first|omega|decide|(simp;omega)) (hb:0≤b∧b<256:=by first|omega|decide|(simp;omega))
 (hdd:o.dst=d:=by conv=>lhs;whnf) (hd:d.all (Nat.blt · n)=true:=by exact rfl):OpOk Tryz.prog n o s (s.put d (i64 (a*256+b))):=by
 rw [← Gn ha.1 hb];exact vP ho hx hy (by omega) (by omega) hdd hd
theorem Weak.niltmp (k id esz:Nat) {α:Type} (f:α→List AV) {s:AS} (hk:s.t k=.v (.slice none 0 0):=by exact rfl) (hid:s.h id=none:=by exact rfl) :
 Weak s ((s.seth id (some (.row (cl f []) esz 0))).put (some k) (.sl id 0 0 ([]:List α).length esz)):=by
 intro n Λ w φ a hs;have hn:=hs.hs.dom id hid;have hc:Chg w φ Λ s.h id ⟨none,0⟩ w:=⟨hs.hs,Nat.le_refl _,rfl,rfl,rfl,fun _ _ _=>rfl,(fun b' o' h=>by cases h),(fun l hl=>by rw [hn] at hl;cases hl),(fun l hl=>by rw [hn] at hl;cases hl),.refl w⟩;have h1:HSim w (upd φ id (some ⟨none,0⟩)) Λ (upd s.h id (some (.row (cl f []) esz 0))):=hc.hsim ⟨rfl,.inl ⟨rfl,rfl⟩⟩;refine ⟨upd φ id (some ⟨none,0⟩),⟨hs.defs,hs.size,fun i=>?_,h1⟩,hc.goes⟩;show Rep w _ Λ (upd s.t k (.sl id 0 0 0 esz) i) _;by_cases he:i=k
 · subst he
   rw [aZ];have:=hs.tmps i;rw [hk] at this;generalize a.tmps.getD i undef=v at this;cases this;exact .sl0 (aZ _ _ _) rfl
 · rw [bf _ _ _ _ he]
   exact hc.rep (hs.tmps i)
section
variable {n:Nat} {s:AS} {o:Oper} {d:Option Tmp}
end
section
variable {n:Nat} {s:AS} {o:Oper} {d:Option Tmp}
theorem BX {P:Program} {te:TE} (hte:TEok P te) {t e:TypeId} {x y:Operand} {k k':IntKind} {c id:Nat} {ti tj:TI} (ho:o.op=.makeSlice t x y) (hx:s.ev x=.v (.int k c)) (hy:s.ev y=.v (.int k' c))
 (ht:te.get t=some ti) (hk:ti.k=.slice e) (he:te.get e=some tj) (hid:s.h id=none) (hz:Nat.beq tj.zero.length tj.size=true) (hb:tj.bytes*c≤140737488351232) (h63:c≤9223372036854775807)
 (hdd:o.dst=d) (hd:d.all (Nat.blt · n)=true):OpOk P n o s ((s.seth id (some (.row (jc tj.zero c) tj.size 0))).put d (.sl id 0 0 c tj.size)):=
 .chg hdd hd fun Λ w φ a hs=>by
  have hu:=(hte.tells ht).slice hk;obtain ⟨f,z,z1,z2,z3,z4,z5,z6,z7⟩:=(hte.tells he).info;have hzl:=Nat.eq_of_beq_eq_true hz;have hb':(f.bytes:Int)*(c:Int)≤281474976710656:=by
   have:((f.bytes*c:Nat):Int)≤281474976710656:=by rw [z3];omega
   rwa [Int.natCast_mul] at this
  have hrun:=run_make (P:=P) w t e f z hu z1 z4 k k' (c:Int) (c:Int) (by omega) (Int.le_refl _) hb' (by omega);simp only [Int.toNat_natCast] at hrun;have hrep:lH w φ Λ (madeCells z.cells (c*f.size)) (jc tj.zero c):=pJ z5 c _ (by rw [z2,hzl]);have hc:=Chg.alloc hs.hs hid (.cells (madeCells z.cells (c*f.size)) e) 0 0;have hsz:(madeCells z.cells (c*f.size)).size=c*f.size:=size_madeCells _ _;refine ⟨_,_,_,?_,hc,jj rfl (w0:=w) (by rw [eT,hzl,hsz,z2];exact Nat.le_refl _) (fun j q hj=>?_),.slice (some ⟨w.heap.size,0,none⟩) c c,.inl rfl,?_⟩
  · simp [execOp,ho,cc hs hx,cc hs hy,hrun]
  · obtain ⟨v,hv,hr⟩:=hrep.2 j q hj
    rw [Nat.zero_add] at hv;exact ⟨v,hv,hc.rep hr⟩
  · have hcs:(madeCells z.cells (c*f.size)).size=c*tj.size:=by rw [hsz,z2]
    exact Rep.sl (off:=0) (aZ _ _ _) rfl rfl (heap_alloc_new w _) (by omega) (Nat.le_refl _)
theorem wL {α:Type} {f:α→List AV} {a:α} {zs:List ZC} (h:zs.map (fun z=>AV.v z.val)=f a):∀ c,jc zs c=cl f (List.replicate c a)
 | 0=>rfl
 | c+1=>by rw [jc,wL h c,h];rfl
theorem Ek (id:Nat) {α:Type} (f:α→List AV) (a:α) (c:Nat) {t e:TypeId} {x y:Operand} {k k':IntKind} {ti tj:TI} (ho:o.op=.makeSlice t x y:=by exact rfl) (hx:s.ev x=.v (.int k c):=by exact rfl) (hy:s.ev y=.v (.int k' c):=by exact rfl)
 (ht:te.get t=some ti:=by exact rfl) (hk:ti.k=.slice e:=by exact rfl) (he:te.get e=some tj:=by exact rfl) (hid:s.h id=none:=by exact rfl) (hz:Nat.beq tj.zero.length tj.size=true:=by exact rfl)
 (hf:tj.zero.map (fun z=>AV.v z.val)=f a:=by exact rfl) (hb:tj.bytes*c≤140737488351232:=by first|omega|(simp;omega)) (h63:c≤9223372036854775807:=by omega)
 (hdd:o.dst=d:=by conv=>lhs;whnf) (hd:d.all (Nat.blt · n)=true:=by exact rfl):OpOk Tryz.prog n o s ((s.seth id (some (.row (cl f (List.replicate c a)) tj.size 0))).put d (.sl id 0 0 (List.replicate c a).length tj.size)):=by
 rw [List.length_replicate,← wL hf];exact BX te_ok ho hx hy ht hk he hid hz hb h63 hdd hd
end
section
variable {n:Nat} {s:AS} {o:Oper} {d:Option Tmp}
theorem OpOk.weak {P:Program} {s1 s2:AS} (h:OpOk P n o s s1) (hw:Weak s1 s2):OpOk P n o s s2:=by
 intro Λ w φ a hs next QQ hn;refine h Λ w φ a hs next QQ fun w' φ' a' hs' g=>?_
 obtain ⟨φ2,hs2,g2⟩:=hw n Λ w' φ' a' hs';exact hn w' φ2 a' hs2 (g.trans g2)
theorem Weak.kill (d id ver esz:Nat) {α:Type} {f:α→List AV} {l:List α} (hd:s.t d=.sl id ver 0 l.length esz) (hob:s.h id=some (.row (cl f l) esz ver)) (hf:∀ x,(f x).length=esz) (h5:0<esz)
 (h3:∀ x,AV.oks 0 (f x)=true):Weak s ((s.seth id (some (.row [] esz (ver+1)))).put (some d) (.fz 0 l.length (cl f l))):=by
 intro n Λ w φ a hs;obtain ⟨l0,hl0,hv0⟩:=hs.hs.ver (ver:=ver) (cells:=cl f l) hob (by simp [AObj.at]);have hc:Chg w φ Λ s.h id ⟨none,ver+1⟩ w:=⟨hs.hs,Nat.le_refl _,rfl,rfl,rfl,fun _ _ _=>rfl,(fun b' o' h=>by cases h),(fun l hl=>.inr (by rw [hl0] at hl;cases hl;show l0.ver<ver+1;omega)),(fun l hl e=>by rw [hl0] at hl;cases hl;subst e;simp at hv0),.refl w⟩;have h1:HSim w (upd φ id (some ⟨none,ver+1⟩)) Λ (upd s.h id (some (.row [] esz (ver+1)))):=hc.hsim ⟨rfl,.inl ⟨rfl,rfl⟩⟩;refine ⟨upd φ id (some ⟨none,ver+1⟩),⟨hs.defs,hs.size,fun i=>?_,h1⟩,hc.goes⟩;show Rep w _ Λ (upd s.t d (.fz 0 l.length (cl f l)) i) _;by_cases hi:i=d
 · subst hi
   rw [aZ];have hr:=hs.tmps i;rw [hd] at hr;by_cases hz:l=[]
   · subst hz
     obtain ⟨ad,cap,e⟩:=ij hr rfl;rw [e];exact .fz0
   · have hpos:0<l.length:=List.length_pos_iff.2 hz
     have hcl:(cl f l).length=l.length*esz:=bJ hf l;have hcp:0<(cl f l).length:=by rw [hcl];exact Nat.mul_pos hpos h5
     obtain ⟨l1,b0,oo0,arr,T,lo,hi,g1,g2,g3,g4,g5,g6,g7⟩:=hs.hs.at (ver:=ver) (cells:=cl f l) hob (by simp [AObj.at]) hcp;generalize hv:a.tmps.getD i undef=v at hr ⊢;generalize hL:l.length=L at hr ⊢;cases hr with
     | slx e1 e2=>rw [g1] at e1;cases e1;omega
     | sl0 e1 e2=>omega
     | sl e1 e2 e3 e4 e5 e6=>
      rw [g1] at e1;cases e1;rw [g3] at e3;cases e3;refine .fz (fun j=>arr.getD (oo0+0+j) undef) ⟨?_,fun k hk=>(hs.hs.lt id l1 b0 oo0 g1 g3).2 k⟩ e6 (gu fun x _=>AV.oks_iff.1 (h3 x)) (fun j hj=>?_) (fun j c hj=>?_) hcp
      · rintro ⟨id',l',o',q1,q2⟩
        by_cases e:id'=id
        · subst e;rw [aZ] at q1;cases q1;cases q2
        · rw [bf _ _ _ _ e] at q1
          exact e (hs.hs.inj id' id l' l1 b0 o' oo0 q1 g1 q2 g3)
      · have:oo0+0+j<arr.size:=by omega
        simp only [World.cell?,g4,Array.getD,this,dif_pos,getElem?_pos];rfl
      · obtain ⟨u,q1,q2⟩:=g7 j c hj
        have q3:arr[oo0+0+j]?=some u:=q1;rw [Array.getD_eq_getD_getElem?,q3];exact hc.rep q2
 · rw [bf _ _ _ _ hi]
   exact hc.rep (hs.tmps i)
theorem xV (s:AS) (id:Nat) (a b:Option AObj):(s.seth id a).seth id b=s.seth id b:=by
 simp only [AS.seth];congr 1
 funext i
 by_cases h:i=id
 · subst h;rw [aZ,aZ]
 · rw [bf _ _ _ _ h,bf _ _ _ _ h,bf _ _ _ _ h]
theorem BP (s:AS) (d:Nat) (x y:AV):(s.put (some d) x).put (some d) y=s.put (some d) y:=by
 simp only [AS.put];congr 1
 funext i
 by_cases h:i=d
 · subst h;rw [aZ,aZ]
 · rw [bf _ _ _ _ h,bf _ _ _ _ h,bf _ _ _ _ h]
theorem vS {dd:Nat} {t t2 e:TypeId} {x y:Operand} {id ver esz bt:Nat} {α:Type} {f:α→List AV} {l m:List α} {ti tj tk:TI} (ho:o.op=.call { callee:=.builtin .append,args:=#[x,y],argTypes:=#[t,t2] }:=by exact rfl)
 (hx:s.ev x=.sl id ver 0 l.length esz:=by exact rfl) (hob:s.h id=some (.row (cl f l) esz ver):=by exact rfl) (ht:te.get t=some ti:=by exact rfl) (hk:ti.k=.slice e:=by exact rfl) (he:te.get e=some tj:=by exact rfl)
 (hesz:tj.size=esz:=by exact rfl) (hbt:tj.bytes=bt:=by conv=>lhs;whnf) (ht2:te.get t2=some tk:=by exact rfl) (hk2:(match tk.k with|.slice _|.str=>true|_=>false)=true:=by exact rfl)
 (hsrc:SrcTo s y f esz m:=by first|exact .sl rfl rfl .row (fun _=>rfl)|exact .fz rfl (fun _=>rfl)|exact .str rfl|exact .nil rfl) (hf:∀ x,(f x).length=esz:=by exact fun _=>rfl) (h1:∀ x,(f x).all AV.one=true:=by exact fun _=>rfl)
 (h3:∀ x,AV.oks 0 (f x)=true:=by exact fun _=>rfl) (h5:0<esz:=by exact Nat.le_of_ble_eq_true rfl)
 (hb:(l.length+m.length)*bt≤140737488355328:=by first|omega|(simp;omega)) (hbp:0<bt:=by exact Nat.le_of_ble_eq_true rfl)
 (hdd:o.dst=some dd:=by conv=>lhs;whnf) (hd:(some dd).all (Nat.blt · n)=true:=by exact rfl) :
 OpOk Tryz.prog n o s ((s.seth id (some (.row [] esz (ver+2)))).put (some dd) (.fz 0 (l++m).length (cl f (l++m)))):=by
 have h:=gY (n:=n) (d:=some dd) ho hx hob ht hk he rfl hesz hbt ht2 hk2 hsrc hf h1 hb hbp hdd hd;have h2:=h.weak (Weak.kill (s:=(s.seth id (some (.row (cl f (l++m)) esz (ver+1)))).put (some dd) (.sl id (ver+1) 0 (l++m).length esz)) dd id (ver+1) esz (f:=f) (l:=l++m) (aZ _ _ _) (aZ _ _ _) hf h5 h3);have e:∀ (a b:Option AObj) (u v:AV),(((s.seth id a).put (some dd) u).seth id b).put (some dd) v=(s.seth id b).put (some dd) v:=by
  intro a b u v;have e1:((s.seth id a).put (some dd) u).seth id b=((s.seth id a).seth id b).put (some dd) u:=rfl;rw [e1,xV,BP]
 rwa [e] at h2
end
section pure
variable {κ β:Type} [DecidableEq κ]
def bg:List (κ×β)→κ→Option β
 | [],_=>none
 | (a,b)::m,k=>if a=k then some b else bg m k
def cp:List (κ×β)→κ→β→List (κ×β)
 | [],k,v=>[(k,v)]
 | (a,b)::m,k,v=>if a=k then (k,v)::m else (a,b)::cp m k v
def eJ:List (κ×β)→κ→List (κ×β)
 | [],_=>[]
 | (a,b)::m,k=>if a=k then m else (a,b)::eJ m k
def MNd (m:List (κ×β)):Prop:=(m.map (·.1)).Nodup
theorem iR (m:List (κ×β)) (k k':κ) (v:β):bg (cp m k v) k'=if k=k' then some v else bg m k':=by
 induction m with
 | nil=>simp [cp,bg]
 | cons p m ih=>
  obtain ⟨a,b⟩:=p;simp only [cp];split
  · rename_i h;subst h
    simp only [bg];split<;>rfl
  · rename_i h
    simp only [bg,ih];by_cases h1:a=k'
    · subst h1
      rw [if_pos rfl,if_neg (fun e=>h e.symm),if_pos rfl]
    · rw [if_neg h1,if_neg h1]
theorem rV {m:List (κ×β)} {k:κ} (h:k ∉ m.map (·.1)):bg m k=none:=by
 induction m with
 | nil=>rfl
 | cons p m ih=>
  obtain ⟨a,b⟩:=p;simp only [List.map_cons,List.mem_cons,not_or] at h;rw [bg,if_neg (fun e=>h.1 e.symm),ih h.2]
theorem uw {m:List (κ×β)} (hn:MNd m) (k k':κ):bg (eJ m k) k'=if k=k' then none else bg m k':=by
 induction m with
 | nil=>simp [eJ,bg]
 | cons p m ih=>
  obtain ⟨a,b⟩:=p;have hn':a ∉ m.map (·.1)∧MNd m:=by simpa [MNd] using hn
  simp only [eJ];split
  · rename_i h;subst h
    by_cases h1:a=k'
    · subst h1;rw [if_pos rfl];exact rV hn'.1
    · rw [if_neg h1,bg,if_neg h1]
  · rename_i h
    simp only [bg,ih hn'.2];by_cases h1:a=k'
    · subst h1
      rw [if_pos rfl,if_neg (fun e=>h e.symm),if_pos rfl]
    · rw [if_neg h1,if_neg h1]
theorem A1 {m:List (κ×β)} {k x:κ} {v:β} (h:x∈(cp m k v).map (·.1)):x=k∨x∈m.map (·.1):=by
 induction m with
 | nil=>simp [cp] at h;exact .inl h
 | cons p m ih=>
  obtain ⟨a,b⟩:=p;simp only [cp] at h;split at h
  · rename_i e;subst e;exact .inr (by simpa using h)
  · simp only [List.map_cons,List.mem_cons] at h ⊢
    rcases h with h|h
    · exact .inr (.inl h)
    · rcases ih h with h|h
      · exact .inl h
      · exact .inr (.inr h)
theorem MNd.put {m:List (κ×β)} (hn:MNd m) (k:κ) (v:β):MNd (cp m k v):=by
 induction m with
 | nil=>simp [cp,MNd]
 | cons p m ih=>
  obtain ⟨a,b⟩:=p;have hn':a ∉ m.map (·.1)∧MNd m:=by simpa [MNd] using hn
  simp only [cp];split
  · rename_i e;subst e;exact hn
  · rename_i e
    show ((a,b)::cp m k v |>.map (·.1)).Nodup;rw [List.map_cons,List.nodup_cons];refine ⟨fun h=>?_,ih hn'.2⟩;rcases A1 h with h|h
    · exact e h
    · exact hn'.1 h
theorem A7 {m:List (κ×β)} {k x:κ} (h:x∈(eJ m k).map (·.1)):x∈m.map (·.1):=by
 induction m with
 | nil=>exact h
 | cons p m ih=>
  obtain ⟨a,b⟩:=p;simp only [eJ] at h;split at h
  · simp only [List.map_cons,List.mem_cons];exact .inr h
  · simp only [List.map_cons,List.mem_cons] at h ⊢
    exact h.imp_right ih
theorem MNd.del {m:List (κ×β)} (hn:MNd m) (k:κ):MNd (eJ m k):=by
 induction m with
 | nil=>exact hn
 | cons p m ih=>
  obtain ⟨a,b⟩:=p;have hn':a ∉ m.map (·.1)∧MNd m:=by simpa [MNd] using hn
  simp only [eJ];split
  · exact hn'.2
  · show ((a,b)::eJ m k |>.map (·.1)).Nodup
    rw [List.map_cons,List.nodup_cons];exact ⟨fun h=>hn'.1 (A7 h),ih hn'.2⟩
theorem MNd.nil:MNd ([]:List (κ×β)):=by simp [MNd]
theorem ux (m:List (κ×β)) (k:κ):(bg m k=none∧(∀ (i:Nat) (q:κ×β),m[i]?=some q→q.1≠k)∧(∀ v,cp m k v=m++[(k,v)])∧eJ m k=m)∨
 ∃ j p,m[j]?=some p∧p.1=k∧(∀ (i:Nat) (q:κ×β),i<j→m[i]?=some q→q.1≠k)∧bg m k=some p.2∧(∀ v,cp m k v=m.set j (k,v))∧eJ m k=m.eraseIdx j:=by
 induction m with
 | nil=>exact .inl ⟨rfl,by simp,fun v=>rfl,rfl⟩
 | cons p m ih=>
  obtain ⟨a,b⟩:=p;by_cases h:a=k
  · refine .inr ⟨0,(a,b),rfl,h,by simp,by rw [bg,if_pos h],fun v=>by rw [cp,if_pos h];rfl,by rw [eJ,if_pos h];rfl⟩
  · rcases ih with ⟨h1,h2,h3,h4⟩|⟨j,p,h1,h2,h3,h4,h5,h6⟩
    · refine .inl ⟨by rw [bg,if_neg h,h1],fun i q hq=>?_,fun v=>by rw [cp,if_neg h,h3];rfl,by rw [eJ,if_neg h,h4]⟩
      cases i with
      | zero=>simp at hq;subst hq;exact h
      | succ i=>exact h2 i q (by simpa using hq)
    · refine .inr ⟨j+1,p,by simpa using h1,h2,fun i q hi hq=>?_,by rw [bg,if_neg h,h4],fun v=>by rw [cp,if_neg h,h5];rfl,by rw [eJ,if_neg h,h6];rfl⟩
      cases i with
      | zero=>simp at hq;subst hq;exact h
      | succ i=>exact h3 i q (by omega) (by simpa using hq)
end pure
structure MKey (κ:Type) where
 kv:κ→Value
 d:TypeDesc
 isKey:∀ k,MapKept.IsKey d (kv k)
 inj:∀ a b,kv a=kv b→a=b
 same:∀ k,Instr.sameBits 10000 (kv k) (kv k)=true
def cm:MKey Int:=⟨fun k=>.int .i64 k,.int .i64,fun _=>rfl,fun a b h=>by cases h;rfl,fun k=>by simp [Instr.sameBits]⟩
def fI:MKey (List UInt8):=⟨fun k=>.string ⟨⟨k⟩⟩,.string,fun _=>trivial,fun a b h=>by cases h;rfl,fun k=>MapKept.sameBits_self (d:=.string) (show MapKept.IsKey .string (.string ⟨⟨k⟩⟩) from trivial) 10000⟩
theorem nd {d:TypeDesc} {kk:Value} (hk:MapKept.IsKey d kk):∀ (l:List MapEntry) (i:Nat),(∀ e∈l,MapKept.IsKey d e.key∧e.key≠kk)→Instr.findNow d kk l i=some none
 | [],_,_=>rfl
 | e::l,i,h=>by
  obtain ⟨r,hr,hiff⟩:=MapKept.sameNow_of_keys hk (h e (by simp)).1;cases r with
  | true=>exact absurd (hiff.1 rfl).symm (h e (by simp)).2
  | false=>
   simp only [Instr.findNow,hr];exact nd hk l (i+1) fun e he=>h e (by simp [he])
theorem nc {d:TypeDesc} {kk:Value} (hk:MapKept.IsKey d kk):∀ (l:List MapEntry) (i j:Nat) (e:MapEntry),l[j]?=some e→e.key=kk→(∀ i' e',i'<j→l[i']?=some e'→MapKept.IsKey d e'.key∧e'.key≠kk)→
 Instr.findNow d kk l i=some (some (i+j,e.val))
 | [],_,_,_,h,_,_=>by simp at h
 | x::l,i,0,e,h,he,_=>by
  simp at h;subst h;obtain ⟨r,hr,hiff⟩:=MapKept.sameNow_of_keys hk (he▸hk:MapKept.IsKey d x.key);have:r=true:=hiff.2 he.symm;subst this;simp [Instr.findNow,hr]
 | x::l,i,j+1,e,h,he,hb=>by
  have h0:=hb 0 x (by omega) rfl;obtain ⟨r,hr,hiff⟩:=MapKept.sameNow_of_keys hk h0.1;cases r with
  | true=>exact absurd (hiff.1 rfl).symm h0.2
  | false=>
   simp only [Instr.findNow,hr];have:=nc hk l (i+1) j e (by simpa using h) he fun i' e' hi he'=>hb (i'+1) e' (by omega) (by simpa using he')
   rw [this];congr 3;omega
section rules
variable {n:Nat} {s:AS} {o:Oper} {d:Option Tmp} {κ β:Type} [DecidableEq κ]
def me (K:MKey κ) (f:β→AV) (m:List (κ×β)):List (Value×AV):=m.map fun p=>(K.kv p.1,f p.2)
structure MEnts (w:World) (φ:aD) (Λ:aW) (K:MKey κ) (f:β→AV) (m:List (κ×β)) (ents:Array MapEntry):Prop where
 size:ents.size=m.length
 at':∀ (j:Nat) p,m[j]?=some p→∃ e,ents[j]?=some e∧e.key=K.kv p.1∧Rep w φ Λ (f p.2) e.val
theorem qx {w:World} {φ:aD} {Λ:aW} {h:aX} (hs:HSim w φ Λ h) {id:Nat} {K:MKey κ} {f:β→AV} {m:List (κ×β)} (hob:h id=some (.map (me K f m))) :
 ∃ l b ents clock,φ id=some l∧l.bo=some (b,0)∧l.ver=0∧w.heap[b]?=some (.map ents clock)∧MEnts w φ Λ K f m ents:=by
 obtain ⟨l,hl,b,ents,clock,h1,h2,h3,h4,h5⟩:=hs.heap id _ hob;refine ⟨l,b,ents,clock,hl,h1,h2,h3,by rw [h4,me,List.length_map],fun j p hp=>?_⟩;exact h5 j (K.kv p.1,f p.2) (by rw [me,List.getElem?_map,hp];rfl)
theorem MEnts.key {w:World} {φ:aD} {Λ:aW} {K:MKey κ} {f:β→AV} {m:List (κ×β)} {ents:Array MapEntry} (h:MEnts w φ Λ K f m ents) {i:Nat} {e:MapEntry} (he:ents[i]?=some e):∃ p,m[i]?=some p∧e.key=K.kv p.1:=by
 have hlt:i<m.length:=by
  have:=(Array.getElem?_eq_some_iff.1 he).1;rw [← h.size];exact this
 obtain ⟨e',h1,h2,_⟩:=h.at' i m[i] (List.getElem?_eq_getElem hlt);rw [he] at h1;cases h1;exact ⟨_,List.getElem?_eq_getElem hlt,h2⟩
theorem MEnts.none {w:World} {φ:aD} {Λ:aW} {K:MKey κ} {f:β→AV} {m:List (κ×β)} {ents:Array MapEntry} (h:MEnts w φ Λ K f m ents) {k:κ} (hk:∀ (i:Nat) (q:κ×β),m[i]?=some q→q.1≠k) :
 Instr.findNow K.d (K.kv k) ents.toList 0=some none:=by
 refine nd (K.isKey k) _ 0 fun e he=>?_
 obtain ⟨i,hi,rfl⟩:=List.getElem_of_mem he;obtain ⟨p,h1,h2⟩:=h.key (i:=i) (e:=ents.toList[i]) (by rw [← Array.getElem?_toList,List.getElem?_eq_getElem hi]);rw [h2];exact ⟨K.isKey _,fun e=>hk i p h1 (K.inj _ _ e)⟩
theorem MEnts.some {w:World} {φ:aD} {Λ:aW} {K:MKey κ} {f:β→AV} {m:List (κ×β)} {ents:Array MapEntry} (h:MEnts w φ Λ K f m ents) {k:κ} {j:Nat} {p:κ×β} (h1:m[j]?=some p) (h2:p.1=k) (hk:∀ (i:Nat) (q:κ×β),i<j→m[i]?=some q→q.1≠k) :
 ∃ e,ents[j]?=some e∧e.key=K.kv k∧Rep w φ Λ (f p.2) e.val∧Instr.findNow K.d (K.kv k) ents.toList 0=some (some (j,e.val)):=by
 obtain ⟨e,q1,q2,q3⟩:=h.at' j p h1;refine ⟨e,q1,by rw [q2,h2],q3,?_⟩;have:=nc (K.isKey k) ents.toList 0 j e (by rw [Array.getElem?_toList,q1]) (by rw [q2,h2]) fun i' e' hi he'=>?_
 · rwa [Nat.zero_add] at this
 · rw [Array.getElem?_toList] at he'
   obtain ⟨p',g1,g2⟩:=h.key he';rw [g2];exact ⟨K.isKey _,fun e=>hk i' p' hi g1 (K.inj _ _ e)⟩
theorem q8 {w:World} {φ:aD} {Λ:aW} {id:Nat} {l:Loc} {b:Nat} {v:Value} (h:Rep w φ Λ (.mp id 0) v) (hl:φ id=some l) (hv:l.ver=0) (hb:l.bo=some (b,0)):v=.map (some b):=by
 cases h with
 | mp h1 h2 h3=>rw [hl] at h1;cases h1;rw [hb] at h3;cases h3;rfl
 | mpx h1 h2=>rw [hl] at h1;cases h1;omega
def zZ (f:β→AV) (z:AV):Option β→AV
 | some b=>f b
 | none=>z
theorem x6 (x:Option Bool):zZ (fun b=>tf b) (tf false) x=tf (x.getD false):=by cases x<;>rfl
theorem ur (x:Option Int):zZ (fun b=>i64 b) (i64 0) x=i64 (x.getD 0):=by cases x<;>rfl
theorem cg {S:Nat→Bool} {K:MKey κ} {f:β→AV} {m:List (κ×β)} (h:∀ b,(f b).refs S=true):ObjIn S (.map (me K f m)):=by
 intro p hp;rw [me,List.mem_map] at hp;obtain ⟨q,_,rfl⟩:=hp;exact h q.2
theorem C5 {K:MKey κ} {f:β→AV} {m:List (κ×β)}:(me K f m).map (·.2)=m.map fun p=>f p.2:=by simp [me]
theorem A5 {K:MKey κ} {f:β→AV} {m:List (κ×β)} {lv:Nat} (h:∀ b,(f b).ok lv=true):AV.oks lv ((me K f m).map (·.2))=true:=by
 rw [C5];refine AV.oks_of fun c hc=>?_
 rw [List.mem_map] at hc;obtain ⟨q,_,rfl⟩:=hc;exact h q.2
theorem dF {ρ:Nat→Bool} {σ:IdMap} {h:aX} {lo hi:Nat} {rn:Bool} {K:MKey κ} {f:β→AV} {m:List (κ×β)} (h3:∀ b,(f b).ok lo=true):LObj ρ σ h lo hi rn (.map (me K f m)) (.map (me K f m)):=⟨rfl,wb (A5 h3)⟩
theorem n8 {g:Nat→Nat} {K:MKey κ} {f:β→AV} {m:List (κ×β)} {lv:Nat} (h:∀ b,(f b).ok lv=true):(AObj.map (me K f m)).ren g=.map (me K f m):=by
 simp only [AObj.ren];congr 1;simp only [me,List.map_map];refine List.map_congr_left fun p _=>?_
 simp only [Function.comp];rw [AV.ren_ok (h p.2)]
theorem n7 {lv:Nat} {S:Nat→Bool} {K:MKey κ} {f:β→AV} {m:List (κ×β)} (h:∀ b,(f b).ok lv=true):(AObj.map (me K f m)).lev lv=true∧ObjIn S (.map (me K f m)):=
 ⟨AV.levs_ok (A5 h),cg fun b=>AV.refs_ok (h b)⟩
theorem gQ (id:Nat) (K:MKey κ) (f:β→AV) {t:TypeId} (ho:o.op=.makeMap t none:=by exact rfl) (hid:s.h id=none:=by exact rfl)
 (hdd:o.dst=d:=by conv=>lhs;whnf) (hd:d.all (Nat.blt · n)=true:=by exact rfl):OpOk Tryz.prog n o s ((s.seth id (some (.map (me K f [])))).put d (.mp id 0)):=
 .chg hdd hd fun Λ w φ a hs=>by
  have hc:=Chg.alloc hs.hs hid (.map #[] 0) 0 0;refine ⟨_,_,_,?_,hc,?_,.map (some w.heap.size),.inl rfl,.mp (aZ _ _ _) rfl rfl⟩
  · simp [execOp,ho,Instr.makeMap]
  · exact ⟨w.heap.size,#[],0,rfl,rfl,(MapKept.heap_alloc w _).1,rfl,fun j p hp=>by simp [me] at hp⟩
theorem pU {P:Program} {w:World} {φ:aD} {Λ:aW} {K:MKey κ} {f:β→AV} {m:List (κ×β)} {ents:Array MapEntry} {b clock:Nat} {t kt et:TypeId} {z:Value} {k:κ} {ok:Bool} (hu:P.underlying t=some (.map kt et)) (hd:P.underlying kt=some K.d)
 (hz:(zeroValue et).run P w=.ok z w) (hb:w.heap[b]?=some (.map ents clock)) (hm:MEnts w φ Λ K f m ents) {za:AV} (hza:Rep w φ Λ za z) :
 ∃ v,Rep w φ Λ (zZ f za (bg m k)) v∧(Instr.lookup t (.map (some b)) (K.kv k) ok).run P w=.ok (if ok then .tuple #[v,.bool (bg m k).isSome] else v) w:=by
 have hck:=MapKept.run_checkKey (w:=w) hd (K.isKey k) ents.isEmpty 9999;rcases ux m k with ⟨h1,h2,_,_⟩|⟨j,p,h1,h2,h3,h4,_,_⟩
 · have hf:=MapKept.run_findKey (w:=w) hd (hm.none h2)
   refine ⟨z,by rw [h1];exact hza,?_⟩;rw [h1];simp [Instr.lookup,run_underlying hu,MapKept.run_getObj_map hb,hck,hf,hz,Result.andThen]
 · obtain ⟨e,e1,e2,e3,e4⟩:=hm.some h1 h2 h3
   have hf:=MapKept.run_findKey (w:=w) hd e4;refine ⟨e.val,by rw [h4];exact e3,?_⟩;rw [h4];simp [Instr.lookup,run_underlying hu,MapKept.run_getObj_map hb,hck,hf,Result.andThen]
theorem ey {t kt et:TypeId} {x y:Operand} {id:Nat} (K:MKey κ) {f:β→AV} {m:List (κ×β)} {k:κ} {ti tj:TI} {r:AV} (ho:o.op=.lookup t x y false:=by exact rfl) (hx:s.ev x=.mp id 0:=by exact rfl) (hy:s.ev y=.v (K.kv k):=by exact rfl)
 (hob:s.h id=some (.map (me K f m)):=by exact rfl) (ht:te.get t=some ti:=by exact rfl) (hk:ti.k=.map kt et:=by exact rfl) (hkd:Tryz.prog.underlying kt=some K.d:=by exact rfl) (he:te.get et=some tj:=by exact rfl) (ha:tj.k.agg=false:=by exact rfl)
 (hr:zZ f (.v ((tj.zero.map ZC.val).headD undef)) (bg m k)=r:=by first|exact x6 _|exact ur _|exact rfl)
 (hdd:o.dst=d:=by conv=>lhs;whnf) (hd:d.all (Nat.blt · n)=true:=by exact rfl):OpOk Tryz.prog n o s (s.put d r):=
 .val hdd hd fun Λ w φ a hs=>by
  obtain ⟨l,b,ents,clock,h1,h2,h3,h4,h5⟩:=qx hs.hs hob;have hxv:=hs.ev x;rw [hx] at hxv;have e1:=q8 hxv h1 h3 h2;have e2:=cc hs hy;obtain ⟨z,z1,z2,z3⟩:=(te_ok.tells he).run_zero w;rw [ha] at z3;obtain ⟨v,v1,v2⟩:=pU (P:=Tryz.prog) (k:=k) (ok:=false) ((te_ok.tells ht).map hk) hkd z1 h4 h5 (za:=.v ((tj.zero.map ZC.val).headD undef)) (by rw [z3];exact .v);exact ⟨v,by simp [execOp,ho,e1,e2,v2],hr▸v1⟩
theorem y0 {t kt et:TypeId} {x y:Operand} {id:Nat} (K:MKey κ) {f:β→AV} {m:List (κ×β)} {k:κ} {ti tj:TI} {r:AV} (ho:o.op=.lookup t x y true:=by exact rfl) (hx:s.ev x=.mp id 0:=by exact rfl) (hy:s.ev y=.v (K.kv k):=by exact rfl)
 (hob:s.h id=some (.map (me K f m)):=by exact rfl) (ht:te.get t=some ti:=by exact rfl) (hk:ti.k=.map kt et:=by exact rfl) (hkd:Tryz.prog.underlying kt=some K.d:=by exact rfl) (he:te.get et=some tj:=by exact rfl) (ha:tj.k.agg=false:=by exact rfl)
 (hr:zZ f (.v ((tj.zero.map ZC.val).headD undef)) (bg m k)=r:=by first|exact x6 _|exact ur _|exact rfl)
 (hdd:o.dst=d:=by conv=>lhs;whnf) (hd:d.all (Nat.blt · n)=true:=by exact rfl):OpOk Tryz.prog n o s (s.put d (.tup [r,tf (bg m k).isSome])):=
 .val hdd hd fun Λ w φ a hs=>by
  obtain ⟨l,b,ents,clock,h1,h2,h3,h4,h5⟩:=qx hs.hs hob;have hxv:=hs.ev x;rw [hx] at hxv;have e1:=q8 hxv h1 h3 h2;have e2:=cc hs hy;obtain ⟨z,z1,z2,z3⟩:=(te_ok.tells he).run_zero w;rw [ha] at z3;obtain ⟨v,v1,v2⟩:=pU (P:=Tryz.prog) (k:=k) (ok:=true) ((te_ok.tells ht).map hk) hkd z1 h4 h5 (za:=.v ((tj.zero.map ZC.val).headD undef)) (by rw [z3];exact .v);refine ⟨_,by simp [execOp,ho,e1,e2,v2];rfl,.tup (fun j=>if j=0 then v else .bool (bg m k).isSome) rfl (fun j hj=>?_) (fun j c hj=>?_)⟩
  · match j,hj with
    | 0,_=>rfl
    | 1,_=>rfl
  · match j,hj with
    | 0,hj=>cases hj;exact hr▸v1
    | 1,hj=>cases hj;exact .v
theorem Chg.map {w:World} {φ:aD} {Λ:aW} {h:aX} (hs:HSim w φ Λ h) {id b:Nat} {l:Loc} {ents:Array MapEntry} {clock:Nat} (hl:φ id=some l) (hbo:l.bo=some (b,0)) (hb:w.heap[b]?=some (.map ents clock)) (ob:Obj) (hno:∀ arr T m,ob≠.cells arr T m:=by exact fun _ _ _ h=>by cases h) :
 Chg w φ Λ h id l { w with heap:=w.heap.setIfInBounds b ob } where
 hs:=hs
 size:=by simp
 os:=rfl
 tape:=rfl
 output:=rfl
 other k hk hne:=(MapKept.heap_set hb).2 k (hne l b 0 hl hbo)
 loc b' o' h':=by
  rw [hbo] at h';cases h';exact ⟨by have:=(Array.getElem?_eq_some_iff.1 hb).1;simpa using this,.inr ⟨l,0,hl,hbo⟩⟩
 ver l0 h0:=by rw [hl] at h0;cases h0;exact .inl rfl
 sizes l0 h0 _ b0 o0 arr T mm hb0 hh:=by
  rw [hl] at h0;cases h0;rw [hbo] at hb0;cases hb0;rw [hb] at hh;cases hh
 fro:=.one (b0:=b) (fun k hk=>(MapKept.heap_set hb).2 k hk) fun _ arr T lo hi k=>by
  have hlt:b<w.heap.size:=(Array.getElem?_eq_some_iff.1 hb).1;rw [Array.getElem?_setIfInBounds_self_of_lt hlt] at k;exact absurd (Option.some.inj k) (hno _ _ _)
theorem gf {t kt et:TypeId} {x y z:Operand} {id:Nat} (K:MKey κ) {f:β→AV} {m:List (κ×β)} {k:κ} (v:β) {ti:TI} (ho:o.op=.mapUpdate t x y z:=by exact rfl) (hx:s.ev x=.mp id 0:=by exact rfl) (hy:s.ev y=.v (K.kv k):=by exact rfl)
 (hob:s.h id=some (.map (me K f m)):=by exact rfl) (hz:s.ev z=f v:=by exact rfl) (ht:te.get t=some ti:=by exact rfl) (hk:ti.k=.map kt et:=by exact rfl) (hkd:Tryz.prog.underlying kt=some K.d:=by exact rfl)
 (hdd:o.dst=d:=by conv=>lhs;whnf) (hd:d.all (Nat.blt · n)=true:=by exact rfl):OpOk Tryz.prog n o s ((s.seth id (some (.map (me K f (cp m k v))))).put d (.v undef)):=
 .chg hdd hd fun Λ w φ a hs=>by
  obtain ⟨l,b,ents,clock,h1,h2,h3,h4,h5⟩:=qx hs.hs hob;have hxv:=hs.ev x;rw [hx] at hxv;have e1:=q8 hxv h1 h3 h2;have e2:=cc hs hy;have e3:=hs.ev z;rw [hz] at e3;have hu:=(te_ok.tells ht).map hk;have hck:=MapKept.run_checkKey (w:=w) hkd (K.isKey k) false 9999;rcases ux m k with ⟨g1,g2,g3,_⟩|⟨j,p,g1,g2,g3,g4,g5,_⟩
  · have hf:=MapKept.run_findKey (w:=w) hkd (h5.none g2)
    have hc:=Chg.map hs.hs h1 h2 h4 (.map (ents.push { key:=K.kv k,val:=a.eval z,born:=clock }) (clock+1));refine ⟨.skip,_,l,?_,hc,⟨b,_,_,h2,h3,(MapKept.heap_set h4).1,?_,fun q r hq=>?_⟩,undef,.inr ⟨rfl,rfl⟩,.v⟩
    · simp [execOp,ho,e1,e2,Instr.mapUpdate,run_underlying hu,MapKept.run_getObj_map h4,hck,hf,Result.andThen,MapKept.run_setObj_map _ h4]
    · rw [g3];simp [me,h5.size]
    · rw [g3,me,List.getElem?_map,Option.map_eq_some_iff] at hq
      obtain ⟨p,hp,rfl⟩:=hq;by_cases hlt:q<m.length
      · rw [List.getElem?_append_left hlt] at hp
        obtain ⟨e,q1,q2,q3⟩:=h5.at' q p hp;exact ⟨e,by rw [Array.getElem?_push,if_neg (by rw [h5.size];omega)];exact q1,q2,hc.rep q3⟩
      · rw [List.getElem?_append_right (by omega)] at hp
        have hq0:q-m.length=0:=by
         have:=(List.getElem?_eq_some_iff.1 hp).1;simp at this;omega
        rw [hq0] at hp;simp at hp;subst hp;exact ⟨{ key:=K.kv k,val:=a.eval z,born:=clock },by rw [Array.getElem?_push,if_pos (by rw [h5.size];omega)],rfl,hc.rep e3⟩
  · obtain ⟨e,q1,q2,q3,q4⟩:=h5.some g1 g2 g3
    have hf:=MapKept.run_findKey (w:=w) hkd q4;have hc:=Chg.map hs.hs h1 h2 h4 (.map (ents.modify j fun e=>{ e with key:=K.kv k,val:=a.eval z }) clock);refine ⟨.skip,_,l,?_,hc,⟨b,_,_,h2,h3,(MapKept.heap_set h4).1,?_,fun q r hq=>?_⟩,undef,.inr ⟨rfl,rfl⟩,.v⟩
    · simp [execOp,ho,e1,e2,Instr.mapUpdate,run_underlying hu,MapKept.run_getObj_map h4,hck,hf,Result.andThen,MapKept.run_setObj_map _ h4,q1,q2,Instr.keyThatStays,K.same]
    · rw [g5];simp [me,h5.size]
    · rw [g5,me,List.getElem?_map,Option.map_eq_some_iff] at hq
      obtain ⟨p',hp,rfl⟩:=hq;rw [List.getElem?_set] at hp;by_cases hjq:j=q
      · subst hjq
        have hlt:=(List.getElem?_eq_some_iff.1 g1).1;simp [hlt] at hp;subst hp;exact ⟨{ e with key:=K.kv k,val:=a.eval z },by rw [Array.getElem?_modify,if_pos rfl,q1];rfl,rfl,hc.rep e3⟩
      · rw [if_neg hjq] at hp
        obtain ⟨e',r1,r2,r3⟩:=h5.at' q p' hp;exact ⟨e',by rw [Array.getElem?_modify,if_neg hjq];exact r1,r2,hc.rep r3⟩
theorem zF {t t2 kt et:TypeId} {x y:Operand} {id:Nat} (K:MKey κ) {f:β→AV} {m:List (κ×β)} {k:κ} {ti:TI} (ho:o.op=.call { callee:=.builtin .delete,args:=#[x,y],argTypes:=#[t,t2] }:=by exact rfl) (hx:s.ev x=.mp id 0:=by exact rfl) (hy:s.ev y=.v (K.kv k):=by exact rfl)
 (hob:s.h id=some (.map (me K f m)):=by exact rfl) (ht:te.get t=some ti:=by exact rfl) (hk:ti.k=.map kt et:=by exact rfl) (hkd:Tryz.prog.underlying kt=some K.d:=by exact rfl)
 (hdd:o.dst=d:=by conv=>lhs;whnf) (hd:d.all (Nat.blt · n)=true:=by exact rfl):OpOk Tryz.prog n o s ((s.seth id (some (.map (me K f (eJ m k))))).put d (.tup [])):=
 .chg hdd hd fun Λ w φ a hs=>by
  obtain ⟨l,b,ents,clock,h1,h2,h3,h4,h5⟩:=qx hs.hs hob;have hxv:=hs.ev x;rw [hx] at hxv;have e1:=q8 hxv h1 h3 h2;have e2:=cc hs hy;have hu:=(te_ok.tells ht).map hk;have hck:=MapKept.run_checkKey (w:=w) hkd (K.isKey k) ents.isEmpty 9999;have ht0:∀ (w':World) φ',Rep w' φ' Λ (.tup []) (.tuple #[]):=fun w' φ'=>.tup (fun _=>undef) rfl (fun j hj=>by simp at hj) (fun j c hj=>by simp at hj)
  rcases ux m k with ⟨g1,g2,_,g3⟩|⟨j,p,g1,g2,g3,g4,_,g5⟩
  · have hf:=MapKept.run_findKey (w:=w) hkd (h5.none g2)
    have hc:=Chg.map hs.hs h1 h2 h4 (.map ents clock);refine ⟨.value (.tuple #[]),_,l,?_,hc,⟨b,_,_,h2,h3,(MapKept.heap_set h4).1,?_,fun q r hq=>?_⟩,.tuple #[],.inl rfl,ht0 _ _⟩
    · simp [execOp,ho,resolve,invoke,builtin,e1,e2,Builtin.delete_,run_underlying hu,MapKept.run_getObj_map h4,hck,hf,Result.andThen,MapKept.run_setObj_map _ h4]
    · rw [g3];simp [me,h5.size]
    · rw [g3,me,List.getElem?_map,Option.map_eq_some_iff] at hq
      obtain ⟨p,hp,rfl⟩:=hq;obtain ⟨e,q1,q2,q3⟩:=h5.at' q p hp;exact ⟨e,q1,q2,hc.rep q3⟩
  · obtain ⟨e,q1,q2,q3,q4⟩:=h5.some g1 g2 g3
    have hf:=MapKept.run_findKey (w:=w) hkd q4;have hc:=Chg.map hs.hs h1 h2 h4 (.map (ents.eraseIdxIfInBounds j) clock);have hjl:j<ents.size:=(Array.getElem?_eq_some_iff.1 q1).1;have hl:(ents.eraseIdxIfInBounds j).toList=ents.toList.eraseIdx j:=by
     simp [Array.eraseIdxIfInBounds,hjl]
    refine ⟨.value (.tuple #[]),_,l,?_,hc,⟨b,_,_,h2,h3,(MapKept.heap_set h4).1,?_,fun q r hq=>?_⟩,.tuple #[],.inl rfl,ht0 _ _⟩
    · simp [execOp,ho,resolve,invoke,builtin,e1,e2,Builtin.delete_,run_underlying hu,MapKept.run_getObj_map h4,hck,hf,Result.andThen,MapKept.run_setObj_map _ h4]
    · rw [g5,← Array.length_toList,hl];simp [me,List.length_eraseIdx,h5.size]
    · rw [g5,me,List.getElem?_map,Option.map_eq_some_iff] at hq
      obtain ⟨p',hp,rfl⟩:=hq;rw [List.getElem?_eraseIdx] at hp;rw [← Array.getElem?_toList,hl,List.getElem?_eraseIdx];split at hp
      · rename_i hlt
        rw [if_pos hlt,Array.getElem?_toList];obtain ⟨e',r1,r2,r3⟩:=h5.at' q p' hp;exact ⟨e',r1,r2,hc.rep r3⟩
      · rename_i hlt
        rw [if_neg hlt,Array.getElem?_toList];obtain ⟨e',r1,r2,r3⟩:=h5.at' (q+1) p' hp;exact ⟨e',r1,r2,hc.rep r3⟩
end rules
section
variable {P:Program} {n:Nat} {ops:Array Oper} {Q:bC} {QP:Value→AS→Prop}
def OpAtX (P:Program) (n:Nat) (ops:Array Oper) (QP:Value→AS→Prop) (i:Nat) (s s':AS):Prop:=
 ∀ Λ w φ a,Sim n w φ Λ s a→∀ (K:Act→World→Prop) (QQ:Exit→Act→World→Prop),(∀ w' φ' a',Sim n w' φ' Λ s' a'→Goes w φ w' φ'→K a' w')→
  (∀ x s2 w' φ' a',QP x s2→Sim n w' φ' Λ s2 a'→Goes w φ w' φ'→QQ (.panic [{ v:=x,recovered:=false }]) a' w')→wpOp P ops QQ i K a w
theorem OpAt.x {i:Nat} {s s':AS} (h:OpAt P n ops i s s'):OpAtX P n ops QP i s s':=fun Λ w φ a hs K QQ hK _=>h Λ w φ a hs K QQ hK
theorem OpAtX.go {i:Nat} {o:Oper} {s s':AS} (ho:ops[i]?=some o) (hg:o.guard=none) (h:OpX P n o (fun e s2=>match e with|.panic x=>QP x s2|_=>False) s (fun s2=>s2=s')):OpAtX P n ops QP i s s':=by
 intro Λ w φ a hs K QQ hK hP;simp only [wpOp,ho,Region.wanted,hg,if_true];exact .inl (h Λ w φ a hs _ _ (fun s2 w' φ' a' e hs' g=>hK w' φ' a' (e▸hs') g) (fun x s2 w' φ' a' q hs' g=>hP x s2 w' φ' a' q hs' g))
def DS.OkX (P:Program) (n:Nat) (ops:Array Oper) (QP:Value→AS→Prop) (e:DS) (s:AS):Prop:=
 ∀ s',(∀ t∈e.rt,s'.t t=s.t t)→(∀ k∈e.rh,s'.h k=s.h k)→OpAtX P n ops QP e.i s' (e.upd s')
theorem DS.OkX.congr {e:DS} {s s2:AS} (h:e.OkX P n ops QP s) (ht:∀ t∈e.rt,s2.t t=s.t t) (hh:∀ k∈e.rh,s2.h k=s.h k):e.OkX P n ops QP s2:=
 fun s' h1 h2=>h s' (fun t k=>(h1 t k).trans (ht t k)) (fun t k=>(h2 t k).trans (hh t k))
theorem DS.OkX.over {a b:DS} {s:AS} (hi:eA a b=true) (h:b.OkX P n ops QP s):b.OkX P n ops QP (a.upd s):=by
 obtain ⟨h1,h2,h3,h4⟩:=eL hi;refine h.congr (fun t ht=>?_) (fun k hk=>?_)
 · rw [DS.upd_t,if_neg]
   intro e;exact (h1 t e).1 ht
 · rw [DS.upd_h,jo hi hk]
theorem DS.OkX.under {a b:DS} {s:AS} (hi:eA a b=true) (h:b.OkX P n ops QP (a.upd s)):b.OkX P n ops QP s:=by
 obtain ⟨h1,h2,h3,h4⟩:=eL hi;refine h.congr (fun t ht=>?_) (fun k hk=>?_)
 · rw [DS.upd_t,if_neg]
   intro e;exact (h1 t e).1 ht
 · rw [DS.upd_h,jo hi hk]
def GoodX (P:Program) (n:Nat) (ops:Array Oper) (QP:Value→AS→Prop):List DS→AS→Prop
 | [],_=>True
 | e::r,s=>e.OkX P n ops QP s∧GoodX P n ops QP r (e.upd s)
theorem GoodX.front {x:DS} {post:List DS}:∀ {pre:List DS} {s:AS},GoodX P n ops QP (pre++x::post) s→(∀ y∈pre,eA y x=true∧y.wf=true)→x.wf=true→
 GoodX P n ops QP (x::(pre++post)) s∧cS (pre++x::post) s=cS (x::(pre++post)) s
 | [],s,h,_,_=>⟨h,rfl⟩
 | y::pre,s,h,hi,hx=>by
  obtain ⟨h1,h2⟩:=h;obtain ⟨h3,h4⟩:=GoodX.front (pre:=pre) (s:=y.upd s) h2 (fun z hz=>hi z (List.mem_cons_of_mem _ hz)) hx;obtain ⟨h5,h6⟩:=h3;obtain ⟨hy,hyw⟩:=hi y List.mem_cons_self;have hc:=tR (jn hy) hyw s;refine ⟨⟨h5.under hy,?_⟩,?_⟩
  · show y.OkX P n ops QP (x.upd s)∧GoodX P n ops QP (pre++post) (y.upd (x.upd s))
    rw [← hc];exact ⟨h1.over (jn hy),h6⟩
  · show cS (pre++x::post) (y.upd s)=cS (pre++post) (y.upd (x.upd s))
    rw [h4,← hc];rfl
theorem xR {es:List DS} (hok:ep ops es=true) {QQ:Exit→Act→World→Prop} {Λ:aW}:∀ (rem:List DS) (listed:Array Bool) (s:AS) (a:Act) (w:World) (φ:aD),Sim n w φ Λ s a→
 listed.size=ops.size→FH ops listed→(∀ k,k<ops.size→listed.getD k true=false→∃ e∈rem,e.i=k)→(∀ e∈rem,listed.getD e.i true=false)→rem.Sublist es→
 GoodX P n ops QP rem s→(∀ w' φ' a',Sim n w' φ' Λ (cS rem s) a'→Goes w φ w' φ'→QQ .normal a' w')→(∀ x s2 w' φ' a',QP x s2→Sim n w' φ' Λ s2 a'→Goes w φ w' φ'→QQ (.panic [{ v:=x,recovered:=false }]) a' w')→wpAny P .any ops QQ rem.length listed a w:=by
 simp only [ep,Bool.and_eq_true] at hok;obtain ⟨⟨⟨hlen,hidx⟩,hedge⟩,hpair⟩:=hok;have hlen:=Nat.eq_of_beq_eq_true hlen;have hix:∀ (k:Nat) e,es[k]?=some e→e.i=k∧e.wf=true:=by
  intro k e hk;have hm:(e,k)∈es.zipIdx:=by
   rw [List.mem_iff_getElem?];exact ⟨k,by simp [hk]⟩
  have:=List.all_eq_true.1 hidx _ hm;simp only [Bool.and_eq_true] at this;exact ⟨Nat.eq_of_beq_eq_true this.1,this.2⟩
 have hed:∀ k o,ops[k]?=some o→∀ e∈o.after,Region.binds .any e=true→e.on<k:=by
  intro k o hk e he hb;have hlt:k<ops.size:=(Array.getElem?_eq_some_iff.1 hk).1;have:=List.all_eq_true.1 hedge k (List.mem_range.2 hlt);simp only [hk] at this;have h2:=List.all_eq_true.1 this e (by simpa using he);simp only [hb,Bool.not_true,Bool.false_or] at h2;exact Nat.blt_eq.mp h2
 have hmem:∀ x∈es,es[x.i]?=some x∧x.wf=true:=by
  intro x hx;obtain ⟨k,hk⟩:=List.mem_iff_getElem?.1 hx;obtain ⟨h1,h2⟩:=hix k x hk;rw [h1];exact ⟨hk,h2⟩
 have hpw:es.Pairwise (fun x y=>x.i<y.i):=by
  rw [List.pairwise_iff_getElem];intro a b ha hb hab;rw [(hix a es[a] (List.getElem?_eq_getElem ha)).1,(hix b es[b] (List.getElem?_eq_getElem hb)).1];exact hab
 have hind:∀ x∈es,∀ y∈es,x.i<y.i→eA x y=true∨dep ops ops.size y.i x.i=true:=by
  intro x hx y hy hlt;have hyl:y.i<es.length:=(List.getElem?_eq_some_iff.1 (hmem y hy).1).1;have h1:=List.all_eq_true.1 (List.all_eq_true.1 hpair y.i (List.mem_range.2 hyl)) x.i (List.mem_range.2 hlt);simp only [(hmem x hx).1,(hmem y hy).1,Bool.or_eq_true] at h1;exact h1
 have hflip:∀ (listed:Array Bool) (k:Nat),listed.size=ops.size→listed.getD k true=false→listed.getD k false=false:=by
  intro listed k _ h;rw [Array.getD_eq_getD_getElem?] at h ⊢;cases hk:listed[k]? with
  | none=>rw [hk] at h;simp at h
  | some b=>rw [hk] at h;simpa using h
 intro rem;generalize hr:rem.length=m;induction m generalizing rem with
 | zero=>
  intro listed s a w φ hs hsz hdown hall hun hsub hgood hQ hP;have hnil:rem=[]:=List.eq_nil_of_length_eq_zero hr;subst hnil;refine ⟨?_,hQ w φ a hs (Goes.refl _ _)⟩;rw [List.eq_nil_iff_forall_not_mem];intro j hj;obtain ⟨h1,o,ho,_⟩:=mem_ready.1 hj;obtain ⟨e,he,_⟩:=hall j (Array.getElem?_eq_some_iff.1 ho).1 h1;simp at he
 | succ m ih=>
  intro listed s a w φ hs hsz hdown hall hun hsub hgood hQ hP;have hpr:rem.Pairwise (fun x y=>x.i<y.i):=List.Pairwise.sublist hsub hpw;constructor
  · intro hnone
    exfalso;cases rem with
    | nil=>simp at hr
    | cons x0 r=>
     have hx0:=hsub.subset List.mem_cons_self;have hlt:x0.i<ops.size:=by rw [← hlen];exact (List.getElem?_eq_some_iff.1 (hmem x0 hx0).1).1
     have:x0.i∈Region.ready .any ops listed:=by
      rw [mem_ready];refine ⟨hun x0 List.mem_cons_self,ops[x0.i],Array.getElem?_eq_getElem hlt,fun e he hb=>?_⟩;have hlt2:=hed x0.i _ (Array.getElem?_eq_getElem hlt) e he hb;cases hl:listed.getD e.on true with
      | false=>
       obtain ⟨e',he',hi'⟩:=hall e.on (by omega) hl;rcases List.mem_cons.1 he' with rfl|he'
       · omega
       · have:=(List.pairwise_cons.1 hpr).1 e' he'
         omega
      | true=>
       rw [Array.getD_eq_getD_getElem?,Array.getElem?_eq_getElem (by omega)] at hl ⊢;exact hl
     rw [hnone] at this;simp at this
  · intro i hi
    obtain ⟨h1,o,ho,hpre⟩:=mem_ready.1 hi;have hilt:i<ops.size:=(Array.getElem?_eq_some_iff.1 ho).1;obtain ⟨x,hx,hxi⟩:=hall i hilt h1;subst hxi;obtain ⟨pre,post,rfl⟩:=List.append_of_mem hx;have hxe:=hsub.subset hx;have hpp:=(List.pairwise_append.1 hpr).2.2;have hin:∀ y∈pre,eA y x=true∧y.wf=true:=by
     intro y hy;have hym:y∈pre++x::post:=List.mem_append_left _ hy;have hye:=hsub.subset hym;refine ⟨?_,(hmem y hye).2⟩;rcases hind y hye x hxe (hpp y hy x List.mem_cons_self) with h|h
     · exact h
     · have h2:=mt hdown hsz _ _ _ h (fun o' ho' e he hb=>by
        rw [ho] at ho';cases ho';exact hpre e he hb)
       have h3:=hflip listed y.i hsz (hun y hym);rw [h3] at h2;cases h2
    obtain ⟨hg,hfin⟩:=GoodX.front hgood hin (hmem x hxe).2;have hstep:=hg.1 s (fun _ _=>rfl) (fun _ _=>rfl);refine hstep Λ w φ a hs _ QQ (fun w' φ' a' hs' g=>?_) hP;have hlen2:(pre++post).length=m:=by simp at hr ⊢;omega
    have hne:∀ y∈pre++post,y.i≠x.i:=by
     intro y hy;rcases List.mem_append.1 hy with hy|hy
     · have:=hpp y hy x List.mem_cons_self
       omega
     · have:=(List.pairwise_cons.1 (List.pairwise_append.1 hpr).2.1).1 y hy
       omega
    refine ih (pre++post) hlen2 (listed.setIfInBounds x.i true) (x.upd s) a' w' φ' hs' (by simpa using hsz) ?_ ?_ ?_ ?_ hg.2 ?_ (fun x s2 w2 φ2 a2 q hs2 g2=>hP x s2 w2 φ2 a2 q hs2 (g.trans g2))
    · intro k o' ho' hk e he hb
      by_cases hkx:k=x.i
      · subst hkx
        rw [ho] at ho';cases ho';exact getD_set_true (hpre e he hb)
      · rw [getD_set_ne true (fun e=>hkx e.symm)] at hk
        exact getD_set_true (hdown k o' ho' hk e he hb)
    · intro k hk hk2
      by_cases hkx:k=x.i
      · subst hkx
        rw [Array.getD_eq_getD_getElem?,Array.getElem?_setIfInBounds_self_of_lt (by omega)] at hk2;simp at hk2
      · rw [getD_set_ne true (fun e=>hkx e.symm)] at hk2
        obtain ⟨e,he,hei⟩:=hall k hk hk2;refine ⟨e,?_,hei⟩;rcases List.mem_append.1 he with h|h
        · exact List.mem_append_left _ h
        · rcases List.mem_cons.1 h with rfl|h
          · exact absurd hei.symm hkx
          · exact List.mem_append_right _ h
    · intro e he
      rw [getD_set_ne true (fun h=>hne e he h.symm)];refine hun e ?_;rcases List.mem_append.1 he with h|h
      · exact List.mem_append_left _ h
      · exact List.mem_append_right _ (List.mem_cons_of_mem _ h)
    · refine List.Sublist.trans ?_ hsub
      exact List.Sublist.append (List.Sublist.refl _) (List.sublist_cons_self _ _)
    · intro w2 φ2 a2 hs2 g2
      refine hQ w2 φ2 a2 ?_ (g.trans g2);rw [hfin];exact hs2
theorem AWp.drawX {id:Nat} {s:AS} {QP:Value→AS→Prop} (es:List DS) (hmix:P.follows .mixedOrders=true) (hok:ep ops es=true) (hgood:GoodX P n ops QP es s) (hQ:Q .normal (cS es s)) (hQP:∀ x s2,QP x s2→Q (.panic x) s2) :
 AWp P n (.region id ops true) Q s:=by
 intro Λ w φ a hs QQ hQQ;refine wp_region_any hmix ?_;have hlen:es.length=ops.size:=by
  simp only [ep,Bool.and_eq_true] at hok;exact Nat.eq_of_beq_eq_true hok.1.1.1
 have hix:∀ (k:Nat) e,es[k]?=some e→e.i=k:=by
  intro k e hk;simp only [ep,Bool.and_eq_true] at hok;have hm:(e,k)∈es.zipIdx:=by
   rw [List.mem_iff_getElem?];exact ⟨k,by simp [hk]⟩
  have:=List.all_eq_true.1 hok.1.1.2 _ hm;simp only [Bool.and_eq_true] at this;exact Nat.eq_of_beq_eq_true this.1
 have:=xR (P:=P) (n:=n) hok (QQ:=QQ) (Λ:=Λ) es (Array.replicate ops.size false) s a w.drew φ hs.drew (by simp) ?_ ?_ ?_ (List.Sublist.refl _) hgood
  (fun w' φ' a' hs' g=>hQQ .normal _ w' φ' a' hQ hs' ((gR w φ).trans g)) (fun x s2 w' φ' a' q hs' g=>hQQ (.panic x) s2 w' φ' a' (hQP x s2 q) hs' ((gR w φ).trans g))
 · rw [hlen] at this
   exact this
 · intro k o ho hk
   have hlt:k<ops.size:=(Array.getElem?_eq_some_iff.1 ho).1;rw [Array.getD_eq_getD_getElem?,Array.getElem?_replicate,if_pos hlt] at hk;simp at hk
 · intro k hk _
   have hk':k<es.length:=by omega
   exact ⟨es[k],List.getElem_mem hk',hix k _ (List.getElem?_eq_getElem hk')⟩
 · intro e he
   obtain ⟨k,hk⟩:=List.mem_iff_getElem?.1 he;have hkl:k<ops.size:=by rw [← hlen];exact (List.getElem?_eq_some_iff.1 hk).1
   rw [hix k e hk,Array.getD_eq_getD_getElem?,Array.getElem?_replicate,if_pos hkl];rfl
theorem DS.okX_over {e:DS} {s:AS} (h:∀ s0,OpAtX P n ops QP e.i (over s e.rt e.rh s0) (e.upd (over s e.rt e.rh s0))):e.OkX P n ops QP s:=fun s' h1 h2=>by
 have:=h s'
 rwa [wV h1 h2] at this
theorem AWp.drawsX {id:Nat} {s:AS} (QP:Value→AS→Prop) (es ks:List DS) (hmix:P.follows .mixedOrders=true) (hk:es.map DS.strip=ks) (hok:ep ops ks=true) (hgood:GoodX P n ops QP es s) (hQ:Q .normal (cS es s)) (hQP:∀ x s2,QP x s2→Q (.panic x) s2) :
 AWp P n (.region id ops true) Q s:=AWp.drawX es hmix (by rw [← ng,hk];exact hok) hgood hQ hQP
end
def oA (o:Option Value) (r:AV) (hl:List (Nat×AObj)) (hp:Int→List (Nat×AObj)):AEnd→aX→Prop:=fun e h=>
 match o with
 | none=>e=.ret r∧h=ao hl
 | some x=>e=.panic x∧∃ k,h=ao (hp k)
section rules
variable {n:Nat} {s:AS} {o:Oper} {d:Option Tmp} {Q:bC}
theorem callP {K:AS→Prop} {fop:Operand} {argops:Array Operand} {tys:Array TypeId} {f:FuncId} {first caps A:List AV} {r r':AV} {po:Option Value} {hp hp':Int→List (Nat×AObj)} (lv:Nat) (σ ν:IdMap) (hb:List (Nat×AObj)) {hl:List (Nat×AObj)} (hl':List (Nat×AObj))
 (ho:o.op=.call { callee:=.value fop,args:=argops,argTypes:=tys }) (hf:s.ev fop=.fn (.func f) first caps) (hc:AC Tryz.prog f A (ao hb) (oA po r hl hp)) (hwf:(σ++ν:IdMap).wf=true) (hwf1:σ.wf=true) (h8:(σ.all fun p=>Nat.blt p.1 8)=true)
 (hfresh:(ν.all fun p=>(s.h p.2).isNone)=true)
 (hobj:BObjs (fun _=>false) σ s.h lv (lv+1) σ hb) (hA:LVals (fun _=>false) σ s.h lv (lv+1) (first++argops.toList.map s.ev++caps) A) (hB:HB (IdMap.to (σ++ν)) (σ++ν) hl hl') (hL:HL lv (IdMap.has (σ++ν)) hl)
 (hBp:∀ k,HB (IdMap.to σ) σ (hp k) (hp' k)) (hLp:∀ k,HL lv (IdMap.has σ) (hp k))
 (hr:r.lev lv=true) (hr2:r.refs (IdMap.has (σ++ν))=true) (hr3:r.ren (IdMap.to (σ++ν))=r') (hdd:o.dst=d) (hd:d.all (Nat.blt · n)=true)
 (hret:po=none→K ((s.setl hl').put d r')) (hpan:∀ x k,po=some x→Q (.panic x) (s.setl (hp' k))):OpX Tryz.prog n o Q s K:=by
 refine OpX.callB lv σ hb ho hf hwf1 (fun c hc=>?_) hobj hA hc hdd hd (fun r2 h' hR=>?_) (fun x h' hR=>?_)
 · obtain ⟨k,hk⟩:=Option.isSome_iff_exists.1 hc
   exact Nat.blt_eq.mp (List.all_eq_true.1 h8 _ (pz hk))
 · cases po with
   | none=>
    obtain ⟨h1,h2⟩:=hR;cases h1;subst h2;exact ⟨σ++ν,uJ hwf hfresh hB hL,hr,hr2,by rw [ou hwf hB,hr3];exact hret rfl⟩
   | some x=>exact absurd hR.1 (by simp)
 · cases po with
   | none=>exact absurd hR.1 (by simp)
   | some y=>
    obtain ⟨h1,k,h2⟩:=hR;cases h1;subst h2;have hwf':(σ++[]:IdMap).wf=true:=by rw [List.append_nil];exact hwf1
    have e:=List.append_nil σ;have hb1:=hBp k;have hb2:=hLp k;refine ⟨σ,?_,by rw [ou hwf1 hb1];exact hpan x k rfl⟩;have:=uJ (ν:=[]) (lv:=lv) (h:=s.h) (hl:=hp k) (hl':=hp' k) hwf' rfl (by rw [e];exact hb1) (by rw [e];exact hb2)
    rwa [e] at this
theorem AOps.callP {ops:Array Oper} {i:Nat} {rest:List Nat} {fop:Operand} {argops:Array Operand} {tys:Array TypeId} {f:FuncId} {first caps A:List AV} {r r':AV} {po:Option Value} {hp hp':Int→List (Nat×AObj)} (lv:Nat) (σ ν:IdMap) {hb:List (Nat×AObj)} {hl:List (Nat×AObj)} (hl':List (Nat×AObj))
 (hc:AC Tryz.prog f A (ao hb) (oA po r hl hp)) (hret:po=none→AOps Tryz.prog n ops Q rest ((s.setl hl').put d r')) (hpan:∀ x k,po=some x→Q (.panic x) (s.setl (hp' k)))
 (hi:ops[i]?=some o:=by exact rfl) (hg:o.guard=none:=by exact rfl) (ho:o.op=.call { callee:=.value fop,args:=argops,argTypes:=tys }:=by exact rfl) (hf:s.ev fop=.fn (.func f) first caps:=by exact rfl)
 (hwf:(σ++ν:IdMap).wf=true:=by exact rfl) (hwf1:σ.wf=true:=by exact rfl) (h8:(σ.all fun p=>Nat.blt p.1 8)=true:=by exact rfl) (hfresh:(ν.all fun p=>(s.h p.2).isNone)=true:=by exact rfl)
 (hobj:BObjs (fun _=>false) σ s.h lv (lv+1) σ hb:=by repeat' (first|exact trivial|exact aK rfl|exact bd rfl rfl|exact aV rfl rfl|exact bw rfl rfl|exact aF (fun _=>rfl)|refine ar ?_|refine ⟨rfl,⟨_,rfl,?_⟩,?_⟩|refine ⟨?_,?_⟩))
 (hA:LVals (fun _=>false) σ s.h lv (lv+1) (first++argops.toList.map s.ev++caps) A:=by repeat' (first|exact trivial|exact aK rfl|exact aV rfl rfl|exact bd rfl rfl|exact bw rfl rfl|exact cJ|exact cT rfl rfl .row (fun _=>rfl) (Nat.le_of_ble_eq_true rfl) (fun _=>rfl)|refine ⟨?_,?_⟩|exact lv_row1 rfl rfl .row (fun _=>rfl) (fun _=>rfl) (by first|omega|(simp;omega))))
 (hB:HB (IdMap.to (σ++ν)) (σ++ν) hl hl':=by repeat' (first|exact trivial|exact cU (lv:=0) (fun _=>rfl)|exact rfl|refine ⟨rfl,rfl,?_,?_⟩))
 (hL:HL lv (IdMap.has (σ++ν)) hl:=by repeat' (first|exact trivial|exact em (fun _=>rfl)|exact ⟨rfl,rfl⟩|refine ⟨?_,?_⟩))
 (hBp:∀ k,HB (IdMap.to σ) σ (hp k) (hp' k):=by intro k;repeat' (first|exact trivial|exact cU (lv:=0) (fun _=>rfl)|exact rfl|refine ⟨rfl,rfl,?_,?_⟩))
 (hLp:∀ k,HL lv (IdMap.has σ) (hp k):=by intro k;repeat' (first|exact trivial|exact em (fun _=>rfl)|exact ⟨rfl,rfl⟩|refine ⟨?_,?_⟩))
 (hr:r.lev lv=true:=by exact rfl) (hr2:r.refs (IdMap.has (σ++ν))=true:=by exact rfl) (hr3:r.ren (IdMap.to (σ++ν))=r':=by conv=>lhs;whnf) (hdd:o.dst=d:=by conv=>lhs;whnf) (hd:d.all (Nat.blt · n)=true:=by exact rfl) :
 AOps Tryz.prog n ops Q (i::rest) s:=
 AOps.consx hi hg (Fw.callP lv σ ν hb hl' ho hf hc hwf hwf1 h8 hfresh hobj hA hB hL hBp hLp hr hr2 hr3 hdd hd hret hpan)
theorem db {ops:Array Oper} {i:Nat} {QP:Value→AS→Prop} {fop:Operand} {argops:Array Operand} {tys:Array TypeId} {f:FuncId} {first caps A:List AV} {r r':AV} {po:Option Value} {hp hp':Int→List (Nat×AObj)} (lv:Nat) (σ ν:IdMap) {hb:List (Nat×AObj)} {hl:List (Nat×AObj)} (hl':List (Nat×AObj))
 (hc:AC Tryz.prog f A (ao hb) (oA po r hl hp)) (hpan:∀ x k,po=some x→QP x (s.setl (hp' k)))
 (hi:ops[i]?=some o:=by exact rfl) (hg:o.guard=none:=by exact rfl) (ho:o.op=.call { callee:=.value fop,args:=argops,argTypes:=tys }:=by exact rfl) (hf:s.ev fop=.fn (.func f) first caps:=by exact rfl)
 (hwf:(σ++ν:IdMap).wf=true:=by exact rfl) (hwf1:σ.wf=true:=by exact rfl) (h8:(σ.all fun p=>Nat.blt p.1 8)=true:=by exact rfl) (hfresh:(ν.all fun p=>(s.h p.2).isNone)=true:=by exact rfl)
 (hobj:BObjs (fun _=>false) σ s.h lv (lv+1) σ hb:=by repeat' (first|exact trivial|exact aK rfl|exact bd rfl rfl|exact aV rfl rfl|exact bw rfl rfl|exact aF (fun _=>rfl)|refine ar ?_|refine ⟨rfl,⟨_,rfl,?_⟩,?_⟩|refine ⟨?_,?_⟩))
 (hA:LVals (fun _=>false) σ s.h lv (lv+1) (first++argops.toList.map s.ev++caps) A:=by repeat' (first|exact trivial|exact aK rfl|exact aV rfl rfl|exact bd rfl rfl|exact bw rfl rfl|exact cJ|exact cT rfl rfl .row (fun _=>rfl) (Nat.le_of_ble_eq_true rfl) (fun _=>rfl)|refine ⟨?_,?_⟩|exact lv_row1 rfl rfl .row (fun _=>rfl) (fun _=>rfl) (by first|omega|(simp;omega))))
 (hB:HB (IdMap.to (σ++ν)) (σ++ν) hl hl':=by repeat' (first|exact trivial|exact cU (lv:=0) (fun _=>rfl)|exact rfl|refine ⟨rfl,rfl,?_,?_⟩))
 (hL:HL lv (IdMap.has (σ++ν)) hl:=by repeat' (first|exact trivial|exact em (fun _=>rfl)|exact ⟨rfl,rfl⟩|refine ⟨?_,?_⟩))
 (hBp:∀ k,HB (IdMap.to σ) σ (hp k) (hp' k):=by intro k;repeat' (first|exact trivial|exact cU (lv:=0) (fun _=>rfl)|exact rfl|refine ⟨rfl,rfl,?_,?_⟩))
 (hLp:∀ k,HL lv (IdMap.has σ) (hp k):=by intro k;repeat' (first|exact trivial|exact em (fun _=>rfl)|exact ⟨rfl,rfl⟩|refine ⟨?_,?_⟩))
 (hr:r.lev lv=true:=by exact rfl) (hr2:r.refs (IdMap.has (σ++ν))=true:=by exact rfl) (hr3:r.ren (IdMap.to (σ++ν))=r':=by conv=>lhs;whnf) (hdd:o.dst=d:=by conv=>lhs;whnf) (hd:d.all (Nat.blt · n)=true:=by exact rfl) :
 OpAtX Tryz.prog n ops QP i s ((s.setl hl').put d r'):=
 OpAtX.go hi hg (Fw.callP (Q:=fun e s2=>match e with|.panic x=>QP x s2|_=>False) lv σ ν hb hl' ho hf hc hwf hwf1 h8 hfresh hobj hA hB hL hBp hLp hr hr2 hr3 hdd hd (fun _=>rfl) hpan)
theorem zE {t:TypeId} {x:Operand} {v:Value} {ti:TI} (ho:o.op=.makeInterface t x:=by exact rfl) (hx:s.ev x=.v v:=by exact rfl) (ht:te.get t=some ti:=by exact rfl) (hk:(match ti.k with|.int _|.bool|.str=>true|_=>false)=true:=by exact rfl)
 (hdd:o.dst=d:=by conv=>lhs;whnf) (hd:d.all (Nat.blt · n)=true:=by exact rfl):OpOk Tryz.prog n o s (s.put d (.v (.iface t v))):=
 .val hdd hd fun Λ w φ a hs=>by
  obtain ⟨ds,h1,h2⟩:=(te_ok.tells ht).desc;refine ⟨.iface t v,?_,.v⟩;cases hk0:ti.k<;>rw [hk0] at h2 hk<;>cases ds<;>simp_all [TK.chk,execOp,cc hs hx,Instr.makeInterface,run_underlying h1]
theorem AOps.panic {ops:Array Oper} {i:Nat} {rest:List Nat} {x:Operand} {t:TypeId} {v:Value} (hQ:Q (.panic (.iface t v)) s) (hi:ops[i]?=some o:=by exact rfl) (hg:o.guard=none:=by exact rfl) (ho:o.op=.panic x:=by exact rfl) (hx:s.ev x=.v (.iface t v):=by exact rfl) :
 AOps Tryz.prog n ops Q (i::rest) s:=
 AOps.consx hi hg fun Λ w φ a hs next QQ hN hP=>by
  have e:=cc hs hx;have hrun:(execOp a.eval o).run Tryz.prog w=.halt (.panic (.iface t v)) w:=by simp [execOp,ho,e,Instr.panic,goPanic]
  unfold Oper.wp;rw [hrun];exact hP (.iface t v) s w φ a hQ hs (Goes.refl _ _)
theorem Post.panicH {te':TE} {fn:Func} {po:Option Value} {r:AV} {hl:List (Nat×AObj)} {hp:Int→List (Nat×AObj)} {x:Value} (lv:Nat) (k:Int) (hx:po=some x) (hobj:BObjs (inl []) (idm (hp k)) s.h lv lv (idm (hp k)) (hp k)) (hpk:dY s.h (dS (hp k))=true) :
 Post te' fn (oA po r hl hp) (.panic x) s:=by
 refine ⟨ao (hp k),fun w φ Λ v k1 k2=>?_,?_⟩
 · obtain ⟨φ2,g1,g2,g3⟩:=zr [] rfl k1 hobj hpk
   exact ⟨φ2,g1,.any,g2⟩
 · rw [hx];exact ⟨rfl,k,rfl⟩
theorem Fin.retP {fn:Func} {po:Option Value} {r:AV} {hl:List (Nat×AObj)} {hp:Int→List (Nat×AObj)} (hx:po=none) (h:Fin te fn (bZ r hl) s):Fin te fn (oA po r hl hp) s:=by
 obtain ⟨xs,r',h',a,b,c,e⟩:=h;subst hx;exact ⟨xs,r',h',a,b,c,e⟩
end rules
section jumps
variable {P:Program} {n:Nat} {Q:bC} {s:AS}
def AExit.jumpTo {α:Type} (l:Nat) (S:α→AS) (I:α→Prop) (Q:bC):bC
 | .goto l',s'=>l'=l∧∃ x,I x∧Weak s' (S x)
 | e,s'=>Q e s'
def AExit.jumpBack {α:Type} (l:Nat) (S:α→AS) (I:α→Prop) (μ:α→Nat) (m:Nat) (Q:bC):bC
 | .goto l',s'=>l'=l∧∃ x,I x∧Weak s' (S x)∧μ x<m
 | e,s'=>Q e s'
theorem pM {c rest:Code} {a:Act} {w:World} {Q:Exit→Act→World→Prop} (l:Nat) (J:Nat→Act→World→Prop) (hf:findLabel c l=some rest)
 (first:c.wp P (Exit.jump l (fun a' w'=>∃ m,J m a' w') Q) a w)
 (pass:∀ m a w,J m a w→rest.wp P (Exit.jump l (fun a' w'=>∃ m',m'<m∧J m' a' w') Q) a w):(Code.scope c).wp P Q a w:=by
 intro b k cs;have hg:gotoIn l (.inScope c::k)=some (.code rest::.inScope c::k):=by simp [gotoIn,hf]
 have key:∀ m a w,J m a w→∃ e a' w',Q e a' w'∧Arrives P (lone (b.at a (.code rest::.inScope c::k)) cs w) b k cs e a' w':=by
  intro m;induction m using Nat.strongRecOn with
  | _ m ih=>
   intro a w hJ;obtain ⟨e,a₁,w₁,hq,harr⟩:=pass m a w hJ b (.inScope c::k) cs;cases e with
   | normal=>exact ⟨.normal,a₁,w₁,hq,Steps.trans harr (.one step_inScope)⟩
   | exit id=>exact ⟨.exit id,a₁,w₁,hq,fun k' hk=>harr k' (by simp [exitTo,hk])⟩
   | goto l'=>
    obtain ⟨rfl,m',hlt,hJ'⟩:=hq;obtain ⟨e₂,a₂,w₂,hq₂,harr₂⟩:=ih m' hlt a₁ w₁ hJ';exact ⟨e₂,a₂,w₂,hq₂,.of_steps (harr _ hg) harr₂⟩
   | ret=>exact ⟨_,a₁,w₁,hq,harr⟩
   | panic ch=>exact ⟨_,a₁,w₁,hq,harr⟩
   | outgrown=>exact ⟨_,a₁,w₁,hq,harr⟩
 obtain ⟨e,a₁,w₁,hq,harr⟩:=first b (.inScope c::k) cs;cases e with
 | normal=>exact ⟨.normal,a₁,w₁,hq,.head step_scope (Steps.trans harr (.one step_inScope))⟩
 | exit id=>exact ⟨.exit id,a₁,w₁,hq,fun k' hk=>.head step_scope (harr k' (by simp [exitTo,hk]))⟩
 | goto l'=>
  obtain ⟨rfl,m,hJ'⟩:=hq;obtain ⟨e₂,a₂,w₂,hq₂,harr₂⟩:=key m a₁ w₁ hJ';exact ⟨e₂,a₂,w₂,hq₂,.of_steps (.head step_scope (harr _ hg)) harr₂⟩
 | ret=>exact ⟨_,a₁,w₁,hq,.of_steps (.one step_scope) harr⟩
 | panic ch=>exact ⟨_,a₁,w₁,hq,.of_steps (.one step_scope) harr⟩
 | outgrown=>exact ⟨_,a₁,w₁,hq,.of_steps (.one step_scope) harr⟩
theorem AWp.jumps {α:Type} {c rest:Code} (l:Nat) (S:α→AS) (I:α→Prop) (μ:α→Nat) (hf:findLabel c l=some (.seq .skip rest))
 (first:(∀ s',(∃ x,I x∧Weak s' (S x))→AWp P n (.seq (.label l) rest) (AExit.jumpTo l S I Q) s')→AWp P n c (AExit.jumpTo l S I Q) s)
 (pass:∀ x,I x→AWp P n rest (AExit.jumpBack l S I μ (μ x) Q) (S x)):AWp P n (.scope c) Q s:=by
 have hpass:∀ x,I x→AWp P n rest (AExit.jumpTo l S I Q) (S x):=fun x hx=>(pass x hx).mono fun e s2 q=>by
  cases e with
  | goto l'=>obtain ⟨h1,y,h2,h3,_⟩:=q;exact ⟨h1,y,h2,h3⟩
  | normal=>exact q
  | exit id=>exact q
  | ret=>exact q
  | panic v=>exact q
 have h1:=first fun s' ⟨x,hx,hw⟩=>AWp.seq (AWp.label (AWp.weak hw ((hpass x hx).mono fun e s2 q=>q)))
 intro Λ w φ a hs QQ hQ;refine pM l (fun m a' w'=>∃ x φ',μ x=m∧I x∧Sim n w' φ' Λ (S x) a'∧Goes w φ w' φ') hf ?_ ?_
 · refine h1 Λ w φ a hs _ fun ae s2 w2 φ2 a2 q2 hs2 g2=>?_
   cases ae with
   | goto l'=>
    obtain ⟨e,x,hx,hw⟩:=q2;obtain ⟨φ3,hs3,g3⟩:=hw n Λ w2 φ2 a2 hs2;exact ⟨e,μ x,x,φ3,rfl,hx,hs3,g2.trans g3⟩
   | normal=>exact hQ .normal s2 w2 φ2 a2 q2 hs2 g2
   | exit id=>exact hQ (.exit id) s2 w2 φ2 a2 q2 hs2 g2
   | ret=>exact hQ .ret s2 w2 φ2 a2 q2 hs2 g2
   | panic v=>exact hQ (.panic v) s2 w2 φ2 a2 q2 hs2 g2
 · rintro m a' w' ⟨x,φ',hm,hx,hs',g⟩
   refine wp_seq (wp_skip ?_);refine pass x hx Λ w' φ' a' hs' _ fun ae s2 w2 φ2 a2 q2 hs2 g2=>?_
   cases ae with
   | goto l'=>
    obtain ⟨e,y,hy,hw,hlt⟩:=q2;obtain ⟨φ3,hs3,g3⟩:=hw n Λ w2 φ2 a2 hs2;exact ⟨e,μ y,by omega,y,φ3,rfl,hy,hs3,(g.trans g2).trans g3⟩
   | normal=>exact hQ .normal s2 w2 φ2 a2 q2 hs2 (g.trans g2)
   | exit id=>exact hQ (.exit id) s2 w2 φ2 a2 q2 hs2 (g.trans g2)
   | ret=>exact hQ .ret s2 w2 φ2 a2 q2 hs2 (g.trans g2)
   | panic v=>exact hQ (.panic v) s2 w2 φ2 a2 q2 hs2 (g.trans g2)
end jumps
section rules
variable {n:Nat} {s:AS} {o:Oper} {d:Option Tmp} {Q:bC}
theorem rO {t e:TypeId} {x:Operand} {ti:TI} (ho:o.op=.call { callee:=.builtin .cap,args:=#[x],argTypes:=#[t] }:=by exact rfl) (hx:s.ev x=.v (.slice none 0 0):=by exact rfl) (ht:te.get t=some ti:=by exact rfl) (hk:ti.k=.slice e:=by exact rfl)
 (hdd:o.dst=d:=by conv=>lhs;whnf) (hd:d.all (Nat.blt · n)=true:=by exact rfl):OpOk Tryz.prog n o s (s.put d (i64 0)):=
 .val hdd hd fun Λ w φ a hs=>⟨.int .i64 0,by
  have hu:=(te_ok.tells ht).slice hk;simp [execOp,ho,resolve,invoke,builtin,cc hs hx,Builtin.cap_,run_underlying hu,goInt],.v⟩
theorem zA {t e:TypeId} {x hi:Operand} {ti tj:TI} (ho:o.op=.slice t x none (some hi) none:=by exact rfl) (hx:s.ev x=.v (.slice none 0 0):=by exact rfl) (hy:s.ev hi=i64 0:=by exact rfl) (ht:te.get t=some ti:=by exact rfl) (hk:ti.k=.slice e:=by exact rfl) (he:te.get e=some tj:=by exact rfl)
 (hdd:o.dst=d:=by conv=>lhs;whnf) (hd:d.all (Nat.blt · n)=true:=by exact rfl):OpOk Tryz.prog n o s (s.put d (.v (.slice none 0 0))):=
 .val hdd hd fun Λ w φ a hs=>⟨.slice none 0 0,by
  have hu:=(te_ok.tells ht).slice hk;have hb:=cZ (P:=Tryz.prog) (w:=w) hs (sl:=true) (len:=0) (cap:=0) (lo:=none) (hi:=some hi) (mx:=none) (l:=0) (h:=0) (m:=0) rfl ⟨_,_,hy,by decide,rfl⟩ rfl (fun h=>by cases h) (Nat.le_refl _) (Nat.le_refl _) (Nat.le_refl _);simp only [Option.map_some,Option.map_none] at hb;simp [execOp,ho,cc hs hx,Instr.sliceAt,Instr.slice,run_underlying hu,hb,(te_ok.tells he).run_sizeOf],.v⟩
theorem p4 {P:Program} {w:World} {t t2 ty e:TypeId} {k k2:IntKind} {f:TypeInfo} {z:Value} (ht:P.underlying t=some (.slice e)) (h2:P.underlying t2=some (.int k2)) (hi:P.info? e=some f) (hz:f.zero=some z) {m:Nat} (h0:0<m) (hs0:0<f.size)
 (hb:m*f.bytes≤140737488355328) (h63:m≤9223372036854775807) :
 ∃ arr,(Builtin.append_ #[t,t2] ty #[.slice none 0 0,.int k m]).run P w=.ok (.slice (some ⟨w.heap.size,0,none⟩) m (grownCap w m 0 e)) (w.drew.alloc (.cells arr e))∧arr.size=(m+(grownCap w m 0 e-m))*z.cells.size:=by
 have hn:¬ (m≤0):=by omega
 have h48:=growslice_fits (need:=m) (old:=0) (by omega) hb;have h48':¬ (281474976710656<Builtin.nextslicecap m 0*f.bytes):=by omega
 have hw:IntKind.i64.wrap (m:Int)=m:=j9 (by omega) (by omega);have hneg:¬ ((m:Int)<0):=by omega
 have hbig:¬ (281474976710656<(m:Int)*(f.bytes:Int)):=by
  have:((m*f.bytes:Nat):Int)≤140737488355328:=by omega
  rw [Int.natCast_mul] at this;omega
 have hmax:¬ (9223372036854775807<(m:Int)):=by omega
 have hs:¬ (m*f.size=0):=by have:=Nat.mul_pos h0 hs0;omega
 refine ⟨#[]++Builtin.zeroCells z.cells m++Builtin.zeroCells z.cells (grownCap w m 0 e-m),?_,?_⟩
 · simp [Builtin.append_,run_underlying ht,run_underlying h2,sizeOf,typeInfo,zeroValue,hi,hz,asInt,asIntOf,hw,hneg,hbig,hn,hmax,h48',Question.forced,newRow,grownCap,Builtin.firstCells,hs]
   omega
 · simp [Builtin.zeroCells,Nat.add_mul]
theorem vT (id m:Nat) {α:Type} (f:α→List AV) {t t2 e:TypeId} {x y:Operand} {k:IntKind} {esz bt:Nat} {ti tj tk:TI} {k2:IntKind} (ho:o.op=.call { callee:=.builtin .append,args:=#[x,y],argTypes:=#[t,t2] }:=by exact rfl) (hx:s.ev x=.v (.slice none 0 0):=by exact rfl) (hy:s.ev y=.v (.int k m):=by exact rfl)
 (ht:te.get t=some ti:=by exact rfl) (hk:ti.k=.slice e:=by exact rfl) (he:te.get e=some tj:=by exact rfl) (hesz:tj.size=esz:=by exact rfl) (hbt:tj.bytes=bt:=by conv=>lhs;whnf) (hz0:Nat.beq tj.zero.length tj.size=true:=by exact rfl) (hp:0<esz:=by exact Nat.le_of_ble_eq_true rfl)
 (ht2:te.get t2=some tk:=by exact rfl) (hk2:tk.k=.int k2:=by exact rfl) (hid:s.h id=none:=by exact rfl) (h0:0<m:=by omega) (hb:m*bt≤140737488355328:=by first|omega|(simp;omega)) (h63:m≤9223372036854775807:=by omega)
 (hdd:o.dst=d:=by conv=>lhs;whnf) (hd:d.all (Nat.blt · n)=true:=by exact rfl):OpOk Tryz.prog n o s ((s.seth id (some (.row (cl f []) esz 0))).put d (.sl id 0 0 m esz)):=
 .chg hdd hd fun Λ w φ a hs=>by
  subst hesz;subst hbt;obtain ⟨f',z,f1,f2,f3,f4,z1,z2,z3⟩:=(te_ok.tells he).info;have hu:=(te_ok.tells ht).slice hk;have hu2:=(te_ok.tells ht2).int hk2;obtain ⟨arr,hrun,hsz⟩:=p4 (P:=Tryz.prog) (w:=w) (ty:=o.type) (k:=k) hu hu2 f1 f4 h0 (by rw [f2];exact hp) (by rw [f3];exact hb) h63;have hsw:=hs.hs.drew;have hc:=Chg.alloc hsw hid (.cells arr e) 0 0;have hc2:Chg w φ Λ s.h id ⟨some (w.heap.size,0),0⟩ (w.drew.alloc (.cells arr e)):=
   ⟨hs.hs,hc.size,hc.os,hc.tape,hc.output,hc.other,hc.loc,hc.ver,hc.sizes,(Fro.same rfl).trans hc.fro⟩
  have hge:=grownCap_ge w m 0 e;have hsz2:arr.size=grownCap w m 0 e*tj.size:=by
   rw [hsz,z1];have:(tj.zero.map ZC.val).toArray.size=tj.size:=by simp [z2]
   rw [this];have hm:m+(grownCap w m 0 e-m)=grownCap w m 0 e:=by omega
   rw [hm]
  refine ⟨_,_,_,?_,hc2,jj rfl (w0:=w.drew) (Nat.zero_le _) (fun j c hj=>by simp [cl] at hj),.slice (some ⟨w.heap.size,0,none⟩) m (grownCap w m 0 e),.inl rfl,?_⟩
  · simp [execOp,ho,resolve,invoke,builtin,cc hs hx,cc hs hy,hrun]
  · have:=Rep.sl (w:=w.drew.alloc (.cells arr e)) (φ:=upd φ id (some ⟨some (w.heap.size,0),0⟩)) (Λ:=Λ) (id:=id) (ver:=0) (off:=0) (len:=m) (esz:=tj.size) (cap:=grownCap w m 0 e) (aZ _ _ _) rfl rfl (heap_alloc_new w.drew _) (by omega) hge
    exact this
end rules
abbrev Bl:=Nat→Nat→Prop
class HasJ where
 J:Bl
abbrev NoL:aW:=fun _ _=>False
namespace J
def NU (x:AV):Prop:=∀ (w:World) (φ:aD) (Λ:aW) (v:Value),Rep w φ Λ x v→∀ k,v≠.int .u8 k
inductive SF:AV→Prop
 | v {x}:SF (.v x)
 | any:SF .any
 | bl:SF .bl
 | ptr {i v o}:SF (.ptr i v o)
 | sl {i v o l e}:SF (.sl i v o l e)
 | fz {lv n cells}:(∀ c∈cells,NU c)→(∀ c∈cells,SF c)→SF (.fz lv n cells)
 | agg {cells}:(∀ c∈cells,SF c)→SF (.agg cells)
 | tup0:SF (.tup [])
 | fn0 {f}:SF (.fn f [] [])
 | p {D x}:SF x→SF (.p D x)
def SFO:AObj→Prop
 | .gbox _ cs=>∀ c∈cs,SF c
 | .grow _ cs _ _=>∀ c∈cs,SF c
 | .map _=>False
theorem zU {l:List UInt8}:NU (str l):=fun _ _ _ _ h k e=>by cases h;cases e
theorem vZ {k:IntKind} {a:Int} (hk:k≠.u8):NU (.v (.int k a)):=fun _ _ _ _ h q e=>by cases h;cases e;exact hk rfl
theorem Gp {lv n:Nat} {cs:List AV}:NU (.fz lv n cs):=fun _ _ _ _ h q e=>by cases h<;>cases e
theorem BA {t:List (Nat×AV)} (h:∀ p∈t,SF p.2) (i:Nat):SF (jm t i):=by
 induction t with
 | nil=>exact .any
 | cons p r ih=>
  obtain ⟨k,x⟩:=p;simp only [jm];cases Nat.beq i k with
  | true=>exact h _ List.mem_cons_self
  | false=>exact ih fun q hq=>h q (List.mem_cons_of_mem _ hq)
theorem zk {l:List (Nat×AObj)} (h:∀ p∈l,SFO p.2):∀ id ob,ao l id=some ob→SFO ob:=by
 induction l with
 | nil=>intro id ob e;cases e
 | cons p r ih=>
  obtain ⟨k,x⟩:=p;intro id ob e;simp only [ao] at e;cases hb:Nat.beq id k with
  | true=>rw [hb] at e;cases e;exact h _ List.mem_cons_self
  | false=>rw [hb] at e;exact ih (fun q hq=>h q (List.mem_cons_of_mem _ hq)) id ob e
section
variable [hJ:HasJ]
structure JG (w:World) (φ:aD) (w':World) (φ':aD):Prop where
 keep:∀ b,b<w.heap.size→¬ bp φ b→(∀ o,¬ hJ.J b o)→w'.heap[b]?=w.heap[b]?
 kc:∀ b o x,¬ bp φ b→¬ hJ.J b o→w.cell? ⟨b,o,none⟩=some x→w'.cell? ⟨b,o,none⟩=some x
 size:w.heap.size≤w'.heap.size
 own:∀ b,bp φ' b→bp φ b∨w.heap.size≤b
 os:w'.os=w.os
 tape:w'.tape=w.tape
 output:w'.output=w.output
 fro:Fro w w'
def JInv (w:World) (φ:aD):Prop:=∀ b o,hJ.J b o→¬ bp φ b∧Unfro w b∧∃ c:UInt8,w.cell? ⟨b,o,none⟩=some (.int .u8 c.toNat)
theorem JG.refl (w:World) (φ:aD):JG w φ w φ:=⟨fun _ _ _ _=>rfl,fun _ _ _ _ _ h=>h,Nat.le_refl _,fun _ h=>.inl h,rfl,rfl,rfl,.refl w⟩
theorem JG.trans {w w1 w2:World} {φ φ1 φ2:aD} (h:JG w φ w1 φ1) (k:JG w1 φ1 w2 φ2):JG w φ w2 φ2 where
 keep b hb ho hj:=by
  have h1:¬ bp φ1 b:=fun h1=>(h.own b h1).elim ho (fun h2=>by omega)
  rw [k.keep b (Nat.lt_of_lt_of_le hb h.size) h1 hj,h.keep b hb ho hj]
 kc b o x ho hj hc:=by
  have hb:=e9 hc;have h1:¬ bp φ1 b:=fun h1=>(h.own b h1).elim ho (fun h2=>by omega)
  exact k.kc b o x h1 hj (h.kc b o x ho hj hc)
 size:=Nat.le_trans h.size k.size
 own b hb:=by
  rcases k.own b hb with h1|h1
  · exact h.own b h1
  · exact .inr (Nat.le_trans h.size h1)
 os:=k.os.trans h.os
 tape:=k.tape.trans h.tape
 output:=k.output.trans h.output
 fro:=h.fro.trans k.fro
theorem JInv.goes {w w':World} {φ φ':aD} (h:JInv w φ) (g:Goes w φ w' φ'):JG w φ w' φ'∧JInv w' φ':=by
 refine ⟨⟨fun b hb ho _=>g.keep b hb ho,fun b o x ho _ hc=>?_,g.size,g.own,g.os,g.tape,g.output,g.fro⟩,fun b o hj=>?_⟩
 · rw [World.cell?_of_block (g.keep b (e9 hc) ho)]
   exact hc
 · obtain ⟨h1,h2,c,h3⟩:=h b o hj
   have hb:=e9 h3;have e:=g.keep b hb h1;exact ⟨fun h4=>(g.own b h4).elim h1 (fun h5=>by omega),h2.of e,c,by rw [World.cell?_of_block e];exact h3⟩
def AWp (P:Program) (n:Nat) (c:Code) (Q:bC) (s:AS):Prop:=
 ∀ w φ a,Sim n w φ NoL s a→JInv w φ→∀ QQ:Exit→Act→World→Prop,
  (∀ ae s' w' φ' a',Q ae s'→Sim n w' φ' NoL s' a'→JG w φ w' φ'→JInv w' φ'→QQ ae.conc a' w')→c.wp P QQ a w
def AOps (P:Program) (n:Nat) (ops:Array Oper) (Q:bC) (l:List Nat) (s:AS):Prop:=
 ∀ w φ a,Sim n w φ NoL s a→JInv w φ→∀ QQ:Exit→Act→World→Prop,
  (∀ ae s' w' φ' a',Q ae s'→Sim n w' φ' NoL s' a'→JG w φ w' φ'→JInv w' φ'→QQ ae.conc a' w')→wpOps P ops QQ l a w
section rules
variable {P:Program} {n:Nat} {Q:bC} {s:AS} {ops:Array Oper}
theorem AWp.skip (h:Q .normal s):AWp P n .skip Q s:=fun w φ a hs hj _ hQ=>wp_skip (hQ .normal s w φ a h hs (JG.refl _ _) hj)
theorem AWp.exit {id:Nat} (h:Q (.exit id) s):AWp P n (.exit id) Q s:=fun w φ a hs hj _ hQ=>wp_exit (hQ (.exit id) s w φ a h hs (JG.refl _ _) hj)
theorem AWp.seq {x y:Code} (h:AWp P n x (AExit.then (AWp P n y Q) Q) s):AWp P n (.seq x y) Q s:=by
 intro w φ a hs hj QQ hQ;refine wp_seq (h w φ a hs hj _ ?_);intro ae s' w' φ' a' q hs' g hj';cases ae with
 | normal=>exact q w' φ' a' hs' hj' QQ fun ae s2 w2 φ2 a2 q2 hs2 g2 hj2=>hQ ae s2 w2 φ2 a2 q2 hs2 (g.trans g2) hj2
 | exit id=>exact hQ _ s' w' φ' a' q hs' g hj'
 | goto l=>exact hQ _ s' w' φ' a' q hs' g hj'
 | ret=>exact hQ _ s' w' φ' a' q hs' g hj'
 | panic v=>exact hQ _ s' w' φ' a' q hs' g hj'
theorem AWp.cond {c:Operand} {x y:Code} {b:Bool} (hc:s.ev c=.v (.bool b)) (ht:b=true→AWp P n x Q s) (hf:b=false→AWp P n y Q s):AWp P n (.cond c x y) Q s:=by
 intro w φ a hs hj QQ hQ;have he:=hs.ev c;rw [hc] at he;generalize hv:a.eval c=v at he;cases he;exact wp_cond_split hv (fun e=>ht e w φ a hs hj QQ hQ) (fun e=>hf e w φ a hs hj QQ hQ)
theorem AWp.cond_t {c:Operand} {x y:Code} (hc:s.ev c=tf true) (h:AWp P n x Q s):AWp P n (.cond c x y) Q s:=AWp.cond hc (fun _=>h) (fun e=>by cases e)
theorem AWp.cond_f {c:Operand} {x y:Code} (hc:s.ev c=tf false) (h:AWp P n y Q s):AWp P n (.cond c x y) Q s:=AWp.cond hc (fun e=>by cases e) (fun _=>h)
theorem AWp.block {id:Nat} {c:Code} (h:AWp P n c (AExit.inBlock id Q) s):AWp P n (.block id c) Q s:=by
 intro w φ a hs hj QQ hQ;refine wp_block (h w φ a hs hj _ ?_);intro ae s' w' φ' a' q hs' g hj';cases ae with
 | normal=>exact hQ .normal s' w' φ' a' q hs' g hj'
 | exit id'=>
  simp only [AExit.inBlock] at q;simp only [AExit.conc,Exit.inBlock];split at q
  · rename_i e
    rw [if_pos e];exact hQ .normal s' w' φ' a' q hs' g hj'
  · rename_i e
    rw [if_neg e];exact hQ (.exit id') s' w' φ' a' q hs' g hj'
 | goto l=>exact hQ _ s' w' φ' a' q hs' g hj'
 | ret=>exact hQ _ s' w' φ' a' q hs' g hj'
 | panic v=>exact hQ _ s' w' φ' a' q hs' g hj'
theorem AOps.weak {l:List Nat} {s':AS} (hw:Weak s s') (h:AOps P n ops Q l s'):AOps P n ops Q l s:=by
 intro w φ a hs hj QQ hQ;obtain ⟨φ1,hs1,g1⟩:=hw n NoL w φ a hs;obtain ⟨k1,k2⟩:=hj.goes g1;exact h w φ1 a hs1 k2 QQ fun ae s2 w2 φ2 a2 q2 hs2 g2 hj2=>hQ ae s2 w2 φ2 a2 q2 hs2 (k1.trans g2) hj2
theorem AWp.loopI {α:Type} {c:Code} (S:α→AS) (I:α→Prop) (μ:α→Nat) (x0:α) (hI:I x0) (h0:Weak s (S x0))
 (round:∀ x,I x→AWp P n c (AExit.then (fun s'=>∃ x',I x'∧Weak s' (S x')∧μ x'<μ x) Q) (S x)):AWp P n (.loop c) Q s:=by
 intro w φ a hs hj QQ hQ;obtain ⟨φ0,hs0,g0⟩:=h0 n NoL w φ a hs;obtain ⟨k0,hj0⟩:=hj.goes g0
 let V:Nat→Act→World→Prop:=fun m a' w'=>∃ x φ',I x∧μ x=m∧Sim n w' φ' NoL (S x) a'∧JG w φ w' φ'∧JInv w' φ'
 refine wp_loop_ghost V (μ x0) ⟨x0,φ0,hI,rfl,hs0,k0,hj0⟩ ?_;rintro m a' w' ⟨x,φ',hx,hm,hs',g,hj'⟩;refine round x hx w' φ' a' hs' hj' _ ?_;intro ae s2 w2 φ2 a2 q2 hs2 g2 hj2;cases ae with
 | normal=>
  obtain ⟨x',hx',hw',hlt⟩:=q2;obtain ⟨φ3,hs3,g3⟩:=hw' n NoL w2 φ2 a2 hs2;obtain ⟨k3,hj3⟩:=hj2.goes g3;exact ⟨μ x',by omega,x',φ3,hx',rfl,hs3,(g.trans g2).trans k3,hj3⟩
 | exit id=>exact hQ _ s2 w2 φ2 a2 q2 hs2 (g.trans g2) hj2
 | goto l=>exact hQ _ s2 w2 φ2 a2 q2 hs2 (g.trans g2) hj2
 | ret=>exact hQ _ s2 w2 φ2 a2 q2 hs2 (g.trans g2) hj2
 | panic v=>exact hQ _ s2 w2 φ2 a2 q2 hs2 (g.trans g2) hj2
theorem AWp.region {id:Nat} (h:AOps P n ops Q (List.range ops.size) s):AWp P n (.region id ops false) Q s:=
 fun w φ a hs hj QQ hQ=>wp_region (h w φ a hs hj QQ hQ)
theorem AOps.nil (h:Q .normal s):AOps P n ops Q [] s:=fun w φ a hs hj _ hQ=>hQ .normal s w φ a h hs (JG.refl _ _) hj
theorem AOps.cons {i:Nat} {rest:List Nat} {o:Oper} {s':AS} (ho:ops[i]?=some o) (hg:o.guard=none) (h:OpOk P n o s s') (hr:AOps P n ops Q rest s') :
 AOps P n ops Q (i::rest) s:=by
 intro w φ a hs hj QQ hQ;simp only [wpOps,ho,Region.wanted,hg,if_true];refine .inl (h NoL w φ a hs _ _ fun w' φ' a' hs' g=>?_);obtain ⟨k1,k2⟩:=hj.goes g;exact hr w' φ' a' hs' k2 QQ fun ae s2 w2 φ2 a2 q2 hs2 g2 hj2=>hQ ae s2 w2 φ2 a2 q2 hs2 (k1.trans g2) hj2
theorem AOps.dec {i:Nat} {rest:List Nat} {o:Oper} {p:Prop} {hp:Decidable p} {d:Option Tmp} (ho:ops[i]?=some o) (hg:o.guard=none) (h:OpOk P n o s (s.put d (tf (decide p))))
 (ht:p→AOps P n ops Q rest (s.put d (tf true))) (hf:¬ p→AOps P n ops Q rest (s.put d (tf false))):AOps P n ops Q (i::rest) s:=by
 by_cases hx:p
 · rw [decide_eq_true hx] at h
   exact AOps.cons ho hg h (ht hx)
 · rw [decide_eq_false hx] at h
   exact AOps.cons ho hg h (hf hx)
def OpJ (P:Program) (n:Nat) (o:Oper) (s:AS) (K:AS→Prop):Prop:=
 ∀ w φ a,Sim n w φ NoL s a→JInv w φ→∀ (next:Act→World→Prop) (QQ:Exit→Act→World→Prop),
  (∀ s' w' φ' a',K s'→Sim n w' φ' NoL s' a'→JG w φ w' φ'→JInv w' φ'→next a' w')→o.wp P a w next QQ
theorem AOps.consj {i:Nat} {rest:List Nat} {o:Oper} (ho:ops[i]?=some o) (hg:o.guard=none) (h:OpJ P n o s (AOps P n ops Q rest)):AOps P n ops Q (i::rest) s:=by
 intro w φ a hs hj QQ hQ;simp only [wpOps,ho,Region.wanted,hg,if_true];exact .inl (h w φ a hs hj _ _ fun s' w' φ' a' k hs' g hj'=>k w' φ' a' hs' hj' QQ fun ae s2 w2 φ2 a2 q2 hs2 g2 hj2=>hQ ae s2 w2 φ2 a2 q2 hs2 (g.trans g2) hj2)
end rules
structure Kc (w:World) (φ:aD) (w':World):Prop where
 kc:∀ b o x,¬ hJ.J b o→w.cell? ⟨b,o,none⟩=some x→w'.cell? ⟨b,o,none⟩=some x
 kb:∀ b,bp φ b→w'.heap[b]?=w.heap[b]?
 size:w.heap.size≤w'.heap.size
theorem Rep.kc {w w':World} {φ:aD} (k:Kc w φ w') (hj:JInv w φ) {x:AV} {v:Value} (h:Rep w φ NoL x v):SF x→Rep w' φ NoL x v:=by
 have nj:∀ b o y,w.cell? ⟨b,o,none⟩=some y→(∀ q,y≠.int .u8 q)→w'.cell? ⟨b,o,none⟩=some y:=fun b o y hc hy=>k.kc b o y (fun hjc=>by
  obtain ⟨_,_,c,h3⟩:=hj b o hjc;rw [hc] at h3;exact hy _ (Option.some.inj h3)) hc
 induction h with
 | v=>exact fun _=>.v
 | any=>exact fun _=>.any
 | bl=>exact fun _=>.bl
 | fz0=>exact fun _=>.fz0
 | fz vf hm hn hok hc hr hp ih=>
  intro hs;cases hs with
  | fz h1 h2=>
   refine .fz vf hm hn hok (fun j hj=>?_) (fun j c hj=>ih j c hj (h2 c (List.mem_of_getElem? hj))) hp;exact nj _ _ _ (hc j hj) (h1 _ (List.getElem_mem hj) _ _ _ _ (hr j _ (List.getElem?_eq_getElem hj)))
 | fp vf hm hok hc hr hp ih=>exact fun hs=>by cases hs
 | agg vf h1 h2 h3 ih=>
  intro hs;cases hs with
  | agg h=>exact .agg vf h1 h2 fun j c hj=>ih j c hj (h c (List.mem_of_getElem? hj))
 | tup vf h1 h2 h3 ih=>
  intro hs;cases hs with
  | tup0=>exact .tup vf h1 h2 fun j c hj=>by simp at hj
 | fn vf wf h1 h2 h3 h4 h5 h6 ih1 ih2=>
  intro hs;cases hs with
  | fn0=>exact .fn vf wf h1 h2 (fun j c hj=>by simp at hj) h4 h5 (fun j c hj=>by simp at hj)
 | ifc h ih=>exact fun hs=>by cases hs
 | p a b h ih=>
  intro hs;cases hs with
  | p h2=>exact .p a b (ih h2)
 | ptr h1 h2 h3=>exact fun _=>.ptr h1 h2 h3
 | ptrx h1 h2=>exact fun _=>.ptrx h1 h2
 | sl h1 h2 h3 h4 h5 h6=>exact fun _=>.sl h1 h2 h3 (by rw [k.kb _ ⟨_,_,_,h1,h3⟩];exact h4) h5 h6
 | sl0 h1 h2=>exact fun _=>.sl0 h1 h2
 | slx h1 h2 h3=>exact fun _=>.slx h1 h2 h3
 | mp h1 h2 h3=>exact fun hs=>by cases hs
 | mpx h1 h2=>exact fun hs=>by cases hs
 | dp h1 h2 h3 h4 h5=>exact fun hs=>by cases hs
 | dp0 h1=>exact fun hs=>by cases hs
 | dpx h1 h2=>exact fun hs=>by cases hs
theorem Sim.kc {n:Nat} {w w':World} {φ:aD} {s:AS} {a:Act} (k:Kc w φ w') (hj:JInv w φ) (hs:Sim n w φ NoL s a) (h1:∀ i,SF (s.t i)) (h2:∀ id ob,s.h id=some ob→SFO ob):Sim n w' φ NoL s a:=by
 have hcells:∀ {arr:Array Value} {o:Nat} {cs:List AV},CellsRep w φ NoL arr o cs→(∀ c∈cs,SF c)→CellsRep w' φ NoL arr o cs:=fun hc h j c hj2=>by
  obtain ⟨v,e1,e2⟩:=hc j c hj2;exact ⟨v,e1,Rep.kc k hj e2 (h c (List.mem_of_getElem? hj2))⟩
 refine ⟨hs.defs,hs.size,fun i=>Rep.kc k hj (hs.tmps i) (h1 i),fun id ob h=>?_,hs.hs.dom,fun id l b o e1 e2=>?_,hs.hs.inj,fun _ _ h=>h.elim⟩
 · obtain ⟨l,e1,e2⟩:=hs.hs.heap id ob h
   refine ⟨l,e1,?_⟩;have h3:=h2 id ob h;cases ob with
   | gbox ty cs=>
    obtain ⟨b,arr,T,g1,g2,g3,g4,g5⟩:=e2;exact ⟨b,arr,T,g1,g2,by rw [k.kb b ⟨id,l,0,e1,g1⟩];exact g3,g4,hcells g5 h3⟩
   | grow ty cs e v=>
    obtain ⟨g0,g⟩:=e2;refine ⟨g0,?_⟩;rcases g with g|⟨b,o,arr,T,lo,hi,g1,g2,g3,g4,g5⟩
    · exact .inl g
    · exact .inr ⟨b,o,arr,T,lo,hi,g1,by rw [k.kb b ⟨id,l,o,e1,g1⟩];exact g2,g3,g4,hcells g5 h3⟩
   | map es=>exact h3.elim
 · obtain ⟨h3,_⟩:=hs.hs.lt id l b o e1 e2
   exact ⟨Nat.lt_of_lt_of_le h3 k.size,fun _ h=>h.elim⟩
def AC (P:Program) (f:FuncId) (args:List AV) (h:aX) (R:AEnd→aX→Prop):Prop:=
 (∃ fn c,wC P f fn c)∧∀ w φ (vals:Array Value),HSim w φ NoL h→eI w φ NoL args vals→JInv w φ→∀ QQ:Ending→World→Prop,
  (∀ r h' w' φ' v,R (.ret r) h'→HSim w' φ' NoL h'→JG w φ w' φ'→JInv w' φ'→Rep w' φ' NoL r v→QQ (.returned v) w')→Calls P f vals w QQ
section fn
variable {te:TE}
theorem AC.intro {P:Program} (hte:TEok P te) {f:FuncId} {fn:Func} {c:Code} {args:List AV} {h:aX} {r0:AV} (hb:wC P f fn c) (hn:args.length≤fn.ntmps)
 (hw:AWp P fn.ntmps c (Post te fn (Ret r0)) ⟨fun i=>args.getD i (.v undef),h⟩):AC P f args h (Ret r0):=by
 refine ⟨⟨fn,c,hb⟩,fun w φ vals hs ha hj QQ hret=>?_⟩;have hs0:Sim fn.ntmps w φ NoL ⟨fun i=>args.getD i (.v undef),h⟩ { tmps:=vals++Array.replicate (fn.ntmps-vals.size) undef,defers:=[] }:=by
  refine ⟨rfl,by simp [ha.1];omega,fun i=>?_,hs⟩;simp only [Array.getD_eq_getD_getElem?,List.getD_eq_getElem?_getD];by_cases hi:i<args.length
  · obtain ⟨v,h1,h2⟩:=ha.2 i args[i] (List.getElem?_eq_getElem hi)
    rw [Array.getElem?_append_left (by rw [ha.1];exact hi),h1,List.getElem?_eq_getElem hi];exact h2
  · rw [List.getElem?_eq_none (by omega),Array.getElem?_append_right (by rw [ha.1];omega)]
    have:((Array.replicate (fn.ntmps-vals.size) undef)[i-vals.size]?).getD undef=undef:=by
     rw [Array.getElem?_replicate];split<;>rfl
    rw [this];exact .v
 refine calls_of_wp hb.1 hb.2.1 (hw w φ _ hs0 hj _ ?_);intro ae s' w' φ' a' q hs' g hj';have fin:Fin te fn (Ret r0) s'→a'.defers=[]∧∃ v,(results fn a'.tmps).run P w'=.ok v w'∧QQ (.returned v) w':=by
  rintro ⟨xs,r,h',h1,h2,h3⟩;refine ⟨hs'.defs,?_⟩;obtain ⟨vs,v1,v2,v3⟩:=fj hte hs' h1;have hrun:(results fn a'.tmps).run P w'=.ok (if h:vs.toArray.size=1 then vs.toArray[0] else .tuple vs.toArray) w':=by
   rw [ml,← Array.toArray_toList (xs:=fn.results),List.mapM_toArray];simp only [Sem.run_bind,Sem.run_map,v1,Result.andThen_ok,Sem.run_pure]
  have hrep:Rep w' φ' NoL (bX xs) (if h:vs.toArray.size=1 then vs.toArray[0] else .tuple vs.toArray):=by
   by_cases hx:∃ x,xs=[x]
   · obtain ⟨x,rfl⟩:=hx
     have hvl:vs.length=1:=by simpa using v2
     obtain ⟨v,hv1,hv2⟩:=v3 0 x rfl;rw [dif_pos (by simpa using hvl)];simp only [bX];have:vs.toArray[0]'(by simp;omega)=v:=by
      have:=(List.getElem?_eq_some_iff.1 hv1).2
      simpa using this
     rw [this];exact hv2
   · have hne:vs.length≠1:=by
      intro h1;rw [v2] at h1;obtain ⟨x,hx2⟩:=List.length_eq_one_iff.1 h1;exact hx ⟨x,hx2⟩
     rw [dif_neg (by simpa using hne)];have:bX xs=.tup xs:=by
      unfold bX;split
      · exact absurd ⟨_,rfl⟩ hx
      · rfl
     rw [this];refine .tup (fun j=>vs.getD j undef) (by simp [v2]) (fun j hj=>?_) (fun j c hj=>?_)
     · rw [List.getElem?_toArray,List.getElem?_eq_getElem (by omega),List.getD_eq_getElem?_getD,List.getElem?_eq_getElem (by omega)]
       rfl
     · obtain ⟨v,k1,k2⟩:=v3 j c hj
       rw [List.getD_eq_getElem?_getD,k1];exact k2
  obtain ⟨φ2,k1,k2,k3⟩:=h2 w' φ' NoL _ hs'.hs hrep;obtain ⟨g3,hj3⟩:=hj'.goes k3;exact ⟨_,hrun,hret r h' w' φ2 _ h3 k1 (g.trans g3) hj3 k2⟩
 cases ae with
 | normal=>exact fin q
 | ret=>exact fin q
 | exit id=>exact q.elim
 | goto l=>exact q.elim
 | panic x=>
  obtain ⟨h',_,q1⟩:=q;exact absurd q1.1 (by simp)
end fn
end
end J
namespace J
section
variable [hJ:HasJ]
def DDn (m:Nat) (v:Value):Prop:=∃ ad cap,v=.slice ad m cap∧(0<m→∃ b o,ad=some ⟨b,o,none⟩∧∀ j,j<m→hJ.J b (o+j))
def DD (v:Value):Prop:=∃ m,m≤140737488355328∧DDn m v
def PJ (v:Value):Prop:=∃ b o,v=.pointer (some ⟨b,o,none⟩)∧hJ.J b o
theorem Dv {x:AV}:NU (.p DD x):=fun w φ Λ v h k e=>by
 cases h with
 | p a b c=>
  obtain ⟨m,_,ad,cap,h1,_⟩:=a;rw [e] at h1;cases h1
section rules
variable {n:Nat} {Q:bC} {s:AS} {ops:Array Oper} {o:Oper} {d:Option Tmp}
theorem AOps.open_ {l:List Nat} (q:Nat) (hx:s.t q=.p DD .any) (h:∀ m,m≤140737488355328→AOps Tryz.prog n ops Q l (s.put (some q) (.p (DDn m) .any))):AOps Tryz.prog n ops Q l s:=by
 intro w φ a hs hj QQ hQ;have hr:=hs.tmps q;rw [hx] at hr;generalize hv:a.tmps.getD q undef=v at hr;cases hr with
 | p a1 a2 a3=>
  obtain ⟨m,hm,hd⟩:=a1;refine h m hm w φ a ⟨hs.defs,hs.size,fun i=>?_,hs.hs⟩ hj QQ hQ;show Rep w φ NoL (upd s.t q (.p (DDn m) .any) i) _;by_cases hi:i=q
  · subst hi
    rw [aZ,hv];exact .p hd a2 .any
  · rw [bf _ _ _ _ hi]
    exact hs.tmps i
theorem El {t e:TypeId} {x:Operand} {m:Nat} {ti:TI} (ho:o.op=.call { callee:=.builtin .len,args:=#[x],argTypes:=#[t] }:=by exact rfl) (hx:s.ev x=.p (DDn m) .any:=by exact rfl) (ht:te.get t=some ti:=by exact rfl)
 (hk:ti.k=.slice e:=by exact rfl) (hdd:o.dst=d:=by conv=>lhs;whnf) (hd:d.all (Nat.blt · n)=true:=by exact rfl):OpOk Tryz.prog n o s (s.put d (i64 m)):=
 .val hdd hd fun Λ w φ a hs=>⟨.int .i64 m,by
  have hu:=(te_ok.tells ht).slice hk;have hr:=hs.ev x;rw [hx] at hr;generalize hv:a.eval x=v at hr;cases hr with
  | p a1 a2 a3=>
   obtain ⟨ad,cap,rfl,_⟩:=a1;simp [execOp,ho,resolve,invoke,builtin,hv,Builtin.len_,run_underlying hu,goInt],.v⟩
theorem Du {t e:TypeId} {x y:Operand} {k:IntKind} {i:Int} {m:Nat} {ti tj:TI} (ho:o.op=.indexAddr t x y:=by exact rfl) (hx:s.ev x=.p (DDn m) .any:=by exact rfl) (hy:s.ev y=.v (.int k i):=by exact rfl) (ht:te.get t=some ti:=by exact rfl)
 (hk:ti.k=.slice e:=by exact rfl) (he:te.get e=some tj:=by exact rfl) (h1:tj.size=1:=by exact rfl) (h0:0≤i:=by first|omega|(simp;omega)) (hm:i<m:=by first|omega|(simp;omega))
 (hdd:o.dst=d:=by conv=>lhs;whnf) (hd:d.all (Nat.blt · n)=true:=by exact rfl):OpOk Tryz.prog n o s (s.put d (.p PJ .any)):=
 .val hdd hd fun Λ w φ a hs=>by
  have hu:=(te_ok.tells ht).slice hk;have hr:=hs.ev x;rw [hx] at hr;generalize hv:a.eval x=v at hr;cases hr with
  | p a1 a2 a3=>
   obtain ⟨ad,cap,rfl,h⟩:=a1;obtain ⟨b,of,rfl,hj⟩:=h (by omega);refine ⟨.pointer (some ⟨b,of+i.toNat,none⟩),?_,.p ⟨b,_,rfl,hj _ (by omega)⟩ rfl .any⟩;simp [execOp,ho,hv,cc hs hy,Instr.indexAt,asIntOf,run_underlying hu,h0,hm,(te_ok.tells he).run_sizeOf,Addr.add_lit,h1]
theorem AOps.loadj {i:Nat} {rest:List Nat} {t:TypeId} {x:Operand} {ti:TI} (h:∀ c:UInt8,AOps Tryz.prog n ops Q rest (s.put d (u8 c.toNat))) (hi:ops[i]?=some o:=by exact rfl) (hg:o.guard=none:=by exact rfl) (ho:o.op=.load t x:=by exact rfl)
 (hx:s.ev x=.p PJ .any:=by exact rfl) (ht:te.get t=some ti:=by exact rfl) (h1:ti.size=1:=by exact rfl) (hk:ti.k.agg=false:=by exact rfl)
 (hdd:o.dst=d:=by conv=>lhs;whnf) (hd:d.all (Nat.blt · n)=true:=by exact rfl):AOps Tryz.prog n ops Q (i::rest) s:=by
 refine AOps.consj hi hg fun w φ a hs hj next QQ hN=>?_
 have hr:=hs.ev x;rw [hx] at hr;generalize hv:a.eval x=v at hr;cases hr with
 | p a1 a2 a3=>
  obtain ⟨b,of,rfl,hjc⟩:=a1;obtain ⟨_,_,c,hc⟩:=hj b of hjc;obtain ⟨z,z1,z2⟩:=ii (P:=Tryz.prog) (Λ:=NoL) (φ:=φ) (te_ok.tells ht) b of [u8 c.toNat] (fun _=>.int .u8 c.toNat) (by rw [h1];rfl) (by omega) (fun j hj2=>by
   have:j=0:=by simpa using hj2
   subst this;exact hc) (fun j y hj2=>by
   match j,hj2 with
   | 0,hj2=>cases hj2;exact .v)
  rw [hk] at z2;subst hdd;unfold Oper.wp;have hrun:(execOp a.eval o).run Tryz.prog w=.ok (.value z) w:=by simp [execOp,ho,hv,Instr.loadAt,Instr.sureAddr,z1]
  rw [hrun];exact hN _ w φ _ (h c) (hs.put o.dst hd z2) (JG.refl w φ) hj
theorem AOps.storej {i:Nat} {rest:List Nat} {t:TypeId} {x y:Operand} {c:UInt8} {ti:TI} (hsf:∀ i,SF (s.t i)) (hsh:∀ id ob,s.h id=some ob→SFO ob) (h:AOps Tryz.prog n ops Q rest (s.put d (.v undef)))
 (hi:ops[i]?=some o:=by exact rfl) (hg:o.guard=none:=by exact rfl) (ho:o.op=.store t x y:=by exact rfl)
 (hx:s.ev x=.p PJ .any:=by exact rfl) (hy:s.ev y=u8 c.toNat:=by exact rfl) (ht:te.get t=some ti:=by exact rfl) (h1:ti.size=1:=by exact rfl)
 (hdd:o.dst=d:=by conv=>lhs;whnf) (hd:d.all (Nat.blt · n)=true:=by exact rfl):AOps Tryz.prog n ops Q (i::rest) s:=by
 refine AOps.consj hi hg fun w φ a hs hj next QQ hN=>?_
 have hr:=hs.ev x;rw [hx] at hr;generalize hv:a.eval x=v at hr;cases hr with
 | p a1 a2 a3=>
  obtain ⟨b,of,rfl,hjc⟩:=a1;obtain ⟨hno,hun,c0,hc⟩:=hj b of hjc;obtain ⟨arr,T,lo,hi',harr⟩:∃ arr T lo hi,w.heap[b]?=some (.cells arr T (lo,hi)):=by
   unfold World.cell? at hc;simp only at hc;split at hc
   · rename_i cs T m e
     exact ⟨cs,T,m.1,m.2,e⟩
   · cases hc
  have hlt:of<arr.size:=by
   simp only [World.cell?,harr] at hc;exact (Array.getElem?_eq_some_iff.1 hc).1
  have hst:=dX (P:=Tryz.prog) b of T lo hi' [.int .u8 c.toNat] 0 arr w harr (hun _ _ _ _ harr) (by simp;omega) (by intro v hv;simp at hv;subst hv;rfl);simp only [Nat.add_zero,List.length_singleton] at hst;obtain ⟨W,hW⟩:∃ W,W=w.setRow b (arr.toList.take of++[Value.int .u8 c.toNat]++arr.toList.drop (of+1)).toArray:=⟨_,rfl⟩;rw [← hW] at hst;have hsz:(arr.toList.take of++[Value.int .u8 c.toNat]++arr.toList.drop (of+1)).toArray.size=arr.size:=by simp;omega
  have hheap:W.heap[b]?=some (.cells (arr.toList.take of++[Value.int .u8 c.toNat]++arr.toList.drop (of+1)).toArray T (lo,hi')):=by rw [hW];exact setRow_heap w b arr _ T (lo,hi') harr
  have hother:∀ k,k≠b→W.heap[k]?=w.heap[k]?:=fun k hk=>by rw [hW];exact setRow_other w b k _ hk
  have hcell:∀ b' o',¬ (b'=b∧o'=of)→W.cell? ⟨b',o',none⟩=w.cell? ⟨b',o',none⟩:=by
   intro b' o' hne;by_cases hb:b'=b
   · subst hb
     have ho':o'≠of:=fun e=>hne ⟨rfl,e⟩
     simp only [World.cell?,hheap,harr,List.getElem?_toArray];rw [List.append_assoc];by_cases h2:o'<of
     · rw [List.getElem?_append_left (by simp;omega),List.getElem?_take,if_pos h2]
       simp
     · rw [List.getElem?_append_right (by simp;omega)]
       simp only [List.length_take,Array.length_toList];rw [Nat.min_eq_left (by omega),List.getElem?_append_right (by simp;omega),List.getElem?_drop];simp only [List.length_singleton];rw [show of+1+(o'-of-1)=o' by omega];simp
   · exact World.cell?_of_block (hother b' hb)
  have hnew:W.cell? ⟨b,of,none⟩=some (.int .u8 c.toNat):=by
   simp only [World.cell?,hheap,List.getElem?_toArray];rw [List.append_assoc,List.getElem?_append_right (by simp;omega)];simp only [List.length_take,Array.length_toList];rw [Nat.min_eq_left (by omega),Nat.sub_self];rfl
  have hs1:w.heap.size=W.heap.size:=by rw [hW];simp
  have kcc:∀ b' o' y,¬ hJ.J b' o'→w.cell? ⟨b',o',none⟩=some y→W.cell? ⟨b',o',none⟩=some y:=fun b' o' y hn hy2=>by
   rw [hcell b' o' (fun e=>hn (by rw [e.1,e.2];exact hjc))];exact hy2
  have hk:Kc w φ W:=⟨kcc,fun b' ho'=>hother b' (fun e=>hno (e▸ho')),by omega⟩;have hfro:Fro w W:=by rw [hW];exact pB harr hsz
  have hjg:JG w φ W φ:=⟨fun b' _ _ hn=>hother b' (fun e=>hn of (by rw [e];exact hjc)),fun b' o' y _ hn hy2=>kcc b' o' y hn hy2,by omega,fun _ h=>.inl h,by rw [hW];rfl,by rw [hW];rfl,by rw [hW];rfl,hfro⟩;have hji:JInv W φ:=fun b' o' hj2=>by
   obtain ⟨k1,k2,c2,k3⟩:=hj b' o' hj2;refine ⟨k1,?_,?_⟩
   · by_cases hb:b'=b
     · subst hb
       intro arr' T' lo' hi'' e;rw [hheap] at e;cases e;have:=hun _ _ _ _ harr;omega
     · exact k2.of (hother b' hb)
   · by_cases hb:b'=b∧o'=of
     · exact ⟨c,by rw [hb.1,hb.2];exact hnew⟩
     · exact ⟨c2,by rw [hcell b' o' hb];exact k3⟩
  have hsim:=Sim.kc hk hj hs hsf hsh;subst hdd;unfold Oper.wp;have hrun:(execOp a.eval o).run Tryz.prog w=.ok .skip W:=by
   have hyv:=cc hs hy;have hcl:(Value.int IntKind.u8 (c.toNat:Int)).cells=#[.int .u8 c.toNat]:=rfl;simp [execOp,ho,hv,hyv,Instr.storeAt,Instr.sureAddr,storeVar,(te_ok.tells ht).run_sizeOf,h1,hcl,hst]
  rw [hrun];exact hN _ W φ _ h (hsim.put o.dst hd .v) hjg hji
theorem AOps.callj {i:Nat} {rest:List Nat} {fop:Operand} {argops:Array Operand} {tys:Array TypeId} {f:FuncId} {first caps A:List AV} (lv:Nat) (hsf:∀ i,SF (s.t i)) (hsh:∀ id ob,s.h id=some ob→SFO ob)
 (hc:AC Tryz.prog f A emp (Ret (.tup []))) (h:AOps Tryz.prog n ops Q rest (s.put d (.tup []))) (hi:ops[i]?=some o:=by exact rfl) (hg:o.guard=none:=by exact rfl)
 (ho:o.op=.call { callee:=.value fop,args:=argops,argTypes:=tys }:=by exact rfl) (hf:s.ev fop=.fn (.func f) first caps:=by exact rfl)
 (hA:FVals s.h lv (lv+1) (first++argops.toList.map s.ev++caps) A:=by repeat' (first|exact trivial|refine ⟨?_,?_⟩|exact km rfl|exact fv_nilz|exact pA rfl .row (fun _=>rfl) (Nat.le_of_ble_eq_true rfl) (fun _=>rfl)))
 (hdd:o.dst=d:=by conv=>lhs;whnf) (hd:d.all (Nat.blt · n)=true:=by exact rfl):AOps Tryz.prog n ops Q (i::rest) s:=by
 refine AOps.consj hi hg fun w φ a hs hj next QQ hN=>?_
 subst hdd;obtain ⟨⟨fn,c,hb⟩,hcall⟩:=hc;have hs0:HSim w (fun _=>none) NoL emp:=⟨(fun id ob h=>by cases h),fun _ _=>rfl,(fun id l b o h=>by cases h),(fun id id' l l' b o o' h=>by cases h),fun k b h=>h.elim⟩;obtain ⟨fv,cv,hfv,hsz,hargs0⟩:=np hs hf;have hmay:∀ l b,may (fun _=>none) NoL l b:=fun l b=>⟨fun h1=>aI h1,fun _ _ h=>h.elim⟩
 have hargs:eI w (fun _=>none) NoL A (fv++argops.map a.eval++cv):=by
  refine ⟨by rw [hsz,hA.length],fun j b hj=>?_⟩;obtain ⟨x,h1,h2⟩:=hA.get j b hj;obtain ⟨v,h3,h4⟩:=hargs0 j x h1;exact ⟨v,h3,h2 (Nat.le_succ lv) w φ NoL NoL v hs.hs (fun l b _ _ _=>hmay l b) (fun b _=>hmay _ b) h4⟩
 have hj0:JInv w (fun _=>none):=fun b o hjc=>by
  obtain ⟨_,k2,k3⟩:=hj b o hjc;exact ⟨fun h1=>aI h1,k2,k3⟩
 unfold Oper.wp;rw [fQ hb ho hfv];refine Calls.mono (hcall w (fun _=>none) _ hs0 hargs hj0 (fun e w'=>match e with
  | .returned v=>next (a.put o.dst v) w'
  | .panicked chain=>QQ (.panic chain) a w'
  | .outgrown=>False) ?_) ?_
 · intro r h' w' φ' v hR hs' g hj' hr
   obtain ⟨e,_⟩:=hR;cases e;have hkb:∀ b,bp φ b→w'.heap[b]?=w.heap[b]?:=fun b ho'=>by
    obtain ⟨id,l,oo,e1,e2⟩:=ho';exact g.keep b (hs.hs.lt id l b oo e1 e2).1 (fun h1=>aI h1) fun o hjc=>(hj b o hjc).1 ⟨id,l,oo,e1,e2⟩
   have hk:Kc w φ w':=⟨fun b o x hn hx=>g.kc b o x (fun h1=>aI h1) hn hx,hkb,g.size⟩;have hsim:=Sim.kc hk hj hs hsf hsh;have hji:JInv w' φ:=fun b o hjc=>by
    obtain ⟨_,k2,k3⟩:=hj' b o hjc;exact ⟨(hj b o hjc).1,k2,k3⟩
   have hrep:Rep w' φ NoL (.tup []) v:=by
    cases hr with
    | tup vf h1 h2 h3=>exact .tup vf h1 h2 fun j c hj=>by simp at hj
   exact hN _ w' φ _ h (hsim.put o.dst hd hrep) ⟨fun b hb _ hn=>g.keep b hb (fun h1=>aI h1) hn,fun b o x _ hn hx=>g.kc b o x (fun h1=>aI h1) hn hx,g.size,fun _ h=>.inl h,g.os,g.tape,g.output,g.fro⟩ hji
 · intro e w' h
   cases e with
   | returned v=>exact h
   | panicked chain=>exact h
   | outgrown=>exact h.elim
end rules
end
end J
mutual
def AV.mf:AV→Bool
 | .v _=>true
 | .agg cs|.tup cs=>AV.mfs cs
 | _=>false
def AV.mfs:List AV→Bool
 | []=>true
 | c::cs=>c.mf&&AV.mfs cs
end
theorem AV.mfs_iff:∀ {l:List AV},AV.mfs l=true↔∀ c∈l,c.mf=true
 | []=>by simp [AV.mfs]
 | c::cs=>by simp [AV.mfs,AV.mfs_iff (l:=cs)]
theorem vM {w w':World} {φ φ':aD} {Λ Λ':aW} {x:AV} {v:Value} (h:Rep w φ Λ x v):x.mf=true→Rep w' φ' Λ' x v:=by
 induction h with
 | v=>exact fun _=>.v
 | agg vf h1 h2 h3 ih=>exact fun hm=>.agg vf h1 h2 fun j c hj=>ih j c hj (AV.mfs_iff.1 (by simpa [AV.mf] using hm) c (List.mem_of_getElem? hj))
 | tup vf h1 h2 h3 ih=>exact fun hm=>.tup vf h1 h2 fun j c hj=>ih j c hj (AV.mfs_iff.1 (by simpa [AV.mf] using hm) c (List.mem_of_getElem? hj))
 | _=>intro hm;simp [AV.mf] at hm
def FG (h:aX) (a b:AV):Prop:=∀ (w:World) (φ:aD) (Λ:aW) (v:Value),HSim w φ Λ h→Rep w φ Λ a v→Rep w (fun _=>none) NoL b v
def EVals (h:aX):List AV→List AV→Prop
 | [],[]=>True
 | a::xs,b::ys=>FG h a b∧EVals h xs ys
 | _,_=>False
theorem EVals.length {h:aX}:∀ {xs ys:List AV},EVals h xs ys→xs.length=ys.length
 | [],[],_=>rfl
 | _::_,_::_,e=>congrArg (·+1) e.2.length
 | [],_::_,e=>e.elim
 | _::_,[],e=>e.elim
theorem EVals.get {h:aX}:∀ {xs ys:List AV},EVals h xs ys→∀ (j:Nat) b,ys[j]?=some b→∃ a,xs[j]?=some a∧FG h a b
 | [],[],_,j,b,hj=>by simp at hj
 | a::xs,b::ys,e,0,b',hj=>by cases hj;exact ⟨a,rfl,e.1⟩
 | a::xs,b::ys,e,j+1,b',hj=>EVals.get (xs:=xs) (ys:=ys) e.2 j b' hj
 | [],_::_,e,_,_,_=>e.elim
 | _::_,[],e,_,_,_=>e.elim
section
variable {n:Nat} {s:AS} {o:Oper} {d:Option Tmp}
theorem pr {f:FuncId} {A:List AV} {r:AV} {fop:Operand} {argops:Array Operand} {tys:Array TypeId} {first caps:List AV}
 (ho:o.op=.call { callee:=.value fop,args:=argops,argTypes:=tys }:=by exact rfl) (hf:s.ev fop=.fn (.func f) first caps:=by exact rfl) (hA:EVals s.h (first++argops.toList.map s.ev++caps) A) (hr:r.mf=true:=by exact rfl)
 (hdd:o.dst=d:=by conv=>lhs;whnf) (hd:d.all (Nat.blt · n)=true:=by exact rfl) (hc:AC Tryz.prog f A emp (Ret r)):OpOk Tryz.prog n o s (s.put d r):=by
 intro Λ w φ a hs next QQ hN;subst hdd;obtain ⟨⟨fn,c,hb⟩,hcall⟩:=hc;have hs0:HSim w (fun _=>none) NoL emp:=⟨(fun id ob h=>by cases h),fun _ _=>rfl,(fun id l b o h=>by cases h),(fun id id' l l' b o o' h=>by cases h),fun k b h=>h.elim⟩;obtain ⟨fv,cv,hfv,hsz,hargs0⟩:=np hs hf;have hargs:eI w (fun _=>none) NoL A (fv++argops.map a.eval++cv):=by
  refine ⟨by rw [hsz,hA.length],fun j b hj=>?_⟩;obtain ⟨x,h1,h2⟩:=hA.get j b hj;obtain ⟨v,h3,h4⟩:=hargs0 j x h1;exact ⟨v,h3,h2 w φ Λ v hs.hs h4⟩
 unfold Oper.wp;rw [fQ hb ho hfv];refine Calls.mono (hcall NoL w (fun _=>none) _ hs0 hargs (fun e w'=>match e with
  | .returned v=>next (a.put o.dst v) w'
  | .panicked chain=>QQ (.panic chain) a w'
  | .outgrown=>False) ?_ ?_) ?_
 · intro r' h' w' φ' v hR hs' g hr'
   obtain ⟨e,_⟩:=hR;cases e;have hkeep:∀ b,b<w.heap.size→w'.heap[b]?=w.heap[b]?:=fun b hb=>g.keep b hb fun h1=>aI h1
   have st:Stays w φ w' φ:=⟨fun id l h=>⟨l,h,.inl rfl⟩,fun id l h1 _ b oo arr T m h2 h3=>⟨arr,T,m,by rw [hkeep b (hs.hs.lt _ _ _ _ h1 h2).1];exact h3,Nat.le_refl _⟩⟩;have g2:Goes w φ w' φ:=⟨fun b hb _=>hkeep b hb,g.size,fun _ h=>.inl h,g.os,g.tape,g.output,st.pin,g.fro⟩;have hs2:HSim w' φ Λ s.h:=⟨fun id ob h=>by
    obtain ⟨l,h1,h2⟩:=hs.hs.heap id ob h;exact ⟨l,h1,h2.goes g2 st fun b oo h3=>hkeep b (hs.hs.lt _ _ _ _ h1 h3).1⟩,hs.hs.dom,fun id l b oo h1 h2=>by
    obtain ⟨h3,h4⟩:=hs.hs.lt id l b oo h1 h2;exact ⟨Nat.lt_of_lt_of_le h3 g.size,h4⟩,hs.hs.inj,fun k b h=>Nat.lt_of_lt_of_le (hs.hs.lent k b h) g.size⟩
   have hsa:Sim n w' φ Λ s a:=⟨hs.defs,hs.size,fun i=>(hs.tmps i).goes g2 st,hs2⟩;exact hN w' φ _ (hsa.put o.dst hd (vM hr' hr)) g2
 · intro x h' w' φ' hR
   exact absurd hR.1 (by simp)
 · intro e w' h
   cases e with
   | returned v=>exact h
   | panicked chain=>exact h
   | outgrown=>exact h.elim
end
section
variable {w w':World} {φ φ':aD} {Λ Λ':aW}
theorem Rep.mv (hφ:∀ id l,φ id=some l→φ' id=some l) (K1:∀ b,b<w.heap.size→bp φ b→w'.heap[b]?=w.heap[b]?) (K0:∀ b,b<w.heap.size→may φ Λ 0 b→w'.heap[b]?=w.heap[b]?) (M:∀ b,b<w.heap.size→may φ Λ 0 b→may φ' Λ' 0 b)
 {x:AV} {v:Value} (h:Rep w φ Λ x v) (hl:x.lev 0=true):Rep w' φ' Λ' x v:=by
 induction h with
 | v=>exact .v
 | any=>exact .any
 | bl=>exact .bl
 | fz0=>exact .fz0
 | fz vf a b c d e f ih=>
  obtain rfl:=Nat.le_zero.1 (Nat.le_of_ble_eq_true hl);have hb:=e9 (d 0 f);refine .fz vf (M _ hb a) b c (fun j hj=>?_) (fun j y hj=>ih j y hj (AV.lev_ok (c y (List.mem_of_getElem? hj)))) f;rw [World.cell?_of_block (K0 _ hb a)];exact d j hj
 | fp vf a c d e f ih=>
  obtain rfl:=Nat.le_zero.1 (Nat.le_of_ble_eq_true hl);have hb:=e9 (d 0 f);refine .fp vf (M _ hb a) c (fun j hj=>?_) (fun j y hj=>ih j y hj (AV.lev_ok (c y (List.mem_of_getElem? hj)))) f;rw [World.cell?_of_block (K0 _ hb a)];exact d j hj
 | agg vf a b c ih=>exact .agg vf a b fun j y hj=>ih j y hj (AV.levs_iff.1 hl y (List.mem_of_getElem? hj))
 | tup vf a b c ih=>exact .tup vf a b fun j y hj=>ih j y hj (AV.levs_iff.1 hl y (List.mem_of_getElem? hj))
 | fn vf wf a b c d e f ih1 ih2=>
  simp only [AV.lev,Bool.and_eq_true] at hl;exact .fn vf wf a b (fun j y hj=>ih1 j y hj (AV.levs_iff.1 hl.1 y (List.mem_of_getElem? hj))) d e fun j y hj=>ih2 j y hj (AV.levs_iff.1 hl.2 y (List.mem_of_getElem? hj))
 | ifc h ih=>exact .ifc (ih hl)
 | p a b h ih=>exact .p a b (ih hl)
 | ptr a b c=>exact .ptr (hφ _ _ a) b c
 | ptrx a b=>exact .ptrx (hφ _ _ a) b
 | sl a b c d e f=>exact .sl (hφ _ _ a) b c ((K1 _ (Array.getElem?_eq_some_iff.1 d).1 ⟨_,_,_,a,c⟩).trans d) e f
 | sl0 a b=>exact .sl0 (hφ _ _ a) b
 | slx a b c=>exact .slx (hφ _ _ a) b c
 | mp a b c=>exact .mp (hφ _ _ a) b c
 | mpx a b=>exact .mpx (hφ _ _ a) b
 | dp a b c d e=>exact .dp (hφ _ _ a) b c ((K1 _ (Array.getElem?_eq_some_iff.1 d).1 ⟨_,_,_,a,c⟩).trans d) e
 | dp0 a=>exact .dp0 (hφ _ _ a)
 | dpx a b=>exact .dpx (hφ _ _ a) b
theorem ObjRep.mv (hφ:∀ id l,φ id=some l→φ' id=some l) (K1:∀ b,b<w.heap.size→bp φ b→w'.heap[b]?=w.heap[b]?) (K0:∀ b,b<w.heap.size→may φ Λ 0 b→w'.heap[b]?=w.heap[b]?) (M:∀ b,b<w.heap.size→may φ Λ 0 b→may φ' Λ' 0 b)
 {ob:AObj} {id:Nat} {l:Loc} (hid:φ id=some l) (h:ObjRep w φ Λ ob l) (hl:ob.lev 0=true):ObjRep w' φ' Λ' ob l:=by
 have cells:∀ {arr:Array Value} {o:Nat} {cs:List AV},CellsRep w φ Λ arr o cs→AV.levs 0 cs=true→CellsRep w' φ' Λ' arr o cs:=fun hc e j c hj=>by
  obtain ⟨v,g1,g2⟩:=hc j c hj;exact ⟨v,g1,g2.mv hφ K1 K0 M (AV.levs_iff.1 e c (List.mem_of_getElem? hj))⟩
 cases ob with
 | gbox ty cs=>
  obtain ⟨b,arr,T,g1,g2,g3,g4,g5⟩:=h;exact ⟨b,arr,T,g1,g2,(K1 b (Array.getElem?_eq_some_iff.1 g3).1 ⟨id,l,_,hid,g1⟩).trans g3,g4,cells g5 hl⟩
 | grow ty cs e v=>
  obtain ⟨g0,g⟩:=h;refine ⟨g0,?_⟩;rcases g with g|⟨b,o,arr,T,lo,hi,g1,g2,g3,g4,g5⟩
  · exact .inl g
  · exact .inr ⟨b,o,arr,T,lo,hi,g1,(K1 b (Array.getElem?_eq_some_iff.1 g2).1 ⟨id,l,_,hid,g1⟩).trans g2,g3,g4,cells g5 hl⟩
 | map es=>
  obtain ⟨b,ents,clock,g1,g2,g3,g4,g5⟩:=h;refine ⟨b,ents,clock,g1,g2,(K1 b (Array.getElem?_eq_some_iff.1 g3).1 ⟨id,l,_,hid,g1⟩).trans g3,g4,fun j p hp=>?_⟩;obtain ⟨e,k1,k2,k3⟩:=g5 j p hp;exact ⟨e,k1,k2,k3.mv hφ K1 K0 M (AV.levs_iff.1 hl p.2 (List.mem_map_of_mem (List.mem_of_getElem? hp)))⟩
end
section
variable {K:Type} [DecidableEq K] {Λ:aW} {w w':World} {ψ:K→aD} {H:K→aX} {k k1 k2:K}
def up {β:Type} (f:K→β) (k:K) (x:β):K→β:=fun i=>if i=k then x else f i
theorem aB {β:Type} {f:K→β} {x:β}:up f k x k=x:=if_pos rfl
theorem aO {β:Type} {f:K→β} {x:β} {i:K} (h:i≠k):up f k x i=f i:=if_neg h
def Lt (Λ:aW) (ψ:K→aD) (k:K):aW:=fun l y=>Λ l y∨(l=1∧∃ i,i≠k∧bp (ψ i) y)
structure Parts (Λ:aW) (w:World) (ψ:K→aD) (H:K→aX):Prop where
 sim:∀ k,HSim w (ψ k) (Lt Λ ψ k) (H k)
 lev:∀ k id ob,H k id=some ob→ob.lev 0=true
theorem Lt.up {φ:aD}:Lt Λ (up ψ k φ) k=Lt Λ ψ k:=by
 funext l y
 refine propext (or_congr Iff.rfl (and_congr Iff.rfl ⟨?_,?_⟩))
 · rintro ⟨i,h1,h2⟩;rw [aO h1] at h2;exact ⟨i,h1,h2⟩
 · rintro ⟨i,h1,h2⟩;exact ⟨i,h1,by rw [aO h1];exact h2⟩
theorem Parts.apart (p:Parts Λ w ψ H) (hk:k1≠k2) {y:Nat} (h1:bp (ψ k1) y) (h2:bp (ψ k2) y):False:=by
 obtain ⟨id,l,o,e1,e2⟩:=h1;exact ((p.sim k1).lt id l y o e1 e2).2 1 (.inr ⟨rfl,k2,hk.symm,h2⟩)
theorem Parts.size (p:Parts Λ w ψ H) {y:Nat} (h:bp (ψ k) y):y<w.heap.size:=by
 obtain ⟨id,l,o,e1,e2⟩:=h;exact ((p.sim k).lt id l y o e1 e2).1
theorem Parts.step (p:Parts Λ w ψ H) {φ':aD} {h':aX} (g:Goes w (ψ k) w' φ') (hs:HSim w' φ' (Lt Λ ψ k) h') (hl:∀ id ob,h' id=some ob→ob.lev 0=true):Parts Λ w' (up ψ k φ') (up H k h') where
 sim i:=by
  by_cases hi:i=k
  · subst hi
    rw [aB,aB,Lt.up];exact hs
  · rw [aO hi,aO hi]
    have q:=p.sim i;have K1:∀ b,b<w.heap.size→bp (ψ i) b→w'.heap[b]?=w.heap[b]?:=fun b hb ho=>g.keep b hb fun hk=>p.apart hi ho hk
    have K0:∀ b,b<w.heap.size→may (ψ i) (Lt Λ ψ i) 0 b→w'.heap[b]?=w.heap[b]?:=fun b hb hm=>g.keep b hb fun hk=>hm.2 1 Nat.one_pos (.inr ⟨rfl,k,fun e=>hi e.symm,hk⟩)
    have same:∀ j b,b<w.heap.size→Lt Λ (Fw.up ψ k φ') i j b→Lt Λ ψ i j b:=fun j b hb h=>by
     rcases h with h|⟨h1,i',h2,h3⟩
     · exact .inl h
     · by_cases e:i'=k
       · subst e
         rw [aB] at h3;rcases g.own b h3 with h4|h4
         · exact .inr ⟨h1,i',h2,h4⟩
         · omega
       · rw [aO e] at h3
         exact .inr ⟨h1,i',h2,h3⟩
    have M:∀ b,b<w.heap.size→may (ψ i) (Lt Λ ψ i) 0 b→may (ψ i) (Lt Λ (Fw.up ψ k φ') i) 0 b:=fun b hb hm=>⟨hm.1,fun j hj h=>hm.2 j hj (same j b hb h)⟩
    refine ⟨fun id ob e=>?_,q.dom,fun id l b o e1 e2=>?_,q.inj,fun j b h=>?_⟩
    · obtain ⟨l,h1,h2⟩:=q.heap id ob e
      exact ⟨l,h1,h2.mv (fun _ _ h=>h) K1 K0 M h1 (p.lev i id ob e)⟩
    · have h:=q.lt id l b o e1 e2
      exact ⟨Nat.lt_of_lt_of_le h.1 g.size,fun j hj=>h.2 j (same j b h.1 hj)⟩
    · rcases h with h|⟨h1,i',h2,h3⟩
      · exact Nat.lt_of_lt_of_le (q.lent j b (.inl h)) g.size
      · by_cases e:i'=k
        · subst e
          rw [aB] at h3;obtain ⟨id,l,o,e1,e2⟩:=h3;exact (hs.lt id l b o e1 e2).1
        · rw [aO e] at h3
          exact Nat.lt_of_lt_of_le (p.size h3) g.size
 lev i id ob e:=by
  by_cases hi:i=k
  · subst hi;rw [aB] at e;exact hl id ob e
  · rw [aO hi] at e;exact p.lev i id ob e
def mrg {β:Type} (S:Nat→Bool) (f g:Nat→Option β):Nat→Option β:=fun id=>bif S id then f id else g id
theorem Parts.merge (p:Parts Λ w ψ H) (hk:k1≠k2) (S:Nat→Bool) (h1:∀ id,S id=false→H k1 id=none) (h2:∀ id,S id=true→H k2 id=none) :
 Parts Λ w (up (up ψ k1 (mrg S (ψ k1) (ψ k2))) k2 fun _=>none) (up (up H k1 (mrg S (H k1) (H k2))) k2 emp):=by
 have d1:∀ id l,ψ k1 id=some l→S id=true:=fun id l e=>by
  cases hs:S id with
  | true=>rfl
  | false=>rw [(p.sim k1).dom id (h1 id hs)] at e;cases e
 have d2:∀ id l,ψ k2 id=some l→S id=false:=fun id l e=>by
  cases hs:S id with
  | false=>rfl
  | true=>rw [(p.sim k2).dom id (h2 id hs)] at e;cases e
 have m1:∀ id l,ψ k1 id=some l→mrg S (ψ k1) (ψ k2) id=some l:=fun id l e=>by unfold mrg;rw [d1 id l e];exact e
 have m2:∀ id l,ψ k2 id=some l→mrg S (ψ k1) (ψ k2) id=some l:=fun id l e=>by unfold mrg;rw [d2 id l e];exact e
 have m3:∀ id l,mrg S (ψ k1) (ψ k2) id=some l→(S id=true∧ψ k1 id=some l)∨(S id=false∧ψ k2 id=some l):=fun id l e=>by
  unfold mrg at e;cases hs:S id with
  | true=>rw [hs] at e;exact .inl ⟨rfl,e⟩
  | false=>rw [hs] at e;exact .inr ⟨rfl,e⟩
 have o1:∀ {y},bp (mrg S (ψ k1) (ψ k2)) y→bp (ψ k1) y∨bp (ψ k2) y:=fun ⟨id,l,o,e1,e2⟩=>(m3 id l e1).imp (fun h=>⟨id,l,o,h.2,e2⟩) fun h=>⟨id,l,o,h.2,e2⟩
 have o2:∀ {y},bp (ψ k1) y→bp (mrg S (ψ k1) (ψ k2)) y:=fun ⟨id,l,o,e1,e2⟩=>⟨id,l,o,m1 id l e1,e2⟩
 have o3:∀ {y},bp (ψ k2) y→bp (mrg S (ψ k1) (ψ k2)) y:=fun ⟨id,l,o,e1,e2⟩=>⟨id,l,o,m2 id l e1,e2⟩
 generalize hφ:mrg S (ψ k1) (ψ k2)=φ at *;have back:∀ i j y,i≠k1→i≠k2→Lt Λ (up (up ψ k1 φ) k2 fun _=>none) i j y→Lt Λ ψ i j y:=fun i j y n1 n2 h=>by
  rcases h with h|⟨e,i',h3,h4⟩
  · exact .inl h
  · by_cases e2:i'=k2
    · subst e2;rw [aB] at h4;obtain ⟨_,_,_,h5,_⟩:=h4;cases h5
    · rw [aO e2] at h4
      by_cases e1:i'=k1
      · subst e1;rw [aB] at h4
        rcases o1 h4 with h5|h5
        · exact .inr ⟨e,i',h3,h5⟩
        · exact .inr ⟨e,k2,fun k=>n2 k.symm,h5⟩
      · rw [aO e1] at h4;exact .inr ⟨e,i',h3,h4⟩
 have out:∀ i j y,i=k1∨i=k2→Lt Λ (up (up ψ k1 φ) k2 fun _=>none) k1 j y→Lt Λ ψ i j y:=fun i j y hi h=>by
  rcases h with h|⟨e,i',h3,h4⟩
  · exact .inl h
  · by_cases e2:i'=k2
    · subst e2;rw [aB] at h4;obtain ⟨_,_,_,h5,_⟩:=h4;cases h5
    · rw [aO e2,aO h3] at h4
      exact .inr ⟨e,i',by rcases hi with rfl|rfl<;>assumption,h4⟩
 have all:∀ i y,bp (up (up ψ k1 φ) k2 (fun _=>none) i) y→y<w.heap.size:=fun i y h=>by
  by_cases e2:i=k2
  · subst e2;rw [aB] at h;obtain ⟨_,_,_,h5,_⟩:=h;cases h5
  · rw [aO e2] at h
    by_cases e1:i=k1
    · subst e1;rw [aB] at h;exact (o1 h).elim p.size p.size
    · rw [aO e1] at h;exact p.size h
 refine ⟨fun i=>?_,fun i id ob e=>?_⟩
 · by_cases e2:i=k2
   · subst e2
     rw [aB,aB];exact ⟨(fun id ob e=>by cases e),(fun _ _=>rfl),(fun id l b o e=>by cases e),(fun id id' l l' b o o' e=>by cases e),fun j b h=>h.elim (fun h=>(p.sim i).lent j b (.inl h)) fun ⟨_,i',_,h⟩=>all i' b h⟩
   · rw [aO e2,aO e2]
     by_cases e1:i=k1
     · subst e1
       rw [aB,aB];have M1:∀ b,b<w.heap.size→may (ψ i) (Lt Λ ψ i) 0 b→may φ (Lt Λ (up (up ψ i φ) k2 fun _=>none) i) 0 b:=fun b hb hm=>⟨fun h=>(o1 h).elim hm.1 fun h=>hm.2 1 Nat.one_pos (.inr ⟨rfl,k2,hk.symm,h⟩),fun j hj h=>hm.2 j hj (out i j b (.inl rfl) h)⟩
       have M2:∀ b,b<w.heap.size→may (ψ k2) (Lt Λ ψ k2) 0 b→may φ (Lt Λ (up (up ψ i φ) k2 fun _=>none) i) 0 b:=fun b hb hm=>⟨fun h=>(o1 h).elim (fun h=>hm.2 1 Nat.one_pos (.inr ⟨rfl,i,hk,h⟩)) hm.1,fun j hj h=>hm.2 j hj (out k2 j b (.inr rfl) h)⟩
       refine ⟨fun id ob e=>?_,fun id e=>?_,fun id l b o e3 e4=>?_,fun id id' l l' b o o' e3 e4 e5 e6=>?_,fun j b h=>h.elim (fun h=>(p.sim i).lent j b (.inl h)) fun ⟨_,i',_,h⟩=>all i' b h⟩
       · unfold mrg at e
         cases hs:S id with
         | true=>
          rw [hs] at e;obtain ⟨l,q1,q2⟩:=(p.sim i).heap id ob e;exact ⟨l,m1 id l q1,q2.mv m1 (fun _ _ _=>rfl) (fun _ _ _=>rfl) M1 q1 (p.lev i id ob e)⟩
         | false=>
          rw [hs] at e;obtain ⟨l,q1,q2⟩:=(p.sim k2).heap id ob e;exact ⟨l,m2 id l q1,q2.mv m2 (fun _ _ _=>rfl) (fun _ _ _=>rfl) M2 q1 (p.lev k2 id ob e)⟩
       · subst hφ
         unfold mrg at e ⊢;cases hs:S id with
         | true=>rw [hs] at e;exact (p.sim i).dom id e
         | false=>rw [hs] at e;exact (p.sim k2).dom id e
       · rcases m3 id l e3 with h|h
         · exact ⟨((p.sim i).lt id l b o h.2 e4).1,fun j hj=>((p.sim i).lt id l b o h.2 e4).2 j (out i j b (.inl rfl) hj)⟩
         · exact ⟨((p.sim k2).lt id l b o h.2 e4).1,fun j hj=>((p.sim k2).lt id l b o h.2 e4).2 j (out k2 j b (.inr rfl) hj)⟩
       · rcases m3 id l e3 with h|h<;>rcases m3 id' l' e4 with h'|h'
         · exact (p.sim i).inj id id' l l' b o o' h.2 h'.2 e5 e6
         · exact (p.apart hk ⟨id,l,o,h.2,e5⟩ ⟨id',l',o',h'.2,e6⟩).elim
         · exact (p.apart hk ⟨id',l',o',h'.2,e6⟩ ⟨id,l,o,h.2,e5⟩).elim
         · exact (p.sim k2).inj id id' l l' b o o' h.2 h'.2 e5 e6
     · rw [aO e1,aO e1]
       have q:=p.sim i;refine ⟨fun id ob e=>?_,q.dom,fun id l b o e3 e4=>⟨(q.lt id l b o e3 e4).1,fun j hj=>(q.lt id l b o e3 e4).2 j (back i j b e1 e2 hj)⟩,q.inj,fun j b h=>h.elim (fun h=>q.lent j b (.inl h)) fun ⟨_,i',_,h⟩=>all i' b h⟩;obtain ⟨l,q1,q2⟩:=q.heap id ob e;exact ⟨l,q1,q2.mv (fun _ _ h=>h) (fun _ _ _=>rfl) (fun _ _ _=>rfl) (fun b hb hm=>⟨hm.1,fun j hj h=>hm.2 j hj (back i j b e1 e2 h)⟩) q1 (p.lev i id ob e)⟩
 · by_cases e2:i=k2
   · subst e2;rw [aB] at e;cases e
   · rw [aO e2] at e
     by_cases e1:i=k1
     · subst e1;rw [aB] at e
       unfold mrg at e;cases hs:S id with
       | true=>rw [hs] at e;exact p.lev i id ob e
       | false=>rw [hs] at e;exact p.lev k2 id ob e
     · rw [aO e1] at e;exact p.lev i id ob e
def only {β:Type} (S:Nat→Bool) (f:Nat→Option β):Nat→Option β:=fun id=>bif S id then f id else none
theorem Parts.split (p:Parts Λ w ψ H) (hk:k1≠k2) (S:Nat→Bool) (he:∀ id,H k2 id=none) (h1:∀ id ob,S id=true→H k1 id=some ob→ObjIn S ob) (h2:∀ id ob,S id=false→H k1 id=some ob→ObjIn (fun i=>!S i) ob) :
 Parts Λ w (up (up ψ k1 (restrict S (ψ k1))) k2 (restrict (fun i=>!S i) (ψ k1))) (up (up H k1 (only S (H k1))) k2 (only (fun i=>!S i) (H k1))):=by
 have n2:∀ id,ψ k2 id=none:=fun id=>(p.sim k2).dom id (he id)
 have sides:∀ y,bp (restrict S (ψ k1)) y→bp (restrict (fun i=>!S i) (ψ k1)) y→False:=fun y ⟨id,l,o,e1,e2⟩ ⟨id',l',o',e3,e4⟩=>by
  have a:=bH e1;have b:=bH e3;have:=(p.sim k1).inj id id' l l' y o o' a.2 b.2 e2 e4;subst this;rw [a.1] at b;cases b.1
 have cases':∀ i y,bp (up (up ψ k1 (restrict S (ψ k1))) k2 (restrict (fun i=>!S i) (ψ k1)) i) y→(i=k2∧bp (restrict (fun i=>!S i) (ψ k1)) y)∨(i=k1∧bp (restrict S (ψ k1)) y)∨(i≠k1∧i≠k2∧bp (ψ i) y):=fun i y h=>by
  by_cases e2:i=k2
  · subst e2;rw [aB] at h;exact .inl ⟨rfl,h⟩
  · rw [aO e2] at h
    by_cases e1:i=k1
    · subst e1;rw [aB] at h;exact .inr (.inl ⟨rfl,h⟩)
    · rw [aO e1] at h;exact .inr (.inr ⟨e1,e2,h⟩)
 have all:∀ i y,bp (up (up ψ k1 (restrict S (ψ k1))) k2 (restrict (fun i=>!S i) (ψ k1)) i) y→y<w.heap.size:=fun i y h=>by
  rcases cases' i y h with h|h|h
  · exact p.size (bY h.2)
  · exact p.size (bY h.2)
  · exact p.size h.2.2
 have good:∀ (T:Nat→Bool) (i:K),(∀ id ob,T id=true→H k1 id=some ob→ObjIn T ob)→(∀ j y,Lt Λ (up (up ψ k1 (restrict S (ψ k1))) k2 (restrict (fun i=>!S i) (ψ k1))) i j y→Lt Λ ψ k1 j y∨bp (restrict (fun i=>!T i) (ψ k1)) y)→
  (∀ y,bp (restrict T (ψ k1)) y→bp (restrict (fun i=>!T i) (ψ k1)) y→False)→HSim w (restrict T (ψ k1)) (Lt Λ (up (up ψ k1 (restrict S (ψ k1))) k2 (restrict (fun i=>!S i) (ψ k1))) i) (only T (H k1)):=fun T i hT hL hS=>by
  have q:=p.sim k1;refine ⟨fun id ob e=>?_,fun id e=>?_,fun id l b o e3 e4=>⟨(q.lt id l b o (bH e3).2 e4).1,fun j hj=>?_⟩,fun id id' l l' b o o' e3 e4=>q.inj id id' l l' b o o' (bH e3).2 (bH e4).2,fun j b h=>h.elim (fun h=>q.lent j b (.inl h)) fun ⟨_,i',_,h⟩=>all i' b h⟩
  · unfold only at e
    cases ht:T id with
    | false=>rw [ht] at e;cases e
    | true=>
     rw [ht] at e;obtain ⟨l,q1,q2⟩:=q.heap id ob e;exact ⟨l,bR ht q1,(q2.mv (fun _ _ h=>h) (fun _ _ _=>rfl) (fun _ _ _=>rfl) (fun b hb hm=>⟨hm.1,fun j hj h=>(hL j b h).elim (hm.2 j hj) fun h=>hm.1 (bY h)⟩) q1 (p.lev k1 id ob e)).restrict (hT id ob ht e)⟩
  · unfold only at e
    unfold restrict;cases ht:T id with
    | false=>rfl
    | true=>rw [ht] at e;exact q.dom id e
  · exact (hL j b hj).elim ((q.lt id l b o (bH e3).2 e4).2 j) (hS b ⟨id,l,o,e3,e4⟩)
 have g1:=good S k1 h1 (fun j y h=>by
  rcases h with h|⟨e,i',h3,h4⟩
  · exact .inl (.inl h)
  · rcases cases' i' y h4 with h|h|h
    · exact .inr h.2
    · exact absurd h.1 h3
    · exact .inl (.inr ⟨e,i',h3,h.2.2⟩)) sides
 have nn:(fun i=>!(!S i))=S:=by funext i;simp
 have g2:=good (fun i=>!S i) k2 (fun id ob e=>h2 id ob (by simpa using e)) (fun j y h=>by
  rcases h with h|⟨e,i',h3,h4⟩
  · exact .inl (.inl h)
  · rcases cases' i' y h4 with h|h|h
    · exact absurd h.1 h3
    · exact .inr (by rw [nn];exact h.2)
    · exact .inl (.inr ⟨e,i',h.1,h.2.2⟩)) (fun y a b=>sides y (by rw [nn] at b;exact b) a)
 refine ⟨fun i=>?_,fun i id ob e=>?_⟩
 · by_cases e2:i=k2
   · subst e2
     rw [aB (f:=up ψ k1 _),aB (f:=up H k1 _)];exact g2
   · rw [aO (f:=up ψ k1 _) e2,aO (f:=up H k1 _) e2]
     by_cases e1:i=k1
     · subst e1
       rw [aB (f:=ψ),aB (f:=H)];exact g1
     · rw [aO (f:=ψ) e1,aO (f:=H) e1]
       have q:=p.sim i;have same:∀ j y,Lt Λ (up (up ψ k1 (restrict S (ψ k1))) k2 (restrict (fun i=>!S i) (ψ k1))) i j y→Lt Λ ψ i j y:=fun j y h=>by
        rcases h with h|⟨e,i',h3,h4⟩
        · exact .inl h
        · rcases cases' i' y h4 with h|h|h
          · exact .inr ⟨e,k1,fun k=>e1 k.symm,bY h.2⟩
          · exact .inr ⟨e,k1,fun k=>e1 k.symm,bY h.2⟩
          · exact .inr ⟨e,i',h3,h.2.2⟩
       refine ⟨fun id ob e=>?_,q.dom,fun id l b o e3 e4=>⟨(q.lt id l b o e3 e4).1,fun j hj=>(q.lt id l b o e3 e4).2 j (same j b hj)⟩,q.inj,fun j b h=>q.lent j b (same j b h)⟩;obtain ⟨l,q1,q2⟩:=q.heap id ob e;exact ⟨l,q1,q2.mv (fun _ _ h=>h) (fun _ _ _=>rfl) (fun _ _ _=>rfl) (fun b hb hm=>⟨hm.1,fun j hj h=>hm.2 j hj (same j b h)⟩) q1 (p.lev i id ob e)⟩
 · by_cases e2:i=k2
   · subst e2;rw [aB] at e
     unfold only at e;cases hs:S id with
     | false=>simp only [hs,Bool.not_false,cond_true] at e;exact p.lev k1 id ob e
     | true=>simp [hs] at e
   · rw [aO e2] at e
     by_cases e1:i=k1
     · subst e1;rw [aB] at e
       unfold only at e;cases hs:S id with
       | true=>rw [hs] at e;exact p.lev i id ob e
       | false=>rw [hs] at e;cases e
     · rw [aO e1] at e;exact p.lev i id ob e
end
def D7 (lo:Nat) (c:AV):AV:=bif c.ok lo then c else .any
theorem D6 {lo:Nat} {c:AV}:(D7 lo c).ok lo=true:=by
 unfold D7;cases h:c.ok lo with
 | true=>exact h
 | false=>rfl
theorem xl {h:aX} {lo hi id ver:Nat} {ob:AObj} {cells cs:List AV} (h1:h id=some ob) (h2:ObAt ob ver cells) (h4:Nat.ble 1 cells.length=true) (h6:cells.map (D7 lo)=cs):lP h lo hi (.ptr id ver 0) (.fp hi cs):=by
 intro hle w φ Λ Λ' v hs hm hown hr;subst h6;have h4:=Nat.le_of_ble_eq_true h4;obtain ⟨l0,b0,oo0,arr,T,lo1,hi1,g1,g2,g3,g4,g5,g6,g7⟩:=hs.at h1 h2.at (by omega);cases hr with
 | ptrx e1 e2=>rw [g1] at e1;cases e1;omega
 | ptr e1 e2 e3=>
  rw [g1] at e1;cases e1;rw [g3] at e3;cases e3;refine .fp (fun j=>arr.getD (oo0+0+j) undef) (hown b0 ⟨_,_,_,g1,g3⟩) (fun c hc=>?_) (fun j hj=>?_) (fun j c hj=>?_) (by simp;omega)
  · obtain ⟨c0,_,rfl⟩:=List.mem_map.1 hc
    exact AV.ok_mono hle D6
  · simp only [List.length_map] at hj
    have:oo0+0+j<arr.size:=by omega
    simp only [World.cell?,g4,Array.getD,this,dif_pos];simp [this]
  · rw [List.getElem?_map,Option.map_eq_some_iff] at hj
    obtain ⟨c0,hj,rfl⟩:=hj;obtain ⟨u,q1,q2⟩:=g7 _ c0 hj;rw [Array.getD_eq_getD_getElem?,Nat.add_zero,q1];unfold D7;cases hk:c0.ok lo with
    | true=>exact q2.move hm hk
    | false=>exact .any
theorem AP {α:Type} [Inhabited α] {f:α→List AV} {e:Nat} (hf:∀ x,(f x).length=e) {l:List α} {j off sz:Nat} (hj:j<l.length) (ho:off+sz≤e):((cl f l).drop (j*e+off)).take sz=((f (l.getD j default)).drop off).take sz:=by
 rw [← m6 hf hj,← List.drop_drop,List.drop_take,List.take_take,Nat.min_eq_left (by omega)]
theorem CA {α:Type} [Inhabited α] {f:α→List AV} {e:Nat} (hf:∀ x,(f x).length=e) {l:List α} {j off:Nat} {cs:List AV} (a:α) (hj:j<l.length) (ho:off+cs.length≤e) (ha:(f (l.getD j default)).take off++cs++(f (l.getD j default)).drop (off+cs.length)=f a) :
 (cl f l).take (j*e+off)++cs++(cl f l).drop (j*e+off+cs.length)=cl f (l.set j a):=by
 rw [← tg hf a hj,hf,← ha,← m6 hf hj,List.take_add];have e1:(List.take e (List.drop (j*e) (cl f l))).take off=(List.drop (j*e) (cl f l)).take off:=by rw [List.take_take,Nat.min_eq_left (by omega)]
 have e2:(List.drop (j*e) (cl f l)).drop (off+cs.length)=(List.take e (List.drop (j*e) (cl f l))).drop (off+cs.length)++(cl f l).drop (j*e+e):=by
  have h:=List.take_append_drop e (List.drop (j*e) (cl f l));conv=>lhs;rw [← h]
  have hl:(List.take e (List.drop (j*e) (cl f l))).length=e:=by rw [m6 hf hj,hf]
  rw [List.drop_append_of_le_length (by omega),List.drop_drop]
 rw [e1,show j*e+off+cs.length=j*e+(off+cs.length) by omega,← List.drop_drop,e2];simp only [List.append_assoc]
section
variable {n:Nat} {s:AS} {o:Oper} {d:Option Tmp}
theorem sI {α:Type} [Inhabited α] {f:α→List AV} {l:List α} {a:α} {e j off id ver:Nat} {ob:AObj} {t:TypeId} {x:Operand} {ti:TI} {z:AV} {cs:List AV} (hel:l.getD j default=a) (hj:j<l.length) (ho:o.op=.load t x:=by exact rfl) (hx:s.ev x=.ptr id ver (j*e+off):=by exact rfl)
 (hob:s.h id=some ob:=by exact rfl) (hat:ObAt ob ver (cl f l):=by first|exact .row|exact .box) (hf:∀ x,(f x).length=e:=by exact fun _=>rfl) (ht:te.get t=some ti:=by exact rfl) (hp:0<ti.size:=by exact Nat.le_of_ble_eq_true rfl) (hoe:off+ti.size≤e:=by exact Nat.le_of_ble_eq_true rfl)
 (hcs:((f a).drop off).take ti.size=cs:=by exact rfl) (hl:cs.length=ti.size:=by exact rfl) (hy:jM ti.k.agg cs=z:=by conv=>lhs;whnf) (hdd:o.dst=d:=by conv=>lhs;whnf) (hd:d.all (Nat.blt · n)=true:=by exact rfl):OpOk Tryz.prog n o s (s.put d z):=
 io te_ok ho hx hob hat.at ht (by rw [AP hf hj hoe,hel];exact hcs) hl hp hy hdd hd
theorem qd {α:Type} [Inhabited α] {f:α→List AV} {l:List α} {b:α} (a:α) {e j off id ver:Nat} {ob ob'':AObj} {t:TypeId} {x y:Operand} {ti:TI} {v:AV} {cs:List AV} (hel:l.getD j default=b) (hj:j<l.length) (ho:o.op=.store t x y:=by exact rfl) (hx:s.ev x=.ptr id ver (j*e+off):=by exact rfl)
 (hy:s.ev y=v:=by conv=>lhs;whnf) (hv:v.flat=some cs:=by exact rfl) (h1:cs.all AV.one=true:=by exact rfl) (hob:s.h id=some ob:=by exact rfl) (hat:ObAt ob ver (cl f l):=by first|exact .row|exact .box) (hf:∀ x,(f x).length=e:=by exact fun _=>rfl) (he:0<e:=by exact Nat.le_of_ble_eq_true rfl)
 (ht:te.get t=some ti:=by exact rfl) (hl:cs.length=ti.size:=by exact rfl) (hoe:off+cs.length≤e:=by exact Nat.le_of_ble_eq_true rfl) (ha:(f b).take off++cs++(f b).drop (off+cs.length)=f a:=by exact rfl) (hw:ob.withCells (cl f (l.set j a))=ob'':=by conv=>lhs;whnf)
 (hdd:o.dst=d:=by conv=>lhs;whnf) (hd:d.all (Nat.blt · n)=true:=by exact rfl):OpOk Tryz.prog n o s ((s.seth id (some ob'')).put d (.v undef)):=by
 subst hw;have h3:=bJ hf l;have h4:(j+1)*e≤l.length*e:=Nat.mul_le_mul_right e hj;rw [Nat.add_mul,Nat.one_mul] at h4;exact fq te_ok ho hx hy hv h1 hob hat.at ht hl (by rw [h3];omega) (by rw [h3];omega) (CA hf a hj hoe (by rw [hel];exact ha)) hdd hd
end
section
variable {n:Nat} {s:AS} {o:Oper} {d:Option Tmp}
theorem ue (a m:Nat) {t t2 e:TypeId} {x y:Operand} {id ver id2 ver2 esz bt off:Nat} {ty:Option TypeId} {α:Type} {f:α→List AV} {l k:List α} {ob2:AObj} {ti tj tk:TI} (ham:a+m≤k.length) (h1:∀ x,(f x).all AV.one=true) (ho:o.op=.call { callee:=.builtin .append,args:=#[x,y],argTypes:=#[t,t2] }:=by exact rfl)
 (hx:s.ev x=.sl id ver 0 l.length esz:=by exact rfl) (hob:s.h id=some (.grow ty (cl f l) esz ver):=by exact rfl) (hy:s.ev y=.sl id2 ver2 off m esz:=by exact rfl) (hoff:off=a*esz:=by first|exact rfl|omega) (hob2:s.h id2=some ob2:=by exact rfl) (hat2:ObAt ob2 ver2 (cl f k):=by exact .row) (ht:te.get t=some ti:=by exact rfl) (hk:ti.k=.slice e:=by exact rfl) (he:te.get e=some tj:=by exact rfl)
 (hty:ty.getD e=e:=by exact rfl) (hesz:tj.size=esz:=by exact rfl) (hbt:tj.bytes=bt:=by conv=>lhs;whnf) (ht2:te.get t2=some tk:=by exact rfl) (hk2:(match tk.k with|.slice _|.str=>true|_=>false)=true:=by exact rfl) (hf:∀ x,(f x).length=esz:=by exact fun _=>rfl)
 (hb:(l.length+m)*bt≤140737488355328:=by first|omega|(simp;omega)) (hbp:0<bt:=by exact Nat.le_of_ble_eq_true rfl)
 (hdd:o.dst=d:=by conv=>lhs;whnf) (hd:d.all (Nat.blt · n)=true:=by exact rfl):OpOk Tryz.prog n o s ((s.seth id (some (.grow ty (cl f (l++(k.drop a).take m)) esz (ver+1)))).put d (.sl id (ver+1) 0 (l++(k.drop a).take m).length esz)):=by
 subst hesz;subst hbt;subst hoff;have hml:((k.drop a).take m).length=m:=by simp;omega
 rw [List.length_append,oh,hml];have hle:l.length+m≤(l.length+m)*tj.bytes:=Nat.le_mul_of_pos_right _ hbp;exact ji te_ok hty ho hx hob (by rw [Nat.zero_add,bJ hf]) ht hk he rfl ht2 hk2 (zj hy hob2 hat2.at (by rw [nl hf,pH hf]) (by rw [bJ hf,hml])) (wr h1) (by rw [List.drop_zero]) hb (by omega) hdd hd
end
def mix {α:Type} (i:Nat) (l:List α):List (Bool×α):=(l.take i).map (Prod.mk true)++(l.drop i).map (Prod.mk false)
theorem lm {α:Type} {i:Nat} {l:List α}:(mix i l).length=l.length:=by simp [mix];omega
theorem nY {α:Type} [Inhabited α] {i:Nat} {l:List α} (h:i<l.length):(mix i l).getD i default=(false,l.getD i default):=by
 have h1:((l.take i).map (Prod.mk true)).length=i:=by simp;omega
 rw [mix,List.getD_eq_getElem?_getD,List.getElem?_append_right (by omega),h1,Nat.sub_self,List.drop_eq_getElem_cons h];simp [List.getD_eq_getElem?_getD,List.getElem?_eq_getElem h]
theorem sV {α:Type} [Inhabited α] {i:Nat} {l:List α} (h:i<l.length):(mix i l).set i (true,l.getD i default)=mix (i+1) l:=by
 have h1:((l.take i).map (Prod.mk true)).length=i:=by simp;omega
 have h2:l.getD i default=l[i]:=by rw [List.getD_eq_getElem?_getD,List.getElem?_eq_getElem h];rfl
 rw [mix,mix,List.set_append_right _ _ (by omega),h1,Nat.sub_self,List.drop_eq_getElem_cons h,List.take_succ_eq_append_getElem h,h2,List.map_cons,List.set_cons_zero,List.map_append,List.append_assoc];rfl
theorem tn {α:Type} {f:Bool×α→List AV} {g:α→List AV} (h:∀ x,f (false,x)=g x) (l:List α):cl f (mix 0 l)=cl g l:=by
 simp only [mix,List.take_zero,List.map_nil,List.nil_append,List.drop_zero];induction l with
 | nil=>rfl
 | cons a l ih=>rw [List.map_cons,c6,c6,ih,h]
theorem tm {α:Type} {f:Bool×α→List AV} {g:α→List AV} (h:∀ x,f (true,x)=g x) (l:List α):cl f (mix l.length l)=cl g l:=by
 simp only [mix,List.take_length,List.drop_length,List.map_nil,List.append_nil];induction l with
 | nil=>rfl
 | cons a l ih=>rw [List.map_cons,c6,c6,ih,h]
section
structure Base where
 w:World
 B:Nat→Prop
 bnd:∀ b,B b→b<w.heap.size
variable {K:Type} [DecidableEq K] {Λ:aW} {w0:Base} {w w1 w':World} {ψ ψ1 ψ':K→aD} {H H1 H':K→aX} {k k1 k2:K}
def tL (ψ:K→aD) (y:Nat):Prop:=∀ i,¬ bp (ψ i) y
theorem ez {i:K} {y:Nat}:may (ψ i) (Lt Λ ψ i) 0 y↔tL ψ y∧∀ j,0<j→¬ Λ j y:=by
 constructor
 · rintro ⟨h1,h2⟩
   refine ⟨fun i' ho=>?_,fun j hj h=>h2 j hj (.inl h)⟩;by_cases e:i'=i
   · subst e;exact h1 ho
   · exact h2 1 Nat.one_pos (.inr ⟨rfl,i',e,ho⟩)
 · rintro ⟨h1,h2⟩
   refine ⟨h1 i,fun j hj h=>?_⟩;rcases h with h|⟨_,i',_,h⟩
   · exact h2 j hj h
   · exact h1 i' h
theorem dR {i j:K} {x:AV} {v:Value} (h:Rep w (ψ i) (Lt Λ ψ i) x v) (hx:x.ok 0=true):Rep w (ψ j) (Lt Λ ψ j) x v:=
 h.move (lv:=0) (fun l b hl _ hm=>by obtain rfl:=Nat.le_zero.1 hl;exact ez.2 (ez.1 hm)) hx
structure Rn (w0:Base) (w:World):Prop where
 keep:∀ b,w0.B b→w.heap[b]?=w0.w.heap[b]?
 size:w0.w.heap.size≤w.heap.size
 os:w.os=w0.w.os
 tape:w.tape=w0.w.tape
 output:w.output=w0.w.output
 fro:Fro w0.w w
theorem Rn.refl (w0:Base):Rn w0 w0.w:=⟨fun _ _=>rfl,Nat.le_refl _,rfl,rfl,rfl,.refl _⟩
structure PS (Λ:aW) (w0:Base) (w:World) (ψ:K→aD) (H:K→aX):Prop where
 parts:Parts Λ w ψ H
 new:∀ i y,bp (ψ i) y→¬ w0.B y
 rn:Rn w0 w
structure Mv (Λ:aW) (w0:Base) (T:K→Prop) (w:World) (ψ:K→aD) (H:K→aX) (w':World) (ψ':K→aD) (H':K→aX):Prop where
 ps:PS Λ w0 w' ψ' H'
 same:∀ i,¬ T i→ψ' i=ψ i∧H' i=H i
 rep:∀ i x v,¬ T i→x.lev 0=true→Rep w (ψ i) (Lt Λ ψ i) x v→Rep w' (ψ' i) (Lt Λ ψ' i) x v
theorem Mv.trans {T:K→Prop} (a:Mv Λ w0 T w ψ H w1 ψ1 H1) (b:Mv Λ w0 T w1 ψ1 H1 w' ψ' H'):Mv Λ w0 T w ψ H w' ψ' H':=
 ⟨b.ps,fun i h=>⟨(b.same i h).1.trans (a.same i h).1,(b.same i h).2.trans (a.same i h).2⟩,fun i x v h hl hr=>b.rep i x v h hl (a.rep i x v h hl hr)⟩
theorem Mv.mono {T T':K→Prop} (a:Mv Λ w0 T w ψ H w' ψ' H') (h:∀ i,T i→T' i):Mv Λ w0 T' w ψ H w' ψ' H':=
 ⟨a.ps,fun i n=>a.same i fun t=>n (h i t),fun i x v n=>a.rep i x v fun t=>n (h i t)⟩
theorem q9 {i:K} (e:ψ' i=ψ i) (hs:∀ y,tL ψ y→tL ψ' y) {x:AV} {v:Value} (hl:x.lev 0=true) (h:Rep w (ψ i) (Lt Λ ψ i) x v):Rep w (ψ' i) (Lt Λ ψ' i) x v:=
 h.mv (fun id l hid=>by rw [e];exact hid) (fun _ _ _=>rfl) (fun _ _ _=>rfl) (fun b _ hm=>ez.2 ⟨hs b (ez.1 hm).1,(ez.1 hm).2⟩) hl
theorem PS.step {φ':aD} {h':aX} (p:PS Λ w0 w ψ H) (g:Goes w (ψ k) w' φ') (hs:HSim w' φ' (Lt Λ ψ k) h') (hl:∀ id ob,h' id=some ob→ob.lev 0=true):Mv Λ w0 (·=k) w ψ H w' (up ψ k φ') (up H k h') where
 ps:=by
  refine ⟨p.parts.step g hs hl,fun i y ho=>?_,?_⟩
  · by_cases hi:i=k
    · subst hi
      rw [aB] at ho;rcases g.own y ho with h|h
      · exact p.new i y h
      · exact fun hb=>absurd (w0.bnd y hb) (by have:=p.rn.size;omega)
    · rw [aO hi] at ho
      exact p.new i y ho
  · exact ⟨fun b hb=>by rw [g.keep b (Nat.lt_of_lt_of_le (w0.bnd b hb) p.rn.size) fun h=>p.new k b h hb,p.rn.keep b hb],Nat.le_trans p.rn.size g.size,g.os.trans p.rn.os,g.tape.trans p.rn.tape,g.output.trans p.rn.output,p.rn.fro.trans g.fro⟩
 same i hi:=⟨aO hi,aO hi⟩
 rep i x v hi hx h:=by
  have e:up ψ k φ' i=ψ i:=aO hi;refine h.mv (fun id l hid=>by rw [e];exact hid) (fun b hb ho=>g.keep b hb fun hk=>p.parts.apart hi ho hk) (fun b hb hm=>g.keep b hb fun hk=>(ez.1 hm).1 k hk) (fun b hb hm=>?_) hx;obtain ⟨h1,h2⟩:=ez.1 hm;refine ez.2 ⟨fun i' ho=>?_,h2⟩;by_cases e':i'=k
  · subst e'
    rw [aB] at ho;rcases g.own b ho with h|h
    · exact h1 i' h
    · omega
  · rw [aO e'] at ho
    exact h1 i' ho
theorem PS.ren {φ':aD} {h':aX} (p:PS Λ w0 w ψ H) (k:K) (hs:HSim w φ' (Lt Λ ψ k) h') (ho:∀ y,bp φ' y→bp (ψ k) y) (hl:∀ id ob,h' id=some ob→ob.lev 0=true):Mv Λ w0 (·=k) w ψ H w (up ψ k φ') (up H k h'):=by
 have sub:∀ y,tL ψ y→tL (up ψ k φ') y:=fun y h i hi=>by
  by_cases e:i=k
  · subst e;rw [aB] at hi;exact h i (ho y hi)
  · rw [aO e] at hi;exact h i hi
 have back:∀ i j y,i≠k→Lt Λ (up ψ k φ') i j y→Lt Λ ψ i j y:=fun i j y hi h=>by
  rcases h with h|⟨e,i',h3,h4⟩
  · exact .inl h
  · by_cases e1:i'=k
    · subst e1;rw [aB] at h4;exact .inr ⟨e,i',h3,ho y h4⟩
    · rw [aO e1] at h4;exact .inr ⟨e,i',h3,h4⟩
 refine ⟨⟨⟨fun i=>?_,fun i id ob e=>?_⟩,fun i y hi=>?_,p.rn⟩,fun i hi=>⟨aO hi,aO hi⟩,fun i x v hi hx h=>q9 (aO hi) sub hx h⟩
 · by_cases e:i=k
   · subst e
     rw [aB,aB,Lt.up];exact hs
   · rw [aO e,aO e]
     have q:=p.parts.sim i;refine ⟨fun id ob e2=>?_,q.dom,fun id l b o e1 e2=>⟨(q.lt id l b o e1 e2).1,fun j hj=>(q.lt id l b o e1 e2).2 j (back i j b e hj)⟩,q.inj,fun j b h=>q.lent j b (back i j b e h)⟩;obtain ⟨l,h1,h2⟩:=q.heap id ob e2;exact ⟨l,h1,h2.mv (fun _ _ h=>h) (fun _ _ _=>rfl) (fun _ _ _=>rfl) (fun b _ hm=>⟨hm.1,fun j hj h=>hm.2 j hj (back i j b e h)⟩) h1 (p.parts.lev i id ob e2)⟩
 · by_cases e2:i=k
   · subst e2;rw [aB] at e;exact hl id ob e
   · rw [aO e2] at e;exact p.parts.lev i id ob e
 · by_cases e2:i=k
   · subst e2;rw [aB] at hi;exact p.new i y (ho y hi)
   · rw [aO e2] at hi;exact p.new i y hi
theorem PS.conv {h':aX} (p:PS Λ w0 w ψ H) (k:K) (hs:HSim w (ψ k) (Lt Λ ψ k) h') (hl:∀ id ob,h' id=some ob→ob.lev 0=true):Mv Λ w0 (·=k) w ψ H w ψ (up H k h'):=by
 have m:=p.ren k hs (fun _ h=>h) hl;have e:up ψ k (ψ k)=ψ:=by
  funext i
  by_cases e:i=k
  · subst e;rw [aB]
  · rw [aO e]
 rw [e] at m;exact m
theorem uq (hk:k1≠k2) {S:Nat→Bool} {y:Nat} (h:tL ψ y):tL (up (up ψ k1 (mrg S (ψ k1) (ψ k2))) k2 fun _=>none) y:=fun i hi=>by
 by_cases e2:i=k2
 · subst e2;rw [aB] at hi;obtain ⟨_,_,_,h5,_⟩:=hi;cases h5
 · rw [aO e2] at hi
   by_cases e1:i=k1
   · subst e1
     rw [aB] at hi;obtain ⟨id,l,o,a,b⟩:=hi;unfold mrg at a;cases hs:S id with
     | true=>rw [hs] at a;exact h i ⟨id,l,o,a,b⟩
     | false=>rw [hs] at a;exact h k2 ⟨id,l,o,a,b⟩
   · rw [aO e1] at hi;exact h i hi
theorem PS.merge (p:PS Λ w0 w ψ H) (hk:k1≠k2) (S:Nat→Bool) (h1:∀ id,S id=false→H k1 id=none) (h2:∀ id,S id=true→H k2 id=none) :
 Mv Λ w0 (fun i=>i=k1∨i=k2) w ψ H w (up (up ψ k1 (mrg S (ψ k1) (ψ k2))) k2 fun _=>none) (up (up H k1 (mrg S (H k1) (H k2))) k2 emp):=by
 refine ⟨⟨p.parts.merge hk S h1 h2,fun i y hi=>?_,p.rn⟩,fun i hi=>?_,fun i x v hi hx h=>?_⟩
 · exact fun hb=>uq (ψ:=ψ) hk (S:=S) (fun i' h'=>p.new i' y h' hb) i hi
 · rw [aO fun e=>hi (.inr e),aO fun e=>hi (.inl e),aO fun e=>hi (.inr e),aO fun e=>hi (.inl e)]
   exact ⟨rfl,rfl⟩
 · exact q9 (by rw [aO fun e=>hi (.inr e),aO fun e=>hi (.inl e)]) (fun y=>uq hk) hx h
theorem pQ {S:Nat→Bool} {y:Nat} (h:tL ψ y):tL (up (up ψ k1 (restrict S (ψ k1))) k2 (restrict (fun i=>!S i) (ψ k1))) y:=fun i hi=>by
 by_cases e2:i=k2
 · subst e2;rw [aB (f:=up ψ k1 _)] at hi;exact h k1 (bY hi)
 · rw [aO (f:=up ψ k1 _) e2] at hi
   by_cases e1:i=k1
   · subst e1;rw [aB (f:=ψ)] at hi;exact h i (bY hi)
   · rw [aO (f:=ψ) e1] at hi;exact h i hi
theorem PS.split (p:PS Λ w0 w ψ H) (hk:k1≠k2) (S:Nat→Bool) (he:∀ id,H k2 id=none) (h1:∀ id ob,S id=true→H k1 id=some ob→ObjIn S ob) (h2:∀ id ob,S id=false→H k1 id=some ob→ObjIn (fun i=>!S i) ob) :
 Mv Λ w0 (fun i=>i=k1∨i=k2) w ψ H w (up (up ψ k1 (restrict S (ψ k1))) k2 (restrict (fun i=>!S i) (ψ k1))) (up (up H k1 (only S (H k1))) k2 (only (fun i=>!S i) (H k1))):=by
 refine ⟨⟨p.parts.split hk S he h1 h2,fun i y hi=>?_,p.rn⟩,fun i hi=>?_,fun i x v hi hx h=>?_⟩
 · exact fun hb=>pQ (ψ:=ψ) (S:=S) (fun i' h'=>p.new i' y h' hb) i hi
 · rw [aO (f:=up ψ k1 _) fun e=>hi (.inr e),aO (f:=ψ) fun e=>hi (.inl e),aO (f:=up H k1 _) fun e=>hi (.inr e),aO (f:=H) fun e=>hi (.inl e)]
   exact ⟨rfl,rfl⟩
 · exact q9 (by rw [aO (f:=up ψ k1 _) fun e=>hi (.inr e),aO (f:=ψ) fun e=>hi (.inl e)]) (fun y=>pQ) hx h
theorem PS.single {φ:aD} {h:aX} (k:K) (hs:HSim w φ Λ h) (hl:∀ id ob,h id=some ob→ob.lev 0=true) (hn:∀ y,bp φ y→¬ w0.B y) (r:Rn w0 w):PS Λ w0 w (up (fun _ _=>none) k φ) (up (fun _=>emp) k h):=by
 have hL:Lt Λ (up (fun _ _=>none) k φ) k=Λ:=by
  funext l y
  refine propext ⟨fun h=>h.elim id fun ⟨_,i,h1,h2⟩=>?_,.inl⟩;rw [aO h1] at h2;exact (aI h2).elim
 refine ⟨⟨fun i=>?_,fun i id ob e=>?_⟩,fun i y hi=>?_,r⟩
 · by_cases e:i=k
   · subst e;rw [aB,aB,hL];exact hs
   · rw [aO e,aO e]
     refine ⟨(fun id ob h=>by cases h),fun _ _=>rfl,(fun id l b o h=>by cases h),(fun id id' l l' b o o' h=>by cases h),fun j b h=>?_⟩;rcases h with h|⟨_,i',_,h⟩
     · exact hs.lent j b h
     · by_cases e':i'=k
       · subst e';rw [aB] at h;obtain ⟨id,l,o,e1,e2⟩:=h;exact (hs.lt id l b o e1 e2).1
       · rw [aO e'] at h;exact (aI h).elim
 · by_cases e':i=k
   · subst e';rw [aB] at e;exact hl id ob e
   · rw [aO e'] at e;cases e
 · by_cases e':i=k
   · subst e';rw [aB] at hi;exact hn y hi
   · rw [aO e'] at hi;exact (aI hi).elim
theorem Mv.sim {T:K→Prop} {n:Nat} {s:AS} {a:Act} (m:Mv Λ w0 T w ψ H w' ψ' H') (hk:¬ T k) (hs:Sim n w (ψ k) (Lt Λ ψ k) s a) (he:H k=s.h) (hl:∀ i,(s.t i).lev 0=true):Sim n w' (ψ' k) (Lt Λ ψ' k) s a:=
 ⟨hs.defs,hs.size,fun i=>m.rep k _ _ hk (hl i) (hs.tmps i),by rw [← he,← (m.same k hk).2];exact m.ps.parts.sim k⟩
theorem dq:∀ {t:List (Nat×AV)},(t.all fun p=>p.2.lev 0)=true→∀ i,(jm t i).lev 0=true
 | [],_,i=>rfl
 | (k,x)::r,h,i=>by
  simp only [List.all_cons,Bool.and_eq_true] at h;simp only [jm];cases Nat.beq i k with
  | true=>exact h.1
  | false=>exact dq h.2 i
theorem ax:∀ {l:List (Nat×AObj)},(l.all fun p=>p.2.lev 0)=true→∀ id ob,ao l id=some ob→ob.lev 0=true
 | [],_,i,ob,e=>by cases e
 | (k,x)::r,h,i,ob,e=>by
  simp only [List.all_cons,Bool.and_eq_true] at h;simp only [ao] at e;cases hb:Nat.beq i k with
  | true=>rw [hb] at e;cases e;exact h.1
  | false=>rw [hb] at e;exact ax h.2 i ob e
theorem PS.call {P:Program} {f:FuncId} {args:List AV} {r:AV} {hl:List (Nat×AObj)} {vals:Array Value} (p:PS Λ w0 w ψ H) (k:K) (hc:AC P f args (H k) (bZ r hl)) (ha:eI w (ψ k) (Lt Λ ψ k) args vals) (hl0:(hl.all fun p=>p.2.lev 0)=true) {QQ:Ending→World→Prop}
 (next:∀ w' φ' v,Mv Λ w0 (·=k) w ψ H w' (up ψ k φ') (up H k (ao hl))→Goes w (ψ k) w' φ'→Rep w' (up ψ k φ' k) (Lt Λ (up ψ k φ') k) r v→QQ (.returned v) w'):Calls P f vals w QQ:=by
 refine hc.2 _ w (ψ k) vals (p.parts.sim k) ha QQ (fun r' h' w' φ' v hR hs g hr=>?_) (fun x h' w' φ' hR=>absurd hR.1 (by simp));obtain ⟨e1,e2⟩:=hR;cases e1;subst e2;exact next w' φ' v (p.step g hs (ax hl0)) g (by rw [aB,Lt.up];exact hr)
theorem PS.run {P:Program} {n:Nat} {c:Code} {Q:bC} {s:AS} {a:Act} (p:PS Λ w0 w ψ H) (k:K) (hw:AWp P n c Q s) (hs:Sim n w (ψ k) (Lt Λ ψ k) s a) (R:AExit→AS→Prop) (hR:∀ ae s',Q ae s'→∃ s2,Weak s' s2∧R ae s2∧∀ id ob,s2.h id=some ob→ob.lev 0=true) {QQ:Exit→Act→World→Prop}
 (next:∀ ae s' w' φ' a',R ae s'→Sim n w' (up ψ k φ' k) (Lt Λ (up ψ k φ') k) s' a'→Mv Λ w0 (·=k) w ψ H w' (up ψ k φ') (up H k s'.h)→QQ ae.conc a' w'):c.wp P QQ a w:=by
 refine hw _ w (ψ k) a hs QQ fun ae s' w' φ' a' q hs' g=>?_
 obtain ⟨s2,hW,r,hl⟩:=hR ae s' q;obtain ⟨φ2,hs2,g2⟩:=hW _ _ w' φ' a' hs';exact next ae s2 w' φ2 a' r (by rw [aB,Lt.up];exact hs2) (p.step (g.trans g2) hs2.hs hl)
theorem PS.ops {P:Program} {n:Nat} {ops:Array Oper} {l:List Nat} {Q:bC} {s:AS} {a:Act} (p:PS Λ w0 w ψ H) (k:K) (hw:AOps P n ops Q l s) (hs:Sim n w (ψ k) (Lt Λ ψ k) s a) (R:AExit→AS→Prop) (hR:∀ ae s',Q ae s'→∃ s2,Weak s' s2∧R ae s2∧∀ id ob,s2.h id=some ob→ob.lev 0=true) {QQ:Exit→Act→World→Prop}
 (next:∀ ae s' w' φ' a',R ae s'→Sim n w' (up ψ k φ' k) (Lt Λ (up ψ k φ') k) s' a'→Mv Λ w0 (·=k) w ψ H w' (up ψ k φ') (up H k s'.h)→QQ ae.conc a' w'):wpOps P ops QQ l a w:=by
 refine hw _ w (ψ k) a hs QQ fun ae s' w' φ' a' q hs' g=>?_
 obtain ⟨s2,hW,r,hl⟩:=hR ae s' q;obtain ⟨φ2,hs2,g2⟩:=hW _ _ w' φ' a' hs';exact next ae s2 w' φ2 a' r (by rw [aB,Lt.up];exact hs2) (p.step (g.trans g2) hs2.hs hl)
def GB (B:Nat→Prop):aW:=fun k y=>k=1∧¬ B y
theorem PS.base (p:PS Λ w0 w ψ H) {B:Nat→Prop} (hB0:∀ b,B b→w0.B b) {x:AV} {v:Value} (h:Rep w0.w (fun _=>none) (GB B) x v) (hx:x.lev 0=true) {φ':aD} {Λ':aW} (M:∀ b,B b→may φ' Λ' 0 b):Rep w φ' Λ' x v:=by
 have hB:∀ b,may (fun _=>none) (GB B) 0 b→B b:=fun b hm=>Classical.byContradiction fun n=>hm.2 1 Nat.one_pos ⟨rfl,n⟩
 exact h.mv (fun _ _ h=>by cases h) (fun b _ ho=>(aI ho).elim) (fun b _ hm=>p.rn.keep b (hB0 b (hB b hm))) (fun b _ hm=>M b (hB b hm)) hx
theorem PS.base0 (p:PS Λ w0 w ψ H) (k:K) {B:Nat→Prop} (hB0:∀ b,B b→w0.B b) (hΛ:∀ j b,0<j→B b→¬ Λ j b) {x:AV} {v:Value} (h:Rep w0.w (fun _=>none) (GB B) x v) (hx:x.lev 0=true):Rep w (ψ k) (Lt Λ ψ k) x v:=
 p.base hB0 h hx fun b hb=>ez.2 ⟨fun i ho=>p.new i b ho (hB0 b hb),fun j hj h=>hΛ j b hj hb h⟩
theorem PS.jstep (p:PS Λ w0 w ψ H) (keep:∀ b,b<w.heap.size→(∀ j,0<j→¬ Λ j b)→w'.heap[b]?=w.heap[b]?) (hsz:w.heap.size≤w'.heap.size) (b0:Base) (hb0:b0.w=w') (hB:∀ b,b0.B b→w0.B b):PS Λ b0 w' ψ H:=by
 have K1:∀ i b,b<w.heap.size→bp (ψ i) b→w'.heap[b]?=w.heap[b]?:=fun i b hb ⟨id,l,o,e1,e2⟩=>keep b hb fun j _ h=>((p.parts.sim i).lt id l b o e1 e2).2 j (.inl h)
 have K0:∀ i b,b<w.heap.size→may (ψ i) (Lt Λ ψ i) 0 b→w'.heap[b]?=w.heap[b]?:=fun i b hb hm=>keep b hb (ez.1 hm).2
 refine ⟨⟨fun i=>?_,p.parts.lev⟩,fun i y ho hb=>p.new i y ho (hB y hb),by subst hb0;exact Rn.refl b0⟩;have q:=p.parts.sim i;refine ⟨fun id ob e=>?_,q.dom,fun id l b o e1 e2=>⟨Nat.lt_of_lt_of_le (q.lt id l b o e1 e2).1 hsz,(q.lt id l b o e1 e2).2⟩,q.inj,fun j b h=>Nat.lt_of_lt_of_le (q.lent j b h) hsz⟩;obtain ⟨l,h1,h2⟩:=q.heap id ob e;exact ⟨l,h1,h2.mv (fun _ _ h=>h) (K1 i) (K0 i) (fun _ _ h=>h) h1 (p.parts.lev i id ob e)⟩
def Go1 (P:Program) (n:Nat) (ops:Array Oper) (pre:List Nat) (s s':AS):Prop:=
 ∀ Λ w φ a rest (QQ:Exit→Act→World→Prop),Sim n w φ Λ s a→(∀ w' φ' a',Sim n w' φ' Λ s' a'→Goes w φ w' φ'→wpOps P ops QQ rest a' w')→wpOps P ops QQ (pre++rest) a w
theorem Go1.nil {P:Program} {n:Nat} {ops:Array Oper} {s s':AS} (hw:Weak s s'):Go1 P n ops [] s s':=fun Λ w φ a rest QQ hs h=>by
 obtain ⟨φ1,hs1,g1⟩:=hw n Λ w φ a hs;exact h w φ1 a hs1 g1
theorem Go1.cons {P:Program} {n:Nat} {ops:Array Oper} {i:Nat} {o:Oper} {pre:List Nat} {s s1 s':AS} (ho:ops[i]?=some o) (hg:o.guard=none) (h:OpOk P n o s s1) (k:Go1 P n ops pre s1 s'):Go1 P n ops (i::pre) s s':=fun Λ w φ a rest QQ hs hn=>by
 simp only [List.cons_append,wpOps,ho,Region.wanted,hg,if_true];exact .inl (h Λ w φ a hs _ _ fun w' φ' a' hs' g=>k Λ w' φ' a' rest QQ hs' fun w2 φ2 a2 hs2 g2=>hn w2 φ2 a2 hs2 (g.trans g2))
theorem PS.pre {P:Program} {n:Nat} {ops:Array Oper} {pre rest:List Nat} {s s':AS} {a:Act} (p:PS Λ w0 w ψ H) (k:K) (hw:Go1 P n ops pre s s') (hs:Sim n w (ψ k) (Lt Λ ψ k) s a) (hl:∀ id ob,s'.h id=some ob→ob.lev 0=true) {QQ:Exit→Act→World→Prop}
 (next:∀ w' φ' a',Sim n w' (up ψ k φ' k) (Lt Λ (up ψ k φ') k) s' a'→Mv Λ w0 (·=k) w ψ H w' (up ψ k φ') (up H k s'.h)→wpOps P ops QQ rest a' w'):wpOps P ops QQ (pre++rest) a w:=
 hw _ w (ψ k) a rest QQ hs fun w' φ' a' hs' g=>next w' φ' a' (by rw [aB,Lt.up];exact hs') (p.step g hs'.hs hl)
end
theorem pX {P:Program} {t k e:TypeId} {a:Option Nat} (ht:P.underlying t=some (.map k e)) (w:World):(Op.equal t (.map a) (.map none)).run P w=.ok a.isNone w:=by
 have h:∀ q,(Op.equalIn (q+1) t (.map a) (.map none)).run P w=.ok a.isNone w:=fun q=>by cases a<;>simp [Op.equalIn,run_underlying ht]
 exact h 9999
def rU:AV→Option Bool
 | .mp ..=>some false
 | .v (.map a)=>some a.isNone
 | _=>none
theorem zw {w:World} {φ:aD} {Λ:aW} {x:AV} {v:Value} {b:Bool} (h:Rep w φ Λ x v) (hb:rU x=some b):∃ a,v=.map a∧a.isNone=b:=by
 cases h with
 | v=>
  cases v<;>simp [rU] at hb
  exact ⟨_,rfl,hb⟩
 | mp=>exact ⟨_,rfl,by simpa [rU] using hb⟩
 | mpx=>exact ⟨_,rfl,by simpa [rU] using hb⟩
 | _=>simp [rU] at hb
section
variable {n:Nat} {s:AS} {o:Oper} {d:Option Tmp} {Q:bC}
theorem qh {op:BinOp} {t u k e:TypeId} {x y:Operand} {a:AV} {b r:Bool} {ti:TI} (ho:o.op=.binOp op t x y u:=by exact rfl) (hx:s.ev x=a:=by conv=>lhs;whnf) (ha:rU a=some b:=by exact rfl) (hy:s.ev y=.v (.map none):=by exact rfl)
 (ht:te.get t=some ti:=by exact rfl) (hk:ti.k=.map k e:=by exact rfl) (hop:(op=.eql∧r=b)∨(op=.neq∧r=!b):=by first|exact .inl ⟨rfl,rfl⟩|exact .inr ⟨rfl,rfl⟩)
 (hdd:o.dst=d:=by conv=>lhs;whnf) (hd:d.all (Nat.blt · n)=true:=by exact rfl):OpOk Tryz.prog n o s (s.put d (tf r)):=
 .val hdd hd fun Λ w φ ac hs=>by
  have hr:=hs.ev x;rw [hx] at hr;obtain ⟨ad,e1,e2⟩:=zw hr ha;have e3:=pX (a:=ad) ((te_ok.tells ht).map hk) w;refine ⟨.bool r,?_,.v⟩;rcases hop with ⟨rfl,rfl⟩|⟨rfl,rfl⟩<;>simp [execOp,ho,e1,cc hs hy,eqGuard,binOp,e3,e2]
end
section rules
variable {n:Nat} {s:AS} {o:Oper} {d:Option Tmp} {Q:bC} {κ β:Type} [DecidableEq κ]
theorem jY {t kt et:TypeId} {x y z:Operand} {id:Nat} (K:MKey κ) {f:β→AV} {m:List (κ×β)} {k:κ} (v:β) {ti:TI} (ho:o.op=.insert t x y z:=by exact rfl) (hx:s.ev x=.mp id 0:=by exact rfl) (hy:s.ev y=.v (K.kv k):=by exact rfl)
 (hob:s.h id=some (.map (me K f m)):=by exact rfl) (hz:s.ev z=f v:=by exact rfl) (ht:te.get t=some ti:=by exact rfl) (hk:ti.k=.map kt et:=by exact rfl) (hkd:Tryz.prog.underlying kt=some K.d:=by exact rfl)
 (hdd:o.dst=d:=by conv=>lhs;whnf) (hd:d.all (Nat.blt · n)=true:=by exact rfl):OpOk Tryz.prog n o s ((s.seth id (some (.map (me K f (cp m k v))))).put d (.v undef)):=
 .chg hdd hd fun Λ w φ a hs=>by
  obtain ⟨l,b,ents,clock,h1,h2,h3,h4,h5⟩:=qx hs.hs hob;have hxv:=hs.ev x;rw [hx] at hxv;have e1:=q8 hxv h1 h3 h2;have e2:=cc hs hy;have e3:=hs.ev z;rw [hz] at e3;have hu:=(te_ok.tells ht).map hk;have hck:=MapKept.run_checkKey (w:=w) hkd (K.isKey k) false 9999;rcases ux m k with ⟨g1,g2,g3,_⟩|⟨j,p,g1,g2,g3,g4,g5,_⟩
  · have hf:=MapKept.run_findKey (w:=w) hkd (h5.none g2)
    have hc:=Chg.map hs.hs h1 h2 h4 (.map (ents.push { key:=K.kv k,val:=a.eval z,born:=clock }) (clock+1));refine ⟨.skip,_,l,?_,hc,⟨b,_,_,h2,h3,(MapKept.heap_set h4).1,?_,fun q r hq=>?_⟩,undef,.inr ⟨rfl,rfl⟩,.v⟩
    · simp [execOp,ho,e1,e2,Instr.mapUpdate,run_underlying hu,MapKept.run_getObj_map h4,hck,hf,Result.andThen,MapKept.run_setObj_map _ h4]
    · rw [g3];simp [me,h5.size]
    · rw [g3,me,List.getElem?_map,Option.map_eq_some_iff] at hq
      obtain ⟨p,hp,rfl⟩:=hq;by_cases hlt:q<m.length
      · rw [List.getElem?_append_left hlt] at hp
        obtain ⟨e,q1,q2,q3⟩:=h5.at' q p hp;exact ⟨e,by rw [Array.getElem?_push,if_neg (by rw [h5.size];omega)];exact q1,q2,hc.rep q3⟩
      · rw [List.getElem?_append_right (by omega)] at hp
        have hq0:q-m.length=0:=by
         have:=(List.getElem?_eq_some_iff.1 hp).1;simp at this;omega
        rw [hq0] at hp;simp at hp;subst hp;exact ⟨{ key:=K.kv k,val:=a.eval z,born:=clock },by rw [Array.getElem?_push,if_pos (by rw [h5.size];omega)],rfl,hc.rep e3⟩
  · obtain ⟨e,q1,q2,q3,q4⟩:=h5.some g1 g2 g3
    have hf:=MapKept.run_findKey (w:=w) hkd q4;have hc:=Chg.map hs.hs h1 h2 h4 (.map (ents.modify j fun e=>{ e with key:=K.kv k,val:=a.eval z }) clock);refine ⟨.skip,_,l,?_,hc,⟨b,_,_,h2,h3,(MapKept.heap_set h4).1,?_,fun q r hq=>?_⟩,undef,.inr ⟨rfl,rfl⟩,.v⟩
    · simp [execOp,ho,e1,e2,Instr.mapUpdate,run_underlying hu,MapKept.run_getObj_map h4,hck,hf,Result.andThen,MapKept.run_setObj_map _ h4,q1,q2,Instr.keyThatStays,K.same]
    · rw [g5];simp [me,h5.size]
    · rw [g5,me,List.getElem?_map,Option.map_eq_some_iff] at hq
      obtain ⟨p',hp,rfl⟩:=hq;rw [List.getElem?_set] at hp;by_cases hjq:j=q
      · subst hjq
        have hlt:=(List.getElem?_eq_some_iff.1 g1).1;simp [hlt] at hp;subst hp;exact ⟨{ e with key:=K.kv k,val:=a.eval z },by rw [Array.getElem?_modify,if_pos rfl,q1];rfl,rfl,hc.rep e3⟩
      · rw [if_neg hjq] at hp
        obtain ⟨e',r1,r2,r3⟩:=h5.at' q p' hp;exact ⟨e',by rw [Array.getElem?_modify,if_neg hjq];exact r1,r2,hc.rep r3⟩
end rules
section jumpsR
variable {P:Program} {n:Nat} {Q:bC} {s:AS}
def AExit.jumpB (l:Nat) (J:AS→Prop) (Q:bC):bC
 | .goto l',s'=>l'=l∧J s'
 | e,s'=>Q e s'
theorem AWp.jumpsR {α:Type} {c rest:Code} (l:Nat) (K:List Nat) (T:α→List (Nat×AV)) (H:α→List (Nat×AObj)) (I:α→Prop) (μ:α→Nat) (hf:findLabel c l=some (.seq .skip rest))
 (first:(∀ s',(∃ x,I x∧Back s s' K (T x) (H x))→AWp P n (.seq (.label l) rest) (AExit.jumpTo l (fun x=>s.over K (T x) (H x)) I Q) s')→AWp P n c (AExit.jumpTo l (fun x=>s.over K (T x) (H x)) I Q) s)
 (pass:∀ x,I x→AWp P n rest (AExit.jumpB l (fun s'=>∃ x',I x'∧Back s s' K (T x') (H x')∧μ x'<μ x) Q) (s.over K (T x) (H x))):AWp P n (.scope c) Q s:=
 .dom fun hd=>AWp.jumps l (fun x=>s.over K (T x) (H x)) I μ hf (fun hj=>first fun s' ⟨x,a,b⟩=>hj s' ⟨x,a,b.weak hd⟩) fun x hx=>(pass x hx).mono fun e s' q=>by
  cases e with
  | goto l'=>obtain ⟨h1,x',h2,h3,h4⟩:=q;exact ⟨h1,x',h2,h3.weak hd,h4⟩
  | normal=>exact q
  | exit id=>exact q
  | ret=>exact q
  | panic v=>exact q
end jumpsR
section bad
theorem AC.bad {f:FuncId} {A:List AV} {h:aX} {po:Option Value} {r:AV} {hl:List (Nat×AObj)} {hp:Int→List (Nat×AObj)} {x:Value} (hx:po=some x) (hc:AC Tryz.prog f A h (oA po r hl hp)):AC Tryz.prog f A h (oA po (.fz 0 1 []) (hp 0) hp):=by
 subst hx;exact hc.mono fun e h' k=>k
theorem AWp.bot {P:Program} {n d:Nat} {c:Code} {Q:bC} {s:AS} (h:s.t d=.fz 0 1 []):AWp P n c Q s:=by
 intro Λ w φ a hs;have e:=hs.ev (.tmp d);have e2:s.ev (.tmp d)=.fz 0 1 []:=h;rw [e2] at e;generalize a.eval (.tmp d)=v at e;exfalso;cases e with
 | fz vf h1 h2 h3 h4 h5 h6=>exact absurd h6 (by simp)
theorem OpAtX.bot {P:Program} {n d i:Nat} {ops:Array Oper} {QP:Value→AS→Prop} {s s':AS} (h:s.t d=.fz 0 1 []):OpAtX P n ops QP i s s':=by
 intro Λ w φ a hs;have e:=hs.ev (.tmp d);have e2:s.ev (.tmp d)=.fz 0 1 []:=h;rw [e2] at e;generalize a.eval (.tmp d)=v at e;exfalso;cases e with
 | fz vf h1 h2 h3 h4 h5 h6=>exact absurd h6 (by simp)
end bad
section rules
variable {n:Nat} {s:AS} {d:Option Tmp} {Q:bC}
end rules
section
variable {P:Program}
theorem xn {te:TE} (hte:TEok P te) {fn:Func} {R:AEnd→aX→Prop} {n:Nat} {s':AS} {w':World} {φ':aD} {Λ:aW} {a':Act} (hf:Fin te fn R s') (hs':Sim n w' φ' Λ s' a') :
 ∃ v r h' φ2,(results fn a'.tmps).run P w'=.ok v w'∧R (.ret r) h'∧HSim w' φ2 Λ h'∧Goes w' φ' w' φ2∧Rep w' φ2 Λ r v:=by
 obtain ⟨xs,r,h',h1,h2,h3⟩:=hf;obtain ⟨vs,v1,v2,v3⟩:=fj hte hs' h1;have hrun:(results fn a'.tmps).run P w'=.ok (if h:vs.toArray.size=1 then vs.toArray[0] else .tuple vs.toArray) w':=by
  rw [ml,← Array.toArray_toList (xs:=fn.results),List.mapM_toArray];simp only [Sem.run_bind,Sem.run_map,v1,Result.andThen_ok,Sem.run_pure]
 have hrep:Rep w' φ' Λ (bX xs) (if h:vs.toArray.size=1 then vs.toArray[0] else .tuple vs.toArray):=by
  by_cases hx:∃ x,xs=[x]
  · obtain ⟨x,rfl⟩:=hx
    have hvl:vs.length=1:=by simpa using v2
    obtain ⟨v,hv1,hv2⟩:=v3 0 x rfl;rw [dif_pos (by simpa using hvl)];simp only [bX];have:vs.toArray[0]'(by simp;omega)=v:=by
     have:=(List.getElem?_eq_some_iff.1 hv1).2
     simpa using this
    rw [this];exact hv2
  · have hne:vs.length≠1:=by
     intro h1;rw [v2] at h1;obtain ⟨x,hx2⟩:=List.length_eq_one_iff.1 h1;exact hx ⟨x,hx2⟩
    rw [dif_neg (by simpa using hne)];have:bX xs=.tup xs:=by
     unfold bX;split
     · exact absurd ⟨_,rfl⟩ hx
     · rfl
    rw [this];refine .tup (fun j=>vs.getD j undef) (by simp [v2]) (fun j hj=>?_) (fun j c hj=>?_)
    · rw [List.getElem?_toArray,List.getElem?_eq_getElem (by omega),List.getD_eq_getElem?_getD,List.getElem?_eq_getElem (by omega)]
      rfl
    · obtain ⟨v,k1,k2⟩:=v3 j c hj
      rw [List.getD_eq_getElem?_getD,k1];exact k2
 obtain ⟨φ2,k1,k2,k3⟩:=h2 w' φ' Λ _ hs'.hs hrep;exact ⟨_,r,h',φ2,hrun,h3,k1,k3,k2⟩
theorem xU {n:Nat} {w:World} {φ:aD} {Λ:aW} {args:List AV} {vals:Array Value} {h:aX} (hs:HSim w φ Λ h) (ha:eI w φ Λ args vals) (hn:args.length≤n) :
 Sim n w φ Λ ⟨fun i=>args.getD i (.v undef),h⟩ { tmps:=vals++Array.replicate (n-vals.size) undef,defers:=[] }:=by
 refine ⟨rfl,by simp [ha.1];omega,fun i=>?_,hs⟩;simp only [Array.getD_eq_getD_getElem?,List.getD_eq_getElem?_getD];by_cases hi:i<args.length
 · obtain ⟨v,h1,h2⟩:=ha.2 i args[i] (List.getElem?_eq_getElem hi)
   rw [Array.getElem?_append_left (by rw [ha.1];exact hi),h1,List.getElem?_eq_getElem hi];exact h2
 · rw [List.getElem?_eq_none (by omega),Array.getElem?_append_right (by rw [ha.1];omega)]
   have:((Array.replicate (n-vals.size) undef)[i-vals.size]?).getD undef=undef:=by
    rw [Array.getElem?_replicate];split<;>rfl
   rw [this];exact .v
theorem lj (a:Act) (d:Option Tmp) (v:Value) (ds:List Deferred):({ a with defers:=a.defers++ds }:Act).put d v={ a.put d v with defers:=(a.put d v).defers++ds }:=by
 cases d<;>rfl
theorem wm {o:Oper} {a:Act} {next:Act→World→Prop} {Q:Exit→Act→World→Prop} (ds:List Deferred) (r:Result Next)
 (h:o.upon P a (fun a' w'=>next { a' with defers:=a'.defers++ds } w') (fun e a' w'=>Q e { a' with defers:=a'.defers++ds } w') r) :
 o.upon P { a with defers:=a.defers++ds } next Q r:=by
 unfold Oper.upon at h ⊢;split
 · simp only at h;rw [lj];exact h
 · simp only at h;rw [lj];exact h
 · rename_i d w'
   simp only at h;have:=lj { a with defers:=d::a.defers } o.dst undef ds;simp only [List.cons_append] at this;rw [this];exact h
 · simp only at h
   refine h.mono fun e w'' q=>?_
   cases e with
   | returned v=>simp only at q ⊢;rw [lj];exact q
   | panicked c=>exact q
   | outgrown=>obtain ⟨a0,w0,q0⟩:=q;exact ⟨_,w0,q0⟩
 · simp only at h
   refine h.mono fun v w'' q=>?_
   rw [lj];exact q
 · exact h
 · simp_all
theorem Oper.upon_next {o:Oper} {a:Act} {n1 n2:Act→World→Prop} {Q:Exit→Act→World→Prop} (hn:∀ a w,n1 a w→n2 a w) {r:Result Next} (h:o.upon P a n1 Q r):o.upon P a n2 Q r:=by
 unfold Oper.upon at h ⊢;split
 · exact hn _ _ h
 · exact hn _ _ h
 · exact hn _ _ h
 · simp only at h
   refine h.mono fun e w'' q=>?_
   cases e with
   | returned v=>exact hn _ _ q
   | panicked c=>exact q
   | outgrown=>exact q
 · simp only at h
   exact h.mono fun v w'' q=>hn _ _ q
 · exact h
 · simp_all
theorem lr {ops:Array Oper} {Q:Exit→Act→World→Prop} (ds:List Deferred):∀ (l:List Nat) (a:Act) (w:World),
 wpOps P ops (fun e a' w'=>Q e { a' with defers:=a'.defers++ds } w') l a w→wpOps P ops Q l { a with defers:=a.defers++ds } w
 | [],a,w,h=>h
 | i::rest,a,w,h=>by
  simp only [wpOps] at h ⊢;cases ho:ops[i]? with
  | none=>simp only [ho] at h ⊢;exact lr ds rest a w h
  | some o=>
   simp only [ho] at h ⊢;split
   · rename_i hw
     rw [if_pos hw] at h;rcases h with h|h
     · left
       refine wm ds _ ?_;have hn:∀ a' w',wpOps P ops (fun e a' w'=>Q e { a' with defers:=a'.defers++ds } w') rest a' w'→wpOps P ops Q rest { a' with defers:=a'.defers++ds } w':=fun a' w'=>lr ds rest a' w'
       exact Oper.upon_next hn h
     · right
       obtain ⟨h1,a0,w0,q0⟩:=h;exact ⟨h1,_,w0,q0⟩
   · rename_i hw
     rw [if_neg hw] at h;rw [lj];exact lr ds rest _ w h
theorem gk {I:Act→Prop} {ops:Array Oper} {Q:Exit→Act→World→Prop} (hI:∀ (i:Nat) (o:Oper),ops[i]?=some o→∀ a v,I a→I (a.put o.dst v)) (hD:∀ (a:Act) ds,I a→I { a with defers:=ds }):∀ (l:List Nat) (a:Act) (w:World),I a→
 wpOps P ops (fun e a' w'=>(e≠.outgrown→I a')→Q e a' w') l a w→wpOps P ops Q l a w
 | [],a,w,ha,h=>h fun _=>ha
 | i::rest,a,w,ha,h=>by
  simp only [wpOps] at h ⊢;cases ho:ops[i]? with
  | none=>simp only [ho] at h ⊢;exact gk hI hD rest a w ha h
  | some o=>
   simp only [ho] at h ⊢;have hp:=hI i o ho;split
   · rename_i hw
     rw [if_pos hw] at h;rcases h with h|h
     · left
       unfold Oper.wp at h ⊢;generalize (execOp a.eval o).run P w=r at h;unfold Oper.upon at h ⊢;split
       · exact gk hI hD rest _ _ (hp a _ ha) h
       · exact gk hI hD rest _ _ (hp a _ ha) h
       · exact gk hI hD rest _ _ (hp _ _ (hD a _ ha)) h
       · simp only at h
         refine h.mono fun e w'' q=>?_
         cases e with
         | returned v=>exact gk hI hD rest _ _ (hp a _ ha) q
         | panicked c=>exact q fun _=>ha
         | outgrown=>obtain ⟨a0,w0,q0⟩:=q;exact ⟨a0,w0,q0 fun k=>absurd rfl k⟩
       · simp only at h
         exact h.mono fun v w'' q=>gk hI hD rest _ _ (hp a _ ha) q
       · exact h fun _=>ha
       · simp_all
     · right
       obtain ⟨h1,a0,w0,q0⟩:=h;exact ⟨h1,a0,w0,q0 fun k=>absurd rfl k⟩
   · rename_i hw
     rw [if_neg hw] at h;exact gk hI hD rest _ _ (hp a _ ha) h
theorem Cy (ae:AExit):ae.conc≠.outgrown:=by cases ae<;>simp [AExit.conc]
theorem AOps.framed {I:Act→Prop} {n:Nat} {ops:Array Oper} {Q:bC} {l:List Nat} {s:AS} (hI:∀ (i:Nat) (o:Oper),ops[i]?=some o→∀ a v,I a→I (a.put o.dst v)) (hD:∀ (a:Act) ds,I a→I { a with defers:=ds }) (h:AOps P n ops Q l s)
 {Λ:aW} {w:World} {φ:aD} {a:Act} (ds:List Deferred) (hs:Sim n w φ Λ s a) (ha:I a) {QQ:Exit→Act→World→Prop}
 (hQ:∀ ae s' w' φ' a',Q ae s'→Sim n w' φ' Λ s' a'→Goes w φ w' φ'→I a'→QQ ae.conc { a' with defers:=ds } w'):wpOps P ops QQ l { a with defers:=ds } w:=by
 have e0:({ a with defers:=ds }:Act)={ a with defers:=a.defers++ds }:=by rw [hs.defs];rfl
 rw [e0];refine lr ds l a w (gk hI hD l a w ha ?_);refine h Λ w φ a hs _ fun ae s' w' φ' a' q hs' g hi=>?_
 have e1:({ a' with defers:=a'.defers++ds }:Act)={ a' with defers:=ds }:=by rw [hs'.defs];rfl
 rw [e1];exact hQ ae s' w' φ' a' q hs' g (hi (Cy ae))
def hY:Code→Array Oper
 | .region _ o _=>o
 | _=>#[]
def nb:Code→Code
 | .seq x _=>x
 | c=>c
def ew:Code→Code
 | .seq _ y=>y
 | c=>c
theorem pN {ops:Array Oper} {Q:Exit→Act→World→Prop} {i:Nat} {rest:List Nat} {o:Oper} {a:Act} {w:World} (ho:ops[i]?=some o) (hg:o.guard=none) (h:o.wp P a w (wpOps P ops Q rest) Q):wpOps P ops Q (i::rest) a w:=by
 simp only [wpOps,ho,Region.wanted,hg,if_true];exact .inl h
end
theorem ab {A B:Prop} (h:B) (e:B→A:=by first|exact fun h=>AOps.cons rfl rfl (by first|exact aA|exact gh|exact bb|exact sH|exact fJ|exact lW|exact cI|exact bM|exact cW|exact mR|exact jE|exact vQ|exact wT|exact gY|exact BN|exact lh|exact oG|exact wS|exact zD|exact lf|exact lg) h|exact fun h=>AOps.nil h|exact fun h=>AWp.seq h|exact fun h=>AWp.region h|exact fun h=>AOps.gskip rfl rfl rfl rfl rfl rfl rfl rfl h|exact fun h=>AOps.gcons rfl rfl rfl rfl rfl (by first|exact aA|exact gh|exact bb|exact sH|exact fJ|exact lW|exact cI|exact bM|exact cW|exact mR|exact jE|exact vQ|exact wT|exact gY|exact BN|exact lh|exact oG|exact wS|exact zD|exact lf|exact lg) h|exact fun h=>AWp.cond_t rfl h|exact fun h=>AWp.cond_f rfl h|exact fun h=>AWp.skip h|exact fun h=>AWp.block h|exact fun h=>AWp.ret (show Fin te _ _ _ from h)|exact fun h=>AWp.ret h|exact fun h=>AWp.exit h):A:=e h
theorem am {A B C:Prop} {p:Prop} (ht:p→B) (hf:¬ p→C) (e:(p→B)→(¬ p→C)→A:=by first|exact fun h k=>AOps.dec rfl rfl (by first|exact e8|exact dm|exact gV|exact gW|exact gX|exact zz|exact qf|exact iN) h k|exact fun h k=>AOps.gdec rfl rfl rfl rfl rfl (by first|exact e8|exact dm|exact gV|exact gW|exact gX|exact zz|exact qf|exact iN) h k):A:=e ht hf
abbrev ai:=@AOps.cons
abbrev cw:=@AOps.gcons
theorem aE {m n:Nat} (h:Nat.ble m n=true):m≤n:=Nat.le_of_ble_eq_true h
abbrev ag {i:Nat} {rt rh:List Nat} {d:Option Tmp} {x:AV}:DS:=⟨i,rt,rh,d,x,[]⟩
abbrev bv {i:Nat} {rt rh:List Nat} {d:Option Tmp} {x:AV} (w:List (Nat×AObj)):DS:=⟨i,rt,rh,d,x,w⟩
def kopt:Nat→Option Tmp
 | 0=>none
 | n+1=>some n
def af (rt rh:List Nat) (d:Nat) (w:List Nat:=[]):Nat→DS:=fun i=>⟨i,rt,rh,kopt d,.any,w.map fun j=>(j,.box [])⟩
def Cb:Nat→List (Nat→DS)→List DS
 | _,[]=>[]
 | i,f::r=>f i::Cb (i+1) r
theorem bj {n id:Nat} {ops:Array Oper} {Q:bC} {s s2:AS} (es:List DS) (l:List (Nat→DS)) (hk:es.map DS.strip=Cb 0 l) (hg:Good Tryz.prog n ops es s) (hQ:Q .normal s2) (he:cS es s=s2:=by dsimp only [cS,DS.upd,AS.seto,ag,bv]) (hok:ep ops (Cb 0 l)=true:=by kernel_rfl):AWp Tryz.prog n (.region id ops true) Q s:=
 AWp.draws es (Cb 0 l) cE hk hok hg (he▸hQ)
theorem ah {n:Nat} {ops:Array Oper} {e:DS} {s:AS} (h:∀ s0,OpAt Tryz.prog n ops e.i (over s e.rt e.rh s0) (e.upd (over s e.rt e.rh s0)):=by first|exact fun s0=>OpAt.go rfl rfl (by first|exact aA|exact bb|exact fJ|exact cW|exact gh|exact vQ|exact cI|exact sH|exact lW|exact gY|exact BN|exact lh|exact bM|exact wS|exact jE|exact oG|exact wT|exact lf|exact lg|exact mR)|exact fun s0=>OpAt.gskip rfl rfl rfl rfl rfl rfl rfl rfl|exact fun s0=>OpAt.ggo rfl rfl rfl rfl rfl (by first|exact aA|exact bb|exact fJ|exact cW|exact gh|exact vQ|exact cI|exact sH|exact lW|exact gY|exact BN|exact lh|exact bM|exact wS|exact jE|exact oG|exact wT|exact lf|exact lg|exact mR)):e.Ok Tryz.prog n ops s:=DS.ok_over h
abbrev aC:=@DS.ok_over
abbrev aN:=@OpAt.go
abbrev dV:=@OpAt.ggo
theorem bE {p:Prop} (h:p:=by first|assumption|omega|decide|(simp;omega)|(simp [*];done)):p:=h
section
variable {s:AS}
theorem rHa (lv:Nat) (rn:List Nat) (xs ys:List AV) (hl:List (Nat×AObj)) {fn:Func} {r:AV} (h3:bX ys=r) (h1:iK te s fn.results.toList xs:=by repeat' (first|exact trivial|exact mM|exact kZ|refine ⟨?_,?_⟩))
 (hobj:BObjs (inl rn) (idm hl) s.h lv lv (idm hl) hl:=by repeat' (first|exact trivial|exact aK rfl|exact bd rfl rfl|exact iv rfl rfl .row rfl|exact aV rfl rfl|exact bw rfl rfl|exact cJ|exact Ad|exact cT rfl rfl .row (fun _=>rfl) (Nat.le_of_ble_eq_true rfl) (fun _=>rfl)|exact aF (fun _=>rfl)|exact lobj_rown (fun _=>rfl)|exact dF (fun _=>rfl)|refine ar ?_|refine ⟨rfl,⟨_,rfl,?_⟩,?_⟩|refine ⟨?_,?_⟩))
 (h2:LVals (inl rn) (idm hl) s.h lv lv xs ys:=by repeat' (first|exact trivial|exact aK rfl|exact aV rfl rfl|exact bd rfl rfl|exact cJ|exact cT rfl rfl .row (fun _=>rfl) (Nat.le_of_ble_eq_true rfl) (fun _=>rfl)|refine EH ?_|exact Ad|refine ⟨?_,?_⟩))
 (hrn:(rn.all fun c=>Nat.ble 8 c)=true:=by exact rfl) (hp:dY s.h (dS hl)=true:=by exact rfl):Fin te fn (bZ r hl) s:=Fin.retH lv rn hl h1 hobj h2 h3 hrn hp
end
end Go.Proofs.YthnfcmgpedppaaaGreat.Fw
