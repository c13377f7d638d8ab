/- The texts V02, V04a, V04b, V04c, V04d, V04e, L04p, V04f, one behind the other: what the walks and plain laws need; conditions stand with each theorem. -/
import Derived.Test.YthnfcmgpedppaaaGreatCat6
set_option linter.unusedVariables false
set_option linter.unusedSimpArgs false
set_option linter.unusedSectionVars false
set_option maxRecDepth 20000
set_option maxHeartbeats 4000000
namespace Go.Proofs.YthnfcmgpedppaaaGreat.Fw
open Go.RowKit
section
attribute [local irreducible] AWp AOps
theorem or8 (a b:UInt8):((((a.toNat:Int)*2 ^ 8).toNat ||| ((b.toNat:Int)).toNat:Nat):Int)=((a.toNat*256+b.toNat:Nat):Int):=by
 have hb:=b.toNat_lt;have e:((a.toNat:Int)*2 ^ 8).toNat=2 ^ 8*a.toNat:=by omega
 rw [e,Int.toNat_natCast,← Nat.two_pow_add_eq_or_of_lt (by omega:b.toNat<2 ^ 8) a.toNat];omega
theorem qg {n:Nat} {s:AS} {o:Oper} {d:Option Tmp} {t u:TypeId} {x y:Operand} {p q:UInt8} (ho:o.op=.binOp .or t x y u:=by exact rfl) (hx:s.ev x=i64 ((p.toNat:Int)*2 ^ 8):=by exact rfl) (hy:s.ev y=i64 q.toNat:=by exact rfl)
 (hdd:o.dst=d:=by conv=>lhs;whnf) (hd:d.all (Nat.blt · n)=true:=by exact rfl):OpOk Tryz.prog n o s (s.put d (i64 ((p.toNat*256+q.toNat:Nat):Int))):=by
 have hp:=p.toNat_lt;have hq:=q.toNat_lt;rw [← or8];exact vP ho hx hy (by omega) (by omega) hdd hd
def eh (b:Nat) (n:Int):Bool:=decide (n<0) || decide (n ≥ 1*2 ^ b)
theorem DX {n:Int}:eh 4 n=false↔0≤n∧n≤15:=by simp [eh];omega
theorem Bq {n:Int}:eh 16 n=false↔0≤n∧n≤65535:=by simp [eh];omega
theorem zJ {b:Nat} (hb:b≤16):0≤(2:Int) ^ b∧(2:Int) ^ b≤65536:=by
 have h:∀ b:_root_.Fin 17,0≤(2:Int) ^ b.val∧(2:Int) ^ b.val≤65536:=by decide
 exact h ⟨b,by omega⟩
structure Hd where
 id:Int
 resp:Bool
 op:Int
 aa:Bool
 tc:Bool
 rd:Bool
 ra:Bool
 code:Int
abbrev Hd.cells (h:Hd):List AV:=[i64 h.id,tf h.resp,i64 h.op,tf h.aa,tf h.tc,tf h.rd,tf h.ra,i64 h.code]
def Hd.can (h:Hd) (c0 c1 c2 c3:Int):Prop:=(0≤h.id∧h.id≤65535)∧(0≤h.op∧h.op≤15)∧(0≤h.code∧h.code≤15)∧(0≤c0∧c0≤65535)∧(0≤c1∧c1≤65535)∧(0≤c2∧c2≤65535)∧(0≤c3∧c3≤65535)
instance (h:Hd) (c0 c1 c2 c3:Int):Decidable (h.can c0 c1 c2 c3):=by unfold Hd.can;infer_instance
def Hd.flN (h:Hd) (i:Nat):Int:=h.op*2048+h.code+(if 0<i∧h.resp=true then 32768 else 0)+(if 1<i∧h.aa=true then 1024 else 0)+(if 2<i∧h.tc=true then 512 else 0)+(if 3<i∧h.rd=true then 256 else 0)+(if 4<i∧h.ra=true then 128 else 0)
def two (n:Int):List UInt8:=[ct (n / 2 ^ 8),ct n]
def Hd.nums (h:Hd) (c0 c1 c2 c3:Int):List Int:=[h.id,h.flN 5,c0,c1,c2,c3]
def Hd.bytes (h:Hd) (c0 c1 c2 c3:Int):List UInt8:=(h.nums c0 c1 c2 c3).flatMap two
theorem Hd.bytes_length (h:Hd) (c0 c1 c2 c3:Int):(h.bytes c0 c1 c2 c3).length=12:=rfl
theorem pI {h:Hd} {c0 c1 c2 c3:Int}:h.can c0 c1 c2 c3↔eh 16 h.id=false∧(eh 4 h.op=false∧eh 4 h.code=false)∧eh 16 c0=false∧eh 16 c1=false∧eh 16 c2=false∧eh 16 c3=false:=by
 simp only [Bq,DX,Hd.can,and_assoc]
theorem Eu (x k:Nat) (h:x / 2 ^ k%2=0):x ||| 2 ^ k=x+2 ^ k:=by
 have h1:x=2 ^ (k+1)*(x / 2 ^ (k+1))+x%2 ^ k:=by
  have e1:=Nat.div_add_mod x (2 ^ k);have e2:=Nat.div_add_mod (x / 2 ^ k) 2;rw [h,Nat.add_zero,Nat.div_div_eq_div_mul,← Nat.pow_succ] at e2;rw [Nat.pow_succ,Nat.mul_assoc,← Nat.pow_succ,e2];exact e1.symm
 have hlt:x%2 ^ k<2 ^ k:=Nat.mod_lt _ (Nat.two_pow_pos k);generalize hq:x / 2 ^ (k+1)=q at h1;generalize hr:x%2 ^ k=r at h1 hlt;subst h1;have e3:2 ^ (k+1)=2 ^ k*2:=Nat.pow_succ ..;rw [Nat.two_pow_add_eq_or_of_lt (by omega:r<2 ^ (k+1)) q,Nat.or_assoc];have e4:r ||| 2 ^ k=2 ^ k*1+r:=by
  rw [Nat.two_pow_add_eq_or_of_lt hlt 1,Nat.mul_one,Nat.or_comm]
 rw [e4,← Nat.two_pow_add_eq_or_of_lt (by omega:2 ^ k*1+r<2 ^ (k+1)) q,← Nat.two_pow_add_eq_or_of_lt (by omega:r<2 ^ (k+1)) q];omega
theorem qm {x:Int} {k:Nat} {m:Int} (h0:0≤x) (hm:m=2 ^ k) (h:x.toNat / 2 ^ k%2=0):((x.toNat ||| m.toNat:Nat):Int)=x+m:=by
 subst hm;have:((2:Int) ^ k).toNat=2 ^ k:=by
  have:(2:Int) ^ k=((2 ^ k:Nat):Int):=by simp
  rw [this,Int.toNat_natCast]
 rw [this,Eu _ _ h];simp;omega
theorem Az {h:Hd} (hop:0≤h.op∧h.op≤15) (hco:0≤h.code∧h.code≤15):(((h.op*2 ^ 11).toNat ||| h.code.toNat:Nat):Int)=h.op*2048+h.code:=by
 have e:(h.op*2 ^ 11).toNat=2 ^ 11*h.op.toNat:=by omega
 rw [e,← Nat.two_pow_add_eq_or_of_lt (by omega:h.code.toNat<2 ^ 11) h.op.toNat];omega
theorem yz {h:Hd} (hop:0≤h.op∧h.op≤15) (hco:0≤h.code∧h.code≤15):(((h.op*2 ^ 11).toNat ||| h.code.toNat:Nat):Int)=h.flN 0:=by
 rw [Az hop hco];simp [Hd.flN]
theorem Hd.fl_pos {h:Hd} (hop:0≤h.op∧h.op≤15) (hco:0≤h.code∧h.code≤15) (i:Nat):0≤h.flN i∧h.flN i≤65535:=by
 unfold Hd.flN
 repeat' split
 all_goals omega
theorem Hd.fl0 {h:Hd} (hop:0≤h.op∧h.op≤15) (hco:0≤h.code∧h.code≤15) (hb:h.resp=true):(((h.flN 0).toNat ||| (32768:Int).toNat:Nat):Int)=h.flN 1:=by
 rw [qm (k:=15) (hop.1 |> fun _=>(Hd.fl_pos hop hco 0).1) (by decide) (by simp [Hd.flN];omega)];simp [Hd.flN,hb]
theorem Hd.fl1 {h:Hd} (hop:0≤h.op∧h.op≤15) (hco:0≤h.code∧h.code≤15) (hb:h.aa=true):(((h.flN 1).toNat ||| (1024:Int).toNat:Nat):Int)=h.flN 2:=by
 rw [qm (k:=10) (Hd.fl_pos hop hco 1).1 (by decide) (by cases hr:h.resp<;>simp [Hd.flN,hr]<;>omega)];simp [Hd.flN,hb]
theorem Hd.fl2 {h:Hd} (hop:0≤h.op∧h.op≤15) (hco:0≤h.code∧h.code≤15) (hb:h.tc=true):(((h.flN 2).toNat ||| (512:Int).toNat:Nat):Int)=h.flN 3:=by
 rw [qm (k:=9) (Hd.fl_pos hop hco 2).1 (by decide) (by cases hr:h.resp<;>cases ha:h.aa<;>simp [Hd.flN,hr,ha]<;>omega)];simp [Hd.flN,hb]
theorem Hd.fl3 {h:Hd} (hop:0≤h.op∧h.op≤15) (hco:0≤h.code∧h.code≤15) (hb:h.rd=true):(((h.flN 3).toNat ||| (256:Int).toNat:Nat):Int)=h.flN 4:=by
 rw [qm (k:=8) (Hd.fl_pos hop hco 3).1 (by decide) (by cases hr:h.resp<;>cases ha:h.aa<;>cases ht:h.tc<;>simp [Hd.flN,hr,ha,ht]<;>omega)];simp [Hd.flN,hb]
theorem Hd.fl4 {h:Hd} (hop:0≤h.op∧h.op≤15) (hco:0≤h.code∧h.code≤15) (hb:h.ra=true):(((h.flN 4).toNat ||| (128:Int).toNat:Nat):Int)=h.flN 5:=by
 rw [qm (k:=7) (Hd.fl_pos hop hco 4).1 (by decide) (by cases hr:h.resp<;>cases ha:h.aa<;>cases ht:h.tc<;>cases hd:h.rd<;>simp [Hd.flN,hr,ha,ht,hd]<;>omega)];simp [Hd.flN,hb]
theorem Hd.fl_skip {h:Hd} (i:Nat) (hb:(i=0→h.resp=false)∧(i=1→h.aa=false)∧(i=2→h.tc=false)∧(i=3→h.rd=false)∧(i=4→h.ra=false)):h.flN i=h.flN (i+1):=by
 obtain ⟨h0,h1,h2,h3,h4⟩:=hb;rcases i with _|_|_|_|_|i
 · simp [Hd.flN,h0 rfl]
 · simp [Hd.flN,h1 rfl]
 · simp [Hd.flN,h2 rfl]
 · simp [Hd.flN,h3 rfl]
 · simp [Hd.flN,h4 rfl]
 · simp [Hd.flN]
def hB (h:Hd) (c0 c1 c2 c3:Int):List UInt8:=if h.can c0 c1 c2 c3 then h.bytes c0 c1 c2 c3 else []
def hE (h:Hd) (c0 c1 c2 c3:Int):Int:=if h.can c0 c1 c2 c3 then 0 else 1
theorem qE {h:Hd} {c0 c1 c2 c3:Int} (k:h.can c0 c1 c2 c3):hB h c0 c1 c2 c3=h.bytes c0 c1 c2 c3:=if_pos k
theorem Av {h:Hd} {c0 c1 c2 c3:Int} (k:h.can c0 c1 c2 c3):hE h c0 c1 c2 c3=0:=if_pos k
theorem xk {h:Hd} {c0 c1 c2 c3:Int} (k:¬ h.can c0 c1 c2 c3):hB h c0 c1 c2 c3=[]:=if_neg k
theorem xj {h:Hd} {c0 c1 c2 c3:Int} (k:¬ h.can c0 c1 c2 c3):hE h c0 c1 c2 c3=1:=if_neg k
abbrev Hd.flags (h:Hd):List Bool:=[h.resp,h.aa,h.tc,h.rd,h.ra]
abbrev Ad:List Int:=[32768,1024,512,256,128]
theorem Ac (i:Nat):0≤Ad.getD i default∧Ad.getD i default≤32768:=by
 match i with
 | 0|1|2|3|4=>simp
 | i+5=>simp
theorem Hd.fl_on {h:Hd} (hop:0≤h.op∧h.op≤15) (hco:0≤h.code∧h.code≤15) {i:Nat} (hi:i<5) (hb:h.flags.getD i default=true):(((h.flN i).toNat ||| (Ad.getD i default).toNat:Nat):Int)=h.flN (i+1):=by
 match i,hi,hb with
 | 0,_,hb=>exact Hd.fl0 hop hco hb
 | 1,_,hb=>exact Hd.fl1 hop hco hb
 | 2,_,hb=>exact Hd.fl2 hop hco hb
 | 3,_,hb=>exact Hd.fl3 hop hco hb
 | 4,_,hb=>exact Hd.fl4 hop hco hb
theorem Hd.fl_off {h:Hd} {i:Nat} (hi:i<5) (hb:h.flags.getD i default=false):h.flN i=h.flN (i+1):=by
 match i,hi,hb with
 | 0,_,hb=>exact Hd.fl_skip 0 (by simp_all)
 | 1,_,hb=>exact Hd.fl_skip 1 (by simp_all)
 | 2,_,hb=>exact Hd.fl_skip 2 (by simp_all)
 | 3,_,hb=>exact Hd.fl_skip 3 (by simp_all)
 | 4,_,hb=>exact Hd.fl_skip 4 (by simp_all)
theorem tU {l:List Int} {j:Nat} (hj:j<l.length):(l.take (j+1)).flatMap two=(l.take j).flatMap two++[ct (l.getD j default / 2 ^ 8),ct (l.getD j default)]:=by
 rw [List.take_succ_eq_append_getElem hj,List.flatMap_append];simp [two,List.getD_eq_getElem?_getD,List.getElem?_eq_getElem hj]
theorem ES (h:Hd):(if h.resp then (2:Int) ^ 15 else 0)+h.op*2 ^ 11+(if h.aa then (2:Int) ^ 10 else 0)+(if h.tc then (2:Int) ^ 9 else 0)+(if h.rd then (2:Int) ^ 8 else 0)+(if h.ra then (2:Int) ^ 7 else 0)+h.code=h.flN 5:=by
 simp [Hd.flN];omega
theorem zS {h:Hd} {c0 c1 c2 c3:Int} (k:h.can c0 c1 c2 c3) (j:Nat):0≤(h.nums c0 c1 c2 c3).getD j default∧(h.nums c0 c1 c2 c3).getD j default≤65535:=by
 obtain ⟨hid,hop,hco,hc0,hc1,hc2,hc3⟩:=k;have hf:=Hd.fl_pos hop hco 5
 match j with
 | 0=>exact hid
 | 1=>exact hf
 | 2=>exact hc0
 | 3=>exact hc1
 | 4=>exact hc2
 | 5=>exact hc3
 | j+6=>simp [Hd.nums]
theorem sr:∀ l:List Int,(l.flatMap two).length=2*l.length
 | []=>rfl
 | a::l=>by rw [List.flatMap_cons,List.length_append,sr l,List.length_cons];simp [two];omega
theorem Hd.can_of {h:Hd} {c0 c1 c2 c3:Int} (h1:[h.id].any (eh 16)=false) (h2:[h.op,h.code].any (eh 4)=false) (h3:[c0,c1,c2,c3].any (eh 16)=false):h.can c0 c1 c2 c3:=by
 simp only [List.any_cons,List.any_nil,Bool.or_false,Bool.or_eq_false_iff] at h1 h2 h3;exact pI.2 ⟨h1,h2,h3⟩
theorem Hd.not_can1 {h:Hd} {c0 c1 c2 c3:Int} (h1:[h.id].any (eh 16)=true):¬ h.can c0 c1 c2 c3:=fun hc=>by
 obtain ⟨q1,_⟩:=pI.1 hc;simp [q1] at h1
theorem Hd.not_can2 {h:Hd} {c0 c1 c2 c3:Int} (h1:[h.op,h.code].any (eh 4)=true):¬ h.can c0 c1 c2 c3:=fun hc=>by
 obtain ⟨_,⟨q1,q2⟩,_⟩:=pI.1 hc;simp [q1,q2] at h1
theorem Hd.not_can3 {h:Hd} {c0 c1 c2 c3:Int} (h1:[c0,c1,c2,c3].any (eh 16)=true):¬ h.can c0 c1 c2 c3:=fun hc=>by
 obtain ⟨_,_,q1,q2,q3,q4⟩:=pI.1 hc;simp [q1,q2,q3,q4] at h1
theorem ph (n:Int) (b lv:Nat) (hb:b≤16):AC Tryz.prog 157 [i64 n,.fp lv [i64 b]] emp (Ret (tf (eh b n))):=by
 have hp:=zJ hb;refine AC.intro te_ok (fn:=Tryz.f157) ⟨Tryz.func157,rfl,rfl⟩ (aE rfl) ?_;iterate 7 refine ab ?_
 refine am (fun h1_1=>?_) (fun h1_1=>?_)
 ·
  iterate 9 refine ab ?_
  refine ak (0) [_] [_] ?_;simp [eh,h1_1,bX]
 ·
  iterate 3 refine ab ?_
  refine cw rfl rfl rfl rfl rfl (ik b) ?_;refine cw rfl rfl rfl rfl rfl (gX) ?_;iterate 4 refine ab ?_
  refine ak (0) [_] [_] ?_;simp [eh,h1_1,bX]
theorem iH (b:Nat) (l:List Int) (lv:Nat) (hb:b≤16) (hl:l.length≤140737488351232):AC Tryz.prog 143 [i64 b,.fz lv l.length (cl ic l)] emp (Ret (tf (l.any (eh b)))):=by
 refine AC.intro te_ok (fn:=Tryz.f143) ⟨Tryz.func143,rfl,rfl⟩ (aE rfl) ?_;iterate 2 refine ab ?_
 refine ai rfl rfl (aS 100) ?_;iterate 5 refine ab ?_
 refine ai rfl rfl (ca [] [_]) ?_;refine ai rfl rfl (aj (lv) (hc:=(eQ l lv 0 (lv+1) _ (eh b) hl (by simp [AV.oks,AV.ok]) (fun n _=>ph n b _ hb)))) ?_;iterate 3 refine ab ?_
 refine ak (0) [_] [_] ?_;rfl
theorem j0 (h:Hd) (c0 c1 c2 c3:Int):AC Tryz.prog 98 [.agg [i64 h.id,tf h.resp,i64 h.op,tf h.aa,tf h.tc,tf h.rd,tf h.ra,i64 h.code],.agg [i64 c0,i64 c1,i64 c2,i64 c3]] (ao []) (bZ (.tup [.sl 8 0 0 (hB h c0 c1 c2 c3).length 1,i64 (hE h c0 c1 c2 c3)]) [(8,.row (cl bc (hB h c0 c1 c2 c3)) 1 0)]):=by
 refine AC.intro te_ok (fn:=Tryz.f98) ⟨Tryz.func98,rfl,rfl⟩ (aE rfl) ?_;iterate 2 refine ab ?_
 refine ai rfl rfl (aS 100) ?_;refine ai rfl rfl (aS 101) ?_;refine ai rfl rfl (aR (0) bc) ?_;iterate 7 refine ab ?_
 refine ai rfl rfl (bO 202 ic [_] [(_,_)]) ?_;refine AOps.bool rfl rfl (aj (0) (hc:=(iH 16 [h.id] _ (by decide) (by simp)))) (fun h1_3=>?_) (fun h1_3=>?_)
 ·
  iterate 16 refine ab ?_
  refine ai rfl rfl (bD 8 1 bc) ?_;iterate 3 refine ab ?_
  rw [xk (Hd.not_can1 h1_3),xj (Hd.not_can1 h1_3)];refine aQ (0) [8] [_,_] [.sl 8 0 0 _ 1,_] [(8,.row (cl bc _) 1 0)] ?_;rfl
 ·
  iterate 5 refine ab ?_
  refine cw rfl rfl rfl rfl rfl (bO 209 ic [_,_] [(_,_),(_,_)]) ?_;refine AOps.gbool rfl rfl rfl rfl rfl (aj (0) (hc:=(iH 4 [h.op,h.code] _ (by decide) (by simp)))) (fun h1_10=>?_) (fun h1_10=>?_)
  ·
   iterate 9 refine ab ?_
   refine ai rfl rfl (bD 8 1 bc) ?_;iterate 3 refine ab ?_
   rw [xk (Hd.not_can2 h1_10),xj (Hd.not_can2 h1_10)];refine aQ (0) [8] [_,_] [.sl 8 0 0 _ 1,_] [(8,.row (cl bc _) 1 0)] ?_;rfl
  ·
   iterate 2 refine ab ?_
   refine cw rfl rfl rfl rfl rfl (Du) ?_;refine AOps.gbool rfl rfl rfl rfl rfl (aj (0) (hA:=by exact ⟨km rfl,wl rfl rfl rfl (aE rfl) (by decide) rfl,trivial⟩) (hc:=(iH 16 [c0,c1,c2,c3] _ (by decide) (by simp)))) (fun h1_14=>?_) (fun h1_14=>?_)
   ·
    iterate 5 refine ab ?_
    refine ai rfl rfl (bD 8 1 bc) ?_;iterate 3 refine ab ?_
    rw [xk (Hd.not_can3 h1_14),xj (Hd.not_can3 h1_14)];refine aQ (0) [8] [_,_] [.sl 8 0 0 _ 1,_] [(8,.row (cl bc _) 1 0)] ?_;rfl
   ·
    iterate 6 refine ab ?_
    have hcan:h.can c0 c1 c2 c3:=Hd.can_of h1_3 h1_10 h1_14;obtain ⟨hid,hop,hco,hc0,hc1,hc2,hc3⟩:=id hcan;iterate 2 refine ab ?_
    refine ai rfl rfl (ik 11) ?_;iterate 2 refine ab ?_
    refine ai rfl rfl (vP) ?_;iterate 4 refine ab ?_
    refine ai rfl rfl (cb ic [32768,1024,512,256,128] [(_,_),(_,_),(_,_),(_,_),(_,_)]) ?_;refine ai rfl rfl (ap 501) ?_;iterate 15 refine ab ?_
    refine ai rfl rfl (cb tc [_,_,_,_,_] [(_,_),(_,_),(_,_),(_,_),(_,_)]) ?_;iterate 3 refine ab ?_
    refine AWp.loopR (α:=Nat) [6,8,9,47,48,49,50,51,52,53,54,55,56,57] (fun i=>[(47,i64 i),(6,i64 (h.flN i))]) (fun i=>[]) (fun i=>i≤5) (fun i=>5-i) 0 ?_ (Back.mk' (HasT.cons (HasT.cons HasT.nil (h1:=by exact ci (yz hop hco)) )) HasH.nil) ?_
    ·
     decide
    ·
     rintro i hi;iterate 2 refine ab ?_
     refine am (fun h6_0=>?_) (fun h6_0=>?_)
     ·
      iterate 9 refine ab ?_
      refine AOps.bool rfl rfl (sJ) (fun h7_1=>?_) (fun h7_1=>?_)
      ·
       iterate 9 refine ab ?_
       have hfl:=Hd.fl_pos hop hco i;have hm:0≤([32768,1024,512,256,128]:List Int).getD (i:Int).toNat default∧([32768,1024,512,256,128]:List Int).getD (i:Int).toNat default≤32768:=Ac i;iterate 4 refine ab ?_
       refine ai rfl rfl (vP) ?_;iterate 6 refine ab ?_
       refine ⟨i+1,?_,Back.mk' (HasT.cons (HasT.cons HasT.nil (h1:=by exact ci (Hd.fl_on hop hco (by omega) h7_1)) )) HasH.nil,?_⟩
       ·
        omega
       ·
        first|omega|(simp;omega)
      ·
       iterate 13 refine ab ?_
       refine ⟨i+1,?_,Back.mk' (HasT.cons (HasT.cons HasT.nil (h1:=by exact ci (Hd.fl_off (by omega) h7_1)) )) HasH.nil,?_⟩
       ·
        omega
       ·
        first|omega|(simp;omega)
     ·
      iterate 6 refine ab ?_
      obtain rfl:i=5:=by omega
      refine ai rfl rfl (bD 8 1 bc) ?_;iterate 15 refine ab ?_
      refine ai rfl rfl (cb ic [_,_,_,_,_,_] [(_,_),(_,_),(_,_),(_,_),(_,_),(_,_)]) ?_;iterate 3 refine ab ?_
      refine AWp.loopR (α:=Nat×List UInt8×Nat) [10,12,70,71,72,73,74,75,76,77,78,79,80,81] (fun x_=>[(70,i64 (x_.1)),(10,.sl 8 (x_.2.2) 0 (x_.2.1).length 1)]) (fun x_=>[(8,.row (cl bc (x_.2.1)) 1 (x_.2.2))]) (fun x_=>(x_.1)≤6∧(x_.2.1)=((h.nums c0 c1 c2 c3).take (x_.1)).flatMap two) (fun x_=>6-(x_.1)) (0,[],0) ?_ (Back.mk' (HasT.cons (HasT.cons HasT.nil)) (HasH.cons HasH.nil)) ?_
      ·
       exact ⟨by decide,rfl⟩
      ·
       rintro ⟨j,acc,v⟩ hI13;change j≤6∧acc=((h.nums c0 c1 c2 c3).take j).flatMap two at hI13;obtain ⟨hj,hacc⟩:=hI13;refine AWp.as (s':=AS.over _ [10,12,70,71,72,73,74,75,76,77,78,79,80,81] [(70,i64 j),(10,.sl 8 v 0 acc.length 1)] [(8,.row (cl bc acc) 1 v)]) rfl ?_;have hal:acc.length≤1000:=by rw [hacc,sr,List.length_take];omega
       iterate 2 refine ab ?_
       refine am (fun h13_0=>?_) (fun h13_0=>?_)
       ·
        iterate 8 refine ab ?_
        refine ai rfl rfl (sJ) ?_;iterate 5 refine ab ?_
        refine ai rfl rfl (ge 8) ?_;iterate 3 refine ab ?_
        refine ai rfl rfl (bO 1606 bc [_,_] [(_,_),(_,_)]) ?_;iterate 7 refine ab ?_
        refine ⟨(j+1,_,_),?_,Back.mk' (HasT.cons (HasT.cons HasT.nil)) (HasH.cons HasH.nil),?_⟩
        ·
         try dsimp only
         exact ⟨by omega,by rw [tU (by show j<6;omega),hacc];rfl⟩
        ·
         try dsimp only
         first|omega|(simp;omega)
       ·
        iterate 11 refine ab ?_
        obtain rfl:j=6:=by omega
        obtain rfl:acc=h.bytes c0 c1 c2 c3:=hacc;rw [qE hcan,Av hcan];refine aQ (0) [8] [_,_] [.sl 8 0 0 _ 1,_] [(8,.row (cl bc _) 1 0)] ?_;rfl
theorem pi (h:Hd) (c0 c1 c2 c3:Int):AC Tryz.prog 98 [.agg h.cells,.agg [i64 c0,i64 c1,i64 c2,i64 c3]] emp (Ret (.tup [.fz 0 (hB h c0 c1 c2 c3).length (cl bc (hB h c0 c1 c2 c3)),i64 (hE h c0 c1 c2 c3)])):=
 (j0 h c0 c1 c2 c3).fz 0 (wk ⟨pA rfl .row (fun _=>rfl) (by decide) (fun _=>rfl),km rfl,trivial⟩)
theorem fN (n:Int):AC Tryz.prog 129 [i64 n] emp (Ret (tf (decide (0≤n∧n≤65535)))):=by
 refine AC.intro te_ok (fn:=Tryz.f129) ⟨Tryz.func129,rfl,rfl⟩ (aE rfl) ?_;iterate 7 refine ab ?_
 refine am (fun h1_1=>?_) (fun h1_1=>?_)
 ·
  iterate 2 refine ab ?_
  refine cw rfl rfl rfl rfl rfl (iN) ?_;iterate 4 refine ab ?_
  refine ak (0) [_] [_] ?_;simp [bX];omega
 ·
  iterate 7 refine ab ?_
  refine ak (0) [_] [_] ?_;simp [bX];omega
theorem cH (b:Bool) (m:Nat) (hm:m≤16):AC Tryz.prog 89 [tf b,i64 m] emp (Ret (i64 (if b then 2 ^ m else 0))):=by
 have hp:=zJ hm;refine AC.intro te_ok (fn:=Tryz.f89) ⟨Tryz.func89,rfl,rfl⟩ (aE rfl) ?_;iterate 7 refine ab ?_
 refine AOps.bool rfl rfl (aA) (fun h1_0=>?_) (fun h1_0=>?_)
 ·
  iterate 5 refine ab ?_
  refine ai rfl rfl (ik m) ?_;iterate 3 refine ab ?_
  refine ak (0) [_] [_] ?_;simp [bX,h1_0]
 ·
  iterate 8 refine ab ?_
  refine ak (0) [_] [_] ?_;simp [bX,h1_0]
theorem er (h:Hd) (c0 c1 c2 c3:Int):AC Tryz.prog 87 [.agg [i64 h.id,tf h.resp,i64 h.op,tf h.aa,tf h.tc,tf h.rd,tf h.ra,i64 h.code],.agg [i64 c0,i64 c1,i64 c2,i64 c3]] emp (Ret (tf (decide (h.can c0 c1 c2 c3)))):=by
 refine AC.intro te_ok (fn:=Tryz.f87) ⟨Tryz.func87,rfl,rfl⟩ (aE rfl) ?_;iterate 2 refine ab ?_
 refine ai rfl rfl (aS 100) ?_;refine ai rfl rfl (aS 101) ?_;iterate 9 refine ab ?_
 refine AWp.loopR (α:=Nat) [4,6,7,8,9,10,11,12,13,14] (fun i=>[(8,i64 i),(7,.agg (cl ic [c0,c1,c2,c3]))]) (fun i=>[]) (fun i=>i≤4∧∀ k,k<i→0≤([c0,c1,c2,c3]:List Int).getD k default∧([c0,c1,c2,c3]:List Int).getD k default≤65535) (fun i=>4-i) 0 ?_ (Back.mk' (HasT.cons (HasT.cons HasT.nil)) HasH.nil) ?_
 ·
  exact ⟨by omega,fun k hk=>by omega⟩
 ·
  rintro i ⟨hi,hI⟩;iterate 2 refine ab ?_
  refine am (fun h2_0=>?_) (fun h2_0=>?_)
  ·
   iterate 8 refine ab ?_
   refine ai rfl rfl (sJ) ?_;iterate 5 refine ab ?_
   refine AOps.dec rfl rfl (aj (0) (hc:=fN _)) (fun h4_1=>?_) (fun h4_1=>?_)
   ·
    iterate 8 refine ab ?_
    refine ⟨i+1,?_,Back.mk' (HasT.cons (HasT.cons HasT.nil)) HasH.nil,?_⟩
    ·
     refine ⟨by omega,fun k hk=>?_⟩;rcases Nat.lt_or_ge k i with h|h
     · exact hI k h
     · obtain rfl:k=i:=by omega
       exact h4_1
    ·
     first|omega|(simp;omega)
   ·
    iterate 8 refine ab ?_
    refine ak (0) [_] [_] ?_;refine nF ⟨fun hh=>(by cases hh),fun hc=>absurd ?_ h4_1⟩;obtain rfl|rfl|rfl|rfl:i=0∨i=1∨i=2∨i=3:=by omega
    all_goals (simp [Hd.can] at hc ⊢;omega)
  ·
   iterate 8 refine ab ?_
   refine AOps.dec rfl rfl (aj (0) (hc:=fN _)) (fun h7_2=>?_) (fun h7_2=>?_)
   ·
    iterate 3 refine ab ?_
    refine am (fun h7_6=>?_) (fun h7_6=>?_)
    ·
     iterate 4 refine ab ?_
     refine am (fun h7_11=>?_) (fun h7_11=>?_)
     ·
      iterate 4 refine ab ?_
      refine am (fun h7_16=>?_) (fun h7_16=>?_)
      ·
       iterate 4 refine ab ?_
       refine cw rfl rfl rfl rfl rfl (iN) ?_;iterate 4 refine ab ?_
       refine ak (0) [_] [_] ?_;obtain rfl:i=4:=by omega
       have k0:=hI 0 (by omega);have k1:=hI 1 (by omega);have k2:=hI 2 (by omega);have k3:=hI 3 (by omega);simp at k0 k1 k2 k3;exact nF (by simp [Hd.can];omega)
      ·
       iterate 9 refine ab ?_
       refine ak (0) [_] [_] ?_;obtain rfl:i=4:=by omega
       have k0:=hI 0 (by omega);have k1:=hI 1 (by omega);have k2:=hI 2 (by omega);have k3:=hI 3 (by omega);simp at k0 k1 k2 k3;exact nF (by simp [Hd.can];omega)
     ·
      iterate 14 refine ab ?_
      refine ak (0) [_] [_] ?_;obtain rfl:i=4:=by omega
      have k0:=hI 0 (by omega);have k1:=hI 1 (by omega);have k2:=hI 2 (by omega);have k3:=hI 3 (by omega);simp at k0 k1 k2 k3;exact nF (by simp [Hd.can];omega)
    ·
     iterate 19 refine ab ?_
     refine ak (0) [_] [_] ?_;obtain rfl:i=4:=by omega
     have k0:=hI 0 (by omega);have k1:=hI 1 (by omega);have k2:=hI 2 (by omega);have k3:=hI 3 (by omega);simp at k0 k1 k2 k3;exact nF (by simp [Hd.can];omega)
   ·
    iterate 23 refine ab ?_
    refine ak (0) [_] [_] ?_;obtain rfl:i=4:=by omega
    have k0:=hI 0 (by omega);have k1:=hI 1 (by omega);have k2:=hI 2 (by omega);have k3:=hI 3 (by omega);simp at k0 k1 k2 k3;exact nF (by simp [Hd.can];omega)
theorem pa (h:Hd) (c0 c1 c2 c3:Int):AC Tryz.prog 48 [.agg [i64 h.id,tf h.resp,i64 h.op,tf h.aa,tf h.tc,tf h.rd,tf h.ra,i64 h.code],.agg [i64 c0,i64 c1,i64 c2,i64 c3]] (ao []) (bZ (.tup [.sl 8 0 0 (hB h c0 c1 c2 c3).length 1,i64 (hE h c0 c1 c2 c3)]) [(8,.row (cl bc (hB h c0 c1 c2 c3)) 1 0)]):=by
 refine AC.intro te_ok (fn:=Tryz.f48) ⟨Tryz.func48,rfl,rfl⟩ (aE rfl) ?_;iterate 2 refine ab ?_
 refine ai rfl rfl (aS 100) ?_;refine ai rfl rfl (aS 101) ?_;refine ai rfl rfl (aR (0) bc) ?_;iterate 7 refine ab ?_
 refine AOps.dec rfl rfl (aj (0) (hc:=(er h c0 c1 c2 c3))) (fun h1_2=>?_) (fun h1_2=>?_)
 ·
  iterate 5 refine ab ?_
  obtain ⟨hid,hop,hco,hc0,hc1,hc2,hc3⟩:=id h1_2;have b1:0≤(if h.resp then (2:Int) ^ 15 else 0)∧(if h.resp then (2:Int) ^ 15 else 0)≤65536:=by split<;>decide
  have b2:0≤(if h.aa then (2:Int) ^ 10 else 0)∧(if h.aa then (2:Int) ^ 10 else 0)≤65536:=by split<;>decide
  have b3:0≤(if h.tc then (2:Int) ^ 9 else 0)∧(if h.tc then (2:Int) ^ 9 else 0)≤65536:=by split<;>decide
  have b4:0≤(if h.rd then (2:Int) ^ 8 else 0)∧(if h.rd then (2:Int) ^ 8 else 0)≤65536:=by split<;>decide
  have b5:0≤(if h.ra then (2:Int) ^ 7 else 0)∧(if h.ra then (2:Int) ^ 7 else 0)≤65536:=by split<;>decide
  refine bj [ag,ag,ag,ag,ag,ag,ag,ag,ag,ag,ag,ag,ag,ag,ag,ag,ag,ag,ag,ag,ag,ag,ag,ag,ag,ag,ag] [af [2] [100] 15,af [14] [100] 16,af [15] [] 17,af [2] [100] 18,af [17] [100] 19,af [18] [] 20,af [16,19] [] 21,af [2] [100] 22,af [21] [100] 23,af [22] [] 24,af [20,23] [] 25,af [2] [100] 26,af [25] [100] 27,af [26] [] 28,af [24,27] [] 29,af [2] [100] 30,af [29] [100] 31,af [30] [] 32,af [28,31] [] 33,af [2] [100] 34,af [33] [100] 35,af [34] [] 36,af [32,35] [] 37,af [2] [100] 38,af [37] [100] 39,af [36,38] [] 40,af [39] [] 7] rfl ⟨ah,ah,aC fun _=>aN rfl rfl (aj (0) (hc:=(cH h.resp 15 (by decide)))),ah,ah,aC fun _=>aN rfl rfl (ik 11),ah,ah,ah,aC fun _=>aN rfl rfl (aj (0) (hc:=(cH h.aa 10 (by decide)))),ah,ah,ah,aC fun _=>aN rfl rfl (aj (0) (hc:=(cH h.tc 9 (by decide)))),ah,ah,ah,aC fun _=>aN rfl rfl (aj (0) (hc:=(cH h.rd 8 (by decide)))),ah,ah,ah,aC fun _=>aN rfl rfl (aj (0) (hc:=(cH h.ra 7 (by decide)))),ah,ah,ah,ah,ah,trivial⟩ ?_;iterate 2 refine ab ?_
  rw [ES h];refine ai rfl rfl (bD 8 1 bc) ?_;iterate 15 refine ab ?_
  refine ai rfl rfl (bO 611 ic [_,_,_,_,_,_] [(_,_),(_,_),(_,_),(_,_),(_,_),(_,_)]) ?_;iterate 4 refine ab ?_
  refine AWp.loopR (α:=Nat×List UInt8×Nat) [7,9,53,54,55,56,57,58,59,60,61,62,63,64,65,66] (fun x_=>[(53,i64 (x_.1)),(7,.sl 8 (x_.2.2) 0 (x_.2.1).length 1)]) (fun x_=>[(8,.row (cl bc (x_.2.1)) 1 (x_.2.2))]) (fun x_=>(x_.1)≤6∧(x_.2.1)=((h.nums c0 c1 c2 c3).take (x_.1)).flatMap two) (fun x_=>6-(x_.1)) (0,[],0) ?_ (Back.mk' (HasT.cons (HasT.cons HasT.nil)) (HasH.cons HasH.nil)) ?_
  ·
   exact ⟨by decide,rfl⟩
  ·
   rintro ⟨j,acc,v⟩ hI6;change j≤6∧acc=((h.nums c0 c1 c2 c3).take j).flatMap two at hI6;obtain ⟨hj,hacc⟩:=hI6;refine AWp.as (s':=AS.over _ [7,9,53,54,55,56,57,58,59,60,61,62,63,64,65,66] [(53,i64 j),(7,.sl 8 v 0 acc.length 1)] [(8,.row (cl bc acc) 1 v)]) rfl ?_;have hal:acc.length≤1000:=by rw [hacc,sr,List.length_take];omega
   iterate 2 refine ab ?_
   refine am (fun h6_0=>?_) (fun h6_0=>?_)
   ·
    iterate 8 refine ab ?_
    have hj6:j<6:=by simp at h6_0;omega
    iterate 5 refine ab ?_
    have hnn:0≤([h.id,h.flN 5,c0,c1,c2,c3]:List Int).getD (j:Int).toNat default∧([h.id,h.flN 5,c0,c1,c2,c3]:List Int).getD (j:Int).toNat default≤65535:=zS h1_2 j;iterate 2 refine ab ?_
    refine ai rfl rfl (Dv) ?_;iterate 2 refine ab ?_
    refine ai rfl rfl (zD) ?_;refine ab ?_;refine ai rfl rfl (bO 907 bc [_,_] [(_,_),(_,_)]) ?_;iterate 7 refine ab ?_
    refine ⟨(j+1,_,_),?_,Back.mk' (HasT.cons (HasT.cons HasT.nil)) (HasH.cons HasH.nil),?_⟩
    ·
     try dsimp only
     exact ⟨by omega,by rw [tU (by show j<6;omega),hacc];simp only [vy];rfl⟩
    ·
     try dsimp only
     first|omega|(simp;omega)
   ·
    iterate 11 refine ab ?_
    obtain rfl:j=6:=by simp at h6_0;omega
    obtain rfl:acc=h.bytes c0 c1 c2 c3:=hacc;rw [qE h1_2,Av h1_2];refine aQ (0) [8] [_,_] [.sl 8 0 0 _ 1,_] [(8,.row (cl bc _) 1 0)] ?_;rfl
 ·
  iterate 5 refine ab ?_
  refine ai rfl rfl (bD 8 1 bc) ?_;iterate 3 refine ab ?_
  rw [xk h1_2,xj h1_2];refine aQ (0) [8] [_,_] [.sl 8 0 0 _ 1,_] [(8,.row (cl bc _) 1 0)] ?_;rfl
def cV (b:List UInt8) (j:Nat):Int:=((b.getD (2*j) default).toNat*256+(b.getD (2*j+1) default).toNat:Nat)
theorem jk (b:List UInt8) (j:Nat):0≤cV b j∧cV b j≤65535:=by
 unfold cV;have h0:=(b.getD (2*j) default).toNat_lt;have h1:=(b.getD (2*j+1) default).toNat_lt;omega
def cX (f:Int) (k:Nat):Bool:=decide (f / 2 ^ k%2=1)
def dE (b:List UInt8):Int:=if b.length<12 then 20 else if cV b 1 / 16%8=0 then 0 else 21
def dH (b:List UInt8):Hd:=if dE b=0 then ⟨cV b 0,cX (cV b 1) 15,cV b 1 / 2048%16,cX (cV b 1) 10,cX (cV b 1) 9,cX (cV b 1) 8,cX (cV b 1) 7,cV b 1%16⟩ else ⟨0,false,0,false,false,false,false,0⟩
def dC (b:List UInt8) (j:Nat):Int:=if dE b=0 then cV b j else 0
theorem qK {b:List UInt8} (h:b.length<12):dE b=20:=if_pos h
theorem xy {b:List UInt8} (h:¬ b.length<12) (k:¬ cV b 1 / 16%8=0):dE b=21:=by rw [dE,if_neg h,if_neg k]
theorem AI {b:List UInt8} (h:¬ b.length<12) (k:cV b 1 / 16%8=0):dE b=0:=by rw [dE,if_neg h,if_pos k]
theorem vC (x m k:Nat):x &&& (m*2 ^ k)=(x / 2 ^ k &&& m)*2 ^ k:=by
 apply Nat.eq_of_testBit_eq
 intro i;simp only [Nat.testBit_and,Nat.testBit_mul_two_pow,Nat.testBit_div_two_pow];by_cases h:k≤i
 · simp only [h,decide_true,Bool.true_and]
   rw [show i-k+k=i by omega]
 · simp [h]
theorem Db (f:Int) (h:0≤f) (k:Nat) {m:Int} (hm:m=2 ^ k):((f.toNat &&& m.toNat:Nat):Int)=f / 2 ^ k%2*2 ^ k:=by
 subst hm;have e:((2:Int) ^ k).toNat=1*2 ^ k:=by
  have:(2:Int) ^ k=((2 ^ k:Nat):Int):=by simp
  rw [this,Int.toNat_natCast,Nat.one_mul]
 rw [e,vC,Nat.and_one_is_mod];obtain ⟨f,rfl⟩:=Int.eq_ofNat_of_zero_le h;simp
theorem nh (f:Int) (h:0≤f) (k:Nat) {m:Int} (hm:m=2 ^ k):decide (¬ ((f.toNat &&& m.toNat:Nat):Int)=0)=cX f k:=by
 rw [Db f h k hm,cX];have hp:(0:Int)<2 ^ k:=Int.pow_pos (by decide);generalize f / 2 ^ k=y;rcases (show y%2=0∨y%2=1 by omega) with hz|hz
 · simp [hz]
 · have hne:¬ (1:Int)*2 ^ k=0:=by omega
   simp [hz];omega
theorem tK (f:Int) (h:0≤f):((f.toNat &&& (15:Int).toNat:Nat):Int)=f%16:=by
 obtain ⟨f,rfl⟩:=Int.eq_ofNat_of_zero_le h;have:=Nat.and_two_pow_sub_one_eq_mod f 4;simp at this ⊢;omega
theorem DO (f:Int) (h:0≤f):((f.toNat &&& (7:Int).toNat:Nat):Int)=f%8:=by
 obtain ⟨f,rfl⟩:=Int.eq_ofNat_of_zero_le h;have:=Nat.and_two_pow_sub_one_eq_mod f 3;simp at this ⊢;omega
theorem GH (f:Int) (h:0≤f):((f.toNat &&& (1:Int).toNat:Nat):Int)=f%2:=by
 obtain ⟨f,rfl⟩:=Int.eq_ofNat_of_zero_le h;have:=Nat.and_two_pow_sub_one_eq_mod f 1;simp at this ⊢
theorem xN (f:Int) (h:0≤f):((f.toNat &&& (112:Int).toNat:Nat):Int)=f / 16%8*16:=by
 obtain ⟨f,rfl⟩:=Int.eq_ofNat_of_zero_le h;have e:=vC f 7 4;have:=Nat.and_two_pow_sub_one_eq_mod (f / 16) 3;simp at e this ⊢;rw [e,this];omega
theorem DA {ns:List Int} {b:List UInt8} (h:ns.length=6) (k:∀ j,j<6→ns.getD j default=cV b j):ns=[cV b 0,cV b 1,cV b 2,cV b 3,cV b 4,cV b 5]:=by
 match ns,h,k with
 | [a0,a1,a2,a3,a4,a5],_,k=>
  have h0:=k 0 (by omega);have h1:=k 1 (by omega);have h2:=k 2 (by omega);have h3:=k 3 (by omega);have h4:=k 4 (by omega);have h5:=k 5 (by omega);simp at h0 h1 h2 h3 h4 h5;rw [h0,h1,h2,h3,h4,h5]
theorem uH {ns:List Int} {b:List UInt8} {i:Nat} {v:Int} (hl:ns.length=6) (hi:i<6) (hI:∀ k,k<i→ns.getD k default=cV b k) (hv:v=cV b i):∀ k,k<i+1→(ns.set i v).getD k default=cV b k:=by
 intro k hk;rcases Nat.lt_or_ge k i with h|h
 · rw [← hI k h]
   simp [List.getD_eq_getElem?_getD,List.getElem?_set,show i≠k by omega]
 · obtain rfl:k=i:=by omega
   simp [List.getD_eq_getElem?_getD,hl,hi,hv]
theorem CA (n0 f:Int) (h:0≤f):(⟨n0,cX f 15,f / 2048%16,cX f 10,cX f 9,cX f 8,cX f 7,f%16⟩:Hd) =
 ⟨n0,decide (¬ ((f.toNat &&& (32768:Int).toNat:Nat):Int)=0),(((f / 2 ^ 11).toNat &&& (15:Int).toNat:Nat):Int),decide (¬ ((f.toNat &&& (1024:Int).toNat:Nat):Int)=0),decide (¬ ((f.toNat &&& (512:Int).toNat:Nat):Int)=0),decide (¬ ((f.toNat &&& (256:Int).toNat:Nat):Int)=0),decide (¬ ((f.toNat &&& (128:Int).toNat:Nat):Int)=0),((f.toNat &&& (15:Int).toNat:Nat):Int)⟩:=by
 rw [nh f h 15 (by decide),nh f h 10 (by decide),nh f h 9 (by decide),nh f h 8 (by decide),nh f h 7 (by decide),tK f h,tK (f / 2 ^ 11) (by omega)];simp
theorem qX (f:Int) (h:0≤f) (k:Nat):decide ((((f / 2 ^ k).toNat &&& (1:Int).toNat:Nat):Int)=1)=cX f k:=by
 rw [GH (f / 2 ^ k) (Int.ediv_nonneg h (Int.le_of_lt (Int.pow_pos (by decide)))),cX]
theorem F1 (n0 f:Int) (h:0≤f):(⟨n0,cX f 15,f / 2048%16,cX f 10,cX f 9,cX f 8,cX f 7,f%16⟩:Hd) =
 ⟨n0,decide ((((f / 2 ^ 15).toNat &&& (1:Int).toNat:Nat):Int)=1),(((f / 2 ^ 11).toNat &&& (15:Int).toNat:Nat):Int),decide ((((f / 2 ^ 10).toNat &&& (1:Int).toNat:Nat):Int)=1),decide ((((f / 2 ^ 9).toNat &&& (1:Int).toNat:Nat):Int)=1),decide ((((f / 2 ^ 8).toNat &&& (1:Int).toNat:Nat):Int)=1),decide ((((f / 2 ^ 7).toNat &&& (1:Int).toNat:Nat):Int)=1),((f.toNat &&& (15:Int).toNat:Nat):Int)⟩:=by
 rw [qX f h 15,qX f h 10,qX f h 9,qX f h 8,qX f h 7,tK f h,tK (f / 2 ^ 11) (by omega)];simp
theorem xu {b:List UInt8} (h:dE b=0):dH b=⟨cV b 0,cX (cV b 1) 15,cV b 1 / 2048%16,cX (cV b 1) 10,cX (cV b 1) 9,cX (cV b 1) 8,cX (cV b 1) 7,cV b 1%16⟩:=if_pos h
theorem xw {b:List UInt8} (h:¬ dE b=0):dH b=⟨0,false,0,false,false,false,false,0⟩:=if_neg h
theorem gw {b:List UInt8} (h:dE b=0) (j:Nat):dC b j=cV b j:=if_pos h
theorem gy {b:List UInt8} (h:¬ dE b=0) (j:Nat):dC b j=0:=if_neg h
theorem pj (b:List UInt8) (lv:Nat) (hl:b.length≤140737488355328):AC Tryz.prog 131 [.fz lv b.length (cl bc b)] emp (Ret (.tup [.agg (dH b).cells,.agg [i64 (dC b 2),i64 (dC b 3),i64 (dC b 4),i64 (dC b 5)],i64 (dE b)])):=by
 refine AC.intro te_ok (fn:=Tryz.f131) ⟨Tryz.func131,rfl,rfl⟩ (aE rfl) ?_;iterate 2 refine ab ?_
 refine ai rfl rfl (ap 100) ?_;refine ai rfl rfl (ap 101) ?_;iterate 7 refine ab ?_
 refine am (fun h1_2=>?_) (fun h1_2=>?_)
 ·
  iterate 4 refine ab ?_
  refine ai rfl rfl (aL []) ?_;refine ai rfl rfl (cb ic [0,0,0,0] []) ?_;iterate 5 refine ab ?_
  have e:=qK (b:=b) (by omega);rw [xw (by omega),gy (by omega),gy (by omega),gy (by omega),gy (by omega),e];refine ak (0) [_,_,_] [_,_,_] ?_;rfl
 ·
  iterate 5 refine ab ?_
  refine ai rfl rfl (ap 400) ?_;iterate 7 refine ab ?_
  refine AWp.loopR (α:=Nat×List Int) [6,14,15,16,17,18,19,20,21,22,23,24,25,26,27,28,29,30,31,32,33,34] (fun x_=>[(14,i64 (x_.1))]) (fun x_=>[(400,.box (cl ic (x_.2)))]) (fun x_=>(x_.1)≤6∧(x_.2).length=6∧∀ k,k<(x_.1)→(x_.2).getD k default=cV b k) (fun x_=>6-(x_.1)) (0,[0,0,0,0,0,0]) ?_ (Back.mk' (HasT.cons HasT.nil) (HasH.cons HasH.nil)) ?_
  ·
   exact ⟨by omega,rfl,fun k hk=>by omega⟩
  ·
   rintro ⟨i,ns⟩ hI5;change i≤6∧ns.length=6∧∀ k,k<i→ns.getD k default=cV b k at hI5;obtain ⟨hi,hns,hI⟩:=hI5;refine AWp.as (s':=AS.over _ [6,14,15,16,17,18,19,20,21,22,23,24,25,26,27,28,29,30,31,32,33,34] [(14,i64 i)] [(400,.box (cl ic ns))]) rfl ?_;iterate 2 refine ab ?_
   refine am (fun h5_0=>?_) (fun h5_0=>?_)
   ·
    iterate 8 refine ab ?_
    have h0:=(b.getD (2*(i:Int)).toNat default).toNat_lt;have h1:=(b.getD (2*(i:Int)+1).toNat default).toNat_lt;iterate 3 refine ab ?_
    refine bj [ag,ag,ag,ag,ag,ag,ag,ag,ag,ag,ag,ag,ag,ag,ag,ag,ag,bv [(400,_)]] [af [6] [] 18,af [0] [] 19,af [6] [] 20,af [19] [] 21,af [18,20] [] 22,af [21] [] 23,af [22] [] 24,af [23] [] 25,af [0] [] 26,af [6] [] 27,af [26] [] 28,af [27] [] 29,af [25,28] [] 30,af [29] [] 31,af [30] [] 32,af [24,31] [] 33,af [5,17] [400] 34,af [32,33] [400] 0 [400]] rfl ⟨ah,ah,ah,ah,ah,ah,ah,aC fun _=>aN rfl rfl (ik 8),ah,ah,ah,ah,ah,ah,ah,aC fun _=>aN rfl rfl (qg),ah,ah,trivial⟩ ?_;iterate 4 refine ab ?_
    refine ⟨(i+1,_),?_,Back.mk' (HasT.cons HasT.nil) (HasH.cons HasH.nil),?_⟩
    ·
     try dsimp only
     exact ⟨by omega,by simp [hns],uH hns (by omega) hI (by simp only [cV];rfl)⟩
    ·
     try dsimp only
     first|omega|(simp;omega)
   ·
    iterate 6 refine ab ?_
    obtain rfl:i=6:=by omega
    obtain rfl:=DA hns hI;have hf:=jk b 1;iterate 8 refine ab ?_
    refine ai rfl rfl (fo) ?_;refine am (fun h10_2=>?_) (fun h10_2=>?_)
    ·
     iterate 4 refine ab ?_
     refine ai rfl rfl (aL []) ?_;refine ai rfl rfl (cb ic [0,0,0,0] []) ?_;iterate 5 refine ab ?_
     have e:=xy (b:=b) (by omega) (by rw [xN _ hf.1] at h10_2;omega);rw [xw (by omega),gy (by omega),gy (by omega),gy (by omega),gy (by omega),e];refine ak (0) [_,_,_] [_,_,_] ?_;rfl
    ·
     iterate 8 refine ab ?_
     refine ai rfl rfl (fo) ?_;refine ai rfl rfl (gV) ?_;refine ab ?_;refine ai rfl rfl (ge 11) ?_;refine ai rfl rfl (fo) ?_;refine ab ?_;refine ai rfl rfl (fo) ?_;refine ai rfl rfl (gV) ?_;refine ab ?_;refine ai rfl rfl (fo) ?_;refine ai rfl rfl (gV) ?_;refine ab ?_;refine ai rfl rfl (fo) ?_;refine ai rfl rfl (gV) ?_;refine ab ?_;refine ai rfl rfl (fo) ?_;refine ai rfl rfl (gV) ?_;refine ab ?_;refine ai rfl rfl (fo) ?_;refine ai rfl rfl (aL [(_,_),(_,_),(_,_),(_,_),(_,_),(_,_),(_,_),(_,_)]) ?_;refine ai rfl rfl (ap 1323) ?_;iterate 3 refine ab ?_
     refine bj [ag,ag,ag,ag,bv [(100,_)],bv [(101,_)],ag] [af [8] [1323] 66,af [5] [400] 67,af [66] [400] 68,af [67] [400] 69,af [2,65] [100] 0 [100],af [3,68] [101] 0 [101],af [] [] 5] rfl ⟨ah,aC fun _=>aN rfl rfl (Du),aC fun _=>aN rfl rfl (zI),ah,ah,ah,ah,trivial⟩ ?_;refine ab ?_;have e:=AI (b:=b) (by omega) (by rw [xN _ hf.1] at h10_2;omega);rw [xu e,gw e,gw e,gw e,gw e,e];refine ak (0) [_,_,_] [_,_,_] ?_;rw [CA _ _ hf.1];rfl
theorem jz (b:List UInt8) (lv:Nat) (hl:b.length≤140737488355328):AC Tryz.prog 60 [.fz lv b.length (cl bc b)] emp (Ret (.tup [.agg (dH b).cells,.agg [i64 (dC b 2),i64 (dC b 3),i64 (dC b 4),i64 (dC b 5)],i64 (dE b)])):=by
 refine AC.intro te_ok (fn:=Tryz.f60) ⟨Tryz.func60,rfl,rfl⟩ (aE rfl) ?_;iterate 2 refine ab ?_
 refine ai rfl rfl (ap 100) ?_;refine ai rfl rfl (ap 101) ?_;iterate 7 refine ab ?_
 refine am (fun h1_2=>?_) (fun h1_2=>?_)
 ·
  iterate 4 refine ab ?_
  refine ai rfl rfl (aL []) ?_;refine ai rfl rfl (cb ic [0,0,0,0] []) ?_;iterate 5 refine ab ?_
  have e:=qK (b:=b) (by omega);rw [xw (by omega),gy (by omega),gy (by omega),gy (by omega),gy (by omega),e];refine ak (0) [_,_,_] [_,_,_] ?_;rfl
 ·
  iterate 5 refine ab ?_
  refine ai rfl rfl (ap 400) ?_;iterate 7 refine ab ?_
  refine AWp.loopR (α:=Nat×List Int) [6,14,15,16,17,18,19,20,21,22,23,24,25,26,27,28,29,30,31,32,33,34] (fun x_=>[(14,i64 (x_.1))]) (fun x_=>[(400,.box (cl ic (x_.2)))]) (fun x_=>(x_.1)≤6∧(x_.2).length=6∧∀ k,k<(x_.1)→(x_.2).getD k default=cV b k) (fun x_=>6-(x_.1)) (0,[0,0,0,0,0,0]) ?_ (Back.mk' (HasT.cons HasT.nil) (HasH.cons HasH.nil)) ?_
  ·
   exact ⟨by omega,rfl,fun k hk=>by omega⟩
  ·
   rintro ⟨i,ns⟩ hI5;change i≤6∧ns.length=6∧∀ k,k<i→ns.getD k default=cV b k at hI5;obtain ⟨hi,hns,hI⟩:=hI5;refine AWp.as (s':=AS.over _ [6,14,15,16,17,18,19,20,21,22,23,24,25,26,27,28,29,30,31,32,33,34] [(14,i64 i)] [(400,.box (cl ic ns))]) rfl ?_;iterate 2 refine ab ?_
   refine am (fun h5_0=>?_) (fun h5_0=>?_)
   ·
    iterate 8 refine ab ?_
    have h0:=(b.getD (2*(i:Int)).toNat default).toNat_lt;have h1:=(b.getD (2*(i:Int)+1).toNat default).toNat_lt;iterate 3 refine ab ?_
    refine bj [ag,ag,ag,ag,ag,ag,ag,ag,ag,ag,ag,ag,ag,ag,ag,ag,ag,bv [(400,_)]] [af [6] [] 18,af [0] [] 19,af [6] [] 20,af [19] [] 21,af [18,20] [] 22,af [21] [] 23,af [22] [] 24,af [23] [] 25,af [0] [] 26,af [6] [] 27,af [26] [] 28,af [27] [] 29,af [25,28] [] 30,af [29] [] 31,af [30] [] 32,af [24,31] [] 33,af [5,17] [400] 34,af [32,33] [400] 0 [400]] rfl ⟨ah,ah,ah,ah,ah,ah,ah,ah,ah,ah,ah,ah,ah,ah,ah,ah,ah,ah,trivial⟩ ?_;iterate 4 refine ab ?_
    refine ⟨(i+1,_),?_,Back.mk' (HasT.cons HasT.nil) (HasH.cons HasH.nil),?_⟩
    ·
     try dsimp only
     exact ⟨by omega,by simp [hns],uH hns (by omega) hI (by simp only [cV];norm_cast)⟩
    ·
     try dsimp only
     first|omega|(simp;omega)
   ·
    iterate 6 refine ab ?_
    obtain rfl:i=6:=by omega
    obtain rfl:=DA hns hI;have hf:=jk b 1;iterate 8 refine ab ?_
    refine ai rfl rfl (ge 4) ?_;refine ai rfl rfl (fo) ?_;refine am (fun h10_3=>?_) (fun h10_3=>?_)
    ·
     iterate 4 refine ab ?_
     refine ai rfl rfl (aL []) ?_;refine ai rfl rfl (cb ic [0,0,0,0] []) ?_;iterate 5 refine ab ?_
     have e:=xy (b:=b) (by omega) (by rw [DO _ (by omega)] at h10_3;omega);rw [xw (by omega),gy (by omega),gy (by omega),gy (by omega),gy (by omega),e];refine ak (0) [_,_,_] [_,_,_] ?_;rfl
    ·
     iterate 8 refine ab ?_
     refine ai rfl rfl (ge 15) ?_;refine ai rfl rfl (fo) ?_;refine ai rfl rfl (dm) ?_;refine ab ?_;refine ai rfl rfl (ge 11) ?_;refine ai rfl rfl (fo) ?_;refine ab ?_;refine ai rfl rfl (ge 10) ?_;refine ai rfl rfl (fo) ?_;refine ai rfl rfl (dm) ?_;refine ab ?_;refine ai rfl rfl (ge 9) ?_;refine ai rfl rfl (fo) ?_;refine ai rfl rfl (dm) ?_;refine ab ?_;refine ai rfl rfl (ge 8) ?_;refine ai rfl rfl (fo) ?_;refine ai rfl rfl (dm) ?_;refine ab ?_;refine ai rfl rfl (ge 7) ?_;refine ai rfl rfl (fo) ?_;refine ai rfl rfl (dm) ?_;refine ab ?_;refine ai rfl rfl (fo) ?_;refine ai rfl rfl (aL [(_,_),(_,_),(_,_),(_,_),(_,_),(_,_),(_,_),(_,_)]) ?_;refine ai rfl rfl (ap 1328) ?_;iterate 3 refine ab ?_
     refine bj [ag,ag,ag,ag,ag,ag,ag,ag,ag,ag,bv [(100,_)],bv [(101,_)],ag] [af [8] [1328] 72,af [5] [400] 73,af [72] [400] 74,af [5] [400] 75,af [74] [400] 76,af [5] [400] 77,af [76] [400] 78,af [5] [400] 79,af [78] [400] 80,af [73,75,77,79] [] 81,af [2,71] [100] 0 [100],af [3,80] [101] 0 [101],af [] [] 5] rfl ⟨ah,ah,ah,ah,ah,ah,ah,ah,ah,aC fun _=>aN rfl rfl (cb ic [_,_,_,_] [(_,_),(_,_),(_,_),(_,_)]),ah,ah,ah,trivial⟩ ?_;refine ab ?_;have e:=AI (b:=b) (by omega) (by rw [DO _ (by omega)] at h10_3;omega);rw [xu e,gw e,gw e,gw e,gw e,e];refine ak (0) [_,_,_] [_,_,_] ?_;rw [F1 _ _ hf.1];rfl
end
section
attribute [local irreducible] AWp AOps
def nD (h:Hdr):Hd:=⟨h.id,h.resp,h.op,h.aa,h.tc,h.rd,h.ra,h.code⟩
def shB (n:Int):Bool:=decide (0≤n)&&decide (n≤65535)
def wB (n:Int):Bool:=decide (n<0) || decide (65536≤n)
theorem D2 (n:Int):wB n=!shB n:=by
 unfold wB shB;by_cases h1:n<0<;>by_cases h2:65536≤n<;>simp [h1,h2]<;>omega
def rb (l:List Int):Bool:=!(l.any wB)
theorem iL (a b:Int):rb [a,b]=(shB a&&shB b):=by
 simp [rb,D2]
def qOk (q:Qu):Bool:=bm q.nm&&rb [q.ty,q.cs]
def rOk (r:Rr):Bool:=bm r.nm&&rb [r.ty,r.cs]&&!decide (r.ttl<0)&&!decide (4294967296≤r.ttl)&&fA r.ty r.da
def Msg.rrs (m:Msg):List Rr:=m.an++m.au++m.ad
def hdO (m:Msg):Prop:=(nD m.h).can m.qs.length m.an.length m.au.length m.ad.length
instance (m:Msg):Decidable (hdO m):=by unfold hdO;infer_instance
def jO (m:Msg):Bool:=decide (hdO m)&&!(m.qs.any fun q=>!qOk q)&&!(m.rrs.any fun r=>!rOk r)
theorem j8 {α:Type} {p:α→Bool} {l:List α}:(!(l.any fun x=>!p x))=l.all p:=by
 induction l with
 | nil=>rfl
 | cons a l ih=>rw [List.any_cons,List.all_cons,← ih,Bool.not_or,Bool.not_not]
theorem wz (t:Int) (b:List UInt8) (lv:Nat) (h:b.length≤140737488351232):AC Tryz.prog 74 [i64 t,.fz lv b.length (cl bc b)] emp (Ret (tf (fA t b))):=by
 by_cases h6:t=6
 · subst h6;exact Bc b lv h
 · rw [c7 h6];exact oV t b lv h h6
theorem d8 {α:Type} [Inhabited α] {L:List (List α)} {i:Nat} (h:i<L.length):(L.take (i+1)).flatten=(L.take i).flatten++L.getD i default:=by
 rw [bK h];simp
theorem d0 {α:Type} (L:List (List α)) (i:Nat):(L.take i).flatten.length≤L.flatten.length:=by
 have:L.flatten=(L.take i).flatten++(L.drop i).flatten:=by rw [← List.flatten_append,List.take_append_drop]
 rw [this,List.length_append];omega
theorem yV (m:Nat) (h:m*64≤140737488351232):AC Tryz.prog 145 [.v (.slice none 0 0),i64 m] (ao []) (bZ (.sl 8 0 0 0 5) [(8,.row (cl rrc []) 5 0)]):=by
 refine AC.intro te_ok (fn:=Tryz.f145) ⟨Tryz.func145,rfl,rfl⟩ (aE rfl) ?_;iterate 8 refine ab ?_
 refine am (fun h1_1=>?_) (fun h1_1=>?_)
 ·
  exfalso;omega
 ·
  iterate 8 refine ab ?_
  refine ai rfl rfl (rO) ?_;iterate 9 refine ab ?_
  refine am (fun h4_1=>?_) (fun h4_1=>?_)
  ·
   iterate 5 refine ab ?_
   refine ai rfl rfl (rO) ?_;refine ai rfl rfl (zC) ?_;refine ab ?_;refine ai rfl rfl (vT 8 m rrc (esz:=5)) ?_;iterate 11 refine ab ?_
   refine aQ (0) [] [_] [.sl 8 0 0 0 5] [(8,.row (cl rrc []) 5 0)] ?_;rfl
  ·
   iterate 7 refine ab ?_
   refine AOps.weak (Weak.niltmp 4 8 5 rrc) ?_;iterate 2 refine ab ?_
   refine aQ (0) [] [_] [.sl 8 0 0 0 5] [(8,.row (cl rrc []) 5 0)] ?_;rfl
theorem oX (L:List (List Rr)) (lv:Nat) (hL:L.length≤1000) (h:L.flatten.length*64≤140737488351232):AC Tryz.prog 102 [.fz lv L.length (cl (lc 0 rrc) L)] emp (Ret (.fz 0 L.flatten.length (cl rrc L.flatten))):=by
 refine AC.intro te_ok (fn:=Tryz.f102) ⟨Tryz.func102,rfl,rfl⟩ (aE rfl) ?_;iterate 16 refine ab ?_
 refine AWp.loopR (α:=Nat) [3,5,11,12,13,14,15,16,17,18,19,20,21,22] (fun i=>[(11,i64 i),(3,i64 (L.take i).flatten.length)]) (fun i=>[]) (fun i=>i≤L.length) (fun i=>L.length-i) 0 ?_ (Back.mk' (HasT.cons (HasT.cons HasT.nil)) HasH.nil) ?_
 ·
  exact Nat.zero_le _
 ·
  rintro i hi;have hle:=d0 L i;have hle2:=d0 L (i+1);iterate 2 refine ab ?_
  refine am (fun h3_0=>?_) (fun h3_0=>?_)
  ·
   iterate 14 refine ab ?_
   have hst:=d8 (L:=L) (i:=i) (by omega);rw [hst,List.length_append] at hle2;have hgl:(L[i]?.getD default).length=(L.getD i default).length:=by rw [← List.getD_eq_getElem?_getD]
   have hgt:(L.getD (i:Int).toNat default).length=(L.getD i default).length:=rfl;iterate 9 refine ab ?_
   refine am (fun h6_1=>?_) (fun h6_1=>?_)
   ·
    exfalso;omega
   ·
    iterate 7 refine ab ?_
    refine ⟨i+1,?_,Back.mk' (HasT.cons (HasT.cons HasT.nil (h1:=by exact ci (by rw [d8 (by omega),List.length_append];rfl)) )) HasH.nil,?_⟩
    ·
     first|assumption|omega|decide|(simp;omega)|(simp [*];done)
    ·
     first|omega|(simp;omega)
  ·
   iterate 6 refine ab ?_
   obtain rfl:i=L.length:=by omega
   rw [List.take_length];refine ab ?_;refine ai rfl rfl (ay (0) [] [(8,10018)] [(_,_)] (hc:=(yV L.flatten.length h))) ?_;iterate 10 refine ab ?_
   refine AWp.loopR (α:=Nat×List Rr×Nat) [6,8,27,28,29,30,31,32,33,34] (fun x_=>[(27,i64 (x_.1)),(6,.sl 10018 (x_.2.2) 0 (x_.2.1).length 5)]) (fun x_=>[(10018,.row (cl rrc (x_.2.1)) 5 (x_.2.2))]) (fun x_=>(x_.1)≤L.length∧(x_.2.1)=(L.take (x_.1)).flatten) (fun x_=>L.length-(x_.1)) (0,[],0) ?_ (Back.mk' (HasT.cons (HasT.cons HasT.nil)) (HasH.cons HasH.nil)) ?_
   ·
    exact ⟨Nat.zero_le _,rfl⟩
   ·
    rintro ⟨i,acc,v⟩ hI11;change i≤L.length∧acc=(L.take i).flatten at hI11;obtain ⟨hi,ha⟩:=hI11;refine AWp.as (s':=AS.over _ [6,8,27,28,29,30,31,32,33,34] [(27,i64 i),(6,.sl 10018 v 0 acc.length 5)] [(10018,.row (cl rrc acc) 5 v)]) rfl ?_;have hle:=d0 L i;have hle2:=d0 L (i+1);have hal:=congrArg List.length ha;iterate 2 refine ab ?_
    refine am (fun h11_0=>?_) (fun h11_0=>?_)
    ·
     iterate 13 refine ab ?_
     have hst:=d8 (L:=L) (i:=i) (by omega);rw [hst,List.length_append] at hle2;have hgl:(L[i]?.getD default).length=(L.getD i default).length:=by rw [← List.getD_eq_getElem?_getD]
     have hgt:(L.getD (i:Int).toNat default).length=(L.getD i default).length:=rfl;iterate 9 refine ab ?_
     refine ⟨(i+1,acc++L.getD i default,v+1),?_,Back.mk' (HasT.cons (HasT.cons HasT.nil)) (HasH.cons HasH.nil),?_⟩
     ·
      try dsimp only
      exact ⟨by omega,by rw [ha,d8 (by omega)]⟩
     ·
      try dsimp only
      first|omega|(simp;omega)
    ·
     iterate 10 refine ab ?_
     obtain rfl:i=L.length:=by omega
     rw [List.take_length] at ha;subst ha;refine ak (0) [_] [_] ?_;rfl
theorem tz (n:Int):AC Tryz.prog 156 [i64 n] emp (Ret (tf (wB n))):=by
 refine AC.intro te_ok (fn:=Tryz.f156) ⟨Tryz.func156,rfl,rfl⟩ (aE rfl) ?_;iterate 7 refine ab ?_
 refine am (fun h1_1=>?_) (fun h1_1=>?_)
 ·
  iterate 7 refine ab ?_
  refine ak (0) [_] [_] ?_;exact congrArg tf (by simp [wB, *])
 ·
  iterate 2 refine ab ?_
  refine cw rfl rfl rfl rfl rfl (gX) ?_;iterate 4 refine ab ?_
  refine ak (0) [_] [_] ?_;exact congrArg tf (by simp [wB, *])
theorem qS (l:List Int) (lv:Nat) (hl:l.length≤140737488351232):AC Tryz.prog 141 [.fz lv l.length (cl ic l)] emp (Ret (tf (rb l))):=by
 refine AC.intro te_ok (fn:=Tryz.f141) ⟨Tryz.func141,rfl,rfl⟩ (aE rfl) ?_;iterate 7 refine ab ?_
 refine ai rfl rfl (aj (lv) (hc:=(eQ l lv 0 (lv+1) [] wB hl rfl (fun n _=>tz n)))) ?_;iterate 4 refine ab ?_
 refine ak (0) [_] [_] ?_;rfl
theorem tB (q:Qu) (h:q.nm.length≤140737488351232):AC Tryz.prog 140 [.agg (quc q)] emp (Ret (tf (!qOk q))):=by
 refine AC.intro te_ok (fn:=Tryz.f140) ⟨Tryz.func140,rfl,rfl⟩ (aE rfl) ?_;iterate 2 refine ab ?_
 refine ai rfl rfl (aS 100) ?_;iterate 6 refine ab ?_
 refine AOps.bool rfl rfl (aj (0) (hc:=(cu q.nm (by omega)))) (fun h1_2=>?_) (fun h1_2=>?_)
 ·
  iterate 6 refine ab ?_
  refine cw rfl rfl rfl rfl rfl (bO 209 ic [_,_] [(_,_),(_,_)]) ?_;refine cw rfl rfl rfl rfl rfl (aj (0) (hc:=(qS [q.ty,q.cs] 1 (by simp)))) ?_;iterate 5 refine ab ?_
  refine ak (0) [_] [_] ?_;exact congrArg tf (by simp [qOk, *])
 ·
  iterate 13 refine ab ?_
  refine ak (0) [_] [_] ?_;exact congrArg tf (by simp [qOk, *])
theorem tA (r:Rr) (h:r.nm.length≤140737488351232) (hd:r.da.length≤140737488351232):AC Tryz.prog 142 [.agg (rrc r)] emp (Ret (tf (!rOk r))):=by
 refine AC.intro te_ok (fn:=Tryz.f142) ⟨Tryz.func142,rfl,rfl⟩ (aE rfl) ?_;iterate 2 refine ab ?_
 refine ai rfl rfl (aS 100) ?_;iterate 6 refine ab ?_
 refine AOps.bool rfl rfl (aj (0) (hc:=(cu r.nm (by omega)))) (fun h1_2=>?_) (fun h1_2=>?_)
 ·
  iterate 6 refine ab ?_
  refine cw rfl rfl rfl rfl rfl (bO 209 ic [_,_] [(_,_),(_,_)]) ?_;refine AOps.gbool rfl rfl rfl rfl rfl (aj (0) (hc:=(qS [r.ty,r.cs] 1 (by simp)))) (fun h1_10=>?_) (fun h1_10=>?_)
  ·
   iterate 5 refine ab ?_
   refine am (fun h1_16=>?_) (fun h1_16=>?_)
   ·
    iterate 17 refine ab ?_
    refine ak (0) [_] [_] ?_;exact congrArg tf (by simp [rOk, *])
   ·
    iterate 4 refine ab ?_
    refine am (fun h1_21=>?_) (fun h1_21=>?_)
    ·
     iterate 12 refine ab ?_
     refine ak (0) [_] [_] ?_;exact congrArg tf (by simp [rOk, *])
    ·
     iterate 6 refine ab ?_
     refine cw rfl rfl rfl rfl rfl (aj (0) (hc:=(wz r.ty r.da _ hd))) ?_;iterate 5 refine ab ?_
     refine ak (0) [_] [_] ?_;exact congrArg tf (by simp [rOk, *])
  ·
   iterate 23 refine ab ?_
   refine ak (0) [_] [_] ?_;exact congrArg tf (by simp [rOk, *])
 ·
  iterate 31 refine ab ?_
  refine ak (0) [_] [_] ?_;exact congrArg tf (by simp [rOk, *])
end
section
attribute [local irreducible] AWp AOps
def oB (m:Msg):Prop:=(∀ x∈m.qs,x.nm.length≤140737488351232)∧∀ x∈m.rrs,x.nm.length≤140737488351232
theorem t6 {h:Hd} {c0 c1 c2 c3:Int}:hE h c0 c1 c2 c3=0↔h.can c0 c1 c2 c3:=by
 unfold hE;split<;>simp [*]
theorem eM {m:Msg} (h:hdO m):m.qs.length≤65535∧m.an.length≤65535∧m.au.length≤65535∧m.ad.length≤65535:=by
 obtain ⟨_,_,_,a,b,c,d⟩:=h;exact ⟨by omega,by omega,by omega,by omega⟩
theorem mK (m:Msg):[m.an,m.au,m.ad].flatten=m.rrs:=by simp [Msg.rrs]
theorem zu {m:Msg} (h:gp m):∀ x∈m.rrs,x.da.length≤140737488351232:=by
 obtain ⟨_,h1,h2,h3⟩:=h;intro x hx;simp only [Msg.rrs,List.mem_append] at hx;rcases hx with (hx|hx)|hx
 · exact h1.2 x hx
 · exact h2.2 x hx
 · exact h3.2 x hx
theorem qW (l:List (Qu)) (lv lv' lw:Nat) (caps:List AV) (g:Qu→Bool) {fid:Nat} (hl:l.length≤140737488351232) (hcaps:AV.oks lw caps=true) (hg:∀ x∈l,AC Tryz.prog fid (.agg (quc x)::caps) emp (Ret (tf (g x)))):AC Tryz.prog 155 [.fz lv l.length (cl (quc) l),.fn (.func fid) [] caps] emp (Ret (i64 (idx g l))):=by
 refine AC.intro te_ok (fn:=Tryz.f155) ⟨Tryz.func155,rfl,rfl⟩ (aE rfl) ?_;iterate 12 refine ab ?_
 refine AWp.loopR (α:=Nat) [4,5,8,9,10,11,12,13,14,15,16,17,18] (fun i=>[(8,i64 i)]) (fun i=>[]) (fun i=>i≤l.length∧∀ x∈l.take i,g x=false) (fun i=>l.length-i) 0 ?_ (Back.mk' (HasT.cons HasT.nil) HasH.nil) ?_
 ·
  exact ⟨Nat.zero_le _,by simp⟩
 ·
  rintro i ⟨hi,hI⟩;iterate 2 refine ab ?_
  refine am (fun h2_0=>?_) (fun h2_0=>?_)
  ·
   iterate 18 refine ab ?_
   refine AOps.bool rfl rfl (aj (lv+lv'+lw) (hA:=by exact kl (l:=lw) (dG rfl (by first|rfl|exact fG (by omega)|(simp [AV.ok,AV.oks];done))) (by omega) hcaps) (hc:=(hg _ (dT (i:=i) (by omega))))) (fun h4_5=>?_) (fun h4_5=>?_)
   ·
    iterate 8 refine ab ?_
    refine ak (0) [_] [_] ?_;exact ci (qB (by omega) hI h4_5).symm
   ·
    iterate 7 refine ab ?_
    refine ⟨i+1,?_,Back.mk' (HasT.cons HasT.nil) HasH.nil,?_⟩
    ·
     exact ⟨by omega,n6 (by omega) hI h4_5⟩
    ·
     first|omega|(simp;omega)
  ·
   iterate 9 refine ab ?_
   refine ak (0) [_] [_] ?_;exact ci (kj (by rwa [List.take_of_length_le (by omega)] at hI)).symm
theorem nu (l:List (Qu)) (lv lv' lw:Nat) (caps:List AV) (g:Qu→Bool) {fid:Nat} (hl:l.length≤140737488351232) (hcaps:AV.oks lw caps=true) (hg:∀ x∈l,AC Tryz.prog fid (.agg (quc x)::caps) emp (Ret (tf (g x)))):AC Tryz.prog 139 [.fz lv l.length (cl (quc) l),.fn (.func fid) [] caps] emp (Ret (tf (l.any g))):=by
 refine AC.intro te_ok (fn:=Tryz.f139) ⟨Tryz.func139,rfl,rfl⟩ (aE rfl) ?_;iterate 8 refine ab ?_
 refine ai rfl rfl (aj (lv+lv'+lw) (hA:=by exact ⟨dG rfl (fG (by omega)),dG (b:=.fn (.func fid) [] caps) rfl (by simp [AV.ok,AV.oks,AV.oks_mono (show lw≤lv+lv'+lw by omega) hcaps]),trivial⟩) (hc:=(qW l lv lv' lw caps g hl hcaps hg))) ?_;refine ai rfl rfl (gX) ?_;iterate 3 refine ab ?_
 refine ak (0) [_] [_] ?_;exact congrArg tf py
theorem qV (l:List (Rr)) (lv lv' lw:Nat) (caps:List AV) (g:Rr→Bool) {fid:Nat} (hl:l.length≤140737488351232) (hcaps:AV.oks lw caps=true) (hg:∀ x∈l,AC Tryz.prog fid (.agg (rrc x)::caps) emp (Ret (tf (g x)))):AC Tryz.prog 73 [.fz lv l.length (cl (rrc) l),.fn (.func fid) [] caps] emp (Ret (i64 (idx g l))):=by
 refine AC.intro te_ok (fn:=Tryz.f73) ⟨Tryz.func73,rfl,rfl⟩ (aE rfl) ?_;iterate 12 refine ab ?_
 refine AWp.loopR (α:=Nat) [4,5,8,9,10,11,12,13,14,15,16,17,18] (fun i=>[(8,i64 i)]) (fun i=>[]) (fun i=>i≤l.length∧∀ x∈l.take i,g x=false) (fun i=>l.length-i) 0 ?_ (Back.mk' (HasT.cons HasT.nil) HasH.nil) ?_
 ·
  exact ⟨Nat.zero_le _,by simp⟩
 ·
  rintro i ⟨hi,hI⟩;iterate 2 refine ab ?_
  refine am (fun h2_0=>?_) (fun h2_0=>?_)
  ·
   iterate 18 refine ab ?_
   refine AOps.bool rfl rfl (aj (lv+lv'+lw) (hA:=by exact kl (l:=lw) (dG rfl (by first|rfl|exact fG (by omega)|(simp [AV.ok,AV.oks];done))) (by omega) hcaps) (hc:=(hg _ (dT (i:=i) (by omega))))) (fun h4_5=>?_) (fun h4_5=>?_)
   ·
    iterate 8 refine ab ?_
    refine ak (0) [_] [_] ?_;exact ci (qB (by omega) hI h4_5).symm
   ·
    iterate 7 refine ab ?_
    refine ⟨i+1,?_,Back.mk' (HasT.cons HasT.nil) HasH.nil,?_⟩
    ·
     exact ⟨by omega,n6 (by omega) hI h4_5⟩
    ·
     first|omega|(simp;omega)
  ·
   iterate 9 refine ab ?_
   refine ak (0) [_] [_] ?_;exact ci (kj (by rwa [List.take_of_length_le (by omega)] at hI)).symm
theorem cA (l:List (Rr)) (lv lv' lw:Nat) (caps:List AV) (g:Rr→Bool) {fid:Nat} (hl:l.length≤140737488351232) (hcaps:AV.oks lw caps=true) (hg:∀ x∈l,AC Tryz.prog fid (.agg (rrc x)::caps) emp (Ret (tf (g x)))):AC Tryz.prog 36 [.fz lv l.length (cl (rrc) l),.fn (.func fid) [] caps] emp (Ret (tf (l.any g))):=by
 refine AC.intro te_ok (fn:=Tryz.f36) ⟨Tryz.func36,rfl,rfl⟩ (aE rfl) ?_;iterate 8 refine ab ?_
 refine ai rfl rfl (aj (lv+lv'+lw) (hA:=by exact ⟨dG rfl (fG (by omega)),dG (b:=.fn (.func fid) [] caps) rfl (by simp [AV.ok,AV.oks,AV.oks_mono (show lw≤lv+lv'+lw by omega) hcaps]),trivial⟩) (hc:=(qV l lv lv' lw caps g hl hcaps hg))) ?_;refine ai rfl rfl (gX) ?_;iterate 3 refine ab ?_
 refine ak (0) [_] [_] ?_;exact congrArg tf py
theorem m9 (m:Msg):AC Tryz.prog 99 [.agg (dn m)] emp (Ret (.agg [i64 m.qs.length,i64 m.an.length,i64 m.au.length,i64 m.ad.length])):=by
 refine AC.intro te_ok (fn:=Tryz.f99) ⟨Tryz.func99,rfl,rfl⟩ (aE rfl) ?_;iterate 2 refine ab ?_
 refine ai rfl rfl (aS 100) ?_;refine ai rfl rfl (ap 101) ?_;iterate 15 refine ab ?_
 refine ai rfl rfl (cb ic [_,_,_,_] [(_,_),(_,_),(_,_),(_,_)]) ?_;iterate 3 refine ab ?_
 refine ak (0) [_] [_] ?_;rfl
theorem wt (m:Msg) (h:gp m) (hn:oB m):AC Tryz.prog 97 [.agg (dn m)] emp (Ret (tf (jO m))):=by
 obtain ⟨q1,q2,q3,q4⟩:=id h;obtain ⟨n1,n2⟩:=id hn;have q5:=zu h;refine AC.intro te_ok (fn:=Tryz.f97) ⟨Tryz.func97,rfl,rfl⟩ (aE rfl) ?_;iterate 2 refine ab ?_
 refine ai rfl rfl (aS 100) ?_;iterate 4 refine ab ?_
 refine bj [ag,ag,ag,ag,ag,ag,ag,ag,ag,ag] [af [1] [100] 8,af [7] [100] 9,af [1] [100] 10,af [9] [] 11,af [8,10] [] 12,af [11] [] 7,af [6] [] 13,af [6] [] 14,af [12] [] 4,af [13] [] 5] rfl ⟨ah,ah,ah,aC fun _=>aN rfl rfl (aj (0) (hc:=(m9 m))),aC fun _=>aN rfl rfl (aj (0) (hc:=(pi (nD m.h) m.qs.length m.an.length m.au.length m.ad.length))),ah,ah,ah,ah,ah,trivial⟩ ?_;iterate 3 refine ab ?_
 refine am (fun h2_1=>?_) (fun h2_1=>?_)
 ·
  iterate 7 refine ab ?_
  have hO:¬ hdO m:=fun e=>h2_1 (t6.2 e)
  refine ak (0) [_] [_] ?_;exact congrArg tf (by simp [jO,hO])
 ·
  iterate 6 refine ab ?_
  have hO:hdO m:=t6.1 (by omega);obtain ⟨k1,k2,k3,k4⟩:=eM hO;iterate 2 refine ab ?_
  refine AOps.bool rfl rfl (aj (0) (hc:=(nu m.qs 0 0 0 [] (fun q=>!qOk q) (by omega) rfl (fun q hq=>tB q (n1 q hq))))) (fun h4_2=>?_) (fun h4_2=>?_)
  ·
   iterate 7 refine ab ?_
   refine ak (0) [_] [_] ?_;exact congrArg tf (by rw [jO,h4_2];simp)
  ·
   iterate 15 refine ab ?_
   refine ai rfl rfl (bO 806 (lc 0 rrc) [m.an,m.au,m.ad] [(_,_),(_,_),(_,_)]) ?_;refine ai rfl rfl (aj (0) (hc:=(oX [m.an,m.au,m.ad] 1 (by simp) (by simp;omega)))) ?_;refine ab ?_;refine ai rfl rfl (aj (0) (hc:=(cA [m.an,m.au,m.ad].flatten 0 0 0 [] (fun r=>!rOk r) (by simp;omega) rfl (fun r hr=>tA r (n2 r (by rw [← mK];exact hr)) (q5 r (by rw [← mK];exact hr)))))) ?_;iterate 4 refine ab ?_
   refine ak (0) [_] [_] ?_;rw [mK];exact congrArg tf (by rw [jO,h4_2,decide_eq_true hO];simp)
end
section
attribute [local irreducible] AWp AOps
def Nm (ls:List (List UInt8)):Prop:=GoodN ls∧(aw ls).length≤255
theorem AU {n:List UInt8} (h:bm n=true):∃ ls,Nm ls∧n=aw ls:=by
 obtain ⟨ls,g,e,hl⟩:=d9.1 h;exact ⟨ls,⟨g,hl⟩,e⟩
theorem Nm.lab {ls:List (List UInt8)} (h:Nm ls):aP (aw ls)=ls:=dr h.1 h.2
theorem Nm.cnt {ls:List (List UInt8)} (h:Nm ls):dt (aw ls)=ls.length:=by rw [dt,h.lab]
theorem Nm.par {a:List (List UInt8)} (ha:Nm a):sP (aw a)=(if a=[] then [] else aw (a.drop 1))∧qC (aw a)=decide (a≠[]):=by
 have h:qC (aw a)=decide (a≠[]):=by rw [qC,ha.lab]
 refine ⟨?_,h⟩;rw [sP,h,Es,ha.lab];by_cases e:a=[]<;>simp [e]
structure Wr where
 b:List UInt8
 m:List (List UInt8×Int)
 deriving Inhabited
def Wr.put (w:Wr) (l:List UInt8) (ls:List (List UInt8)):Wr:=⟨w.b++(ct (l.length:Int)::l),if (w.b.length:Int)<16384 then cp w.m (aw (l::ls)) w.b.length else w.m⟩
def aG:List (List UInt8)→Wr→Wr
 | [],w=>⟨w.b++[0],w.m⟩
 | l::ls,w=>match bg w.m (aw (l::ls)) with
  | some a=>⟨w.b++two (49152+a),w.m⟩
  | none=>aG ls (w.put l ls)
def nmC:List (List UInt8)→Wr→Nat
 | [],w=>1
 | l::ls,w=>match bg w.m (aw (l::ls)) with
  | some a=>1
  | none=>1+nmC ls (w.put l ls)
theorem dx {l:List UInt8} {ls:List (List UInt8)} {w:Wr} {a:Int} (h:bg w.m (aw (l::ls))=some a):aG (l::ls) w=⟨w.b++two (49152+a),w.m⟩∧nmC (l::ls) w=1:=by simp [aG,nmC,h]
theorem cP {l:List UInt8} {ls:List (List UInt8)} {w:Wr} (h:bg w.m (aw (l::ls))=none):aG (l::ls) w=aG ls (w.put l ls)∧nmC (l::ls) w=1+nmC ls (w.put l ls):=by simp [aG,nmC,h]
def WOk (w:Wr):Prop:=∀ k a,bg w.m k=some a→0≤a∧a<16384
theorem WOk.put {w:Wr} (h:WOk w) (l:List UInt8) (ls:List (List UInt8)):WOk (w.put l ls):=by
 intro k a hk;unfold Wr.put at hk;split at hk
 · rw [iR] at hk
   split at hk
   · cases hk;omega
   · exact h k a hk
 · exact h k a hk
theorem pO {l:List UInt8} {ls:List (List UInt8)}:(aw (l::ls)).take (((aw (l::ls)).length:Int)-(aw ls).length).toNat=ct (l.length:Int)::l:=by
 have e:(((aw (l::ls)).length:Int)-(aw ls).length).toNat=l.length+1:=by rw [b7];simp;omega
 rw [e,b7];simp
theorem BW {a:Int} (h0:0≤a) (h1:a<16384):(((49152:Int).toNat ||| a.toNat:Nat):Int)=49152+a:=by
 have e:((49152:Int).toNat)=2 ^ 14*3:=by decide
 rw [e,← Nat.two_pow_add_eq_or_of_lt (by omega:a.toNat<2 ^ 14) 3];omega
theorem Gm {n:Nat} {s:AS} {o:Oper} {d:Option Tmp} {t u:TypeId} {x y:Operand} {a:Int} (ho:o.op=.binOp .or t x y u:=by exact rfl) (hx:s.ev x=i64 49152:=by exact rfl) (hy:s.ev y=i64 a:=by exact rfl)
 (h0:0≤a:=by first|omega|(simp [*];done)) (h1:a<16384:=by first|omega|(simp [*];done)) (hdd:o.dst=d:=by conv=>lhs;whnf) (hd:d.all (Nat.blt · n)=true:=by exact rfl):OpOk Tryz.prog n o s (s.put d (i64 (49152+a))):=by
 rw [← BW h0 h1];exact vP ho hx hy (by omega) (by omega) hdd hd
theorem vE {l:List UInt8} {ls:List (List UInt8)} (h:Nm (l::ls)):Nm ls:=⟨h.1.tail,by have:=i0 (l:=l) (ls:=ls);have:=h.2;omega⟩
theorem kw (l:List Int):(l.flatMap two).length=2*l.length:=by
 induction l with
 | nil=>rfl
 | cons a l ih=>rw [List.flatMap_cons,List.length_append,ih,List.length_cons];show 2+_=_;omega
theorem tD (b:List UInt8) (m:List (List UInt8×Int)) (v:Nat) (l:List Int) (lv:Nat) (hb:b.length+2*l.length≤100000000000):AC Tryz.prog 101 [.ptr 0 0 0,.fz lv l.length (cl ic l)] (ao [(0,.box [.sl 1 (v) 0 (b).length 1,.mp 2 0]),(1,.row (cl bc (b)) 1 (v)),(2,.map (me fI (fun b:Int=>i64 b) (m)))]) (bZ (.tup []) [(0,.box [.sl 1 (v+l.length) 0 (b++l.flatMap two).length 1,.mp 2 0]),(1,.row (cl bc (b++l.flatMap two)) 1 (v+l.length)),(2,.map (me fI (fun b:Int=>i64 b) (m)))]):=by
 refine AC.intro te_ok (fn:=Tryz.f101) ⟨Tryz.func101,rfl,rfl⟩ (aE rfl) ?_;iterate 7 refine ab ?_
 refine AWp.loopR (α:=Nat×List UInt8) [5,8,9,10,11,12,13,14,15,16,17,18,19,20,21,22,23,24,25,26] (fun x_=>[(8,i64 (x_.1))]) (fun x_=>[(0,.box [.sl 1 (v+(x_.1)) 0 (x_.2).length 1,.mp 2 0]),(1,.row (cl bc (x_.2)) 1 (v+(x_.1)))]) (fun x_=>(x_.1)≤l.length∧(x_.2)=b++(l.take (x_.1)).flatMap two) (fun x_=>l.length-(x_.1)) (0,b) ?_ (Back.mk' (HasT.cons HasT.nil) (HasH.cons (HasH.cons HasH.nil))) ?_
 ·
  exact ⟨Nat.zero_le _,by simp⟩
 ·
  rintro ⟨i,acc⟩ hI1;change i≤l.length∧acc=b++(l.take i).flatMap two at hI1;obtain ⟨hi,ha⟩:=hI1;refine AWp.as (s':=AS.over _ [5,8,9,10,11,12,13,14,15,16,17,18,19,20,21,22,23,24,25,26] [(8,i64 i)] [(0,.box [.sl 1 (v+i) 0 acc.length 1,.mp 2 0]),(1,.row (cl bc acc) 1 (v+i))]) rfl ?_;have hal:=congrArg List.length ha;rw [List.length_append,kw,List.length_take] at hal;iterate 2 refine ab ?_
  refine am (fun h1_0=>?_) (fun h1_0=>?_)
  ·
   iterate 19 refine ab ?_
   refine ai rfl rfl (ge 8) ?_;iterate 3 refine ab ?_
   refine ai rfl rfl (bO 410 bc [_,_] [(_,_),(_,_)]) ?_;iterate 9 refine ab ?_
   refine ⟨(i+1,acc++two (l.getD i default)),?_,Back.mk' (HasT.cons HasT.nil) (HasH.cons (HasH.cons HasH.nil)),?_⟩
   ·
    try dsimp only
    exact ⟨by omega,by rw [ha,bK (by omega)];simp⟩
   ·
    try dsimp only
    first|omega|(simp;omega)
  ·
   iterate 4 refine ab ?_
   show Fin te Tryz.f101 _ _;obtain rfl:i=l.length:=by omega
   rw [List.take_length] at ha;subst ha;refine aQ (0) [] [] [] [(_,_),(_,_),(_,_)] ?_ (hobj:=by repeat' (first|exact trivial|exact aK rfl|exact bd rfl rfl|exact iv rfl rfl .row rfl|exact aV rfl rfl|exact bw rfl rfl|exact cJ|exact cT rfl rfl .row (fun _=>rfl) (aE rfl) (fun _=>rfl)|exact aF (fun _=>rfl)|exact lobj_rown (fun _=>rfl)|exact dF (fun _=>rfl)|refine ar ?_|refine ⟨rfl,⟨_,rfl,?_⟩,?_⟩|refine ⟨?_,?_⟩));rfl
theorem CH (ls0:List (List UInt8)) (w0:Wr) (v0:Nat) (hn:Nm ls0) (hw:WOk w0) (hb:w0.b.length≤10000000000):AC Tryz.prog 100 [.ptr 0 0 0,str (aw ls0)] (ao [(0,.box [.sl 1 (v0) 0 (w0.b).length 1,.mp 2 0]),(1,.row (cl bc (w0.b)) 1 (v0)),(2,.map (me fI (fun b:Int=>i64 b) (w0.m)))]) (bZ (.tup []) [(0,.box [.sl 1 (v0+nmC ls0 w0) 0 ((aG ls0 w0).b).length 1,.mp 2 0]),(1,.row (cl bc ((aG ls0 w0).b)) 1 (v0+nmC ls0 w0)),(2,.map (me fI (fun b:Int=>i64 b) ((aG ls0 w0).m)))]):=by
 refine AC.intro te_ok (fn:=Tryz.f100) ⟨Tryz.func100,rfl,rfl⟩ (aE rfl) ?_;iterate 2 refine ab ?_
 refine AWp.loopR (α:=List (List UInt8)×Wr×Nat) [1,4,5,6,7,8,9,10,11,12,13,14,15,16,17,18,19,20,21,22,23,24,25,26,27,28,29,30,31,32,33,34,35,36,37,38,39,40,41,42,43,44,45,46,47,48,49,50,51,52,53,54,55,56,57,58,59,60,61,62] (fun x_=>[(1,str (aw (x_.1)))]) (fun x_=>[(0,.box [.sl 1 ((x_.2.2)) 0 ((x_.2.1).b).length 1,.mp 2 0]),(1,.row (cl bc ((x_.2.1).b)) 1 ((x_.2.2))),(2,.map (me fI (fun b:Int=>i64 b) ((x_.2.1).m)))]) (fun x_=>Nm (x_.1)∧WOk (x_.2.1)∧(x_.2.1).b.length+(aw (x_.1)).length≤w0.b.length+255∧aG (x_.1) (x_.2.1)=aG ls0 w0∧(x_.2.2)+nmC (x_.1) (x_.2.1)=v0+nmC ls0 w0) (fun x_=>(x_.1).length) (ls0,w0,v0) ?_ (Back.mk' (HasT.cons HasT.nil) (HasH.cons (HasH.cons (HasH.cons HasH.nil (h2:=by exact cg (fun _=>rfl)) )))) ?_
 ·
  exact ⟨hn,hw,by have:=hn.2;show w0.b.length+(aw ls0).length≤_;omega,rfl,rfl⟩
 ·
  rintro ⟨ls,w,v⟩ hI0;change Nm ls∧WOk w∧w.b.length+(aw ls).length≤w0.b.length+255∧aG ls w=aG ls0 w0∧v+nmC ls w=v0+nmC ls0 w0 at hI0;obtain ⟨hN,hW,hB,hE,hV⟩:=hI0;refine AWp.as (s':=AS.over _ [1,4,5,6,7,8,9,10,11,12,13,14,15,16,17,18,19,20,21,22,23,24,25,26,27,28,29,30,31,32,33,34,35,36,37,38,39,40,41,42,43,44,45,46,47,48,49,50,51,52,53,54,55,56,57,58,59,60,61,62] [(1,str (aw ls))] [(0,.box [.sl 1 (v) 0 (w.b).length 1,.mp 2 0]),(1,.row (cl bc (w.b)) 1 (v)),(2,.map (me fI (fun b:Int=>i64 b) (w.m)))]) rfl ?_;have hc:=hN.cnt;have h255:=hN.2;iterate 4 refine ab ?_
  refine ai rfl rfl (aj (0) (hc:=cL _ bE)) ?_;refine am (fun h0_2=>?_) (fun h0_2=>?_)
  ·
   iterate 7 refine ab ?_
   obtain ⟨l,ls,rfl⟩:∃ l ls',ls=l::ls':=by
    cases ls with
    | nil=>rw [hc] at h0_2;simp at h0_2
    | cons l ls'=>exact ⟨l,ls',rfl⟩
   iterate 5 refine ab ?_
   refine ai rfl rfl (y3 fI) ?_;iterate 2 refine ab ?_
   refine AOps.bool rfl rfl (bM) (fun h1_8=>?_) (fun h1_8=>?_)
   ·
    obtain ⟨a,hm⟩:=Option.isSome_iff_exists.1 h1_8;have ha:=hW _ _ hm;rw [hm];iterate 12 refine ab ?_
    refine ai rfl rfl (Gm (a:=a)) ?_;refine ai rfl rfl (bO 403 ic [_] [(_,_)]) ?_;refine ai rfl rfl (ay (0) [(0,0),(1,1),(2,2)] [] [(_,_),(_,_),(_,_)] (hobj:=by repeat' (first|exact trivial|exact aK rfl|exact bd rfl rfl|exact aV rfl rfl|exact bw rfl rfl|exact aF (fun _=>rfl)|exact dF (fun _=>rfl)|refine ar ?_|refine ⟨rfl,⟨_,rfl,?_⟩,?_⟩|refine ⟨?_,?_⟩)) (hB:=by repeat' (first|exact trivial|exact cU (lv:=0) (fun _=>rfl)|exact n8 (lv:=0) (fun _=>rfl)|exact rfl|refine ⟨rfl,rfl,?_,?_⟩)) (hL:=by repeat' (first|exact trivial|exact em (fun _=>rfl)|exact n7 (fun _=>rfl)|exact ⟨rfl,rfl⟩|refine ⟨?_,?_⟩)) (hc:=(tD w.b w.m v [49152+a] 1 (by simp;omega)))) ?_;iterate 2 refine ab ?_
    rw [← hE,← hV,(dx hm).1,(dx hm).2];refine aQ (0) [] [] [] [(_,_),(_,_),(_,_)] ?_ (hobj:=by repeat' (first|exact trivial|exact aK rfl|exact bd rfl rfl|exact iv rfl rfl .row rfl|exact aV rfl rfl|exact bw rfl rfl|exact cJ|exact cT rfl rfl .row (fun _=>rfl) (aE rfl) (fun _=>rfl)|exact aF (fun _=>rfl)|exact lobj_rown (fun _=>rfl)|exact dF (fun _=>rfl)|refine ar ?_|refine ⟨rfl,⟨_,rfl,?_⟩,?_⟩|refine ⟨?_,?_⟩));rfl
   ·
    iterate 17 refine ab ?_
    refine am (fun h4_5=>?_) (fun h4_5=>?_)
    ·
     iterate 2 refine ab ?_
     have hput:w.put l ls=⟨w.b++(ct (l.length:Int)::l),cp w.m (aw (l::ls)) w.b.length⟩:=by simp only [Wr.put,if_pos h4_5]
     refine bj [ag,ag,ag,ag,ag,ag,ag,ag,ag,ag,bv [(2,_)]] [af [0] [] 33,af [32] [0] 34,af [33] [0] 35,af [34] [0] 36,af [1] [] 37,af [0] [] 38,af [37] [0] 39,af [38] [0] 40,af [39] [0] 41,af [40] [1] 42,af [35,36,41] [2] 0 [2]] rfl ⟨ah,ah,ah,ah,ah,ah,ah,ah,ah,ah,aC fun _=>aN rfl rfl (gf fI _),trivial⟩ ?_;iterate 3 refine ab ?_
     refine ai rfl rfl (aj (0) (hc:=ma _ bE)) ?_;iterate 7 refine ab ?_
     have hp:sP (aw (l::ls))=aw ls:=by rw [hN.par.1,if_neg (by simp)];rfl
     have hN2:Nm ls:=vE hN;have hm:bg w.m (aw (l::ls))=none:=by cases hq:bg w.m (aw (l::ls)) with
      | none=>rfl
      | some _=>rw [hq] at h1_8;cases h1_8
     have hle:=i0 (l:=l) (ls:=ls);have hJ:(aw (l::ls)).length=l.length+1+(aw ls).length:=by rw [b7];simp;omega
     rw [hp];refine bj [ag,ag,ag,ag,ag,ag,ag,ag,ag,ag,ag,ag,bv [(1,_)],ag,ag,bv [(0,_)]] [af [0] [] 48,af [0] [] 49,af [48] [0] 50,af [49] [0] 51,af [50] [0] 52,af [1] [] 53,af [1] [] 54,af [53] [] 55,af [6] [] 56,af [55] [] 57,af [54,56] [] 58,af [52,57] [] 59,af [51,58] [1] 60 [1],af [47] [0] 61,af [60] [0] 62,af [59,61] [0,1] 0 [0]] rfl ⟨ah,ah,ah,ah,ah,ah,ah,ah,ah,ah,ah,aC fun _=>aN rfl rfl (mQ),ah,ah,ah,ah,trivial⟩ ?_;iterate 4 refine ab ?_
     rw [pO];refine ⟨(ls,⟨w.b++(ct (l.length:Int)::l),cp w.m (aw (l::ls)) w.b.length⟩,v+1),?_,Back.mk' (HasT.cons HasT.nil) (HasH.cons (HasH.cons (HasH.cons HasH.nil (h2:=by exact cg (fun _=>rfl)) ))),?_⟩
     ·
      try dsimp only
      rw [← hput];refine ⟨hN2,hW.put l ls,?_,by rw [← hE,(cP hm).1],by rw [← hV,(cP hm).2];try omega⟩;simp only [List.length_append,List.length_cons];try omega
     ·
      try dsimp only
      simp
    ·
     iterate 5 refine ab ?_
     have hput:w.put l ls=⟨w.b++(ct (l.length:Int)::l),w.m⟩:=by simp only [Wr.put,if_neg h4_5]
     refine ab ?_;refine ai rfl rfl (aj (0) (hc:=ma _ bE)) ?_;iterate 7 refine ab ?_
     have hp:sP (aw (l::ls))=aw ls:=by rw [hN.par.1,if_neg (by simp)];rfl
     have hN2:Nm ls:=vE hN;have hm:bg w.m (aw (l::ls))=none:=by cases hq:bg w.m (aw (l::ls)) with
      | none=>rfl
      | some _=>rw [hq] at h1_8;cases h1_8
     have hle:=i0 (l:=l) (ls:=ls);have hJ:(aw (l::ls)).length=l.length+1+(aw ls).length:=by rw [b7];simp;omega
     rw [hp];refine bj [ag,ag,ag,ag,ag,ag,ag,ag,ag,ag,ag,ag,bv [(1,_)],ag,ag,bv [(0,_)]] [af [0] [] 48,af [0] [] 49,af [48] [0] 50,af [49] [0] 51,af [50] [0] 52,af [1] [] 53,af [1] [] 54,af [53] [] 55,af [6] [] 56,af [55] [] 57,af [54,56] [] 58,af [52,57] [] 59,af [51,58] [1] 60 [1],af [47] [0] 61,af [60] [0] 62,af [59,61] [0,1] 0 [0]] rfl ⟨ah,ah,ah,ah,ah,ah,ah,ah,ah,ah,ah,aC fun _=>aN rfl rfl (mQ),ah,ah,ah,ah,trivial⟩ ?_;iterate 4 refine ab ?_
     rw [pO];refine ⟨(ls,⟨w.b++(ct (l.length:Int)::l),w.m⟩,v+1),?_,Back.mk' (HasT.cons HasT.nil) (HasH.cons (HasH.cons (HasH.cons HasH.nil (h2:=by exact cg (fun _=>rfl)) ))),?_⟩
     ·
      try dsimp only
      rw [← hput];refine ⟨hN2,hW.put l ls,?_,by rw [← hE,(cP hm).1],by rw [← hV,(cP hm).2];try omega⟩;simp only [List.length_append,List.length_cons];try omega
     ·
      try dsimp only
      simp
  ·
   iterate 4 refine ab ?_
   obtain rfl:ls=[]:=by
    cases ls with
    | nil=>rfl
    | cons l ls'=>rw [hc] at h0_2;simp at h0_2;try omega
   iterate 5 refine ab ?_
   refine ai rfl rfl (bO 1005 bc [0] [(_,_)]) ?_;iterate 5 refine ab ?_
   show Fin te Tryz.f100 _ _;rw [← hE,← hV];refine aQ (0) [] [] [] [(_,_),(_,_),(_,_)] ?_ (hobj:=by repeat' (first|exact trivial|exact aK rfl|exact bd rfl rfl|exact iv rfl rfl .row rfl|exact aV rfl rfl|exact bw rfl rfl|exact cJ|exact cT rfl rfl .row (fun _=>rfl) (aE rfl) (fun _=>rfl)|exact aF (fun _=>rfl)|exact lobj_rown (fun _=>rfl)|exact dF (fun _=>rfl)|refine ar ?_|refine ⟨rfl,⟨_,rfl,?_⟩,?_⟩|refine ⟨?_,?_⟩));rfl
end
section
attribute [local irreducible] AWp AOps
theorem oi {t:Int} {d:List UInt8} (h:t=2∨t=5∨t=12) (hd:d.length≤65535):dU t d=bm d:=by
 rw [dU,if_neg (by omega),if_neg (by omega),if_neg (by omega),if_pos h]
theorem yg {t:Int} {d:List UInt8} (h:t=2∨t=5∨t=12) (hd:d.length≤65535) (hc:bm d=true):gq t d=[d]:=by
 rw [gq,if_pos (by rw [oi h hd,hc]),if_pos h]
theorem xC {d:List UInt8} (h:d.length≤65535):dU 15 d=(decide (2<d.length)&&bm (d.drop 2)):=by
 rw [dU,if_neg (by omega),if_neg (by decide),if_neg (by decide),if_neg (by decide),if_pos rfl]
def rk (n:Int):Int:=((n.toNat &&& (65535:Int).toNat:Nat):Int)
def cB (t:Int) (d:List UInt8):List UInt8:=if t=15 then d.take 2 else []
def ba:List (List UInt8)→Wr→Wr
 | [],w=>w
 | n::ns,w=>ba ns (aG (aP n) w)
def lL:List (List UInt8)→Wr→Nat
 | [],w=>0
 | n::ns,w=>nmC (aP n) w+lL ns (aG (aP n) w)
theorem tQ (a b:List (List UInt8)) (w:Wr):ba (a++b) w=ba b (ba a w):=by
 induction a generalizing w with
 | nil=>rfl
 | cons n a ih=>exact ih _
theorem zX (a b:List (List UInt8)) (w:Wr):lL (a++b) w=lL a w+lL b (ba a w):=by
 induction a generalizing w with
 | nil=>simp [lL,ba]
 | cons n a ih=>simp only [List.cons_append,lL,ba,ih];omega
theorem mD {L:List (List UInt8)} {i:Nat} (h:i<L.length) (w:Wr):ba (L.take (i+1)) w=aG (aP (L.getD i default)) (ba (L.take i) w)∧lL (L.take (i+1)) w=lL (L.take i) w+nmC (aP (L.getD i default)) (ba (L.take i) w):=by
 rw [bK h,tQ,zX];exact ⟨rfl,rfl⟩
theorem eb:∀ {ls:List (List UInt8)} {w:Wr},Nm ls→WOk w→WOk (aG ls w)∧(aG ls w).b.length≤w.b.length+(aw ls).length∧w.b.length≤(aG ls w).b.length
 | [],w,_,hw=>⟨hw,by simp [aG,fb],by simp [aG]⟩
 | l::ls,w,hn,hw=>by
  have hJ:(aw (l::ls)).length=l.length+1+(aw ls).length:=by rw [b7];simp;omega
  cases hm:bg w.m (aw (l::ls)) with
  | some a=>
   rw [(dx hm).1];refine ⟨hw,?_,by simp⟩;have h1:=hn.1.head;have h2:=cK ls;have h3:(w.b++two (49152+a)).length=w.b.length+2:=by rw [List.length_append];rfl
   show (w.b++two (49152+a)).length≤_;omega
  | none=>
   rw [(cP hm).1];obtain ⟨a,b,c⟩:=eb (vE hn) (hw.put l ls);have e:(w.put l ls).b.length=w.b.length+(l.length+1):=by simp [Wr.put]
   exact ⟨a,by omega,by omega⟩
theorem cj {n:List UInt8} (h:bm n=true):Nm (aP n)∧aw (aP n)=n:=by
 obtain ⟨ls,a,rfl⟩:=AU h;rw [a.lab];exact ⟨a,rfl⟩
theorem qR (n:List UInt8) (w:Wr) (v:Nat) (hn:bm n=true) (hw:WOk w) (hb:w.b.length≤10000000000) :
 AC Tryz.prog 100 [.ptr 0 0 0,str n] (ao [(0,.box [.sl 1 v 0 w.b.length 1,.mp 2 0]),(1,.row (cl bc w.b) 1 v),(2,.map (me fI (fun b:Int=>i64 b) w.m))])
  (bZ (.tup []) [(0,.box [.sl 1 (v+nmC (aP n) w) 0 (aG (aP n) w).b.length 1,.mp 2 0]),(1,.row (cl bc (aG (aP n) w).b) 1 (v+nmC (aP n) w)),(2,.map (me fI (fun b:Int=>i64 b) (aG (aP n) w).m))]):=by
 have h:=CH (aP n) w v (cj hn).1 hw hb;rw [(cj hn).2] at h;exact h
theorem B8 (t:Int) (b:List UInt8) (lv:Nat) (h:b.length≤140737488351232):AC Tryz.prog 146 [i64 t,.fz lv b.length (cl bc b)] emp (Ret (.fz 0 (bF t b).length (cl sc (bF t b)))):=by
 by_cases h6:t=6
 · subst h6;exact B9 b lv h
 · rw [gM h6];exact rv t b lv h h6
theorem js {t:Int} {d:List UInt8} (h:fA t d=true):d.length≤65535∧(t=15→2≤d.length)∧(∀ n∈bF t d,bm n=true)∧cB t d++(bF t d).flatten <+: d:=by
 by_cases h6:t=6
 · subst h6
   have ho:gH d=true∧d.length≤65535:=by
    rw [fA,if_pos rfl,Bool.and_eq_true] at h;exact ⟨h.2,by simpa using h.1⟩
   have hn:bF 6 d=[(mj d).m,(mj d).r]:=by rw [bF,if_pos rfl,if_pos h]
   have hv:(mj d).m=eP d∧(mj d).r=eP (cutR d):=by rw [mj,if_pos ho.1];exact ⟨rfl,rfl⟩
   have h1:i3 d=true∧i3 (cutR d)=true:=by
    have:=ho.1;unfold gH at this;simp only [Bool.and_eq_true] at this;exact ⟨this.1,this.2.1⟩
   obtain ⟨a1,a2⟩:=uR h1.1;obtain ⟨b1,b2⟩:=uR h1.2;refine ⟨ho.2,by omega,?_,?_⟩
   · rw [hn,hv.1,hv.2];intro n hm
     simp only [List.mem_cons,List.not_mem_nil,or_false] at hm;rcases hm with rfl|rfl
     · exact a2
     · exact b2
   · rw [hn,hv.1,hv.2,cB,if_neg (by omega)]
     refine ⟨cutR (cutR d),?_⟩;conv=>rhs;rw [a1,b1]
     simp
 · rw [c7 h6] at h
   rw [gM h6];have hl:d.length≤65535:=by
    unfold dU at h;split at h
    · cases h
    · omega
   by_cases h15:t=15
   · subst h15
     rw [xC hl] at h;simp only [Bool.and_eq_true,decide_eq_true_eq] at h;have hn:gq 15 d=[d.drop 2]:=by rw [gq,xC hl,h.2,decide_eq_true h.1];rfl
     refine ⟨hl,fun _=>by omega,?_,?_⟩
     · rw [hn];intro n hm;simp at hm;subst hm;exact h.2
     · rw [hn,cB,if_pos rfl];simp
   · by_cases hN:t=2∨t=5∨t=12
     · rw [oi hN hl] at h
       rw [yg hN hl h];refine ⟨hl,fun e=>absurd e h15,?_,?_⟩
       · intro n hm;simp at hm;subst hm;exact h
       · rw [cB,if_neg h15];simp
     · have hn:gq t d=[]:=by rw [gq];split<;>simp [hN,h15]
       rw [hn,cB,if_neg h15];exact ⟨hl,fun e=>absurd e h15,by simp,by simp⟩
def jX (r:Rr):List Int:=[r.ty,r.cs,r.ttl / 2 ^ 16,rk r.ttl,0]
def du (r:Rr) (w:Wr):Wr:=⟨(aG (aP r.nm) w).b++(jX r).flatMap two,(aG (aP r.nm) w).m⟩
def lS (b:List UInt8) (n:Nat):List UInt8:=(b.set ((n:Int)-2).toNat (ct (((b.length:Int)-n) / 2 ^ 8))).set ((n:Int)-1).toNat (ct ((b.length:Int)-n))
def dN (r:Rr):Nat:=(cB r.ty r.da).length+(bF r.ty r.da).flatten.length
def lQ (r:Rr) (w1:Wr):Wr:=⟨(ba (bF r.ty r.da) ⟨w1.b++cB r.ty r.da,w1.m⟩).b++r.da.drop (dN r),(ba (bF r.ty r.da) ⟨w1.b++cB r.ty r.da,w1.m⟩).m⟩
def bC (r:Rr) (w:Wr):Wr:=⟨lS (lQ r (du r w)).b (du r w).b.length,(lQ r (du r w)).m⟩
def i5 (r:Rr) (w:Wr):Bool:=decide (((lQ r (du r w)).b.length:Int)-(du r w).b.length<65536)
def xZ (r:Rr) (w:Wr):Nat:=nmC (aP r.nm) w+5+(if r.ty=15 then 1 else 0)+lL (bF r.ty r.da) ⟨(du r w).b++cB r.ty r.da,(du r w).m⟩+1
theorem nI (b:List UInt8) (n:Nat):(lS b n).length=b.length:=by simp [lS]
theorem s7 {L:List (List UInt8)} {i:Nat} (h:i<L.length):(L.take (i+1)).flatten.length=(L.take i).flatten.length+(L.getD i default).length:=by
 rw [d8 h,List.length_append]
theorem F4 (r:Rr) (w0:Wr) (v0:Nat) (hr:rOk r=true) (hw:WOk w0) (hb:w0.b.length≤1000000000):AC Tryz.prog 103 [.ptr 0 0 0,.agg (rrc r)] (ao [(0,.box [.sl 1 (v0) 0 (w0.b).length 1,.mp 2 0]),(1,.row (cl bc (w0.b)) 1 (v0)),(2,.map (me fI (fun b:Int=>i64 b) (w0.m)))]) (bZ (tf (i5 r w0)) [(0,.box [.sl 1 (v0+xZ r w0) 0 ((bC r w0).b).length 1,.mp 2 0]),(1,.row (cl bc ((bC r w0).b)) 1 (v0+xZ r w0)),(2,.map (me fI (fun b:Int=>i64 b) ((bC r w0).m)))]):=by
 obtain ⟨⟨⟨⟨r1,r2⟩,r3⟩,r4⟩,r5⟩:(((bm r.nm=true∧rb [r.ty,r.cs]=true)∧0≤r.ttl)∧r.ttl<4294967296)∧fA r.ty r.da=true:=by simpa [rOk] using hr
 obtain ⟨d1,d2,d3,d4⟩:=js r5;obtain ⟨c1,c2,c3⟩:=eb (cj r1).1 hw;have c4:=(cj r1).1.2;have d5:=sU r.ty r.da;obtain ⟨w1,hw1⟩:∃ w,w=aG (aP r.nm) w0:=⟨_,rfl⟩;have hwn:du r w0=⟨w1.b++(jX r).flatMap two,w1.m⟩:=by rw [hw1];rfl
 rw [← hw1] at c1 c2 c3;refine AC.intro te_ok (fn:=Tryz.f103) ⟨Tryz.func103,rfl,rfl⟩ (aE rfl) ?_;iterate 2 refine ab ?_
 refine ai rfl rfl (aS 100) ?_;iterate 7 refine ab ?_
 refine ai rfl rfl (ay (0) [(0,0),(1,1),(2,2)] [] [(_,_),(_,_),(_,_)] (hobj:=by repeat' (first|exact trivial|exact aK rfl|exact bd rfl rfl|exact aV rfl rfl|exact bw rfl rfl|exact aF (fun _=>rfl)|exact dF (fun _=>rfl)|refine ar ?_|refine ⟨rfl,⟨_,rfl,?_⟩,?_⟩|refine ⟨?_,?_⟩)) (hB:=by repeat' (first|exact trivial|exact cU (lv:=0) (fun _=>rfl)|exact n8 (lv:=0) (fun _=>rfl)|exact rfl|refine ⟨rfl,rfl,?_,?_⟩)) (hL:=by repeat' (first|exact trivial|exact em (fun _=>rfl)|exact n7 (fun _=>rfl)|exact ⟨rfl,rfl⟩|refine ⟨?_,?_⟩)) (hc:=(qR r.nm w0 v0 r1 hw (by omega)))) ?_;iterate 3 refine ab ?_
 rw [← hw1];iterate 7 refine ab ?_
 refine ai rfl rfl (ge 16) ?_;iterate 2 refine ab ?_
 refine ai rfl rfl (fo) ?_;refine ai rfl rfl (bO 311 ic [_,_,_,_,0] [(_,_),(_,_),(_,_),(_,_),(_,_)]) ?_;refine ai rfl rfl (ay (0) [(0,0),(1,1),(2,2)] [] [(_,_),(_,_),(_,_)] (hobj:=by repeat' (first|exact trivial|exact aK rfl|exact bd rfl rfl|exact aV rfl rfl|exact bw rfl rfl|exact aF (fun _=>rfl)|exact dF (fun _=>rfl)|refine ar ?_|refine ⟨rfl,⟨_,rfl,?_⟩,?_⟩|refine ⟨?_,?_⟩)) (hB:=by repeat' (first|exact trivial|exact cU (lv:=0) (fun _=>rfl)|exact n8 (lv:=0) (fun _=>rfl)|exact rfl|refine ⟨rfl,rfl,?_,?_⟩)) (hL:=by repeat' (first|exact trivial|exact em (fun _=>rfl)|exact n7 (fun _=>rfl)|exact ⟨rfl,rfl⟩|refine ⟨?_,?_⟩)) (hc:=(tD w1.b w1.m (v0+nmC (aP r.nm) w0) (jX r) 1 (by show _+2*5≤_;omega)))) ?_;iterate 3 refine ab ?_
 obtain ⟨B1,hB1⟩:∃ b,b=w1.b++(jX r).flatMap two:=⟨_,rfl⟩;rw [← hB1] at hwn;rw [← hB1];have hBl:B1.length=w1.b.length+10:=by rw [hB1,List.length_append,kw];rfl
 have hp:r.ty=15→cB r.ty r.da=r.da.take 2∧(cB r.ty r.da).length=2:=fun e=>by rw [cB,if_pos e];exact ⟨rfl,by rw [List.length_take];have:=d2 e;omega⟩
 have hq:r.ty≠15→cB r.ty r.da=[]:=fun e=>by rw [cB,if_neg e]
 have hd4:(cB r.ty r.da).length+(bF r.ty r.da).flatten.length≤r.da.length:=by have:=d4.length_le;rw [List.length_append] at this;exact this
 iterate 13 refine ab ?_
 refine AWp.cutR (α:=List UInt8×List UInt8×Nat) [6,34,35,36,37,38,39,40,41,42,43,44,45,46,47,48] (fun x_=>[(6,.fz 0 (x_.2.1).length (cl bc (x_.2.1)))]) (fun x_=>[(0,.box [.sl 1 (x_.2.2) 0 (x_.1).length 1,.mp 2 0]),(1,.row (cl bc (x_.1)) 1 (x_.2.2))]) (fun x_=>(x_.1)=B1++cB r.ty r.da∧(x_.2.1)=r.da.drop (cB r.ty r.da).length∧(x_.2.2)=v0+nmC (aP r.nm) w0+5+(if r.ty=15 then 1 else 0)) ?_ ?_
 ·
  iterate 4 refine ab ?_
  refine am (fun h5_2=>?_) (fun h5_2=>?_)
  ·
   iterate 3 refine ab ?_
   refine bj [ag,ag,ag,ag,ag,ag,ag,bv [(1,_)],ag,ag,bv [(0,_)]] [af [0] [] 38,af [0] [] 39,af [38] [0] 40,af [39] [0] 41,af [40] [0] 42,af [6] [] 43,af [42] [] 44,af [41,43] [1] 45 [1],af [37] [0] 46,af [45] [0] 47,af [44,46] [0,1] 0 [0]] rfl ⟨ah,ah,ah,ah,ah,ah,ah,ah,ah,ah,ah,trivial⟩ ?_;iterate 5 refine ab ?_
   refine ⟨(B1++r.da.take 2,r.da.drop 2,v0+nmC (aP r.nm) w0+5+1),?_,Back.mk' (HasT.cons HasT.nil) (HasH.cons (HasH.cons HasH.nil))⟩;try dsimp only
   exact ⟨by rw [(hp h5_2).1],by rw [(hp h5_2).2],by rw [if_pos h5_2]⟩
  ·
   iterate 3 refine ab ?_
   refine ⟨(B1,r.da,v0+nmC (aP r.nm) w0+5),?_,Back.mk' (HasT.cons HasT.nil) (HasH.cons (HasH.cons HasH.nil))⟩;try dsimp only
   exact ⟨by rw [hq h5_2];simp,by rw [hq h5_2];simp,by rw [if_neg h5_2]⟩
 ·
  rintro ⟨b2,D,v2⟩ hC8;change b2=B1++cB r.ty r.da∧D=r.da.drop (cB r.ty r.da).length∧v2=v0+nmC (aP r.nm) w0+5+(if r.ty=15 then 1 else 0) at hC8;obtain ⟨hb2,hD2,hv2⟩:=hC8;refine AWp.as (s':=AS.over _ [6,34,35,36,37,38,39,40,41,42,43,44,45,46,47,48] [(6,.fz 0 D.length (cl bc D))] [(0,.box [.sl 1 v2 0 b2.length 1,.mp 2 0]),(1,.row (cl bc b2) 1 v2)]) rfl ?_;iterate 7 refine ab ?_
  refine ai rfl rfl (aj (0) (hc:=(B8 r.ty r.da 0 (by omega)))) ?_;iterate 4 refine ab ?_
  refine AWp.loopR (α:=Nat×Wr×Nat×List UInt8) [6,8,55,56,57,58,59,60,61,62,63,64,65,66] (fun x_=>[(55,i64 (x_.1)),(6,.fz 0 (x_.2.2.2).length (cl bc (x_.2.2.2)))]) (fun x_=>[(0,.box [.sl 1 ((x_.2.2.1)) 0 ((x_.2.1).b).length 1,.mp 2 0]),(1,.row (cl bc ((x_.2.1).b)) 1 ((x_.2.2.1))),(2,.map (me fI (fun b:Int=>i64 b) ((x_.2.1).m)))]) (fun x_=>(x_.1)≤(bF r.ty r.da).length∧(x_.2.1)=ba ((bF r.ty r.da).take (x_.1)) ⟨b2,w1.m⟩∧(x_.2.2.1)=v2+lL ((bF r.ty r.da).take (x_.1)) ⟨b2,w1.m⟩∧(x_.2.2.2)=r.da.drop ((cB r.ty r.da).length+((bF r.ty r.da).take (x_.1)).flatten.length)∧WOk (x_.2.1)∧(x_.2.1).b.length≤b2.length+255*(x_.1)∧b2.length≤(x_.2.1).b.length) (fun x_=>(bF r.ty r.da).length-(x_.1)) (0,⟨b2,w1.m⟩,v2,D) ?_ (Back.mk' (HasT.cons (HasT.cons HasT.nil)) (HasH.cons (HasH.cons (HasH.cons HasH.nil (h2:=by exact cg (fun _=>rfl)) )))) ?_
  ·
   exact ⟨Nat.zero_le _,rfl,rfl,hD2,c1,Nat.le_refl _,Nat.le_refl _⟩
  ·
   rintro ⟨i,w,v,D⟩ hI9;change i≤(bF r.ty r.da).length∧w=ba ((bF r.ty r.da).take i) ⟨b2,w1.m⟩∧v=v2+lL ((bF r.ty r.da).take i) ⟨b2,w1.m⟩∧D=r.da.drop ((cB r.ty r.da).length+((bF r.ty r.da).take i).flatten.length)∧WOk w∧w.b.length≤b2.length+255*i∧b2.length≤w.b.length at hI9;obtain ⟨hi,hw,hv,hD,hW,hB,hB2⟩:=hI9;refine AWp.as (s':=AS.over _ [6,8,55,56,57,58,59,60,61,62,63,64,65,66] [(55,i64 i),(6,.fz 0 D.length (cl bc D))] [(0,.box [.sl 1 (v) 0 (w.b).length 1,.mp 2 0]),(1,.row (cl bc (w.b)) 1 (v)),(2,.map (me fI (fun b:Int=>i64 b) (w.m)))]) rfl ?_;have hDl:=congrArg List.length hD;rw [List.length_drop] at hDl;have hbl:=congrArg List.length hb2;rw [List.length_append] at hbl;iterate 2 refine ab ?_
   refine am (fun h9_0=>?_) (fun h9_0=>?_)
   ·
    iterate 8 refine ab ?_
    have hmem:(bF r.ty r.da).getD i default∈bF r.ty r.da:=by rw [List.getD_eq_getElem?_getD,List.getElem?_eq_getElem (by omega)];exact List.getElem_mem _
    have hst:=mD (L:=bF r.ty r.da) (i:=i) (by omega) ⟨b2,w1.m⟩;have hfs:=s7 (L:=bF r.ty r.da) (i:=i) (by omega);obtain ⟨k1,k2,k3⟩:=eb (cj (d3 _ hmem)).1 hW;have k4:=(cj (d3 _ hmem)).1.2;have k5:=d0 (bF r.ty r.da) (i+1);have hgl:((bF r.ty r.da)[i]?.getD default).length=((bF r.ty r.da).getD i default).length:=by rw [← List.getD_eq_getElem?_getD]
    have hgt:((bF r.ty r.da).getD (i:Int).toNat default).length=((bF r.ty r.da).getD i default).length:=rfl;iterate 8 refine ab ?_
    refine ai rfl rfl (ay (0) [(0,0),(1,1),(2,2)] [] [(_,_),(_,_),(_,_)] (hobj:=by repeat' (first|exact trivial|exact aK rfl|exact bd rfl rfl|exact aV rfl rfl|exact bw rfl rfl|exact aF (fun _=>rfl)|exact dF (fun _=>rfl)|refine ar ?_|refine ⟨rfl,⟨_,rfl,?_⟩,?_⟩|refine ⟨?_,?_⟩)) (hB:=by repeat' (first|exact trivial|exact cU (lv:=0) (fun _=>rfl)|exact n8 (lv:=0) (fun _=>rfl)|exact rfl|refine ⟨rfl,rfl,?_,?_⟩)) (hL:=by repeat' (first|exact trivial|exact em (fun _=>rfl)|exact n7 (fun _=>rfl)|exact ⟨rfl,rfl⟩|refine ⟨?_,?_⟩)) (hc:=(qR ((bF r.ty r.da).getD i default) w v (d3 _ hmem) hW (by omega)))) ?_;iterate 12 refine ab ?_
    refine ⟨(i+1,aG (aP ((bF r.ty r.da).getD i default)) w,v+nmC (aP ((bF r.ty r.da).getD i default)) w,D.drop ((bF r.ty r.da).getD i default).length),?_,Back.mk' (HasT.cons (HasT.cons HasT.nil)) (HasH.cons (HasH.cons (HasH.cons HasH.nil (h2:=by exact cg (fun _=>rfl)) ))),?_⟩
    ·
     try dsimp only
     exact ⟨by omega,by rw [hst.1,hw],by rw [hst.2,hv,hw];omega,by rw [hfs,hD,List.drop_drop];congr 1;omega,k1,by omega,by omega⟩
    ·
     try dsimp only
     first|omega|(simp;omega)
   ·
    iterate 6 refine ab ?_
    obtain rfl:i=(bF r.ty r.da).length:=by omega
    rw [List.take_length] at hv hD hw hDl;have hwd:lQ r (du r w0)=⟨w.b++D,w.m⟩:=by
     rw [hwn,lQ];show Wr.mk ((ba (bF r.ty r.da) ⟨B1++cB r.ty r.da,w1.m⟩).b++r.da.drop (dN r)) (ba (bF r.ty r.da) ⟨B1++cB r.ty r.da,w1.m⟩).m=_;rw [← hb2,← hw,hD];rfl
    have hr1:(bC r w0).b=lS (w.b++D) B1.length:=by rw [bC,hwd,hwn]
    have hr2:(bC r w0).m=w.m:=by rw [bC,hwd]
    have hr3:(bC r w0).b.length=(w.b++D).length:=by rw [hr1,nI]
    have hr4:v0+xZ r w0=v+1:=by
     rw [xZ,hwn,hv,hv2];show v0+(_+5+_+lL (bF r.ty r.da) ⟨B1++cB r.ty r.da,w1.m⟩+1)=_;rw [← hb2];omega
    have hr5:i5 r w0=decide (((w.b++D).length:Int)-B1.length<65536):=by rw [i5,hwd,hwn]
    iterate 23 refine ab ?_
    refine bj [ag,ag,ag,ag,ag,ag,ag,ag,ag,ag,ag,ag,ag,ag,ag,ag,ag,ag,bv [(1,_)],ag,bv [(1,_)]] [af [0] [] 84,af [83] [0] 85,af [84] [0] 86,af [85] [0] 87,af [5] [] 88,af [87] [] 89,af [0] [] 90,af [89] [0] 91,af [90] [0] 92,af [91] [0] 93,af [5] [] 94,af [93] [] 95,af [9] [] 96,af [95] [] 97,af [96] [] 98,af [9] [] 99,af [98] [] 100,af [86,88] [1] 101,af [97,100] [1] 0 [1],af [92,94] [1] 102,af [99,101] [1] 0 [1]] rfl ⟨ah,ah,ah,ah,ah,ah,ah,ah,ah,ah,ah,ah,ah,aC fun _=>aN rfl rfl (ge 8),ah,ah,ah,ah,ah,ah,ah,trivial⟩ ?_;iterate 3 refine ab ?_
    refine ai rfl rfl (e8) ?_;iterate 3 refine ab ?_
    rw [hr3,hr1,hr2,hr4,hr5];refine aQ (0) [] [_] [_] [(_,_),(_,_),(_,_)] ?_ (hobj:=by repeat' (first|exact trivial|exact aK rfl|exact bd rfl rfl|exact iv rfl rfl .row rfl|exact aV rfl rfl|exact bw rfl rfl|exact cJ|exact cT rfl rfl .row (fun _=>rfl) (aE rfl) (fun _=>rfl)|exact aF (fun _=>rfl)|exact lobj_rown (fun _=>rfl)|exact dF (fun _=>rfl)|refine ar ?_|refine ⟨rfl,⟨_,rfl,?_⟩,?_⟩|refine ⟨?_,?_⟩));rfl
end
section
attribute [local irreducible] AWp AOps
theorem mg:∀ {L:List (List UInt8)} {w:Wr},(∀ n∈L,bm n=true)→WOk w→WOk (ba L w)∧(ba L w).b.length≤w.b.length+255*L.length∧w.b.length≤(ba L w).b.length
 | [],w,_,hw=>⟨hw,Nat.le_refl _,Nat.le_refl _⟩
 | n::L,w,hn,hw=>by
  obtain ⟨a,b,c⟩:=eb (cj (hn n (by simp))).1 hw;have d:=(cj (hn n (by simp))).1.2;obtain ⟨e,f,g⟩:=mg (L:=L) (fun x hx=>hn x (by simp [hx])) a;simp only [ba,List.length_cons];exact ⟨e,by omega,by omega⟩
theorem pK {r:Rr} {w:Wr} (hr:rOk r=true) (hw:WOk w):WOk (bC r w):=by
 obtain ⟨⟨⟨⟨r1,r2⟩,r3⟩,r4⟩,r5⟩:(((bm r.nm=true∧rb [r.ty,r.cs]=true)∧0≤r.ttl)∧r.ttl<4294967296)∧fA r.ty r.da=true:=by simpa [rOk] using hr
 have h1:=(eb (cj r1).1 hw).1;exact (mg (js r5).2.2.1 (w:=⟨(du r w).b++cB r.ty r.da,(du r w).m⟩) h1).1
def wrQ (q:Qu) (w:Wr):Wr:=⟨(aG (aP q.nm) w).b++[q.ty,q.cs].flatMap two,(aG (aP q.nm) w).m⟩
theorem yZ {q:Qu} {w:Wr} (hq:qOk q=true) (hw:WOk w):bm q.nm=true∧WOk (aG (aP q.nm) w)∧WOk (wrQ q w)∧(aG (aP q.nm) w).b.length≤w.b.length+255∧(wrQ q w).b.length≤w.b.length+259:=by
 have hc:bm q.nm=true:=by unfold qOk at hq;simp only [Bool.and_eq_true] at hq;exact hq.1
 obtain ⟨a,b,c⟩:=eb (cj hc).1 hw;have d:=(cj hc).1.2;refine ⟨hc,a,a,by omega,?_⟩;rw [wrQ,List.length_append,kw];simp only [List.length_cons,List.length_nil];omega
def cC (qs:List Qu) (w:Wr):Wr:=qs.foldl (fun w q=>wrQ q w) w
def mJ (p:Wr×Bool) (r:Rr):Wr×Bool:=if p.2 then (bC r p.1,i5 r p.1&&decide (((bC r p.1).b.length:Int)≤65535)) else p
def cz (rs:List Rr) (p:Wr×Bool):Wr×Bool:=rs.foldl mJ p
theorem sd {l:List Qu} {i:Nat} (h:i<l.length) (w:Wr):cC (l.take (i+1)) w=wrQ (l.getD i default) (cC (l.take i) w):=by
 rw [bK h,cC,List.foldl_append];rfl
theorem od {l:List Rr} {i:Nat} (h:i<l.length) (p:Wr×Bool):cz (l.take (i+1)) p=mJ (cz (l.take i) p) (l.getD i default):=by
 rw [bK h,cz,List.foldl_append];rfl
def hdW (m:Msg):Wr:=⟨hB (nD m.h) m.qs.length m.an.length m.au.length m.ad.length,[]⟩
def kF (m:Msg):Wr×Bool:=cz m.rrs (cC m.qs (hdW m),decide (((cC m.qs (hdW m)).b.length:Int)≤65535))
def dI (m:Msg):List UInt8:=if jO m then (if (kF m).2 then (kF m).1.b else []) else []
def gr (m:Msg):Int:=if jO m then (if (kF m).2 then 0 else 42) else 1
theorem jw {m:Msg} (h:jO m=true):hdO m∧(∀ q∈m.qs,qOk q=true)∧∀ r∈m.rrs,rOk r=true:=by
 rw [jO,j8,j8] at h;simp only [Bool.and_eq_true,decide_eq_true_eq,List.all_eq_true] at h;exact ⟨h.1.1,h.1.2,h.2⟩
theorem rr (m:Msg) (h:gp m) (hn:oB m):AC Tryz.prog 58 [.agg (dn m)] emp (Ret (.tup [.fz 0 (dI m).length (cl bc (dI m)),i64 (gr m)])):=by
 refine AC.intro te_ok (fn:=Tryz.f58) ⟨Tryz.func58,rfl,rfl⟩ (aE rfl) ?_;iterate 2 refine ab ?_
 refine ai rfl rfl (aS 100) ?_;refine ai rfl rfl (aR (0) bc) ?_;iterate 6 refine ab ?_
 refine AOps.bool rfl rfl (aj (0) (hc:=(wt m h hn))) (fun h1_1=>?_) (fun h1_1=>?_)
 ·
  iterate 5 refine ab ?_
  have hW0:WOk (hdW m):=fun k a h=>by cases h
  obtain ⟨p1,p2,p3⟩:=jw (m:=m) h1_1;have hz:=t6.2 p1;have hbl:(hdW m).b.length=12:=by
   show (hB (nD m.h) m.qs.length m.an.length m.au.length m.ad.length).length=12;rw [qE p1,Hd.bytes_length]
  obtain ⟨k1,k2,k3,k4⟩:=eM p1;have hrl:m.rrs.length≤196605:=by simp only [Msg.rrs,List.length_append];omega
  refine bj [ag,ag,ag,ag,bv [(4048,_)],ag,ag,ag,ag,ag] [af [1] [100] 17,af [16] [100] 18,af [1] [100] 19,af [18] [] 20,af [17,19] [4048] 21 [4048],af [20] [] 16,af [15] [4048] 22,af [15] [4048] 23,af [21] [] 5,af [22] [] 6] rfl ⟨ah,ah,ah,aC fun _=>aN rfl rfl (aj (0) (hc:=(m9 m))),aC fun _=>aN rfl rfl (ay (0) [] [(8,4048)] [(_,_)] (hobj:=by repeat' (first|exact trivial|exact aK rfl|exact bd rfl rfl|exact aV rfl rfl|exact bw rfl rfl|exact aF (fun _=>rfl)|exact dF (fun _=>rfl)|refine ar ?_|refine ⟨rfl,⟨_,rfl,?_⟩,?_⟩|refine ⟨?_,?_⟩)) (hB:=by repeat' (first|exact trivial|exact cU (lv:=0) (fun _=>rfl)|exact n8 (lv:=0) (fun _=>rfl)|exact rfl|refine ⟨rfl,rfl,?_,?_⟩)) (hL:=by repeat' (first|exact trivial|exact em (fun _=>rfl)|exact n7 (fun _=>rfl)|exact ⟨rfl,rfl⟩|refine ⟨?_,?_⟩)) (hc:=(j0 (nD m.h) m.qs.length m.an.length m.au.length m.ad.length))),ah,ah,ah,ah,ah,trivial⟩ ?_;iterate 4 refine ab ?_
  refine am (fun h4_1=>?_) (fun h4_1=>?_)
  ·
   exfalso;exact h4_1 hz
  ·
   iterate 6 refine ab ?_
   refine ai rfl rfl (gQ 701 fI (fun b:Int=>i64 b)) ?_;refine ai rfl rfl (aL [(_,_),(_,_)]) ?_;refine ai rfl rfl (aS 703) ?_;iterate 11 refine ab ?_
   refine AWp.loopR (α:=Nat×Wr×Nat) [8,33,34,35,36,37,38,39,40,41,42,43,44,45,46,47,48] (fun x_=>[(33,i64 (x_.1))]) (fun x_=>[(703,.box [.sl 4048 ((x_.2.2)) 0 ((x_.2.1).b).length 1,.mp 701 0]),(4048,.row (cl bc ((x_.2.1).b)) 1 ((x_.2.2))),(701,.map (me fI (fun b:Int=>i64 b) ((x_.2.1).m)))]) (fun x_=>(x_.1)≤m.qs.length∧(x_.2.1)=cC (m.qs.take (x_.1)) (hdW m)∧WOk (x_.2.1)∧(x_.2.1).b.length≤12+259*(x_.1)) (fun x_=>m.qs.length-(x_.1)) (0,hdW m,0) ?_ (Back.mk' (HasT.cons HasT.nil) (HasH.cons (HasH.cons (HasH.cons HasH.nil (h2:=by exact cg (fun _=>rfl)) )))) ?_
   ·
    exact ⟨Nat.zero_le _,rfl,hW0,by show (hdW m).b.length≤_;omega⟩
   ·
    rintro ⟨i,w,v⟩ hI8;change i≤m.qs.length∧w=cC (m.qs.take i) (hdW m)∧WOk w∧w.b.length≤12+259*i at hI8;obtain ⟨hi,hw,hW,hB⟩:=hI8;refine AWp.as (s':=AS.over _ [8,33,34,35,36,37,38,39,40,41,42,43,44,45,46,47,48] [(33,i64 i)] [(703,.box [.sl 4048 (v) 0 (w.b).length 1,.mp 701 0]),(4048,.row (cl bc (w.b)) 1 (v)),(701,.map (me fI (fun b:Int=>i64 b) (w.m)))]) rfl ?_;iterate 2 refine ab ?_
    refine am (fun h8_0=>?_) (fun h8_0=>?_)
    ·
     iterate 8 refine ab ?_
     have hq:=yZ (p2 _ (dT (i:=i) (by omega))) hW;have hst:=sd (l:=m.qs) (i:=i) (by omega) (hdW m);iterate 2 refine ab ?_
     refine ai rfl rfl (ap 1002) ?_;iterate 7 refine ab ?_
     refine ai rfl rfl (ay (0) [(0,703),(1,4048),(2,701)] [] [(_,_),(_,_),(_,_)] (hobj:=by repeat' (first|exact trivial|exact aK rfl|exact bd rfl rfl|exact aV rfl rfl|exact bw rfl rfl|exact aF (fun _=>rfl)|exact dF (fun _=>rfl)|refine ar ?_|refine ⟨rfl,⟨_,rfl,?_⟩,?_⟩|refine ⟨?_,?_⟩)) (hB:=by repeat' (first|exact trivial|exact cU (lv:=0) (fun _=>rfl)|exact n8 (lv:=0) (fun _=>rfl)|exact rfl|refine ⟨rfl,rfl,?_,?_⟩)) (hL:=by repeat' (first|exact trivial|exact em (fun _=>rfl)|exact n7 (fun _=>rfl)|exact ⟨rfl,rfl⟩|refine ⟨?_,?_⟩)) (hc:=(qR (m.qs.getD i default).nm w v hq.1 hW (by omega)))) ?_;iterate 7 refine ab ?_
     refine ai rfl rfl (bO 1205 ic [_,_] [(_,_),(_,_)]) ?_;refine ai rfl rfl (ay (0) [(0,703),(1,4048),(2,701)] [] [(_,_),(_,_),(_,_)] (hobj:=by repeat' (first|exact trivial|exact aK rfl|exact bd rfl rfl|exact aV rfl rfl|exact bw rfl rfl|exact aF (fun _=>rfl)|exact dF (fun _=>rfl)|refine ar ?_|refine ⟨rfl,⟨_,rfl,?_⟩,?_⟩|refine ⟨?_,?_⟩)) (hB:=by repeat' (first|exact trivial|exact cU (lv:=0) (fun _=>rfl)|exact n8 (lv:=0) (fun _=>rfl)|exact rfl|refine ⟨rfl,rfl,?_,?_⟩)) (hL:=by repeat' (first|exact trivial|exact em (fun _=>rfl)|exact n7 (fun _=>rfl)|exact ⟨rfl,rfl⟩|refine ⟨?_,?_⟩)) (hc:=(tD (aG (aP (m.qs.getD i default).nm) w).b (aG (aP (m.qs.getD i default).nm) w).m (v+nmC (aP (m.qs.getD i default).nm) w) [(m.qs.getD i default).ty,(m.qs.getD i default).cs] 1 (by show _+2*2≤_;omega)))) ?_;iterate 5 refine ab ?_
     refine ⟨(i+1,wrQ (m.qs.getD i default) w,v+nmC (aP (m.qs.getD i default).nm) w+2),?_,Back.mk' (HasT.cons HasT.nil) (HasH.cons (HasH.cons (HasH.cons HasH.nil (h2:=by exact cg (fun _=>rfl)) ))),?_⟩
     ·
      try dsimp only
      exact ⟨by omega,by rw [hst,hw],hq.2.2.1,by have:=hq.2.2.2.2;omega⟩
     ·
      try dsimp only
      first|omega|(simp;omega)
    ·
     iterate 6 refine ab ?_
     obtain rfl:i=m.qs.length:=by omega
     rw [List.take_length] at hw;iterate 5 refine ab ?_
     refine ai rfl rfl (iN) ?_;iterate 11 refine ab ?_
     refine ai rfl rfl (bO 1506 (lc 0 rrc) [m.an,m.au,m.ad] [(_,_),(_,_),(_,_)]) ?_;refine ai rfl rfl (aj (0) (hc:=(oX [m.an,m.au,m.ad] 1 (by simp) (by simp;omega)))) ?_;iterate 2 refine ab ?_
     rw [mK];iterate 2 refine ab ?_
     refine AWp.loopR (α:=Nat×Wr×Nat×Bool) [9,11,64,65,66,67,68,69,70,71,72,73,74,75,76,77,78,79,80,81,82] (fun x_=>[(64,i64 (x_.1)),(9,tf (x_.2.2.2))]) (fun x_=>[(703,.box [.sl 4048 ((x_.2.2.1)) 0 ((x_.2.1).b).length 1,.mp 701 0]),(4048,.row (cl bc ((x_.2.1).b)) 1 ((x_.2.2.1))),(701,.map (me fI (fun b:Int=>i64 b) ((x_.2.1).m)))]) (fun x_=>(x_.1)≤m.rrs.length∧((x_.2.1),(x_.2.2.2))=cz (m.rrs.take (x_.1)) (cC m.qs (hdW m),decide (((cC m.qs (hdW m)).b.length:Int)≤65535))∧WOk (x_.2.1)∧((x_.2.2.2)=true→((x_.2.1).b.length:Int)≤65535)) (fun x_=>m.rrs.length-(x_.1)) (0,w,v,decide ((w.b.length:Int)≤65535)) ?_ (Back.mk' (HasT.cons (HasT.cons HasT.nil)) (HasH.cons (HasH.cons (HasH.cons HasH.nil (h2:=by exact cg (fun _=>rfl)) )))) ?_
     ·
      exact ⟨Nat.zero_le _,by rw [hw];rfl,hW,fun h=>by simpa using h⟩
     ·
      rintro ⟨i,w,v,f⟩ hI15;change i≤m.rrs.length∧(w,f)=cz (m.rrs.take i) (cC m.qs (hdW m),decide (((cC m.qs (hdW m)).b.length:Int)≤65535))∧WOk w∧(f=true→(w.b.length:Int)≤65535) at hI15;obtain ⟨hi,hw,hW,hF⟩:=hI15;refine AWp.as (s':=AS.over _ [9,11,64,65,66,67,68,69,70,71,72,73,74,75,76,77,78,79,80,81,82] [(64,i64 i),(9,tf f)] [(703,.box [.sl 4048 (v) 0 (w.b).length 1,.mp 701 0]),(4048,.row (cl bc (w.b)) 1 (v)),(701,.map (me fI (fun b:Int=>i64 b) (w.m)))]) rfl ?_;iterate 2 refine ab ?_
      refine am (fun h15_0=>?_) (fun h15_0=>?_)
      ·
       iterate 8 refine ab ?_
       have hr:=p3 _ (dT (l:=m.rrs) (i:=i) (by omega));have hst:=od (l:=m.rrs) (i:=i) (by omega) (cC m.qs (hdW m),decide (((cC m.qs (hdW m)).b.length:Int)≤65535));rw [← hw,mJ] at hst;dsimp only at hst;iterate 2 refine ab ?_
       refine ai rfl rfl (ap 1702) ?_;iterate 3 refine ab ?_
       refine AOps.bool rfl rfl (aA) (fun h17_0=>?_) (fun h17_0=>?_)
       ·
        iterate 3 refine ab ?_
        refine cw rfl rfl rfl rfl rfl (ay (0) [(0,703),(1,4048),(2,701)] [] [(_,_),(_,_),(_,_)] (hobj:=by repeat' (first|exact trivial|exact aK rfl|exact bd rfl rfl|exact aV rfl rfl|exact bw rfl rfl|exact aF (fun _=>rfl)|exact dF (fun _=>rfl)|refine ar ?_|refine ⟨rfl,⟨_,rfl,?_⟩,?_⟩|refine ⟨?_,?_⟩)) (hB:=by repeat' (first|exact trivial|exact cU (lv:=0) (fun _=>rfl)|exact n8 (lv:=0) (fun _=>rfl)|exact rfl|refine ⟨rfl,rfl,?_,?_⟩)) (hL:=by repeat' (first|exact trivial|exact em (fun _=>rfl)|exact n7 (fun _=>rfl)|exact ⟨rfl,rfl⟩|refine ⟨?_,?_⟩)) (hc:=(F4 (m.rrs.getD i default) w v hr hW (by have:=hF h17_0;omega)))) ?_;refine ab ?_;refine AOps.bool rfl rfl (aA) (fun h17_6=>?_) (fun h17_6=>?_)
        ·
         iterate 5 refine ab ?_
         refine cw rfl rfl rfl rfl rfl (iN) ?_;iterate 7 refine ab ?_
         refine ⟨(i+1,bC (m.rrs.getD i default) w,v+xZ (m.rrs.getD i default) w,decide (((bC (m.rrs.getD i default) w).b.length:Int)≤65535)),?_,Back.mk' (HasT.cons (HasT.cons HasT.nil)) (HasH.cons (HasH.cons (HasH.cons HasH.nil (h2:=by exact cg (fun _=>rfl)) ))),?_⟩
         ·
          try dsimp only
          exact ⟨by omega,by rw [hst,if_pos h17_0,h17_6,Bool.true_and],pK hr hW,fun h=>by simpa using h⟩
         ·
          try dsimp only
          first|omega|(simp;omega)
        ·
         iterate 13 refine ab ?_
         refine ⟨(i+1,bC (m.rrs.getD i default) w,v+xZ (m.rrs.getD i default) w,false),?_,Back.mk' (HasT.cons (HasT.cons HasT.nil)) (HasH.cons (HasH.cons (HasH.cons HasH.nil (h2:=by exact cg (fun _=>rfl)) ))),?_⟩
         ·
          try dsimp only
          exact ⟨by omega,by rw [hst,if_pos h17_0,h17_6];rfl,pK hr hW,fun h=>by cases h⟩
         ·
          try dsimp only
          first|omega|(simp;omega)
       ·
        iterate 19 refine ab ?_
        refine ⟨(i+1,w,v,false),?_,Back.mk' (HasT.cons (HasT.cons HasT.nil)) (HasH.cons (HasH.cons (HasH.cons HasH.nil (h2:=by exact cg (fun _=>rfl)) ))),?_⟩
        ·
         try dsimp only
         exact ⟨by omega,by rw [hst,if_neg (by simp [h17_0]),h17_0],hW,fun h=>by cases h⟩
        ·
         try dsimp only
         first|omega|(simp;omega)
      ·
       iterate 7 refine ab ?_
       obtain rfl:i=m.rrs.length:=by omega
       rw [List.take_length] at hw;have hew:kF m=(w,f):=hw.symm;refine AOps.bool rfl rfl (aA) (fun h19_0=>?_) (fun h19_0=>?_)
       ·
        iterate 14 refine ab ?_
        refine ak (0) [_,_] [_,_] ?_;rw [dI,gr,h1_1,hew,h19_0];rfl
       ·
        iterate 5 refine ab ?_
        refine ai rfl rfl (aR (0) bc) ?_;iterate 3 refine ab ?_
        refine ak (0) [_,_] [_,_] ?_;rw [dI,gr,h1_1,hew,h19_0];rfl
 ·
  iterate 5 refine ab ?_
  refine ai rfl rfl (aR (0) bc) ?_;iterate 3 refine ab ?_
  refine ak (0) [_,_] [_,_] ?_;rw [dI,gr,h1_1];rfl
end
theorem zv {ls:List (List UInt8)}:(aw ls=[0])↔ls=[]:=by
 constructor
 · intro h
   cases ls with
   | nil=>rfl
   | cons l ls=>
    have h1:=congrArg List.length h;have h2:=cK ls;rw [b7] at h1;simp at h1;rw [h1.2] at h2;simp at h2
 · rintro rfl;rfl
section
attribute [local irreducible] AWp AOps
def plC (p:List UInt8×Int):List AV:=[str p.1,i64 p.2]
def yy (n:Int):List UInt8:=two (n / 2 ^ 16)++two (rk n)
theorem A5 {m:List (List UInt8×Int)} {n:List UInt8}:∀ {i:Nat},i<m.length→(∀ j,j<i→(m.getD j default).1≠n)→(m.getD i default).1=n→bg m n=some (m.getD i default).2:=by
 induction m with
 | nil=>intro i h;simp at h
 | cons p m ih=>
  obtain ⟨a,b⟩:=p;intro i hi hj he;cases i with
  | zero=>
   have he':a=n:=he;rw [bg,if_pos he'];rfl
  | succ i=>
   have h0:a≠n:=hj 0 (by omega);rw [bg,if_neg h0];exact ih (by simpa using hi) (fun j hj2=>by have:=hj (j+1) (by omega);simpa using this) (by simpa using he)
theorem A6 {m:List (List UInt8×Int)} {n:List UInt8} (h:∀ j,j<m.length→(m.getD j default).1≠n):bg m n=none:=by
 apply rV
 intro hm;obtain ⟨p,hp,e⟩:=List.mem_map.1 hm;obtain ⟨j,hj,e2⟩:=List.mem_iff_getElem.1 hp
 apply h j hj
 rw [List.getD_eq_getElem?_getD,List.getElem?_eq_getElem hj];show (m[j]).1=n;rw [e2,e]
theorem yh {m:List (List UInt8×Int)} {n:List UInt8} {v:Int} (h:bg m n=none):cp m n v=m++[(n,v)]:=by
 rcases ux m n with ⟨_,_,h3,_⟩|h2
 · exact h3 v
 · obtain ⟨i,p,h3⟩:=h2
   simp_all
theorem xf {l:List UInt8} {ls:List (List UInt8)} (g:GoodN (l::ls)):((aw (l::ls)).getD (0:Int).toNat 0).toNat=l.length:=by
 rw [b7];show (ct (l.length:Int)).toNat=l.length;exact gn g.head.2
theorem uB {l:List UInt8} {ls:List (List UInt8)}:(aw (l::ls)).take ((1:Int)+(l.length:Int)).toNat=ct (l.length:Int)::l:=by
 rw [show ((1:Int)+(l.length:Int)).toNat=l.length+1 by omega,b7];simp
theorem uC {l:List UInt8} {ls:List (List UInt8)}:(aw (l::ls)).drop ((1:Int)+(l.length:Int)).toNat=aw ls:=by
 rw [show ((1:Int)+(l.length:Int)).toNat=l.length+1 by omega,b7];simp
theorem An {l:List UInt8} {ls:List (List UInt8)}:aw (l::ls)≠[0]:=fun h=>by
 have:=zv.1 h;cases this
theorem zr {b:List UInt8} {n a:Nat} (h:n=a+2):(b.set (a:Int).toNat (ct (((b.length:Int)-a-2) / 2 ^ 8))).set ((a:Int)+1).toNat (ct ((b.length:Int)-a-2))=lS b n:=by
 subst h;unfold lS;rw [show (((a+2:Nat):Int)-2).toNat=(a:Int).toNat by omega,show (((a+2:Nat):Int)-1).toNat=((a:Int)+1).toNat by omega,show (b.length:Int)-((a+2:Nat):Int)=(b.length:Int)-a-2 by omega]
def ua (r:Rr) (w:Wr):Nat:=nmC (aP r.nm) w+4+(if r.ty=15 then 1 else 0)+lL (bF r.ty r.da) ⟨(du r w).b++cB r.ty r.da,(du r w).m⟩+1
theorem r7 {α:Type} [Inhabited α] {p:α→Bool} {l:List α} {i:Nat} (h:i<l.length) (h1:(l.take i).all p=true) (h2:p (l.getD i default)=true):(l.take (i+1)).all p=true:=by
 rw [bK h,List.all_append,h1,List.all_cons,List.all_nil,h2];rfl
theorem fH {α:Type} [Inhabited α] {p:α→Bool} {l:List α} {i:Nat} (h:i<l.length) (h2:p (l.getD i default)=false):l.all p=false:=by
 rw [List.all_eq_false];exact ⟨_,dT h,by rw [h2];simp⟩
theorem fB (m:Msg):jO m=(decide (hdO m)&&m.qs.all qOk&&m.rrs.all rOk):=by rw [jO,j8,j8]
theorem sK (q:Qu):qOk q=(bm q.nm&&(decide (0≤q.ty∧q.ty≤65535)&&decide (0≤q.cs∧q.cs≤65535))):=by
 rw [qOk,iL];simp [shB]
theorem mn (r:Rr):rOk r=(bm r.nm&&(decide (0≤r.ty∧r.ty≤65535)&&decide (0≤r.cs∧r.cs≤65535))&&!decide (r.ttl<0)&&!decide (4294967296≤r.ttl)&&fA r.ty r.da):=by
 rw [rOk,iL];simp [shB]
theorem F3 (n:Int):AC Tryz.prog 51 [i64 n] (ao []) (bZ (.sl 8 0 0 (two n).length 1) [(8,.row (cl bc (two n)) 1 0)]):=by
 refine AC.intro te_ok (fn:=Tryz.f51) ⟨Tryz.func51,rfl,rfl⟩ (aE rfl) ?_;iterate 7 refine ab ?_
 refine ai rfl rfl (ge 8) ?_;iterate 3 refine ab ?_
 refine ai rfl rfl (bO 8 bc [_,_] [(_,_),(_,_)]) ?_;iterate 3 refine ab ?_
 refine aQ (0) [8] [_] [.sl 8 0 0 _ 1] [(8,.row (cl bc _) 1 0)] ?_;rfl
theorem si (n:Int):AC Tryz.prog 51 [i64 n] emp (Ret (.fz 0 (two n).length (cl bc (two n)))):=by
 refine AC.intro te_ok (fn:=Tryz.f51) ⟨Tryz.func51,rfl,rfl⟩ (aE rfl) ?_;iterate 7 refine ab ?_
 refine ai rfl rfl (ge 8) ?_;iterate 3 refine ab ?_
 refine ai rfl rfl (bO 205 bc [_,_] [(_,_),(_,_)]) ?_;iterate 3 refine ab ?_
 refine ak (0) [_] [_] ?_;rfl
theorem kM (n:Int) (h:0≤n∧n≤9223372036854775807):AC Tryz.prog 90 [i64 n] emp (Ret (.fz 0 (yy n).length (cl bc (yy n)))):=by
 have t1:(two (n / 2 ^ 16)).length=2:=rfl;have t2:(two (rk n)).length=2:=rfl;have t3:(two (n / 65536)).length=2:=rfl;refine AC.intro te_ok (fn:=Tryz.f90) ⟨Tryz.func90,rfl,rfl⟩ (aE rfl) ?_;iterate 7 refine ab ?_
 refine ai rfl rfl (ge 16) ?_;refine ai rfl rfl (ay (0) [] [(8,2028)] [(_,_)] (hc:=(F3 (n / 2 ^ 16)))) ?_;refine ab ?_;refine ai rfl rfl (fo) ?_;refine ai rfl rfl (aj (0) (hc:=(si (rk n)))) ?_;iterate 4 refine ab ?_
 refine ak (0) [_] [_] ?_;rfl
theorem nt (n:Int):AC Tryz.prog 88 [i64 n] emp (Ret (tf (decide (0≤n∧n≤65535)))):=by
 refine AC.intro te_ok (fn:=Tryz.f88) ⟨Tryz.func88,rfl,rfl⟩ (aE rfl) ?_;iterate 7 refine ab ?_
 refine am (fun h1_1=>?_) (fun h1_1=>?_)
 ·
  iterate 2 refine ab ?_
  refine cw rfl rfl rfl rfl rfl (iN) ?_;iterate 4 refine ab ?_
  refine ak (0) [_] [_] ?_;exact congrArg tf (by simp [*])
 ·
  iterate 7 refine ab ?_
  refine ak (0) [_] [_] ?_;exact congrArg tf (by simp [*];try omega)
theorem dM (m:Msg):AC Tryz.prog 49 [.agg (dn m)] emp (Ret (.agg [i64 m.qs.length,i64 m.an.length,i64 m.au.length,i64 m.ad.length])):=by
 refine AC.intro te_ok (fn:=Tryz.f49) ⟨Tryz.func49,rfl,rfl⟩ (aE rfl) ?_;iterate 2 refine ab ?_
 refine ai rfl rfl (aS 100) ?_;refine ai rfl rfl (ap 101) ?_;iterate 15 refine ab ?_
 refine ai rfl rfl (cb ic [_,_,_,_] [(_,_),(_,_),(_,_),(_,_)]) ?_;iterate 3 refine ab ?_
 refine ak (0) [_] [_] ?_;rfl
theorem gz (m:Msg) (h:gp m) (hO:hdO m):AC Tryz.prog 52 [.agg (dn m)] emp (Ret (.fz 0 m.rrs.length (cl rrc m.rrs))):=by
 obtain ⟨q1,q2,q3,q4⟩:=id h;obtain ⟨k1,k2,k3,k4⟩:=eM hO;refine AC.intro te_ok (fn:=Tryz.f52) ⟨Tryz.func52,rfl,rfl⟩ (aE rfl) ?_;iterate 2 refine ab ?_
 refine ai rfl rfl (aS 100) ?_;iterate 3 refine ab ?_
 refine bj [bv [(200,_)],ag,ag,bv [(200,_)],ag,ag,bv [(200,_)],ag,ag,bv [(200,_)],ag] [af [] [200] 4 [200],af [1] [100] 5,af [4] [100] 6,af [3,5] [200] 7 [200],af [1] [100] 8,af [7] [100] 9,af [6,8] [200] 10 [200],af [1] [100] 11,af [10] [100] 12,af [9,11] [200] 13 [200],af [12] [] 3] rfl ⟨aC fun _=>aN rfl rfl (bO 200 rrc [] []),ah,ah,ah,ah,ah,ah,ah,ah,ah,ah,trivial⟩ ?_;refine ab ?_;rw [Msg.rrs];refine ak (0) [_] [_] ?_;rfl
theorem lN (m:Msg) (h:gp m) (hn:oB m):AC Tryz.prog 47 [.agg (dn m)] emp (Ret (tf (jO m))):=by
 obtain ⟨q1,q2,q3,q4⟩:=id h;obtain ⟨n1,n2⟩:=id hn;have q5:=zu h;refine AC.intro te_ok (fn:=Tryz.f47) ⟨Tryz.func47,rfl,rfl⟩ (aE rfl) ?_;iterate 2 refine ab ?_
 refine ai rfl rfl (aS 100) ?_;iterate 4 refine ab ?_
 by_cases hO:hdO m
 ·
  refine bj [ag,ag,ag,ag,ag,ag] [af [1] [100] 8,af [7] [100] 9,af [1] [100] 10,af [9] [] 11,af [8,10] [] 12,af [11] [] 13] rfl ⟨ah,ah,ah,aC fun _=>aN rfl rfl (aj (0) (hc:=(dM m))),aC fun _=>aN rfl rfl ((OpOk.dec_t (aj (0) (hc:=(er (nD m.h) m.qs.length m.an.length m.au.length m.ad.length))) (hO))),ah,trivial⟩ ?_;iterate 5 refine ab ?_
  obtain ⟨k1,k2,k3,k4⟩:=eM hO;have hrl:m.rrs.length≤196605:=by simp only [Msg.rrs,List.length_append];omega
  iterate 6 refine ab ?_
  refine AWp.loopR (α:=Nat) [2,4,16,17,18,19,20,21,22,23,24,25,26,27,28,29,30,31,32,33,34,35,36] (fun i=>[(16,i64 i)]) (fun i=>[]) (fun i=>i≤m.qs.length∧(m.qs.take i).all qOk=true) (fun i=>m.qs.length-i) 0 ?_ (Back.mk' (HasT.cons HasT.nil) HasH.nil) ?_
  ·
   exact ⟨Nat.zero_le _,rfl⟩
  ·
   rintro i ⟨hi,hI⟩;iterate 2 refine ab ?_
   refine am (fun h4_0=>?_) (fun h4_0=>?_)
   ·
    iterate 8 refine ab ?_
    have hmem:=dT (l:=m.qs) (i:=i) (by omega);iterate 2 refine ab ?_
    refine ai rfl rfl (ap 602) ?_;iterate 6 refine ab ?_
    refine AOps.bool rfl rfl (aj (0) (hc:=(aM (m.qs.getD i default).nm (by have:=n1 _ hmem;omega)))) (fun h6_2=>?_) (fun h6_2=>?_)
    ·
     iterate 4 refine ab ?_
     refine AOps.gbool rfl rfl rfl rfl rfl (aj (0) (hc:=(nt (m.qs.getD i default).ty))) (fun h6_7=>?_) (fun h6_7=>?_)
     ·
      iterate 5 refine ab ?_
      refine AOps.gbool rfl rfl rfl rfl rfl (aj (0) (hc:=(nt (m.qs.getD i default).cs))) (fun h6_13=>?_) (fun h6_13=>?_)
      ·
       iterate 9 refine ab ?_
       refine ⟨i+1,?_,Back.mk' (HasT.cons HasT.nil) HasH.nil,?_⟩
       ·
        exact ⟨by omega,r7 (by omega) hI (by rw [sK];generalize m.qs.getD i default=q at *;simp [*])⟩
       ·
        first|omega|(simp;omega)
      ·
       iterate 9 refine ab ?_
       refine ak (0) [_] [_] ?_;exact congrArg tf (by rw [fB,fH (p:=qOk) (l:=m.qs) (i:=i) (by omega) (by rw [sK];generalize m.qs.getD i default=q at *;simp [*];try omega)];simp)
     ·
      iterate 15 refine ab ?_
      refine ak (0) [_] [_] ?_;exact congrArg tf (by rw [fB,fH (p:=qOk) (l:=m.qs) (i:=i) (by omega) (by rw [sK];generalize m.qs.getD i default=q at *;simp [*];try omega)];simp)
    ·
     iterate 20 refine ab ?_
     refine ak (0) [_] [_] ?_;exact congrArg tf (by rw [fB,fH (p:=qOk) (l:=m.qs) (i:=i) (by omega) (by rw [sK];generalize m.qs.getD i default=q at *;simp [*];try omega)];simp)
   ·
    iterate 7 refine ab ?_
    obtain rfl:i=m.qs.length:=by omega
    rw [List.take_length] at hI;refine ab ?_;refine ai rfl rfl (aj (0) (hc:=(gz m h hO))) ?_;iterate 4 refine ab ?_
    refine AWp.loopR (α:=Nat) [2,6,40,41,42,43,44,45,46,47,48,49,50,51,52,53,54,55,56,57,58,59,60,61,62,63,64,65,66,67,68,69,70,71,72,73,74,75,76,77,78] (fun k=>[(40,i64 k)]) (fun k=>[]) (fun k=>k≤m.rrs.length∧(m.rrs.take k).all rOk=true) (fun k=>m.rrs.length-k) 0 ?_ (Back.mk' (HasT.cons HasT.nil) HasH.nil) ?_
    ·
     exact ⟨Nat.zero_le _,rfl⟩
    ·
     rintro k ⟨hk,hK⟩;iterate 2 refine ab ?_
     refine am (fun h10_0=>?_) (fun h10_0=>?_)
     ·
      iterate 8 refine ab ?_
      have hmem:=dT (l:=m.rrs) (i:=k) (by omega);iterate 2 refine ab ?_
      refine ai rfl rfl (ap 1202) ?_;iterate 6 refine ab ?_
      refine AOps.bool rfl rfl (aj (0) (hc:=(aM (m.rrs.getD k default).nm (by have:=n2 _ hmem;omega)))) (fun h12_2=>?_) (fun h12_2=>?_)
      ·
       iterate 4 refine ab ?_
       refine AOps.gbool rfl rfl rfl rfl rfl (aj (0) (hc:=(nt (m.rrs.getD k default).ty))) (fun h12_7=>?_) (fun h12_7=>?_)
       ·
        iterate 5 refine ab ?_
        refine AOps.gbool rfl rfl rfl rfl rfl (aj (0) (hc:=(nt (m.rrs.getD k default).cs))) (fun h12_13=>?_) (fun h12_13=>?_)
        ·
         iterate 5 refine ab ?_
         refine am (fun h12_19=>?_) (fun h12_19=>?_)
         ·
          iterate 21 refine ab ?_
          refine ak (0) [_] [_] ?_;exact congrArg tf (by rw [fB,fH (p:=rOk) (l:=m.rrs) (i:=k) (by omega) (by rw [mn];(try simp only [Int.toNat_natCast] at *);generalize m.rrs.getD k default=q at *;simp [*];try omega)];simp)
         ·
          iterate 4 refine ab ?_
          refine am (fun h12_24=>?_) (fun h12_24=>?_)
          ·
           iterate 16 refine ab ?_
           refine ak (0) [_] [_] ?_;exact congrArg tf (by rw [fB,fH (p:=rOk) (l:=m.rrs) (i:=k) (by omega) (by rw [mn];(try simp only [Int.toNat_natCast] at *);generalize m.rrs.getD k default=q at *;simp [*];try omega)];simp)
          ·
           iterate 6 refine ab ?_
           refine AOps.gbool rfl rfl rfl rfl rfl (aj (0) (hc:=(di (m.rrs.getD k default).ty (m.rrs.getD k default).da 0 (q5 _ hmem)))) (fun h12_31=>?_) (fun h12_31=>?_)
           ·
            iterate 9 refine ab ?_
            refine ⟨k+1,?_,Back.mk' (HasT.cons HasT.nil) HasH.nil,?_⟩
            ·
             exact ⟨by omega,r7 (by omega) hK (by rw [mn];(try simp only [Int.toNat_natCast] at *);generalize m.rrs.getD k default=q at *;simp [*];try omega)⟩
            ·
             first|omega|(simp;omega)
           ·
            iterate 9 refine ab ?_
            refine ak (0) [_] [_] ?_;exact congrArg tf (by rw [fB,fH (p:=rOk) (l:=m.rrs) (i:=k) (by omega) (by rw [mn];(try simp only [Int.toNat_natCast] at *);generalize m.rrs.getD k default=q at *;simp [*];try omega)];simp)
        ·
         iterate 27 refine ab ?_
         refine ak (0) [_] [_] ?_;exact congrArg tf (by rw [fB,fH (p:=rOk) (l:=m.rrs) (i:=k) (by omega) (by rw [mn];(try simp only [Int.toNat_natCast] at *);generalize m.rrs.getD k default=q at *;simp [*];try omega)];simp)
       ·
        iterate 33 refine ab ?_
        refine ak (0) [_] [_] ?_;exact congrArg tf (by rw [fB,fH (p:=rOk) (l:=m.rrs) (i:=k) (by omega) (by rw [mn];(try simp only [Int.toNat_natCast] at *);generalize m.rrs.getD k default=q at *;simp [*];try omega)];simp)
      ·
       iterate 38 refine ab ?_
       refine ak (0) [_] [_] ?_;exact congrArg tf (by rw [fB,fH (p:=rOk) (l:=m.rrs) (i:=k) (by omega) (by rw [mn];(try simp only [Int.toNat_natCast] at *);generalize m.rrs.getD k default=q at *;simp [*];try omega)];simp)
     ·
      iterate 6 refine ab ?_
      obtain rfl:k=m.rrs.length:=by omega
      rw [List.take_length] at hK;iterate 3 refine ab ?_
      refine ak (0) [_] [_] ?_;exact congrArg tf (by rw [fB,decide_eq_true hO,hI,hK];rfl)
 ·
  refine bj [ag,ag,ag,ag,ag,ag] [af [1] [100] 8,af [7] [100] 9,af [1] [100] 10,af [9] [] 11,af [8,10] [] 12,af [11] [] 13] rfl ⟨ah,ah,ah,aC fun _=>aN rfl rfl (aj (0) (hc:=(dM m))),aC fun _=>aN rfl rfl ((OpOk.dec_f (aj (0) (hc:=(er (nD m.h) m.qs.length m.an.length m.au.length m.ad.length))) (hO))),ah,trivial⟩ ?_;iterate 6 refine ab ?_
  refine ak (0) [_] [_] ?_;exact congrArg tf (by rw [fB,decide_eq_false hO];rfl)
theorem CI (ls0:List (List UInt8)) (w0:Wr) (v0:Nat) (hn:Nm ls0) (hw:WOk w0) (hb:w0.b.length≤10000000000) (hml:w0.m.length≤10000000000):AC Tryz.prog 50 [.ptr 0 0 0,str (aw ls0)] (ao [(0,.box [.sl 1 (v0) 0 (w0.b).length 1,.sl 2 (w0.m.length) 0 (w0.m).length 2]),(1,.row (cl bc (w0.b)) 1 (v0)),(2,.row (cl plC (w0.m)) 2 (w0.m.length))]) (bZ (.tup []) [(0,.box [.sl 1 (v0+nmC ls0 w0) 0 ((aG ls0 w0).b).length 1,.sl 2 ((aG ls0 w0).m.length) 0 ((aG ls0 w0).m).length 2]),(1,.row (cl bc ((aG ls0 w0).b)) 1 (v0+nmC ls0 w0)),(2,.row (cl plC ((aG ls0 w0).m)) 2 ((aG ls0 w0).m.length))]):=by
 refine AC.intro te_ok (fn:=Tryz.f50) ⟨Tryz.func50,rfl,rfl⟩ (aE rfl) ?_;iterate 2 refine ab ?_
 refine AWp.loopR (α:=List (List UInt8)×Wr×Nat×Nat) [1,5,6,7,8,9,10,11,12,13,14,15,16,17,18,19,20,21,22,23,24,25,26,27,28,29,30,31,32,33,34,35,36,37,38,39,40,41,42,43,44,45,46,47,48,49,50,51,52,53,54,55,56,57,58,59,60,61,62,63,64,65,66,67,68,69,70,71,72,73,74,75] (fun x_=>[(1,str (aw (x_.1)))]) (fun x_=>[(0,.box [.sl 1 ((x_.2.2.1)) 0 ((x_.2.1).b).length 1,.sl 2 ((x_.2.2.2)) 0 ((x_.2.1).m).length 2]),(1,.row (cl bc ((x_.2.1).b)) 1 ((x_.2.2.1))),(2,.row (cl plC ((x_.2.1).m)) 2 ((x_.2.2.2)))]) (fun x_=>Nm (x_.1)∧WOk (x_.2.1)∧(x_.2.1).b.length+(aw (x_.1)).length≤w0.b.length+255∧aG (x_.1) (x_.2.1)=aG ls0 w0∧(x_.2.2.1)+nmC (x_.1) (x_.2.1)=v0+nmC ls0 w0∧(x_.2.2.2)=(x_.2.1).m.length∧(x_.2.2.2)+(aw (x_.1)).length≤w0.m.length+255) (fun x_=>(x_.1).length) (ls0,w0,v0,w0.m.length) ?_ (Back.mk' (HasT.cons HasT.nil) (HasH.cons (HasH.cons (HasH.cons HasH.nil)))) ?_
 ·
  exact ⟨hn,hw,by have:=hn.2;show w0.b.length+(aw ls0).length≤_;omega,rfl,rfl,rfl,by have:=hn.2;show w0.m.length+(aw ls0).length≤_;omega⟩
 ·
  rintro ⟨ls,w,v,u⟩ hI0;change Nm ls∧WOk w∧w.b.length+(aw ls).length≤w0.b.length+255∧aG ls w=aG ls0 w0∧v+nmC ls w=v0+nmC ls0 w0∧u=w.m.length∧u+(aw ls).length≤w0.m.length+255 at hI0;obtain ⟨hN,hW,hB,hE,hV,hu,hM⟩:=hI0;refine AWp.as (s':=AS.over _ [1,5,6,7,8,9,10,11,12,13,14,15,16,17,18,19,20,21,22,23,24,25,26,27,28,29,30,31,32,33,34,35,36,37,38,39,40,41,42,43,44,45,46,47,48,49,50,51,52,53,54,55,56,57,58,59,60,61,62,63,64,65,66,67,68,69,70,71,72,73,74,75] [(1,str (aw ls))] [(0,.box [.sl 1 (v) 0 (w.b).length 1,.sl 2 (u) 0 (w.m).length 2]),(1,.row (cl bc (w.b)) 1 (v)),(2,.row (cl plC (w.m)) 2 (u))]) rfl ?_;have h255:=hN.2;iterate 4 refine ab ?_
  refine am (fun h0_1=>?_) (fun h0_1=>?_)
  ·
   iterate 7 refine ab ?_
   obtain ⟨l,ls,rfl⟩:∃ l ls',ls=l::ls':=by
    cases ls with
    | nil=>exact absurd rfl h0_1
    | cons l ls'=>exact ⟨l,ls',rfl⟩
   have hJ:(aw (l::ls)).length=l.length+1+(aw ls).length:=by rw [b7];simp;omega
   have hN2:Nm ls:=vE hN;iterate 8 refine ab ?_
   refine AWp.loopR (α:=Nat) [5,14,15,16,17,18,19,20,21,22,23,24,25,26,27,28,29,30,31,32,33,34] (fun i=>[(14,i64 i)]) (fun i=>[]) (fun i=>i≤w.m.length∧∀ j,j<i→(w.m.getD j default).1≠aw (l::ls)) (fun i=>w.m.length-i) 0 ?_ (Back.mk' (HasT.cons HasT.nil) HasH.nil) ?_
   ·
    exact ⟨Nat.zero_le _,fun j hj=>by omega⟩
   ·
    rintro i ⟨hi,hI⟩;iterate 2 refine ab ?_
    refine am (fun h2_0=>?_) (fun h2_0=>?_)
    ·
     iterate 10 refine ab ?_
     refine ai rfl rfl (ap 402) ?_;iterate 7 refine ab ?_
     refine am (fun h4_3=>?_) (fun h4_3=>?_)
     ·
      iterate 3 refine ab ?_
      have hm:bg w.m (aw (l::ls))=some (w.m.getD i default).2:=A5 (by omega) hI h4_3;have ha:=hW _ _ hm;have ha2:0≤(w.m.getD (i:Int).toNat default).2∧(w.m.getD (i:Int).toNat default).2<16384:=ha;have ht2:(two (49152+(w.m.getD (i:Int).toNat default).2)).length=2:=rfl;refine bj [ag,ag,ag,ag,ag,ag,ag,ag,ag,bv [(1,_)],ag,ag,bv [(0,_)]] [af [0] [] 23,af [0] [] 24,af [23] [0] 25,af [24] [0] 26,af [25] [0] 27,af [5] [402] 28,af [27] [402] 29,af [28] [] 30,af [29] [] 31,af [26,30] [1] 32 [1],af [22] [0] 33,af [32] [0] 34,af [31,33] [0,1] 0 [0]] rfl ⟨ah,ah,ah,ah,ah,ah,ah,ah,aC fun _=>aN rfl rfl (aj (0) (hc:=(si (49152+(w.m.getD i default).2)))),aC fun _=>aN rfl rfl (gY (hb:=by rw [show ∀ n,(two n).length=2 from fun _=>rfl];simp;omega)),ah,ah,ah,trivial⟩ ?_;refine ab ?_;subst hu;rw [← hE,← hV,(dx hm).1,(dx hm).2];refine aQ (0) [] [] [] [(_,_),(_,_),(_,_)] ?_;rfl
     ·
      iterate 7 refine ab ?_
      refine ⟨i+1,?_,Back.mk' (HasT.cons HasT.nil) HasH.nil,?_⟩
      ·
       refine ⟨by omega,fun j hj=>?_⟩;rcases Nat.lt_or_ge j i with h|h
       · exact hI j h
       · obtain rfl:j=i:=by omega
         exact h4_3
      ·
       first|omega|(simp;omega)
    ·
     iterate 7 refine ab ?_
     have hm:bg w.m (aw (l::ls))=none:=A6 (fun j hj=>hI j (by omega));iterate 5 refine ab ?_
     refine am (fun h7_5=>?_) (fun h7_5=>?_)
     ·
      iterate 2 refine ab ?_
      have hput:w.put l ls=⟨w.b++(ct (l.length:Int)::l),w.m++[(aw (l::ls),(w.b.length:Int))]⟩:=by simp only [Wr.put,if_pos h7_5,yh hm]
      refine bj [ag,ag,ag,ag,ag,ag,ag,ag,ag,ag,ag,ag,bv [(912,_)],bv [(2,_)],ag,ag,bv [(0,_)]] [af [0] [] 42,af [0] [] 43,af [42] [0] 44,af [43] [0] 45,af [44] [0] 46,af [1] [] 47,af [0] [] 48,af [47] [0] 49,af [48] [0] 50,af [49] [0] 51,af [50] [1] 52,af [46,51] [] 53,af [52] [912] 54 [912],af [45,53] [2,912] 55 [2],af [41] [0] 56,af [55] [0] 57,af [54,56] [0,2] 0 [0]] rfl ⟨ah,ah,ah,ah,ah,ah,ah,ah,ah,ah,ah,aC fun _=>aN rfl rfl (aL [(_,_),(_,_)]),aC fun _=>aN rfl rfl (bO 912 plC [(aw (l::ls),(w.b.length:Int))] [(_,_)]),ah,ah,ah,ah,trivial⟩ ?_;iterate 3 refine ab ?_
      refine ai rfl rfl (lV) ?_;iterate 4 refine ab ?_
      rw [xf hN.1];refine bj [ag,ag,ag,ag,ag,ag,ag,ag,ag,bv [(1,_)],ag,ag,bv [(0,_)]] [af [0] [] 61,af [0] [] 62,af [61] [0] 63,af [62] [0] 64,af [63] [0] 65,af [1] [] 66,af [6] [] 67,af [66] [] 68,af [65,67] [] 69,af [64,68] [1] 70 [1],af [60] [0] 71,af [70] [0] 72,af [69,71] [0,1] 0 [0]] rfl ⟨ah,ah,ah,ah,ah,ah,ah,ah,aC fun _=>aN rfl rfl (mQ),ah,ah,ah,ah,trivial⟩ ?_;iterate 4 refine ab ?_
      refine ai rfl rfl (qe) ?_;iterate 2 refine ab ?_
      rw [uB,uC];refine ⟨(ls,⟨w.b++(ct (l.length:Int)::l),w.m++[(aw (l::ls),(w.b.length:Int))]⟩,v+1,u+1),?_,Back.mk' (HasT.cons HasT.nil) (HasH.cons (HasH.cons (HasH.cons HasH.nil))),?_⟩
      ·
       try dsimp only
       rw [← hput];refine ⟨hN2,hW.put l ls,?_,by rw [← hE,(cP hm).1],by rw [← hV,(cP hm).2];try omega,?_,?_⟩
       · simp only [List.length_append,List.length_cons];omega
       · rw [List.length_append,hu];rfl
       · omega
      ·
       try dsimp only
       simp
     ·
      iterate 5 refine ab ?_
      have hput:w.put l ls=⟨w.b++(ct (l.length:Int)::l),w.m⟩:=by simp only [Wr.put,if_neg h7_5]
      refine ab ?_;refine ai rfl rfl (lV) ?_;iterate 4 refine ab ?_
      rw [xf hN.1];refine bj [ag,ag,ag,ag,ag,ag,ag,ag,ag,bv [(1,_)],ag,ag,bv [(0,_)]] [af [0] [] 61,af [0] [] 62,af [61] [0] 63,af [62] [0] 64,af [63] [0] 65,af [1] [] 66,af [6] [] 67,af [66] [] 68,af [65,67] [] 69,af [64,68] [1] 70 [1],af [60] [0] 71,af [70] [0] 72,af [69,71] [0,1] 0 [0]] rfl ⟨ah,ah,ah,ah,ah,ah,ah,ah,aC fun _=>aN rfl rfl (mQ),ah,ah,ah,ah,trivial⟩ ?_;iterate 4 refine ab ?_
      refine ai rfl rfl (qe) ?_;iterate 2 refine ab ?_
      rw [uB,uC];refine ⟨(ls,⟨w.b++(ct (l.length:Int)::l),w.m⟩,v+1,u),?_,Back.mk' (HasT.cons HasT.nil) (HasH.cons (HasH.cons (HasH.cons HasH.nil))),?_⟩
      ·
       try dsimp only
       rw [← hput];refine ⟨hN2,hW.put l ls,?_,by rw [← hE,(cP hm).1],by rw [← hV,(cP hm).2];try omega,?_,?_⟩
       · simp only [List.length_append,List.length_cons];omega
       · exact hu
       · omega
      ·
       try dsimp only
       simp
  ·
   iterate 4 refine ab ?_
   obtain rfl:ls=[]:=by
    cases ls with
    | nil=>rfl
    | cons l ls'=>exact absurd (by simpa using h0_1) An
   iterate 5 refine ab ?_
   refine ai rfl rfl (bO 1305 bc [0] [(_,_)]) ?_;iterate 5 refine ab ?_
   show Fin te Tryz.f50 _ _;subst hu;rw [← hE,← hV];refine aQ (0) [] [] [] [(_,_),(_,_),(_,_)] ?_;rfl
end
end Go.Proofs.YthnfcmgpedppaaaGreat.Fw
