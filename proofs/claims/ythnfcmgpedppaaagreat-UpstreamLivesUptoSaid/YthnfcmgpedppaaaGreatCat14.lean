/- The texts U22p, U22q, one behind the other: what the walks and plain laws need; conditions stand with each theorem. -/
import Derived.Test.YthnfcmgpedppaaaGreatCat13
set_option linter.unusedVariables false
set_option linter.unusedSimpArgs false
set_option linter.unusedSectionVars false
set_option maxRecDepth 20000
set_option maxHeartbeats 4000000
namespace Go.Proofs.YthnfcmgpedppaaaGreat.Fw
open Go.RowKit
theorem zb {K:Type} [DecidableEq K] {ψ:K→aD} {k:K} {φ:aD} {i:Nat}:up ψ k φ k i=φ i:=by rw [aB]
theorem zn2b (u0 u1:Value)(vl:Value)(s0 s1:Value):AOps Tryz.prog Tryz.f3.ntmps (oC (fC (sC (sC zB)))) (fun x s=>x=.normal∧Weak s (mkS [(2,.ptr 100 0 0),(6,.v (.pointer none)),(7,i64 1)] [(100,.box [.v u0,.v u1])])) [2,3,4,5,6] (((Y2 u0 u1 s0 s1 vl).put (some 27) (.agg [.v s0,.v s1])).put (some 28) (.tup [.v (.pointer none),i64 1])):=by
 iterate 6 refine ab ?_
 exact ⟨rfl,Weak.full 0 []⟩
theorem zn3a (u0 u1:Value):Go1 Tryz.prog Tryz.f3.ntmps (oC (fC (sC (sC (sC zB))))) [0] (mkS [(2,.ptr 100 0 0),(6,.v (.pointer none)),(7,i64 1)] [(100,.box [.v u0,.v u1])]) ((mkS [(2,.ptr 100 0 0),(6,.v (.pointer none)),(7,i64 1)] [(100,.box [.v u0,.v u1])]).put (some 32) (.agg [.v u0,.v u1])):=by
 refine Go1.cons rfl rfl (bb (z:=.agg [.v u0,.v u1]) (hy:=rfl)) ?_;refine Go1.nil ?_;exact Weak.refl _
theorem zn3b (u0 u1:Value):AOps Tryz.prog Tryz.f3.ntmps (oC (fC (sC (sC (sC zB))))) (fun x s=>x=.normal∧Weak s (mkS [(6,.v (.pointer none)),(7,i64 1),(8,.v (.pointer none)),(9,i64 1)] [])) [2,3,4,5,6] (((mkS [(2,.ptr 100 0 0),(6,.v (.pointer none)),(7,i64 1)] [(100,.box [.v u0,.v u1])]).put (some 32) (.agg [.v u0,.v u1])).put (some 33) (.tup [.v (.pointer none),i64 1])):=by
 iterate 6 refine ab ?_
 exact ⟨rfl,Weak.full 0 []⟩
theorem zn4  : AWp Tryz.prog Tryz.f3.ntmps (sC (sC (sC (sC zB)))) (Post te Tryz.f3 (Ret (tf true))) (mkS [(6,.v (.pointer none)),(7,i64 1),(8,.v (.pointer none)),(9,i64 1)] []):=by
 iterate 5 refine ab ?_
 refine AOps.cons rfl rfl ((OpOk.dec_f (gV) (fun k=>k rfl))) ?_;iterate 5 refine ab ?_
 refine AOps.gcons rfl rfl rfl rfl rfl ((OpOk.bool_is (c:=false) (zH) (rfl))) ?_;iterate 11 refine ab ?_
 refine AOps.cons rfl rfl ((OpOk.dec_t (dm) (rfl))) ?_;iterate 11 refine ab ?_
 refine ak (0) [_] [_] ?_;rfl
section
variable {u0 u1 vl:Value} {t:Tr} {l:List DoS} {w:World} {a:Act} {QQ:Exit→Act→World→Prop}
theorem Ea {Λ:aW} {w0:Base} {bs bx N:Nat} {σ:Int→Option (List UInt8)} (h:St Λ w0 (I2 t bs bx N σ σ) (YE bs bx) w a) (hN:N≤1000) (fin:∀ w' a',Sim NTl w' (fun _=>none) NoL (mkS [(4,tf true)] []) a'→Rn w0 w'→QQ .ret a' w'):((sC (sC (sC (sC (sC (sC (sC zB)))))))).wp Tryz.prog QQ a w:=by
 obtain ⟨f8,c8,hb8⟩:=(kO t [] 0 rfl (fun _ h=>by cases h)).1;obtain ⟨f9,c9,hb9⟩:=(kL t [] 0 0 (by decide) (fun _ h=>by cases h) (fun _ h=>by cases h)).1;refine wp_seq (wp_region ?_);change wpOps Tryz.prog (oC (fC (sC (sC (sC (sC (sC (sC (sC zB))))))))) _ ([0]++[1,2,3,4,5]) a w;refine h.pre ic2 (FN bs bx) (ax rfl) fun w1 a1 h1=>?_
 refine dy hb8 rfl rfl rfl rfl ?_;refine h1.forgetS (x0:=.tmp 155) (x1:=.const (.int .i64 (-77))) (d:=156) (dq rfl) (by rw [List.map_toArray];rfl) rfl rfl rfl fun w2 v2 h2=>?_
 change wpOps Tryz.prog (oC (fC (sC (sC (sC (sC (sC (sC (sC zB))))))))) _ ([2]++[3,4,5]) _ w2;refine h2.pre ic2 (FM bs bx _) (ax rfl) fun w3 a3 h3=>?_
 refine dy hb9 rfl rfl rfl rfl ?_;refine h3.forgetX (x0:=.tmp 157) (x1:=.const (.int .i64 (-77))) (d:=158) (dq rfl) hN (by rw [List.map_toArray];rfl) rfl rfl rfl fun w4 v4 h4=>?_
 refine h4.ops ic2 (FL bs bx _) (ax rfl) fun w5 a5 h5=>?_
 obtain ⟨ψ,H,p,_,_,hs⟩:=h5;refine wp_ret (fin w5 a5 ⟨hs.defs,hs.size,fun i=>iT (f:=fun i=>a5.tmps.getD i undef) (fun p hp=>?_) i,⟨(fun id ob h=>by cases h),fun _ _=>rfl,(fun id l x o h=>by cases h),(fun id id' l l' x o o' h=>by cases h),fun k x h=>h.elim⟩⟩ p.rn);obtain rfl:=List.mem_singleton.1 hp;exact cD (show Rep w5 _ _ (.v _) _ from hs.tmps 4)
theorem rX (hs0:Sim NTl w (fun _=>none) NoL (Y0 u0 u1 vl) a) (tF:Rep w (fun _=>none) (GB fun b=>b<w.heap.size) (.agg (trC t)) (.agg #[u0,u1])) (ht:cx t)
 (next:∀ w2 w3 w4 φ2 φ4 a4 a0 c0 a9 c9,Goes w (fun _=>none) w2 φ2→(∀ y,bp φ2 y→w.heap.size≤y∧y<w2.heap.size)→Goes w2 (fun _=>none) w3 (fun _=>none)→Goes w2 φ2 w3 φ2→Rep w3 (fun _=>none) (GB fun b=>w2.heap.size≤b∧b<w3.heap.size) (.agg (trC t)) (.agg #[.slice a0 t.zs.length c0,.slice a9 t.ss.length c9])→
  Goes w3 φ2 w4 φ4→Sim NTl w4 φ4 NoL (Y2 u0 u1 (.slice a0 t.zs.length c0) (.slice a9 t.ss.length c9) vl) a4→((sC (sC zB))).wp Tryz.prog QQ a4 w4):zB.wp Tryz.prog QQ a w:=by
 have lt0:(AV.agg (trC t)).lev 0=true:=rfl;refine wp_seq (zp0 u0 u1 vl NoL w (fun _=>none) a hs0 _ fun ae s' w1 φ1' a1 q hs' g0=>?_);obtain ⟨rfl,hW⟩:=q;obtain ⟨φ1,hs1,g1⟩:=hW _ _ w1 φ1' a1 hs';refine wp_seq (wp_region ?_);change wpOps Tryz.prog (oC (fC (sC zB))) _ ([0]++[1,2,3]) a1 w1;refine zp1a u0 u1 vl NoL w1 φ1 a1 _ _ hs1 fun w2 φ2 a2 hs2 g2=>?_
 have gA:Goes w (fun _=>none) w2 φ2:=(g0.trans g1).trans g2;refine dy (fn:=Tryz.f4) ⟨Tryz.func4,rfl,rfl⟩ rfl rfl rfl rfl ?_;have ev:(#[Operand.tmp 24]:Array Operand).map a2.eval=#[.agg #[u0,u1]]:=by
  rw [List.map_toArray];exact congrArg (fun v=>#[v]) (z9 (show Rep w2 _ _ (.agg [.v u0,.v u1]) _ from hs2.tmps 24))
 rw [ev];have kA:∀ b,b<w.heap.size→w2.heap[b]?=w.heap[b]?:=fun b hb=>gA.keep b hb fun h=>aI h
 refine (oW t ht).2 (fun k y=>k=1∧y<w2.heap.size) w2 (fun _=>none) _ ⟨(fun id ob h=>by cases h),fun _ _=>rfl,(fun id l x o h=>by cases h),(fun id id' l l' x o o' h=>by cases h),fun k x h=>h.2⟩
  (qZ (tV (fun b _ _=>⟨fun h=>aI h,fun k hk h=>by have:=h.1;omega⟩) (uM kA tF lt0 o6))) _ (fun r h' w3 φ' v hR hs3 g3 hr=>?_) (fun x h' w' φ' hR=>absurd hR.1 (by simp))
 obtain ⟨e1,e2⟩:=hR;cases e1;subst e2;have hφ:φ'=fun _=>none:=funext fun id=>hs3.dom id rfl
 subst hφ;have gF:Rep w3 (fun _=>none) (GB fun b=>w2.heap.size≤b∧b<w3.heap.size) (.agg (trC t)) v:=hr.move (lv:=0) (fun j b hj hb hm=>by
  obtain rfl:=Nat.le_zero.1 hj;exact ⟨fun h=>aI h,fun k hk h=>h.2 ⟨Nat.le_of_not_lt fun hlt=>hm.2 1 Nat.one_pos ⟨rfl,hlt⟩,hb⟩⟩) rfl
 obtain ⟨s0,s1,rfl,r0,r1⟩:=Dd gF;obtain ⟨a0,c0,rfl⟩:=ij r0 rfl;obtain ⟨a9,c9,rfl⟩:=ij r1 rfl;obtain ⟨hs3',g3'⟩:=pR hs2 g3;have hs4:=hs3'.put (some 25) rfl (Gk (u0:=.slice a0 t.zs.length c0) (u1:=.slice a9 t.ss.length c9));refine zp1b u0 u1 vl (.slice a0 t.zs.length c0) (.slice a9 t.ss.length c9) rfl NoL w3 φ2 _ hs4 _ fun ae s' w4 φ4' a4 q hs' g4=>?_
 obtain ⟨rfl,hW⟩:=q;obtain ⟨φ4,hs5,g5⟩:=hW _ _ w4 φ4' a4 hs';exact next w2 w3 w4 φ2 φ4 a4 a0 c0 a9 c9 gA (fun y ho=>by
  refine ⟨(gA.own y ho).resolve_left fun h=>aI h,?_⟩;obtain ⟨id,l,o,e1,e2⟩:=ho;exact (hs2.hs.lt id l y o e1 e2).1) g3 g3' gF (g4.trans g5) hs5
theorem Cc (hs0:Sim NTl w (fun _=>none) NoL (Y0 u0 u1 vl) a) (tF:Rep w (fun _=>none) (GB fun b=>b<w.heap.size) (.agg (trC t)) (.agg #[u0,u1])) (lF:Rep w (fun _=>none) (GB fun b=>b<w.heap.size) (.fz 0 l.length (cl doR l)) vl) (hc:dZ t=true) (ht:cx t) (hl:∀ d∈l,vF d)
 (fin:∀ w' a',Sim NTl w' (fun _=>none) NoL (mkS [(4,tf true)] []) a'→Goes w (fun _=>none) w' (fun _=>none)→QQ .ret a' w'):zB.wp Tryz.prog QQ a w:=by
 have lt0:(AV.agg (trC t)).lev 0=true:=rfl;have ll0:(AV.fz 0 l.length (cl doR l)).lev 0=true:=rfl;refine rX hs0 tF ht fun w2 w3 w4 φ2 φ4 a4 a0 c0 a9 c9 gA own2 g3 g3' gF g45 hs5=>?_
 have kA:∀ b,b<w.heap.size→w2.heap[b]?=w.heap[b]?:=fun b hb=>gA.keep b hb fun h=>aI h
 have s23:w2.heap.size≤w3.heap.size:=g3.size;have s02:w.heap.size≤w2.heap.size:=gA.size;have own4:∀ y,bp φ4 y→¬ (y<w.heap.size∨(w2.heap.size≤y∧y<w3.heap.size)):=fun y ho hb=>by
  rcases g45.own y ho with h|h
  · have:=own2 y h;omega
  · omega
 obtain ⟨b1,hb1w,hb1B⟩:∃ b1:Base,b1.w=w3∧b1.B=fun b=>b<w.heap.size∨(w2.heap.size≤b∧b<w3.heap.size):=⟨⟨w3,_,fun b hb=>by rcases hb with h|h<;>omega⟩,rfl,rfl⟩
 have rn1:Rn b1 w4:=by
  refine ⟨fun b hb=>?_,by rw [hb1w];exact g45.size,by rw [hb1w];exact g45.os,by rw [hb1w];exact g45.tape,by rw [hb1w];exact g45.output,by rw [hb1w];exact g45.fro⟩;rw [hb1B] at hb;rw [hb1w];exact g45.keep b (by rcases hb with h|h<;>omega) fun ho=>by
   have:=own2 b ho;rcases hb with h|h<;>omega
 have hH:HSim w4 φ4 (LR w2.heap.size w3.heap.size) (ao [(100,.box [.v u0,.v u1]),(201,.box [.v (.slice a0 t.zs.length c0),.v (.slice a9 t.ss.length c9)])]):=by
  have q:=hs5.hs;refine HSim.of (φ:=φ4) (Λ:=NoL) (L0:=[(100,.box [.v u0,.v u1]),(201,.box [.v (.slice a0 t.zs.length c0),.v (.slice a9 t.ss.length c9)])]) q rfl (fun id l b o e1 e2=>⟨(q.lt id l b o e1 e2).1,fun k hk=>own4 b ⟨id,l,o,e1,e2⟩ (.inr hk.2)⟩) (fun k b hk=>by have:=hk.2.2;have:=g45.size;omega) fun p hp=>?_
  simp only [List.mem_cons,List.not_mem_nil,or_false] at hp;have cst:∀ {id:Nat} {x y:Value},(Y2 u0 u1 (.slice a0 t.zs.length c0) (.slice a9 t.ss.length c9) vl).h id=some (.box [.v x,.v y])→∃ l,φ4 id=some l∧ObjRep w4 φ4 (LR w2.heap.size w3.heap.size) (.box [.v x,.v y]) l:=fun {id x y} e=>by
   obtain ⟨l,h1,b,arr,T,k1,k2,k3,k4,k5⟩:=q.heap id _ e;refine ⟨l,h1,b,arr,T,k1,k2,k3,k4,fun j c hj=>?_⟩;obtain ⟨u,m1,m2⟩:=k5 j c hj
   match j,hj with
   | 0,hj=>cases hj;exact ⟨u,m1,cD m2⟩
   | 1,hj=>cases hj;exact ⟨u,m1,cD m2⟩
   | j+2,hj=>cases hj
  rcases hp with rfl|rfl
  · exact cst rfl
  · exact cst rfl
 have p:=PS.single (w0:=b1) kC hH (ax rfl) (fun y ho=>by rw [hb1B];exact own4 y ho) rn1;have h5:St (LR w2.heap.size w3.heap.size) b1 I0 (Y2 u0 u1 (.slice a0 t.zs.length c0) (.slice a9 t.ss.length c9) vl) w4 a4:=by
  refine ⟨_,_,p,⟨⟨aO Am,aO Al⟩,fun c=>⟨aO Cf,aO Cg⟩⟩,aB,hs5.defs,hs5.size,fun i=>iT (f:=fun i=>a4.tmps.getD i undef) (fun p hp=>?_) i,by have:=p.parts.sim kC;rw [aB (f:=fun _:Ks=>emp)] at this;exact this⟩;simp only [List.mem_cons,List.not_mem_nil,or_false] at hp;rcases hp with rfl|rfl|rfl
  · exact cD (show Rep w4 _ _ (.v vl) _ from hs5.tmps 1)
  · exact q7 (i:=100) zb (show Rep w4 φ4 NoL (.ptr 100 0 0) _ from hs5.tmps 2)
  · exact q7 (i:=201) zb (show Rep w4 φ4 NoL (.ptr 201 0 0) _ from hs5.tmps 5)
 have tG:∀ (k:Ks) {Λ:aW} {ψ:Ks→aD} {H:Ks→aX} {w':World},PS (LR w2.heap.size w3.heap.size) b1 w' ψ H→Rep w' (ψ k) (Lt (LR w2.heap.size w3.heap.size) ψ k) (.agg (ja t)) (.agg #[u0,u1]):=fun k {Λ ψ H w'} p=>by
  have h1:Rep b1.w (fun _=>none) (GB fun b=>b<w.heap.size) (.agg (trC t)) (.agg #[u0,u1]):=by
   rw [hb1w];exact uM (fun b hb=>by rw [← kA b hb];exact g3.keep b (by omega) fun h=>aI h) tF lt0 o6
  have h2:=p.base0 k (fun b hb=>by rw [hb1B];exact .inl hb) (fun j b hj hb hL=>by have:=hL.2.1;omega) h1 lt0;exact tV (fun b _ hm=>⟨hm.1,fun k hk=>hm.2 k (by omega)⟩) h2
 have gG:∀ {ψ:Ks→aD} {H:Ks→aX} {w':World},PS (LR w2.heap.size w3.heap.size) b1 w' ψ H→Rep w' (fun _=>none) (GB fun b=>w2.heap.size≤b∧b<w3.heap.size) (.agg (trC t)) (.agg #[.slice a0 t.zs.length c0,.slice a9 t.ss.length c9]):=fun {ψ H w'} p=>by
  refine p.base (B:=fun b=>w2.heap.size≤b∧b<w3.heap.size) (fun b hb=>by rw [hb1B];exact .inr hb) ?_ lt0 o6;rw [hb1w];exact gF
 refine wp_seq (wp_region ?_);change wpOps Tryz.prog (oC (fC (sC (sC zB)))) _ ([0]++[1,2,3,4,5,6]) a4 w4;refine h5.pre ic0 (FO u0 u1 vl _ _) (ax rfl) fun w6 a6 h6=>?_
 refine dy (fn:=Tryz.f5) ⟨Tryz.func5,rfl,rfl⟩ rfl rfl rfl rfl ?_;have ev:(#[Operand.tmp 27]:Array Operand).map a6.eval=#[.agg #[.slice a0 t.zs.length c0,.slice a9 t.ss.length c9]]:=by
  obtain ⟨ψ,H,p,_,_,hs⟩:=h6;rw [List.map_toArray];exact congrArg (fun v=>#[v]) (z9 (show Rep w6 _ _ (.agg [.v _,.v _]) _ from hs.tmps 27))
 rw [ev];refine Bz (d:=28) h6 (ix (dq rfl) rfl) (fun ψ H p=>?_) ht hc rfl fun bs w7 v7 h7=>?_
 · exact tV (φ:=fun _=>none) (Λ:=GB fun b=>w2.heap.size≤b∧b<w3.heap.size) (fun b _ hm=>by
    have hb:w2.heap.size≤b∧b<w3.heap.size:=Classical.byContradiction fun n=>hm.2 1 Nat.one_pos ⟨rfl,n⟩
    refine ⟨fun ho=>p.new kS b ho (by rw [hb1B];exact .inr hb),fun k hk h=>?_⟩;rcases h with h|h
    · have:=h.1;omega
    · have:=h.1;omega) (gG p)
 refine h7.ops ic1 (zp2b u0 u1 vl _ _ bs) (ax rfl) fun w8 a8 h8=>?_
 refine wp_seq (wp_region ?_);change wpOps Tryz.prog (oC (fC (sC (sC (sC zB))))) _ ([0]++[1,2,3,4,5,6]) a8 w8;refine h8.pre ic1 (zp3a u0 u1 vl _ _ bs) (ax rfl) fun w9 a9' h9=>?_
 refine dy (fn:=Tryz.f6) ⟨Tryz.func6,rfl,rfl⟩ rfl rfl rfl rfl ?_;have ev:(#[Operand.tmp 32]:Array Operand).map a9'.eval=#[.agg #[u0,u1]]:=by
  obtain ⟨ψ,H,p,_,_,hs⟩:=h9;rw [List.map_toArray];exact congrArg (fun v=>#[v]) (z9 (show Rep w9 _ _ (.agg [.v _,.v _]) _ from hs.tmps 32))
 rw [ev];refine By (d:=33) h9 (ix (dq rfl) rfl) (fun ψ H p=>tG kX (Λ:=NoL) p) ht hc rfl fun bx w10 v10 h10=>?_
 refine h10.ops ic2 (zp3b u0 u1 vl _ _ bs bx) (ax rfl) fun w11 a11 h11=>?_
 refine wp_seq (wp_seq (h11.run ic2 (zp4 vl _ _ bs bx) (ax rfl) fun w12 a12 h12=>?_));refine h12.run ic2 (zp5 vl _ _ bs bx) (ax rfl) fun w13 a13 h13=>?_
 refine wp_seq (wp_seq (h13.run ic2 (zp6 vl a0 t.zs.length c0 _ bs bx) (ax rfl) fun w14 a14 h14=>?_));refine zi (fun b=>b<w.heap.size) (fun b hb=>⟨by rw [hb1B];exact .inl hb,by omega⟩) h14 ht (fun b h1 h2=>?_) (fun ψ H p=>?_) fun w15 a15 hb15 h15 k15 s15 o15 t15 u15 f15=>?_
 · rw [hb1w]
   exact g3.fro trivial b fun h=>by omega
 · obtain ⟨x0,x1,e,r2,_⟩:=Dd (gG p)
   cases e;exact r2
 have hb1s:w3.heap.size≤w14.heap.size∧Rn b1 w14:=by
  obtain ⟨ψ,H,p,_⟩:=h14;have:=p.rn.size;rw [hb1w] at this;exact ⟨this,p.rn⟩
 have k14:∀ b,b<w.heap.size→w15.heap[b]?=w.heap[b]?:=fun b hb=>by
  rw [k15 b hb,hb1s.2.keep b (by rw [hb1B];exact .inl hb),hb1w,g3.keep b (by omega) fun h=>aI h,kA b hb]
 have h16:St (LR w2.heap.size w3.heap.size) ⟨w15,fun b=>b<w.heap.size,hb15⟩ (I2 t bs bx 0 σ0 σ0) (Y8 bs bx (.fz 0 l.length (cl doR l))) w15 a15:=by
  obtain ⟨ψ,H,p,hi,he,hs⟩:=h15;refine ⟨ψ,H,p,hi,he,hs.defs,hs.size,fun i=>iT (f:=fun i=>a15.tmps.getD i undef) (fun q hq=>?_) i,hs.hs⟩;simp only [List.mem_cons,List.not_mem_nil,or_false] at hq;rcases hq with rfl|rfl|rfl
  · have e:a15.tmps.getD 1 undef=vl:=pn (show Rep w15 _ _ (.v vl) _ from hs.tmps 1)
    show Rep w15 _ _ _ (a15.tmps.getD 1 undef);rw [e];exact p.base0 kC (B:=fun b=>b<w.heap.size) (fun b hb=>hb) (fun j b hj hb hL=>by have:=hL.2.1;omega) (uM k14 lF ll0 o6) ll0
  · exact hs.tmps 6
  · exact hs.tmps 8
 refine wp_seq (wp_seq (h16.run ic2 (zp8 bs bx l) (ax rfl) fun w17 a17 h17=>?_));refine E9 h17 ht hl fun N σ w18 a18 hN h18=>?_
 refine Ea h18 hN fun w19 a19 hs19 rn19=>fin w19 a19 hs19 ?_
 have z1:w14.heap.size≤w15.heap.size:=s15;have z2:=rn19.size;refine ⟨fun b hb _=>(rn19.keep b hb).trans (k14 b hb),?_,fun b hb=>(aI hb).elim,?_,?_,?_,Pin.none _ _ fun _ _=>rfl,?_⟩
 · have:=hb1s.1
   dsimp only at z2;omega
 · rw [rn19.os,← gA.os,← g3.os];dsimp only;rw [o15,hb1s.2.os,hb1w]
 · rw [rn19.tape,← gA.tape,← g3.tape];dsimp only;rw [t15,hb1s.2.tape,hb1w]
 · rw [rn19.output,← gA.output,← g3.output];dsimp only;rw [u15,hb1s.2.output,hb1w]
 · have q:=hb1s.2.fro
   rw [hb1w] at q;exact (((gA.fro.trans g3.fro).trans q).trans f15).trans rn19.fro
theorem EL (hs0:Sim NTl w (fun _=>none) NoL (Y0 u0 u1 vl) a) (tF:Rep w (fun _=>none) (GB fun b=>b<w.heap.size) (.agg (trC t)) (.agg #[u0,u1])) (hc:dZ t=false) (ht:cx t)
 (fin:∀ w' φ' a',Sim NTl w' φ' NoL (mkS [(6,.v (.pointer none)),(7,i64 1),(8,.v (.pointer none)),(9,i64 1)] []) a'→Goes w (fun _=>none) w' φ'→((sC (sC (sC (sC zB))))).wp Tryz.prog QQ a' w'):zB.wp Tryz.prog QQ a w:=by
 refine rX hs0 tF ht fun w2 w3 w4 φ2 φ4 a4 a0 c0 a9 c9 gA own2 g3 g3' gF g45 hs5=>?_
 have lt0:(AV.agg (trC t)).lev 0=true:=rfl;have emp0:∀ w:World,HSim w (fun _=>none) NoL emp:=fun w=>⟨(fun id ob h=>by cases h),fun _ _=>rfl,(fun id l x o h=>by cases h),(fun id id' l l' x o o' h=>by cases h),fun k x h=>h.elim⟩
 have any1:∀ (w:World) (Λ:aW) b,b<w.heap.size→may (fun _=>none) Λ 0 b→may (fun _=>none) NoL 1 b:=fun _ _ _ _ _=>⟨fun h=>aI h,fun _ _ h=>h.elim⟩
 refine wp_seq (wp_region ?_);change wpOps Tryz.prog (oC (fC (sC (sC zB)))) _ ([0]++[1,2,3,4,5,6]) a4 w4;refine FO u0 u1 vl _ _ NoL w4 φ4 a4 _ _ hs5 fun w6 φ6 a6 hs6 g6=>?_
 refine dy (fn:=Tryz.f5) ⟨Tryz.func5,rfl,rfl⟩ rfl rfl rfl rfl ?_;have ev:(#[Operand.tmp 27]:Array Operand).map a6.eval=#[.agg #[.slice a0 t.zs.length c0,.slice a9 t.ss.length c9]]:=by
  rw [List.map_toArray];exact congrArg (fun v=>#[v]) (z9 (show Rep w6 _ _ (.agg [.v _,.v _]) _ from hs6.tmps 27))
 rw [ev];have g46:=g45.trans g6;have k6:∀ b,w2.heap.size≤b∧b<w3.heap.size→w6.heap[b]?=w3.heap[b]?:=fun b hb=>g46.keep b hb.2 fun ho=>by have:=own2 b ho;omega
 refine (yR t ht hc).2 NoL w6 (fun _=>none) _ (emp0 _) (qZ (tV (any1 _ _) (uM k6 gF lt0 o6))) _ (fun r h' w7 φ' v hR hs7 g7 hr=>?_) (fun x h' w' φ' hR=>absurd hR.1 (by simp));obtain ⟨e1,e2⟩:=hR;cases e1;obtain ⟨hs7',g7'⟩:=pR hs6 g7;have hs8:=hs7'.put (some 28) rfl (vM hr rfl);refine zn2b u0 u1 vl _ _ NoL w7 φ6 _ hs8 _ fun ae s' w8 φ8' a8 q hs' g8=>?_
 obtain ⟨rfl,hW⟩:=q;obtain ⟨φ8,hs9,g9⟩:=hW _ _ w8 φ8' a8 hs';refine wp_seq (wp_region ?_);change wpOps Tryz.prog (oC (fC (sC (sC (sC zB))))) _ ([0]++[1,2,3,4,5,6]) a8 w8;refine zn3a u0 u1 NoL w8 φ8 a8 _ _ hs9 fun w10 φ10 a10 hs10 g10=>?_
 refine dy (fn:=Tryz.f6) ⟨Tryz.func6,rfl,rfl⟩ rfl rfl rfl rfl ?_;have ev:(#[Operand.tmp 32]:Array Operand).map a10.eval=#[.agg #[u0,u1]]:=by
  rw [List.map_toArray];exact congrArg (fun v=>#[v]) (z9 (show Rep w10 _ _ (.agg [.v _,.v _]) _ from hs10.tmps 32))
 rw [ev];have gB:=((((((gA.trans g3').trans g46).trans g7').trans g8).trans g9).trans g10);refine (yK t ht hc).2 NoL w10 (fun _=>none) _ (emp0 _) (qZ (tV (any1 _ _) (uM (fun b hb=>gB.keep b hb fun h=>aI h) tF lt0 o6))) _ (fun r h' w11 φ' v hR hs11 g11 hr=>?_) (fun x h' w' φ' hR=>absurd hR.1 (by simp));obtain ⟨e1,e2⟩:=hR;cases e1;obtain ⟨hs11',g11'⟩:=pR hs10 g11;have hs12:=hs11'.put (some 33) rfl (vM hr rfl);refine zn3b u0 u1 NoL w11 φ10 _ hs12 _ fun ae s' w13 φ13' a13 q hs' g13=>?_
 obtain ⟨rfl,hW⟩:=q;obtain ⟨φ13,hs13,g14⟩:=hW _ _ w13 φ13' a13 hs';exact fin w13 φ13 a13 hs13 (((gB.trans g11').trans g13).trans g14)
theorem base0 {Λ:aW} {φ:aD} {x:AV} {v:Value} (h:Rep w φ Λ x v) (hx:x.ok 0=true):Rep w (fun _=>none) (GB fun b=>b<w.heap.size) x v:=
 h.move (lv:=0) (fun l b _ hb _=>⟨fun h=>aI h,fun k _ h=>h.2 hb⟩) hx
theorem Cd (ht:cx t) (hl:∀ d∈l,vF d):AWp Tryz.prog NTl zB (Post te Tryz.f3 (Ret (tf true))) ⟨fun i=>[.agg (trC t),.fz 0 l.length (cl doR l)].getD i (.v undef),emp⟩:=by
 intro Λ w φ a hs QQ hQ;have hφ:φ=fun _=>none:=funext fun id=>hs.hs.dom id rfl
 subst hφ;have h0:Rep w (fun _=>none) Λ (.agg (trC t)) (a.tmps.getD 0 undef):=hs.tmps 0;have h1:Rep w (fun _=>none) Λ (.fz 0 l.length (cl doR l)) (a.tmps.getD 1 undef):=hs.tmps 1;obtain ⟨u0,u1,e0,_,_⟩:=Dd h0;have hs0:Sim NTl w (fun _=>none) NoL (Y0 u0 u1 (a.tmps.getD 1 undef)) a:=by
  refine ⟨hs.defs,hs.size,fun i=>iT (f:=fun i=>a.tmps.getD i undef) (fun p hp=>?_) i,⟨(fun id ob h=>by cases h),fun _ _=>rfl,(fun id l x o h=>by cases h),(fun id id' l l' x o o' h=>by cases h),fun k x h=>h.elim⟩⟩;simp only [List.mem_cons,List.not_mem_nil,or_false] at hp;rcases hp with rfl|rfl
  · show Rep w _ _ _ (a.tmps.getD 0 undef)
    rw [e0];exact Gk
  · exact .v
 have hsim:∀ (w':World) (φ':aD) (s':AS) (a':Act),Goes w (fun _=>none) w' φ'→Sim NTl w' φ' NoL s' a'→s'.h=emp→(∀ i,s'.t i=.any∨∃ x,s'.t i=.v x)→Sim NTl w' φ' Λ s' a':=fun w' φ' s' a' g hs' he ht=>by
  have hφ:∀ id,φ' id=none:=fun id=>hs'.hs.dom id (by rw [he])
  refine ⟨hs'.defs,hs'.size,fun i=>?_,⟨(fun id ob h=>by rw [he] at h;cases h),fun id _=>hφ id,(fun id l x o h=>by rw [hφ] at h;cases h),(fun id id' l l' x o o' h=>by rw [hφ] at h;cases h),fun k x h=>Nat.lt_of_lt_of_le (hs.hs.lent k x h) g.size⟩⟩;have h:=hs'.tmps i;rcases ht i with e|⟨x,e⟩
  · rw [e];exact .any
  · rw [e] at h ⊢;exact cD h
 have hfin:Fin te Tryz.f3 (Ret (tf true)) (mkS [(4,tf true)] []):=by
  refine ak (0) [_] [_] ?_;rfl
 have hone:∀ i,(mkS [(4,tf true)] []).t i=.any∨∃ x,(mkS [(4,tf true)] []).t i=.v x:=fun i=>by
  rcases qy (T:=[(4,tf true)]) (i:=i) with e|e
  · exact .inl e
  · have:=List.mem_singleton.1 e
    exact .inr ⟨_,congrArg Prod.snd this⟩
 rw [e0] at h0;cases hc:dZ t with
 | true=>exact Cc hs0 (base0 h0 rfl) (base0 h1 rfl) hc ht hl fun w' a' hs' g=>hQ .ret _ w' _ a' hfin (hsim w' _ _ a' g hs' rfl hone) g
 | false=>
  refine EL hs0 (base0 h0 rfl) hc ht fun w' φ' a' hs' g=>?_
  refine zn4 Λ w' φ' a' (hsim w' φ' _ a' g hs' rfl fun i=>?_) QQ fun ae s2 w2 φ2 a2 q hs2 g2=>hQ ae s2 w2 φ2 a2 q hs2 (g.trans g2)
  rcases qy (T:=[(6,.v (.pointer none)),(7,i64 1),(8,.v (.pointer none)),(9,i64 1)]) (i:=i) with e|e
  · exact .inl e
  · simp only [List.mem_cons,List.not_mem_nil,or_false,Prod.mk.injEq] at e
    rcases e with e|e|e|e<;>exact .inr ⟨_,e.2⟩
end
theorem c_ciceronelaw22_UpstreamLives (t:Tr) (l:List DoS) (ht:cx t) (hl:∀ d∈l,vF d):AC Tryz.prog 3 [.agg (trC t),.fz 0 l.length (cl doR l)] emp (Ret (tf true)):=
 AC.intro te_ok (fn:=Tryz.f3) ⟨Tryz.func3,rfl,rfl⟩ (aE rfl) (Cd ht hl)
theorem qD {p q:TypeId→List AV→Prop} (h:∀ t cs,p t cs→q t cs):∀ {fs:List (Nat×TypeId)} {cs:List AV},oO p fs cs→oO q fs cs
 | [],_,e=>e
 | (_,t)::r,_,⟨a,b,e1,e2,e3⟩=>⟨a,b,e1,h t a e2,qD h e3⟩
theorem has_of {te:TE}:∀ {d:Nat} {t:TypeId} {cs:List AV},Up.Has te d t cs→Has te d t cs
 | 0,_,_,h=>h
 | d+1,t,cs,h=>by
  unfold Up.Has at h;unfold Has;cases hg:te.get t with
  | none=>rw [hg] at h;exact h
  | some i=>
   rw [hg] at h;dsimp only at h ⊢;cases hk:i.k with
   | str=>rw [hk] at h;obtain ⟨l,h1,h2⟩:=h;exact ⟨l,Nat.le_trans h1 (by decide),h2⟩
   | slice e=>rw [hk] at h;obtain ⟨es,h1,h2,h3⟩:=h;exact ⟨es,fun c hc=>has_of (h1 c hc),fun j hj=>Nat.le_trans (h2 j hj) (by decide),h3⟩
   | arr m e=>rw [hk] at h;obtain ⟨es,h1,h2,h3⟩:=h;exact ⟨es,h1,fun c hc=>has_of (h2 c hc),h3⟩
   | struct fs=>rw [hk] at h;exact qD (fun t cs=>has_of) h
   | _=>rw [hk] at h;exact h
section
variable {d:Nat} {s n b u:TypeId} {is in' ib iu:TI}
theorem has_dos {tl tt t th tq tr r q y:TypeId} {itl itt it ith itq itr ir iq iy:TI} {cs:List AV} (h:Up.Has te (d+6) tl cs) (htl:te.get tl=some itl) (ktl:itl.k=.slice tt) (htt:te.get tt=some itt) (ktt:itt.k=.struct [(0,n),(1,n),(2,y),(3,t),(15,n),(16,b)]) (ht:te.get t=some it) (kt:it.k=.struct [(0,th),(8,tq),(9,tr),(10,tr),(11,tr)])
 (hth:te.get th=some ith) (kth:ith.k=.struct [(0,n),(1,b),(2,n),(3,b),(4,b),(5,b),(6,b),(7,n)]) (htq:te.get tq=some itq) (ktq:itq.k=.slice q) (hq:te.get q=some iq) (kq:iq.k=.struct [(0,s),(1,n),(2,n)]) (bq:iq.bytes=32)
 (htr:te.get tr=some itr) (ktr:itr.k=.slice r) (hr:te.get r=some ir) (kr:ir.k=.struct [(0,s),(1,n),(2,n),(3,n),(4,y)]) (br:ir.bytes=64)
 (hs:te.get s=some is) (ks:is.k=.str) (hn:te.get n=some in') (kn:in'.k=.int .i64) (hb:te.get b=some ib) (kb:ib.k=.bool) (hy:te.get y=some iy) (ky:iy.k=.slice u) (hu:te.get u=some iu) (ku:iu.k=.int .u8) (bu:iu.bytes=1) :
 ∃ l:List DoS,cs=[.fz 0 l.length (cl doR l)]∧∀ x∈l,vF x:=by
 obtain ⟨l,h1,_,h3⟩:=Up.has_sl (f:=doR) (q:=vF) h htl ktl htt fun c hc=>by
  obtain ⟨_,w,rfl,q1,hh⟩:=Up.has_struct hc htt ktt;obtain ⟨a1,rfl,_⟩:=Up.has_int q1 hn kn;obtain ⟨_,w,rfl,q1,hh⟩:=hh;obtain ⟨a2,rfl,_⟩:=Up.has_int q1 hn kn;obtain ⟨_,w,rfl,q1,hh⟩:=hh;obtain ⟨a3,rfl,k3⟩:=Up.has_bytes q1 hy ky hu ku bu;obtain ⟨_,w,rfl,q1,hh⟩:=hh;obtain ⟨a4,rfl,m1,m2⟩:=Au (has_of q1) ht kt hth kth htq ktq hq kq bq htr ktr hr kr br hs ks hn kn hb kb hy ky hu ku bu;obtain ⟨_,w,rfl,q1,hh⟩:=hh;obtain ⟨a5,rfl,_⟩:=Up.has_int q1 hn kn;obtain ⟨_,w,rfl,q1,hh⟩:=hh;obtain ⟨a6,rfl⟩:=Up.has_bool q1 hb kb;cases hh;exact ⟨⟨a1,a2,a3,a4,a5,a6⟩,by simp [doR,doC],k3,m1,m2⟩
 exact ⟨l,h1,h3⟩
end
end Go.Proofs.YthnfcmgpedppaaaGreat.Fw
