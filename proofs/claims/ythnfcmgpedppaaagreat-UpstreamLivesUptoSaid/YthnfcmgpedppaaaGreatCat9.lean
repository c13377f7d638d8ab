/- The texts V04o, V04q, M3, L04k, V04r, V04s, V04t, V04u, V04v, V04w, V05a, V05b, V05c, V05d, V05e, V05f, one behind the other: what the walks and plain laws need; conditions stand with each theorem. -/
import Derived.Test.YthnfcmgpedppaaaGreatCat8
set_option linter.unusedVariables false
set_option linter.unusedSimpArgs false
set_option linter.unusedSectionVars false
set_option maxRecDepth 20000
set_option maxHeartbeats 4000000
namespace Go.Proofs.YthnfcmgpedppaaaGreat.Fw
open Go.RowKit
noncomputable def dB:Code:=Tryz.f56.body.getD .skip
theorem F0 (b:List UInt8):AOps Tryz.prog Tryz.f56.ntmps (hY (nb dB)) (fun x s=>x=.normal∧Weak s (mkS [(0,.fz 1 b.length (cl bc b)),(2,.ptr 100 0 0),(3,.ptr 101 0 0)] [(100,.box Z12),(101,.box [i64 0])])) (List.range (hY (nb dB)).size)
 ⟨fun i=>[.fz 1 b.length (cl bc b)].getD i (.v undef),emp⟩:=by
 refine ai rfl rfl (ap 100) ?_;refine ai rfl rfl (ap 101) ?_;exact AOps.nil ⟨rfl,Weak.full 1 []⟩
theorem EZ (b:List UInt8):AOps Tryz.prog Tryz.f56.ntmps (hY (nb (ew (ew dB)))) (fun x s=>x=.normal∧Weak s (mkS [(2,.ptr 100 0 0),(3,.ptr 101 0 0),(4,.ptr 302 0 0)] [(100,.box Z12),(101,.box [i64 0]),(302,.box [.fz 1 b.length (cl bc b),i64 0])])) (List.range (hY (nb (ew (ew dB)))).size)
 ((mkS [(0,.fz 1 b.length (cl bc b)),(2,.ptr 100 0 0),(3,.ptr 101 0 0)] [(100,.box Z12),(101,.box [i64 0])]).put (some 5) .any):=by
 refine AOps.cons rfl rfl aA ?_;refine ai rfl rfl (aL [(_,_)]) ?_;refine ai rfl rfl (aS 302) ?_;refine AOps.cons rfl rfl gh ?_;exact AOps.nil ⟨rfl,Weak.full 1 []⟩
def dQ (b:List UInt8):bB
 | .normal,s=>∃ m,rdM b=.ok m∧Weak s (mkS [(2,.ptr 100 0 0),(3,.ptr 101 0 0)] [(100,.box (dn m)),(101,.box [i64 0])])
 | .panic x,s=>∃ e,x=pE e∧rdM b=.error e∧Weak s (mkS [(2,.ptr 100 0 0),(3,.ptr 101 0 0)] [(100,.box Z12),(101,.box [i64 0])])
 | _,_=>False
theorem EY (b:List UInt8) (hb:b.length≤140737488351232):AOps Tryz.prog Tryz.f56.ntmps (hY (nb (ew (ew (ew dB))))) (dQ b) (List.range (hY (nb (ew (ew (ew dB))))).size)
 (mkS [(2,.ptr 100 0 0),(3,.ptr 101 0 0),(4,.ptr 302 0 0)] [(100,.box Z12),(101,.box [i64 0]),(302,.box [.fz 1 b.length (cl bc b),i64 0])]):=by
 refine AOps.cons rfl rfl aA ?_;refine AOps.callP (hp':=fun k=>[(302,.box [_,i64 k])]) (1) [(0,302)] [] [(_,_)] (CK b hb) (fun h=>?_) (fun x k h=>?_)
 · obtain ⟨m,hm⟩:=eW h
   rw [hm];dsimp only [jL];refine AOps.cons rfl rfl cI ?_;refine AOps.cons rfl rfl cI ?_;exact AOps.nil ⟨m,hm,Weak.full 0 []⟩
 · obtain ⟨e,he,rfl⟩:=eV h
   exact ⟨e,rfl,he,Weak.full 0 []⟩
theorem DK (m:Msg) (e:Int):Fin te Tryz.f56 (Ret (.tup [.agg (dn m),i64 e])) (mkS [(2,.ptr 100 0 0),(3,.ptr 101 0 0)] [(100,.box (dn m)),(101,.box [i64 e])]):=by
 refine ak (0) [_,_] [_,_] ?_;rfl
theorem EX (e:Int):Weak (mkS [(2,.ptr 100 0 0),(3,.ptr 101 0 0)] [(100,.box Z12),(101,.box [i64 e])]) (mkS [(2,.ptr 100 0 0),(3,.ptr 101 0 0)] [(100,.box (dn zM)),(101,.box [i64 e])]):=Weak.full 0 []
theorem AK:(hY (nb (ew (ew dB)))).toList.all (kpt [2,3])=true:=rfl
theorem AJ:(hY (nb (ew (ew (ew dB))))).toList.all (kpt [2,3])=true:=rfl
theorem DJ (x y:Value) (w:World):(invoke (.fn (.func 92) #[x,y]) #[]).run Tryz.prog w=.ok (.enter 92 #[x,y]) w:=by
 simp [go_sem]
theorem sk (b:List UInt8) (hb:b.length≤140737488351232):AC Tryz.prog 56 [.fz 1 b.length (cl bc b)] emp (Ret (.tup [.agg (dn (cG b)),i64 (jN b)])):=by
 refine ⟨⟨Tryz.f56,_,Tryz.func56,rfl,rfl⟩,fun Λ w φ vals hs ha QQ hret hpan=>?_⟩;have hs0:=xV (n:=Tryz.f56.ntmps) hs ha (aE rfl);refine calls_of_wp_defers (fn:=Tryz.f56) Tryz.func56 rfl ?_;refine wp_seq (wp_region ?_);refine F0 b Λ w φ _ hs0 _ ?_;rintro ae s1 w1 φ1 a1 ⟨rfl,hW1⟩ hs1 g1;obtain ⟨φ2,hs2,g2⟩:=hW1 _ Λ w1 φ1 a1 hs1;refine wp_seq (wp_region ?_);have hmf:∀ (fn:Go.Fn) (first cap:Array Value) (w:World),(Instr.makeFunc fn first cap).run Tryz.prog w=.ok (.func fn first cap) w:=fun _ _ _ _=>rfl
 obtain ⟨V,hV⟩:∃ V:Value,V=.func (.func 92) #[] #[a1.eval (.tmp 2),a1.eval (.tmp 3)]:=⟨_,rfl⟩;have hsz:a1.tmps.size=11:=hs1.size;refine pN rfl rfl ?_;simp only [Oper.wp,execOp];simp [hmf];rw [← hV,Oper.upon_value];have h5:(a1.put (some 5) V).eval (.tmp 5)=V:=by simp [Act.put,Act.eval,hsz]
 refine pN rfl rfl ?_;have hd:Deferred.ofValue V #[]=pure { target:=.fn (.func 92) #[a1.eval (.tmp 2),a1.eval (.tmp 3)],args:=#[] }:=by rw [hV];rfl
 simp [Oper.wp,execOp,resolve,h5,hd];rw [Oper.upon_defer];change Code.wp Tryz.prog _ _ ({ a1.put (some 5) V with defers:=_::(a1.put (some 5) V).defers }:Act) w1;rw [show (a1.put (some 5) V).defers=[] from hs1.defs];refine wp_seq (wp_region ?_);change wpOps Tryz.prog (hY (nb (ew (ew dB)))) _ (List.range (hY (nb (ew (ew dB)))).size) _ w1;refine AOps.framed (I:=fun a=>a.tmps.getD 2 undef=a1.eval (.tmp 2)∧a.tmps.getD 3 undef=a1.eval (.tmp 3)) (ops:=hY (nb (ew (ew dB)))) (fun i o ho a v hI=>?_) (fun a ds hI=>hI) (EZ b) _ (a:=a1.put (some 5) V) (hs2.put (some 5) rfl .any) ⟨gi (by simp),gi (by simp)⟩ ?_
 · have hd:=o5 (T:=[2,3]) AK ho
   exact ⟨by rw [gi (hd 2 (by simp))];exact hI.1,by rw [gi (hd 3 (by simp))];exact hI.2⟩
 rintro ae s3 w3 φ3 a3 ⟨rfl,hW3⟩ hs3 g3 hI3;obtain ⟨φ4,hs4,g4⟩:=hW3 _ Λ w3 φ3 a3 hs3;refine wp_seq (wp_region ?_);change wpOps Tryz.prog (hY (nb (ew (ew (ew dB))))) _ (List.range (hY (nb (ew (ew (ew dB))))).size) _ w3;refine AOps.framed (I:=fun a=>a.tmps.getD 2 undef=a1.eval (.tmp 2)∧a.tmps.getD 3 undef=a1.eval (.tmp 3)) (ops:=hY (nb (ew (ew (ew dB))))) (fun i o ho a v hI=>?_) (fun a ds hI=>hI) (EY b hb) _ (a:=a3) hs4 hI3 ?_
 · have hd:=o5 (T:=[2,3]) AJ ho
   exact ⟨by rw [gi (hd 2 (by simp))];exact hI.1,by rw [gi (hd 3 (by simp))];exact hI.2⟩
 rintro ae s5 w5 φ5 a5 q hs5 g5 ⟨k2,k3⟩;have gg:Goes w φ w5 φ5:=(((g1.trans g2).trans g3).trans g4).trans g5;cases ae with
 | normal=>
  obtain ⟨m,hm,hW5⟩:=q;obtain ⟨φ6,hs6,g6⟩:=hW5 _ Λ w5 φ5 a5 hs5;refine wp_ret ?_;refine leaves_cons (f:=92) (args:=#[a1.eval (.tmp 2),a1.eval (.tmp 3)]) (by simp) (DJ _ _ _) ?_;refine (AG _ _ w5).mono ?_;rintro e u' w' ⟨rfl,rfl,rfl⟩;obtain ⟨v,r,h',φ7,f1,f2,f3,f4,f5⟩:=xo te_ok (DK m 0) hs6;refine ⟨v,f1,hret r h' _ φ7 v ?_ f3 ((gg.trans g6).trans f4) f5⟩;rw [show cG b=m by rw [cG,hm],show jN b=0 by rw [jN,hm]];exact f2
 | panic x=>
  obtain ⟨e,rfl,he,hW5⟩:=q;obtain ⟨φ6,hs6,g6⟩:=hW5 _ Λ w5 φ5 a5 hs5;have r1:=hs6.tmps 2;have r2:=hs6.tmps 3;rw [k2] at r1;rw [k3] at r2;refine leaves_cons (f:=92) (args:=#[a1.eval (.tmp 2),a1.eval (.tmp 3)]) (by simp) (DJ _ _ _) ?_;refine (yC hs6.hs r1 r2).mono ?_;rintro e' u' w' ⟨rfl,rfl,φ7,hh,g7,q2,q3⟩;have hsim:Sim Tryz.f56.ntmps w' φ7 Λ (mkS [(2,.ptr 100 0 0),(3,.ptr 101 0 0)] [(100,.box Z12),(101,.box [i64 e])]) ⟨a5.tmps,[]⟩:=by
   refine ⟨rfl,hs5.size,fun i=>?_,hh⟩
   match i with
   | 0=>exact .any
   | 1=>exact .any
   | 2=>show Rep w' φ7 Λ (.ptr 100 0 0) (a5.tmps.getD 2 undef);rw [k2];exact q2
   | 3=>show Rep w' φ7 Λ (.ptr 101 0 0) (a5.tmps.getD 3 undef);rw [k3];exact q3
   | i+4=>exact .any
  obtain ⟨φ8,hs8,g8⟩:=EX e _ Λ w' φ7 _ hsim;obtain ⟨v,r,h',φ9,f1,f2,f3,f4,f5⟩:=xo te_ok (DK zM e) hs8;refine ⟨v,f1,hret r h' _ φ9 v ?_ f3 ((((gg.trans g6).trans g7).trans g8).trans f4) f5⟩;rw [show cG b=zM by rw [cG,he],show jN b=e by rw [jN,he]];exact f2
 | exit id=>exact q.elim
 | goto l=>exact q.elim
 | ret=>exact q.elim
theorem Bb (b:List UInt8) (hb:b.length≤140737488351232):AC Tryz.prog 56 [.fz 0 b.length (cl bc b)] emp (Ret (.tup [.agg (dn (cG b)),i64 (jN b)])):=
 ⟨(sk b hb).1,fun Λ w φ vals hs ha QQ h1 h2=>(sk b hb).2 Λ w φ vals hs ⟨ha.1,fun j c hj=>by
  match j,hj with
  | 0,hj=>
   cases hj;obtain ⟨v,e1,e2⟩:=ha.2 0 _ rfl;exact ⟨v,e1,e2.up_fz (Nat.zero_le 1)⟩⟩ QQ h1 h2⟩
section
variable {d:Nat} {s n b u:TypeId} {is in' ib iu:TI}
theorem Cm {t y:TypeId} {it iy:TI} {cs:List AV} (h:Has te (d+2) t cs) (ht:te.get t=some it) (kt:it.k=.struct [(0,s),(1,n),(2,n),(3,n),(4,y)]) (hs:te.get s=some is) (ks:is.k=.str) (hn:te.get n=some in') (kn:in'.k=.int .i64)
 (hy:te.get y=some iy) (ky:iy.k=.slice u) (hu:te.get u=some iu) (ku:iu.k=.int .u8) (bu:iu.bytes=1):∃ x:Rr,cs=rrc x∧(x.da.length≤140737488351232∧x.nm.length≤140737488351232):=by
 obtain ⟨_,w,rfl,q,hh⟩:=has_struct h ht kt;obtain ⟨a1,rfl,bn⟩:=t5 q hs ks;obtain ⟨_,w,rfl,q,hh⟩:=hh;obtain ⟨a2,rfl,_⟩:=has_int q hn kn;obtain ⟨_,w,rfl,q,hh⟩:=hh;obtain ⟨a3,rfl,_⟩:=has_int q hn kn;obtain ⟨_,w,rfl,q,hh⟩:=hh;obtain ⟨a4,rfl,_⟩:=has_int q hn kn;obtain ⟨_,w,rfl,q,hh⟩:=hh;obtain ⟨a5,rfl,h5⟩:=has_bytes q hy ky hu ku bu;cases hh;exact ⟨⟨a1,a2,a3,a4,a5⟩,rfl,h5,bn⟩
theorem Cn {t:TypeId} {it:TI} {cs:List AV} (h:Has te (d+1) t cs) (ht:te.get t=some it) (kt:it.k=.struct [(0,s),(1,n),(2,n)]) (hs:te.get s=some is) (ks:is.k=.str) (hn:te.get n=some in') (kn:in'.k=.int .i64):∃ x:Qu,cs=quc x∧x.nm.length≤140737488351232:=by
 obtain ⟨_,w,rfl,q,hh⟩:=has_struct h ht kt;obtain ⟨a1,rfl,bn⟩:=t5 q hs ks;obtain ⟨_,w,rfl,q,hh⟩:=hh;obtain ⟨a2,rfl,_⟩:=has_int q hn kn;obtain ⟨_,w,rfl,q,hh⟩:=hh;obtain ⟨a3,rfl,_⟩:=has_int q hn kn;cases hh;exact ⟨⟨a1,a2,a3⟩,rfl,bn⟩
theorem n9 {t r y:TypeId} {it ir iy:TI} {cs:List AV} (h:Has te (d+3) t cs) (ht:te.get t=some it) (kt:it.k=.slice r) (hr:te.get r=some ir) (kr:ir.k=.struct [(0,s),(1,n),(2,n),(3,n),(4,y)]) (br:ir.bytes=64)
 (hs:te.get s=some is) (ks:is.k=.str) (hn:te.get n=some in') (kn:in'.k=.int .i64) (hy:te.get y=some iy) (ky:iy.k=.slice u) (hu:te.get u=some iu) (ku:iu.k=.int .u8) (bu:iu.bytes=1):∃ l:List Rr,cs=[.fz 0 l.length (cl rrc l)]∧(RrsOk l∧∀ x∈l,x.nm.length≤140737488351232):=by
 obtain ⟨l,h1,h2,h3⟩:=has_sl (f:=rrc) (q:=fun x=>x.da.length≤140737488351232∧x.nm.length≤140737488351232) h ht kt hr fun c hc=>Cm hc hr kr hs ks hn kn hy ky hu ku bu
 exact ⟨l,h1,⟨by rw [br] at h2;exact h2,fun x hx=>(h3 x hx).1⟩,fun x hx=>(h3 x hx).2⟩
theorem As {t r:TypeId} {it ir:TI} {cs:List AV} (h:Has te (d+2) t cs) (ht:te.get t=some it) (kt:it.k=.slice r) (hr:te.get r=some ir) (kr:ir.k=.struct [(0,s),(1,n),(2,n)]) (br:ir.bytes=32)
 (hs:te.get s=some is) (ks:is.k=.str) (hn:te.get n=some in') (kn:in'.k=.int .i64):∃ l:List Qu,cs=[.fz 0 l.length (cl quc l)]∧(l.length*32≤140737488351232∧∀ x∈l,x.nm.length≤140737488351232):=by
 obtain ⟨l,h1,h2,h3⟩:=has_sl (f:=quc) (q:=fun x=>x.nm.length≤140737488351232) h ht kt hr fun c hc=>Cn hc hr kr hs ks hn kn
 exact ⟨l,h1,by rw [br] at h2;exact h2,h3⟩
theorem Au {t th tq tr r q y:TypeId} {it ith itq itr ir iq iy:TI} {cs:List AV} (h:Has te (d+4) t cs) (ht:te.get t=some it) (kt:it.k=.struct [(0,th),(8,tq),(9,tr),(10,tr),(11,tr)])
 (hth:te.get th=some ith) (kth:ith.k=.struct [(0,n),(1,b),(2,n),(3,b),(4,b),(5,b),(6,b),(7,n)]) (htq:te.get tq=some itq) (ktq:itq.k=.slice q) (hq:te.get q=some iq) (kq:iq.k=.struct [(0,s),(1,n),(2,n)]) (bq:iq.bytes=32)
 (htr:te.get tr=some itr) (ktr:itr.k=.slice r) (hr:te.get r=some ir) (kr:ir.k=.struct [(0,s),(1,n),(2,n),(3,n),(4,y)]) (br:ir.bytes=64)
 (hs:te.get s=some is) (ks:is.k=.str) (hn:te.get n=some in') (kn:in'.k=.int .i64) (hb:te.get b=some ib) (kb:ib.k=.bool) (hy:te.get y=some iy) (ky:iy.k=.slice u) (hu:te.get u=some iu) (ku:iu.k=.int .u8) (bu:iu.bytes=1) :
 ∃ m:Msg,cs=dn m∧gp m∧oB m:=by
 obtain ⟨_,w,rfl,q1,hh⟩:=has_struct h ht kt;obtain ⟨a1,rfl,_⟩:=Co q1 hth kth hn kn hb kb;obtain ⟨_,w,rfl,q1,hh⟩:=hh;obtain ⟨a2,rfl,b2⟩:=As q1 htq ktq hq kq bq hs ks hn kn;obtain ⟨_,w,rfl,q1,hh⟩:=hh;obtain ⟨a3,rfl,b3⟩:=n9 q1 htr ktr hr kr br hs ks hn kn hy ky hu ku bu;obtain ⟨_,w,rfl,q1,hh⟩:=hh;obtain ⟨a4,rfl,b4⟩:=n9 q1 htr ktr hr kr br hs ks hn kn hy ky hu ku bu;obtain ⟨_,w,rfl,q1,hh⟩:=hh;obtain ⟨a5,rfl,b5⟩:=n9 q1 htr ktr hr kr br hs ks hn kn hy ky hu ku bu;cases hh;refine ⟨⟨a1,a2,a3,a4,a5⟩,rfl,⟨b2.1,b3.1,b4.1,b5.1⟩,b2.2,fun x hx=>?_⟩;simp only [Msg.rrs,List.mem_append] at hx;rcases hx with (hx|hx)|hx
 · exact b3.2 x hx
 · exact b4.2 x hx
 · exact b5.2 x hx
end

section
attribute [local irreducible] AWp AOps
theorem Af {ρ:Nat→Bool} {σ:IdMap} {h:aX} {lo hi:Nat} {a:AV}:ie ρ σ h lo hi a .any:=fun _ _ _ _ _ _ _ _ _ _ _ _=>.any
def rnE {α:Type}:Except Int α→Int
 | .error e=>e
 | .ok _=>0
def rnN:Except Int (List UInt8×Nat)→List UInt8
 | .error _=>[]
 | .ok a=>a.1
def atE {α:Type}:Except Int (α×Nat)→AV
 | .error _=>.any
 | .ok a=>i64 a.2
def liB (b:List UInt8) (en:Nat) (bh:Option Nat):Nat:=if bh.isSome then b.length else en
theorem sj (b:List UInt8) (p0 en:Nat) (hb:b.length≤65535) (he:en≤b.length) (hp:p0≤100000):AC Tryz.prog 104 [.ptr 0 0 0,i64 en] (ao [(0,.box [.fz 0 b.length (cl bc b),i64 p0])]) (bZ (.tup [str (rnN (rdN b 20 p0 p0 en none [])),i64 (rnE (rdN b 20 p0 p0 en none []))]) [(0,.box [.fz 0 b.length (cl bc b),atE (rdN b 20 p0 p0 en none [])])]):=by
 refine AC.intro te_ok (fn:=Tryz.f104) ⟨Tryz.func104,rfl,rfl⟩ (aE rfl) ?_;iterate 10 refine ab ?_
 refine bj [ag,ag,ag,ag,ag,ag,ag,ag,ag,ag,ag] [af [0] [] 14,af [13] [0] 15,af [14] [0] 16,af [15] [0] 17,af [0] [] 18,af [17] [0] 19,af [18] [0] 20,af [19] [0] 21,af [16] [] 8,af [20] [] 9,af [] [] 10] rfl ⟨ah,ah,ah,ah,ah,ah,ah,ah,ah,ah,ah,trivial⟩ ?_;refine ab ?_;refine AWp.loopR (α:=Nat×Nat×Option Nat×List UInt8) [4,5,6,7,8,9,10,11,12,21,22,23,24,25,26,27,28,29,30,31,32,33,34,35,36,37,38,39,40,41,42,43,44,45,46,47,48,49,50,51,52,53,54,55,56,57,58,59,60,61,62,63,64,65,66,67,68,69,70,71,72,73,74,75,76,77,78,79,80,81,82,83,84,85,86,87,88,89,90,91,92,93,94,95,96,97,98,99,100,101,102,103,104,105,106,107,108,109,110,111,112,113,114,115,116] (fun x_=>[(7,i64 (x_.1)),(8,i64 (x_.2.1)),(9,tf (x_.2.2.1).isSome),(6,str (x_.2.2.2))]) (fun x_=>[(0,.box [.fz 0 b.length (cl bc b),i64 (((x_.2.2.1).getD p0:Nat):Int)])]) (fun x_=>rdN b 20 (x_.1) (x_.2.1) (liB b en (x_.2.2.1)) (x_.2.2.1) (x_.2.2.2)=rdN b 20 p0 p0 en none []∧(x_.2.2.2).length<255∧(x_.1)≤200000∧(x_.2.1)≤100000) (fun x_=>(x_.2.1)*(b.length+1)+(liB b en (x_.2.2.1)-(x_.1))) (p0,p0,none,[]) ?_ (Back.mk' (HasT.cons (HasT.cons (HasT.cons (HasT.cons HasT.nil)))) (HasH.cons HasH.nil)) ?_
 ·
  exact ⟨rfl,by show 0<255;decide,by show p0≤_;omega,hp⟩
 ·
  rintro ⟨p,fi,bh,n⟩ hI3;change rdN b 20 p fi (liB b en bh) bh n=rdN b 20 p0 p0 en none []∧n.length<255∧p≤200000∧fi≤100000 at hI3;obtain ⟨hE,hN,hP,hF⟩:=hI3;refine AWp.as (s':=AS.over _ [4,5,6,7,8,9,10,11,12,21,22,23,24,25,26,27,28,29,30,31,32,33,34,35,36,37,38,39,40,41,42,43,44,45,46,47,48,49,50,51,52,53,54,55,56,57,58,59,60,61,62,63,64,65,66,67,68,69,70,71,72,73,74,75,76,77,78,79,80,81,82,83,84,85,86,87,88,89,90,91,92,93,94,95,96,97,98,99,100,101,102,103,104,105,106,107,108,109,110,111,112,113,114,115,116] [(7,i64 p),(8,i64 fi),(9,tf bh.isSome),(6,str n)] [(0,.box [.fz 0 b.length (cl bc b),i64 ((bh.getD p0:Nat):Int)])]) rfl ?_;have hk256:=DB b p;obtain ⟨li,hli0⟩:∃ li,li=liB b en bh:=⟨_,rfl⟩;rw [← hli0] at hE;iterate 9 refine ab ?_
  refine AOps.bool rfl rfl (aA) (fun h4_0=>?_) (fun h4_0=>?_)
  ·
   iterate 13 refine ab ?_
   have hli:liB b en bh=b.length:=by rw [liB,if_pos h4_0]
   have hL:li≤b.length:=by omega
   have hle:b.length=li:=by omega
   iterate 2 refine ab ?_
   refine am (fun h6_2=>?_) (fun h6_2=>?_)
   ·
    iterate 8 refine ab ?_
    have hX:=hE;rw [ec (by omega)] at hX;rw [← hX];refine rHa (0) [] [_,_] [_,_] [(_,_)] ?_;rfl
   ·
    iterate 5 refine ab ?_
    have g1:¬ li≤p:=by omega
    iterate 13 refine ab ?_
    rw [show (b.getD ((p:Nat):Int).toNat default).toNat=kB b p from rfl];refine ab ?_;refine am (fun h15_1=>?_) (fun h15_1=>?_)
    ·
     iterate 6 refine ab ?_
     have hk0:kB b p=0:=by omega
     refine AOps.bool rfl rfl (aA) (fun h16_0=>?_) (fun h16_0=>?_)
     ·
      iterate 7 refine ab ?_
      obtain ⟨a,rfl⟩:=Option.isSome_iff_exists.1 h16_0;iterate 3 refine ab ?_
      refine am (fun h18_3=>?_) (fun h18_3=>?_)
      ·
       iterate 8 refine ab ?_
       have hX:=hE;rw [dk g1 hk0 (by omega)] at hX;rw [← hX];refine rHa (0) [] [_,_] [_,_] [(_,_)] ?_;rfl
      ·
       iterate 6 refine ab ?_
       refine ai rfl rfl (jg) ?_;iterate 4 refine ab ?_
       have hX:=hE;rw [eg g1 hk0 hN] at hX;rw [← hX];refine rHa (0) [] [_,_] [_,_] [(_,_)] ?_;rfl
     ·
      iterate 4 refine ab ?_
      obtain rfl:bh=none:=by simpa using h16_0
      iterate 13 refine ab ?_
      refine am (fun h18_3=>?_) (fun h18_3=>?_)
      ·
       iterate 8 refine ab ?_
       have hX:=hE;rw [dk g1 hk0 (by omega)] at hX;rw [← hX];refine rHa (0) [] [_,_] [_,_] [(_,_)] ?_;rfl
      ·
       iterate 6 refine ab ?_
       refine ai rfl rfl (jg) ?_;iterate 4 refine ab ?_
       have hX:=hE;rw [eg g1 hk0 hN] at hX;rw [← hX];refine rHa (0) [] [_,_] [_,_] [(_,_)] ?_;rfl
    ·
     iterate 6 refine ab ?_
     refine am (fun h21_1=>?_) (fun h21_1=>?_)
     ·
      iterate 6 refine ab ?_
      have hk:192≤kB b p:=by omega
      iterate 3 refine ab ?_
      refine am (fun h22_3=>?_) (fun h22_3=>?_)
      ·
       iterate 8 refine ab ?_
       have hX:=hE;rw [dA g1 hk (by omega)] at hX;rw [← hX];refine rHa (0) [] [_,_] [_,_] [(_,_)] ?_;rfl
      ·
       iterate 5 refine ab ?_
       have g2:¬ li≤p+1:=by omega
       have hq1:=(b.getD ((p:Int)+1).toNat default).toNat_lt;iterate 18 refine ab ?_
       rw [show ((kB b p:Nat):Int)-192=((kB b p-192:Nat):Int) by omega,show (((kB b p-192:Nat):Int)*256+((b.getD ((p:Int)+1).toNat default).toNat:Int))=(toI b p:Int) by
        have e1:kB b (p+1)=(b.getD ((p:Int)+1).toNat default).toNat:=rfl;unfold toI;omega]
       iterate 2 refine ab ?_
       refine am (fun h25_2=>?_) (fun h25_2=>?_)
       ·
        iterate 8 refine ab ?_
        have hX:=hE;rw [fk g1 hk g2 (by omega)] at hX;rw [← hX];refine rHa (0) [] [_,_] [_,_] [(_,_)] ?_;rfl
       ·
        iterate 6 refine ab ?_
        have g3:toI b p<fi:=by omega
        refine AOps.bool rfl rfl (aA) (fun h27_0=>?_) (fun h27_0=>?_)
        ·
         iterate 5 refine ab ?_
         obtain ⟨a,rfl⟩:=Option.isSome_iff_exists.1 h27_0;iterate 6 refine ab ?_
         refine ⟨(toI b p,toI b p,some a,n),?_,Back.mk' (HasT.cons (HasT.cons (HasT.cons (HasT.cons HasT.nil)))) (HasH.cons HasH.nil),?_⟩
         ·
          try dsimp only
          exact ⟨by rw [← hE,ed g1 hk g2 g3];rfl,hN,by omega,by omega⟩
         ·
          try dsimp only
          have:=Nat.mul_le_mul_right (b.length+1) (show toI b p+1≤fi by omega);rw [Nat.succ_mul] at this;have h9:liB b en (some a)=b.length:=rfl;omega
        ·
         iterate 4 refine ab ?_
         obtain rfl:bh=none:=by simpa using h27_0
         iterate 14 refine ab ?_
         refine ⟨(toI b p,toI b p,some (p+2),n),?_,Back.mk' (HasT.cons (HasT.cons (HasT.cons (HasT.cons HasT.nil)))) (HasH.cons HasH.nil),?_⟩
         ·
          try dsimp only
          exact ⟨by rw [← hE,ed g1 hk g2 g3];rfl,hN,by omega,by omega⟩
         ·
          try dsimp only
          have:=Nat.mul_le_mul_right (b.length+1) (show toI b p+1≤fi by omega);rw [Nat.succ_mul] at this;have h9:liB b en (some (p+2))=b.length:=rfl;omega
     ·
      iterate 6 refine ab ?_
      refine am (fun h30_1=>?_) (fun h30_1=>?_)
      ·
       iterate 9 refine ab ?_
       have hX:=hE;rw [ef g1 (by omega) (by omega)] at hX;rw [← hX];refine rHa (0) [] [_,_] [_,_] [(_,_)] ?_;rfl
      ·
       iterate 6 refine ab ?_
       have hk0:kB b p≠0:=by omega
       have hk1:¬ 64≤kB b p:=by omega
       iterate 5 refine ab ?_
       refine am (fun h9_5=>?_) (fun h9_5=>?_)
       ·
        iterate 8 refine ab ?_
        have hX:=hE;rw [dD g1 hk0 hk1 (by omega)] at hX;rw [← hX];refine rHa (0) [] [_,_] [_,_] [(_,_)] ?_;rfl
       ·
        iterate 5 refine ab ?_
        have g2:¬ li<p+1+kB b p:=by omega
        iterate 11 refine ab ?_
        refine AOps.cons rfl rfl (by first|exact b9|exact aU) ?_;refine ai rfl rfl (jg) ?_;iterate 4 refine ab ?_
        rw [show ((p:Int)+1+(kB b p:Int)).toNat=p+1+kB b p by omega,show ((p:Nat):Int).toNat=p by omega];obtain ⟨N,hNN⟩:∃ N,N=n++(b.take (p+1+kB b p)).drop p:=⟨_,rfl⟩;rw [← hNN];have hNl:N.length=n.length+(1+kB b p):=by rw [hNN,List.length_append,List.length_drop,List.length_take];omega
        iterate 11 refine ab ?_
        refine am (fun h13_3=>?_) (fun h13_3=>?_)
        ·
         iterate 8 refine ab ?_
         have hX:=hE;rw [ee g1 hk0 hk1 g2 (by rw [← hNN];omega)] at hX;rw [← hX];refine rHa (0) [] [_,_] [_,_] [(_,_)] ?_;rfl
        ·
         iterate 3 refine ab ?_
         refine ⟨(p+1+kB b p,fi,bh,N),?_,Back.mk' (HasT.cons (HasT.cons (HasT.cons (HasT.cons HasT.nil))) (h1:=by exact ci (by omega)) ) (HasH.cons HasH.nil),?_⟩
         ·
          try dsimp only
          exact ⟨by rw [← hli0,← hE,fV g1 hk0 hk1 g2 (by rw [← hNN];omega),← hNN],by omega,by omega,hF⟩
         ·
          try dsimp only
          rw [← hli0];omega
  ·
   iterate 6 refine ab ?_
   have hli:liB b en bh=en:=by rw [liB,if_neg (by simp [h4_0])]
   have hL:li≤b.length:=by omega
   have hle:en=li:=by omega
   iterate 2 refine ab ?_
   refine am (fun h6_2=>?_) (fun h6_2=>?_)
   ·
    iterate 8 refine ab ?_
    have hX:=hE;rw [ec (by omega)] at hX;rw [← hX];refine rHa (0) [] [_,_] [_,_] [(_,_)] ?_;rfl
   ·
    iterate 5 refine ab ?_
    have g1:¬ li≤p:=by omega
    iterate 13 refine ab ?_
    rw [show (b.getD ((p:Nat):Int).toNat default).toNat=kB b p from rfl];refine ab ?_;refine am (fun h15_1=>?_) (fun h15_1=>?_)
    ·
     iterate 6 refine ab ?_
     have hk0:kB b p=0:=by omega
     refine AOps.bool rfl rfl (aA) (fun h16_0=>?_) (fun h16_0=>?_)
     ·
      iterate 7 refine ab ?_
      obtain ⟨a,rfl⟩:=Option.isSome_iff_exists.1 h16_0;iterate 3 refine ab ?_
      refine am (fun h18_3=>?_) (fun h18_3=>?_)
      ·
       iterate 8 refine ab ?_
       have hX:=hE;rw [dk g1 hk0 (by omega)] at hX;rw [← hX];refine rHa (0) [] [_,_] [_,_] [(_,_)] ?_;rfl
      ·
       iterate 6 refine ab ?_
       refine ai rfl rfl (jg) ?_;iterate 4 refine ab ?_
       have hX:=hE;rw [eg g1 hk0 hN] at hX;rw [← hX];refine rHa (0) [] [_,_] [_,_] [(_,_)] ?_;rfl
     ·
      iterate 4 refine ab ?_
      obtain rfl:bh=none:=by simpa using h16_0
      iterate 13 refine ab ?_
      refine am (fun h18_3=>?_) (fun h18_3=>?_)
      ·
       iterate 8 refine ab ?_
       have hX:=hE;rw [dk g1 hk0 (by omega)] at hX;rw [← hX];refine rHa (0) [] [_,_] [_,_] [(_,_)] ?_;rfl
      ·
       iterate 6 refine ab ?_
       refine ai rfl rfl (jg) ?_;iterate 4 refine ab ?_
       have hX:=hE;rw [eg g1 hk0 hN] at hX;rw [← hX];refine rHa (0) [] [_,_] [_,_] [(_,_)] ?_;rfl
    ·
     iterate 6 refine ab ?_
     refine am (fun h21_1=>?_) (fun h21_1=>?_)
     ·
      iterate 6 refine ab ?_
      have hk:192≤kB b p:=by omega
      iterate 3 refine ab ?_
      refine am (fun h22_3=>?_) (fun h22_3=>?_)
      ·
       iterate 8 refine ab ?_
       have hX:=hE;rw [dA g1 hk (by omega)] at hX;rw [← hX];refine rHa (0) [] [_,_] [_,_] [(_,_)] ?_;rfl
      ·
       iterate 5 refine ab ?_
       have g2:¬ li≤p+1:=by omega
       have hq1:=(b.getD ((p:Int)+1).toNat default).toNat_lt;iterate 18 refine ab ?_
       rw [show ((kB b p:Nat):Int)-192=((kB b p-192:Nat):Int) by omega,show (((kB b p-192:Nat):Int)*256+((b.getD ((p:Int)+1).toNat default).toNat:Int))=(toI b p:Int) by
        have e1:kB b (p+1)=(b.getD ((p:Int)+1).toNat default).toNat:=rfl;unfold toI;omega]
       iterate 2 refine ab ?_
       refine am (fun h25_2=>?_) (fun h25_2=>?_)
       ·
        iterate 8 refine ab ?_
        have hX:=hE;rw [fk g1 hk g2 (by omega)] at hX;rw [← hX];refine rHa (0) [] [_,_] [_,_] [(_,_)] ?_;rfl
       ·
        iterate 6 refine ab ?_
        have g3:toI b p<fi:=by omega
        refine AOps.bool rfl rfl (aA) (fun h27_0=>?_) (fun h27_0=>?_)
        ·
         iterate 5 refine ab ?_
         obtain ⟨a,rfl⟩:=Option.isSome_iff_exists.1 h27_0;iterate 6 refine ab ?_
         refine ⟨(toI b p,toI b p,some a,n),?_,Back.mk' (HasT.cons (HasT.cons (HasT.cons (HasT.cons HasT.nil)))) (HasH.cons HasH.nil),?_⟩
         ·
          try dsimp only
          exact ⟨by rw [← hE,ed g1 hk g2 g3];rfl,hN,by omega,by omega⟩
         ·
          try dsimp only
          have:=Nat.mul_le_mul_right (b.length+1) (show toI b p+1≤fi by omega);rw [Nat.succ_mul] at this;have h9:liB b en (some a)=b.length:=rfl;omega
        ·
         iterate 4 refine ab ?_
         obtain rfl:bh=none:=by simpa using h27_0
         iterate 14 refine ab ?_
         refine ⟨(toI b p,toI b p,some (p+2),n),?_,Back.mk' (HasT.cons (HasT.cons (HasT.cons (HasT.cons HasT.nil)))) (HasH.cons HasH.nil),?_⟩
         ·
          try dsimp only
          exact ⟨by rw [← hE,ed g1 hk g2 g3];rfl,hN,by omega,by omega⟩
         ·
          try dsimp only
          have:=Nat.mul_le_mul_right (b.length+1) (show toI b p+1≤fi by omega);rw [Nat.succ_mul] at this;have h9:liB b en (some (p+2))=b.length:=rfl;omega
     ·
      iterate 6 refine ab ?_
      refine am (fun h30_1=>?_) (fun h30_1=>?_)
      ·
       iterate 9 refine ab ?_
       have hX:=hE;rw [ef g1 (by omega) (by omega)] at hX;rw [← hX];refine rHa (0) [] [_,_] [_,_] [(_,_)] ?_;rfl
      ·
       iterate 6 refine ab ?_
       have hk0:kB b p≠0:=by omega
       have hk1:¬ 64≤kB b p:=by omega
       iterate 5 refine ab ?_
       refine am (fun h9_5=>?_) (fun h9_5=>?_)
       ·
        iterate 8 refine ab ?_
        have hX:=hE;rw [dD g1 hk0 hk1 (by omega)] at hX;rw [← hX];refine rHa (0) [] [_,_] [_,_] [(_,_)] ?_;rfl
       ·
        iterate 5 refine ab ?_
        have g2:¬ li<p+1+kB b p:=by omega
        iterate 11 refine ab ?_
        refine AOps.cons rfl rfl (by first|exact b9|exact aU) ?_;refine ai rfl rfl (jg) ?_;iterate 4 refine ab ?_
        rw [show ((p:Int)+1+(kB b p:Int)).toNat=p+1+kB b p by omega,show ((p:Nat):Int).toNat=p by omega];obtain ⟨N,hNN⟩:∃ N,N=n++(b.take (p+1+kB b p)).drop p:=⟨_,rfl⟩;rw [← hNN];have hNl:N.length=n.length+(1+kB b p):=by rw [hNN,List.length_append,List.length_drop,List.length_take];omega
        iterate 11 refine ab ?_
        refine am (fun h13_3=>?_) (fun h13_3=>?_)
        ·
         iterate 8 refine ab ?_
         have hX:=hE;rw [ee g1 hk0 hk1 g2 (by rw [← hNN];omega)] at hX;rw [← hX];refine rHa (0) [] [_,_] [_,_] [(_,_)] ?_;rfl
        ·
         iterate 3 refine ab ?_
         refine ⟨(p+1+kB b p,fi,bh,N),?_,Back.mk' (HasT.cons (HasT.cons (HasT.cons (HasT.cons HasT.nil))) (h1:=by exact ci (by omega)) ) (HasH.cons HasH.nil),?_⟩
         ·
          try dsimp only
          exact ⟨by rw [← hli0,← hE,fV g1 hk0 hk1 g2 (by rw [← hNN];omega),← hNN],by omega,by omega,hF⟩
         ·
          try dsimp only
          rw [← hli0];omega
end
section
attribute [local irreducible] AWp AOps
section
variable {b:List UInt8} {p0 en:Nat}
theorem kI {a:List UInt8×Nat} (hb:b.length≤65535) (he:en≤b.length) (hp:p0≤100000) (h:rdN b 20 p0 p0 en none []=.ok a):AC Tryz.prog 104 [.ptr 0 0 0,i64 en] (ao [(0,.box [.fz 0 b.length (cl bc b),i64 p0])]) (bZ (.tup [str a.1,i64 0]) [(0,.box [.fz 0 b.length (cl bc b),i64 a.2])]):=by
 have:=sj b p0 en hb he hp;rw [h] at this;exact this
theorem kJ {e:Int} (hb:b.length≤65535) (he:en≤b.length) (hp:p0≤100000) (h:rdN b 20 p0 p0 en none []=.error e):AC Tryz.prog 104 [.ptr 0 0 0,i64 en] (ao [(0,.box [.fz 0 b.length (cl bc b),i64 p0])]) (bZ (.tup [str [],i64 e]) [(0,.box [.fz 0 b.length (cl bc b),.any])]):=by
 have:=sj b p0 en hb he hp;rw [h] at this;exact this
end
def shE (r:Except Int (List UInt8×Nat)):Except Int (List UInt8×Nat):=match r with
 | .error e=>.error (if e=20 then 30 else e)
 | .ok a=>.ok a
theorem sF {b:List UInt8}:∀ (p fi li:Nat) (bh:Option Nat) (n:List UInt8),rdN b 30 p fi li bh n=shE (rdN b 20 p fi li bh n):=by
 intro p fi li bh n;induction p,fi,li,bh,n using rdN.induct b with
 | case1 p fi li bh n h=>rw [ec h,ec h];rfl
 | case2 p fi li bh n h h1 h2=>rw [eg h h1 h2,eg h h1 h2];rfl
 | case3 p fi li bh n h h1 h2=>rw [dk h h1 h2,dk h h1 h2];rfl
 | case4 p fi li bh n h h1 h2 h3=>rw [dA h h2 h3,dA h h2 h3];rfl
 | case5 p fi li bh n h h1 h2 h3 h4 ih=>rw [ed h h2 h3 h4,ed h h2 h3 h4];exact ih
 | case6 p fi li bh n h h1 h2 h3 h4=>rw [fk h h2 h3 h4,fk h h2 h3 h4];rfl
 | case7 p fi li bh n h h1 h2 h3=>rw [ef h h3 h2,ef h h3 h2];rfl
 | case8 p fi li bh n h h1 h2 h3 h4=>rw [dD h h1 h3 h4,dD h h1 h3 h4];rfl
 | case9 p fi li bh n h h1 h2 h3 h4 h5 ih=>rw [fV h h1 h3 h4 h5,fV h h1 h3 h4 h5];exact ih
 | case10 p fi li bh n h h1 h2 h3 h4 h5=>rw [ee h h1 h3 h4 h5,ee h h1 h3 h4 h5];rfl
theorem FC {b:List UInt8} {p w i:Nat} (h:i<w):((b.take (p+w)).drop p).getD i default=b.getD (p+i) default:=by
 simp only [List.getD_eq_getElem?_getD,List.getElem?_drop,List.getElem?_take];rw [if_pos (by omega)]
def lJ (t:Int):Nat:=if t=15 then 2 else 0
theorem bU (b:List UInt8) (p0 w:Nat) (hb:b.length≤65535) (hp:p0≤200000) (hw:w≤4) (h:p0+w≤b.length):AC Tryz.prog 105 [.ptr 0 0 0,i64 w] (ao [(0,.box [.fz 0 b.length (cl bc b),i64 p0])]) (bZ (.tup [i64 (bN b p0 w),tf true]) [(0,.box [.fz 0 b.length (cl bc b),i64 ((p0+w:Nat):Int)])]):=by
 refine AC.intro te_ok (fn:=Tryz.f105) ⟨Tryz.func105,rfl,rfl⟩ (aE rfl) ?_;iterate 7 refine ab ?_
 refine bj [ag,ag,ag,ag,ag,ag,ag,ag,ag,ag,ag,ag] [af [0] [] 8,af [7] [0] 9,af [8] [0] 10,af [9] [0] 11,af [10] [] 12,af [0] [] 13,af [12] [0] 14,af [13] [0] 15,af [14] [0] 16,af [11,15] [] 17,af [1] [] 18,af [16,17] [] 19] rfl ⟨ah,ah,ah,ah,ah,ah,ah,ah,ah,ah,ah,aC fun _=>aN rfl rfl ((OpOk.dec_f (e8) (by omega))),trivial⟩ ?_;iterate 13 refine ab ?_
 refine AWp.loopR (α:=Nat) [6,20,21,22,23,24,25,26,27,28,29,30,31,32,33,34,35,36,37,38,39,40,41,42,43] (fun i=>[(20,i64 i),(6,i64 (nV (((b.take (p0+w)).drop p0).take i)))]) (fun i=>[(0,.box [.fz 0 b.length (cl bc b),i64 ((p0+i:Nat):Int)])]) (fun i=>i≤w) (fun i=>w-i) 0 ?_ (Back.mk' (HasT.cons (HasT.cons HasT.nil)) (HasH.cons HasH.nil)) ?_
 ·
  exact Nat.zero_le _
 ·
  rintro i hi;have hSl:((b.take (p0+w)).drop p0).length=w:=by rw [List.length_drop,List.length_take];omega
  have hv:nV (((b.take (p0+w)).drop p0).take i)<4294967296:=wa (by rw [List.length_take];omega);iterate 2 refine ab ?_
  refine am (fun h5_0=>?_) (fun h5_0=>?_)
  ·
   iterate 7 refine ab ?_
   have hq1:=(b.getD ((p0+i:Nat):Int).toNat default).toNat_lt;have hq2:(b[p0+i]?.getD default).toNat<256:=(b[p0+i]?.getD default).toNat_lt;refine bj [ag,ag,ag,ag,ag,ag,ag,ag,ag,ag,ag,ag,ag,ag,ag] [af [6] [] 23,af [22] [] 24,af [0] [] 25,af [24] [0] 26,af [25] [0] 27,af [26] [0] 28,af [0] [] 29,af [28] [0] 30,af [29] [0] 31,af [30] [0] 32,af [27,31] [] 33,af [32] [] 34,af [33] [] 35,af [23,34] [] 36,af [35] [] 7] rfl ⟨ah,ah,ah,ah,ah,ah,ah,ah,ah,ah,ah,ah,ah,ah,ah,trivial⟩ ?_;iterate 14 refine ab ?_
   have hgt:=FC (b:=b) (p:=p0) (w:=w) (i:=i) (by omega);refine ⟨i+1,?_,Back.mk' (HasT.cons (HasT.cons HasT.nil (h1:=by exact ci (by rw [bK (by omega),x5,hgt];push_cast;rfl)) )) (HasH.cons HasH.nil),?_⟩
   ·
    first|assumption|omega|decide|(simp;omega)|(simp [*];done)
   ·
    first|omega|(simp;omega)
  ·
   iterate 11 refine ab ?_
   obtain rfl:i=w:=by omega
   have hSi:((b.take (p0+i)).drop p0).take i=(b.take (p0+i)).drop p0:=List.take_of_length_le (by omega);rw [hSi];refine aQ (0) [] [_,_] [_,_] [(_,_)] ?_;rfl
theorem ck (b:List UInt8) (p0 w:Nat) (hb:b.length≤65535) (hp:p0≤200000) (hw:w≤4) (h:¬ p0+w≤b.length):AC Tryz.prog 105 [.ptr 0 0 0,i64 w] (ao [(0,.box [.fz 0 b.length (cl bc b),i64 p0])]) (bZ (.tup [i64 0,tf false]) [(0,.box [.fz 0 b.length (cl bc b),i64 p0])]):=by
 refine AC.intro te_ok (fn:=Tryz.f105) ⟨Tryz.func105,rfl,rfl⟩ (aE rfl) ?_;iterate 7 refine ab ?_
 refine bj [ag,ag,ag,ag,ag,ag,ag,ag,ag,ag,ag,ag] [af [0] [] 8,af [7] [0] 9,af [8] [0] 10,af [9] [0] 11,af [10] [] 12,af [0] [] 13,af [12] [0] 14,af [13] [0] 15,af [14] [0] 16,af [11,15] [] 17,af [1] [] 18,af [16,17] [] 19] rfl ⟨ah,ah,ah,ah,ah,ah,ah,ah,ah,ah,ah,aC fun _=>aN rfl rfl ((OpOk.dec_t (e8) (by omega))),trivial⟩ ?_;iterate 7 refine ab ?_
 refine aQ (0) [] [_,_] [_,_] [(_,_)] ?_;rfl
theorem yI (t:Int):AC Tryz.prog 158 [i64 t] emp (Ret (.tup [i64 (cR t),i64 (lJ t)])):=by
 refine AC.intro te_ok (fn:=Tryz.f158) ⟨Tryz.func158,rfl,rfl⟩ (aE rfl) ?_;iterate 14 refine ab ?_
 refine am (fun h2_0=>?_) (fun h2_0=>?_)
 ·
  iterate 11 refine ab ?_
  refine ak (0) [_,_] [_,_] ?_;rw [cR,lJ];simp [*];try rfl
 ·
  iterate 5 refine ab ?_
  refine am (fun h3_0=>?_) (fun h3_0=>?_)
  ·
   iterate 11 refine ab ?_
   refine ak (0) [_,_] [_,_] ?_;rw [cR,lJ];simp [*];try rfl
  ·
   iterate 4 refine ab ?_
   refine am (fun h4_0=>?_) (fun h4_0=>?_)
   ·
    iterate 9 refine ab ?_
    refine ak (0) [_,_] [_,_] ?_;rw [cR,lJ];simp [*];try rfl
   ·
    iterate 5 refine ab ?_
    refine am (fun h6_0=>?_) (fun h6_0=>?_)
    ·
     iterate 9 refine ab ?_
     refine ak (0) [_,_] [_,_] ?_;rw [cR,lJ];simp [*];try rfl
    ·
     iterate 5 refine ab ?_
     refine am (fun h8_0=>?_) (fun h8_0=>?_)
     ·
      iterate 9 refine ab ?_
      refine ak (0) [_,_] [_,_] ?_;rw [cR,lJ];simp [*];try rfl
     ·
      iterate 10 refine ab ?_
      refine ak (0) [_,_] [_,_] ?_;rw [cR,lJ];simp [*];try rfl
end
section
attribute [local irreducible] AWp AOps
theorem ld {b:List UInt8}:∀ (p fi li:Nat) (bh:Option Nat) (n:List UInt8) {e:Int},rdN b 20 p fi li bh n=.error e→e≠0:=by
 intro p fi li bh n;induction p,fi,li,bh,n using rdN.induct b with
 | case1 p fi li bh n h=>intro e k;rw [ec h] at k;cases k;decide
 | case2 p fi li bh n h h1 h2=>intro e k;rw [eg h h1 h2] at k;cases k
 | case3 p fi li bh n h h1 h2=>intro e k;rw [dk h h1 h2] at k;cases k;decide
 | case4 p fi li bh n h h1 h2 h3=>intro e k;rw [dA h h2 h3] at k;cases k;decide
 | case5 p fi li bh n h h1 h2 h3 h4 ih=>intro e k;rw [ed h h2 h3 h4] at k;exact ih k
 | case6 p fi li bh n h h1 h2 h3 h4=>intro e k;rw [fk h h2 h3 h4] at k;cases k;decide
 | case7 p fi li bh n h h1 h2 h3=>intro e k;rw [ef h h3 h2] at k;cases k;decide
 | case8 p fi li bh n h h1 h2 h3 h4=>intro e k;rw [dD h h1 h3 h4] at k;cases k;decide
 | case9 p fi li bh n h h1 h2 h3 h4 h5 ih=>intro e k;rw [fV h h1 h3 h4 h5] at k;exact ih k
 | case10 p fi li bh n h h1 h2 h3 h4 h5=>intro e k;rw [ee h h1 h3 h4 h5] at k;cases k;decide
def Gj:Except Int (List UInt8)→List UInt8
 | .error _=>[]
 | .ok d=>d
def atD (en:Nat):Except Int (List UInt8)→AV
 | .error _=>.any
 | .ok _=>i64 en
theorem BS (b:List UInt8) (t:Int) (p0:Nat):([]++(b.take (p0+lJ t)).drop p0:List UInt8)=(if t=15 then (b.take (p0+2)).drop p0 else [])∧p0+lJ t=(if t=15 then p0+2 else p0):=by
 unfold lJ;split
 · exact ⟨rfl,rfl⟩
 · refine ⟨?_,rfl⟩
   rw [List.nil_append,Nat.add_zero,List.drop_take,Nat.sub_self,List.take_zero]
theorem vm (b:List UInt8) (t:Int) (p0 en:Nat) (hb:b.length≤65535) (he:en≤b.length) (hp:p0≤en):AC Tryz.prog 147 [.ptr 0 0 0,i64 t,i64 en] (ao [(0,.box [.fz 0 b.length (cl bc b),i64 p0])]) (bZ (.tup [.fz 0 (Gj (rdD b t p0 en)).length (cl bc (Gj (rdD b t p0 en))),i64 (rnE (rdD b t p0 en))]) [(0,.box [.fz 0 b.length (cl bc b),atD en (rdD b t p0 en)])]):=by
 have hc2:=x6 t;have hpn:lJ t=if t=15 then 2 else 0:=rfl
 obtain ⟨hA0,hP1⟩:=BS b t p0;refine AC.intro te_ok (fn:=Tryz.f147) ⟨Tryz.func147,rfl,rfl⟩ (aE rfl) ?_;iterate 2 refine ab ?_
 refine ai rfl rfl (aR (0) bc) ?_;iterate 5 refine ab ?_
 refine ai rfl rfl (aj (0) (hc:=(yI t))) ?_;iterate 16 refine ab ?_
 refine am (fun h2_7=>?_) (fun h2_7=>?_)
 ·
  iterate 4 refine ab ?_
  refine ai rfl rfl (aR (0) bc) ?_;iterate 3 refine ab ?_
  have h15:t=15:=by
   by_cases h15:t=15
   · exact h15
   · rw [if_neg h15] at hpn;omega
  rw [if_pos h15] at hpn;have hX:rdD b t p0 en=.error 30:=by rw [rdD,if_pos ⟨h15,by omega⟩]
  rw [hX];refine rHa (0) [] [_,_] [_,_] [(_,_)] ?_;rfl
 ·
  iterate 4 refine ab ?_
  have hg:¬ (t=15∧en<p0+2):=by
   rintro ⟨h15,h2⟩;rw [if_pos h15] at hpn;omega
  have hpl:p0+lJ t≤en:=by omega
  refine bj [bv [(500,_)],ag,ag,ag,ag,ag,ag,ag,ag,ag,ag,ag,ag,ag,ag,ag,bv [(500,_)],ag] [af [] [500] 27 [500],af [0] [] 28,af [27] [0] 29,af [28] [0] 30,af [29] [0] 31,af [0] [] 32,af [31] [0] 33,af [32] [0] 34,af [33] [0] 35,af [0] [] 36,af [35] [0] 37,af [36] [0] 38,af [37] [0] 39,af [9] [] 40,af [38,39] [] 41,af [30,34,40] [] 42,af [26,41] [500] 43 [500],af [42] [] 11] rfl ⟨aC fun _=>aN rfl rfl (bO 500 bc [] []),ah,ah,ah,ah,ah,ah,ah,ah,ah,ah,ah,ah,ah,ah,ah,ah,ah,trivial⟩ ?_;rw [show ((p0:Int)+(lJ t:Int)).toNat=p0+lJ t by omega,show ((p0:Nat):Int).toNat=p0 by omega];iterate 15 refine ab ?_
  rw [hA0];obtain ⟨A0,hA1⟩:∃ A0,A0=(if t=15 then (b.take (p0+2)).drop p0 else []):=⟨_,rfl⟩;rw [← hA1];have hAl:A0.length≤2:=by
   rw [hA1];split
   · rw [List.length_drop,List.length_take];omega
   · simp
  iterate 4 refine ab ?_
  refine AWp.loopR (α:=Nat×List UInt8×Nat×Nat) [6,7,10,11,12,52,53,54,55,56,57,58,59,60,61,62,63,64,65,66,67,68] (fun x_=>[(52,i64 (x_.1)),(10,.sl 500 (x_.2.2.2) 0 (x_.2.1).length 1)]) (fun x_=>[(0,.box [.fz 0 b.length (cl bc b),i64 (x_.2.2.1)]),(500,.row (cl bc (x_.2.1)) 1 (x_.2.2.2))]) (fun x_=>(x_.1)≤cR t∧fS b en (cR t-(x_.1)) (x_.2.1) (x_.2.2.1)=fS b en (cR t) (if t=15 then (b.take (p0+2)).drop p0 else []) (if t=15 then p0+2 else p0)∧(x_.2.1).length≤2+255*(x_.1)∧(x_.2.2.1)≤en) (fun x_=>cR t-(x_.1)) (0,A0,p0+lJ t,1) ?_ (Back.mk' (HasT.cons (HasT.cons HasT.nil)) (HasH.cons (HasH.cons HasH.nil))) ?_
  ·
   exact ⟨Nat.zero_le _,by show fS b en (cR t-0) A0 (p0+lJ t)=_;rw [hA1,hP1];rfl,hAl,hpl⟩
  ·
   rintro ⟨i,ac,p,v⟩ hI7;change i≤cR t∧fS b en (cR t-i) ac p=fS b en (cR t) (if t=15 then (b.take (p0+2)).drop p0 else []) (if t=15 then p0+2 else p0)∧ac.length≤2+255*i∧p≤en at hI7;obtain ⟨hi,hE,hal,hpe⟩:=hI7;refine AWp.as (s':=AS.over _ [6,7,10,11,12,52,53,54,55,56,57,58,59,60,61,62,63,64,65,66,67,68] [(52,i64 i),(10,.sl 500 v 0 ac.length 1)] [(0,.box [.fz 0 b.length (cl bc b),i64 p]),(500,.row (cl bc ac) 1 v)]) rfl ?_;iterate 2 refine ab ?_
   refine am (fun h7_0=>?_) (fun h7_0=>?_)
   ·
    iterate 8 refine ab ?_
    rcases ha:rdN b 20 p p en none [] with e|a
    ·
     iterate 2 refine ab ?_
     refine ai rfl rfl (ay (0) [(0,0)] [] [(_,_)] (hc:=(kJ hb he (by omega) ha))) ?_;iterate 10 refine ab ?_
     refine am (fun h9_1=>?_) (fun h9_1=>?_)
     ·
      iterate 4 refine ab ?_
      refine ai rfl rfl (aR (0) bc) ?_;iterate 3 refine ab ?_
      have h30:rdN b 30 p p en none []=.error (if e=20 then 30 else e):=by rw [sF,ha];rfl
      have hX:rdD b t p0 en=.error (if e=20 then 30 else e):=by rw [jW hg,← hE,show cR t-i=(cR t-(i+1))+1 by omega,jV h30];rfl
      rw [hX,if_pos h9_1];refine rHa (0) [] [_,_] [_,_] [(_,_)] ?_;rfl
     ·
      iterate 7 refine ab ?_
      refine am (fun h11_1=>?_) (fun h11_1=>?_)
      ·
       iterate 5 refine ab ?_
       refine ai rfl rfl (aR (0) bc) ?_;iterate 3 refine ab ?_
       have h30:rdN b 30 p p en none []=.error (if e=20 then 30 else e):=by rw [sF,ha];rfl
       have hX:rdD b t p0 en=.error (if e=20 then 30 else e):=by rw [jW hg,← hE,show cR t-i=(cR t-(i+1))+1 by omega,jV h30];rfl
       rw [hX,if_neg h9_1];refine rHa (0) [] [_,_] [_,_] [(_,_)] ?_;rfl
      ·
       exfalso;exact h11_1 (ld _ _ _ _ _ ha)
    ·
     iterate 2 refine ab ?_
     refine ai rfl rfl (ay (0) [(0,0)] [] [(_,_)] (hc:=(kI hb he (by omega) ha))) ?_;iterate 10 refine ab ?_
     refine am (fun h9_1=>?_) (fun h9_1=>?_)
     ·
      exfalso;simp at h9_1
     ·
      iterate 7 refine ab ?_
      refine am (fun h11_1=>?_) (fun h11_1=>?_)
      ·
       exfalso;simp at h11_1
      ·
       iterate 4 refine ab ?_
       obtain ⟨n1,n2,n3⟩:=jf ha;have h30:rdN b 30 p p en none []=.ok a:=by rw [sF,ha];rfl
       iterate 9 refine ab ?_
       refine ⟨(i+1,ac++a.1,a.2,v+1),?_,Back.mk' (HasT.cons (HasT.cons HasT.nil)) (HasH.cons (HasH.cons HasH.nil)),?_⟩
       ·
        try dsimp only
        refine ⟨by omega,?_,by rw [List.length_append];omega,n3⟩;rw [← hE,show cR t-i=(cR t-(i+1))+1 by omega,mP h30]
       ·
        try dsimp only
        first|omega|(simp;omega)
   ·
    iterate 5 refine ab ?_
    obtain rfl:i=cR t:=by omega
    rw [Nat.sub_self] at hE;have hE2:=hE.symm;rw [fS] at hE2;refine bj [ag,ag,ag,ag,ag,ag,ag,ag,ag,ag,ag,bv [(500,_)],ag] [af [10] [] 70,af [0] [] 71,af [70] [0] 72,af [71] [0] 73,af [72] [0] 74,af [0] [] 75,af [74] [0] 76,af [75] [0] 77,af [76] [0] 78,af [2] [] 79,af [73,77,78] [] 80,af [69,79] [500] 81 [500],af [80] [] 11] rfl ⟨ah,ah,ah,ah,ah,ah,ah,ah,ah,ah,ah,ah,ah,trivial⟩ ?_;rw [show ((en:Nat):Int).toNat=en by omega,show ((p:Nat):Int).toNat=p by omega];iterate 13 refine ab ?_
    refine AOps.bool rfl rfl (aj (0) (hc:=(di t (ac++(b.take en).drop p) 1 (by rw [List.length_append,List.length_drop,List.length_take];omega)))) (fun h17_2=>?_) (fun h17_2=>?_)
    ·
     iterate 11 refine ab ?_
     have hX:rdD b t p0 en=.ok (ac++(b.take en).drop p):=by rw [jW hg,hE2,rdO,if_pos h17_2]
     rw [hX];refine rHa (0) [] [_,_] [_,_] [(_,_)] ?_;rfl
    ·
     iterate 5 refine ab ?_
     refine ai rfl rfl (aR (0) bc) ?_;iterate 3 refine ab ?_
     have hX:rdD b t p0 en=.error 30:=by rw [jW hg,hE2,rdO,if_neg (by simp [h17_2])]
     rw [hX];refine rHa (0) [] [_,_] [_,_] [(_,_)] ?_;rfl
end
section
attribute [local irreducible] AWp AOps
section
variable {b:List UInt8} {t:Int} {p0 en:Nat}
theorem vj {d:List UInt8} (hb:b.length≤65535) (he:en≤b.length) (hp:p0≤en) (h:rdD b t p0 en=.ok d):AC Tryz.prog 147 [.ptr 0 0 0,i64 t,i64 en] (ao [(0,.box [.fz 0 b.length (cl bc b),i64 p0])]) (bZ (.tup [.fz 0 d.length (cl bc d),i64 0]) [(0,.box [.fz 0 b.length (cl bc b),i64 en])]):=by
 have:=vm b t p0 en hb he hp;rw [h] at this;exact this
theorem vk {e:Int} (hb:b.length≤65535) (he:en≤b.length) (hp:p0≤en) (h:rdD b t p0 en=.error e):AC Tryz.prog 147 [.ptr 0 0 0,i64 t,i64 en] (ao [(0,.box [.fz 0 b.length (cl bc b),i64 p0])]) (bZ (.tup [.fz 0 ([]:List UInt8).length (cl bc []),i64 e]) [(0,.box [.fz 0 b.length (cl bc b),.any])]):=by
 have:=vm b t p0 en hb he hp;rw [h] at this;exact this
end
theorem ud {b:List UInt8} {en:Nat}:∀ (k:Nat) (acc:List UInt8) (p:Nat) {e:Int},fS b en k acc p=.error e→e≠0
 | 0,acc,p,e,h=>by cases h
 | k+1,acc,p,e,h=>by
  cases h1:rdN b 30 p p en none [] with
  | error x=>
   rw [jV h1] at h;cases h;rw [sF] at h1;cases h2:rdN b 20 p p en none [] with
   | error y=>
    rw [h2] at h1;have h3:(if y=20 then 30 else y)=e:=by simpa [shE] using h1
    rw [← h3];split
    · decide
    · exact ld _ _ _ _ _ h2
   | ok a=>rw [h2] at h1;cases h1
  | ok a=>rw [mP h1] at h;exact ud k _ _ h
theorem BO {b:List UInt8} {t:Int} {p en:Nat} {e:Int} (h:rdD b t p en=.error e):e≠0:=by
 unfold rdD at h;split at h
 · cases h;decide
 · cases h1:fS b en (cR t) (if t=15 then (b.take (p+2)).drop p else []) (if t=15 then p+2 else p) with
   | error x=>rw [h1] at h;cases h;exact ud _ _ _ h1
   | ok a=>
    rw [h1,rdO] at h;split at h
    · cases h
    · cases h;decide
theorem wO {b:List UInt8} {p:Nat} {e:Int} (h:rdR b p=.error e):e≠0:=by
 unfold rdR at h;cases h1:rdN b 20 p p b.length none [] with
 | error x=>rw [h1] at h;cases h;exact ld _ _ _ _ _ h1
 | ok a=>
  rw [h1,vN] at h;split at h
  · cases h;decide
  · cases h2:rdD b (bN b a.2 2) (a.2+10) (a.2+10+bN b (a.2+8) 2) with
    | error x=>rw [h2] at h;cases h;exact BO h2
    | ok d=>rw [h2] at h;cases h
def zR:Rr:=⟨[],0,0,0,[]⟩
def Ds (b:List UInt8) (n:List UInt8) (q:Nat):Except Int (List UInt8)→Rr
 | .error _=>⟨n,bN b q 2,bN b (q+2) 2,bN b (q+4) 4,[]⟩
 | .ok d=>⟨n,bN b q 2,bN b (q+2) 2,bN b (q+4) 4,d⟩
def wN (b:List UInt8):Except Int (List UInt8×Nat)→Rr
 | .error _=>zR
 | .ok a=>if b.length<a.2+10∨b.length<a.2+10+bN b (a.2+8) 2 then zR else Ds b a.1 a.2 (rdD b (bN b a.2 2) (a.2+10) (a.2+10+bN b (a.2+8) 2))
def qa (b:List UInt8) (p:Nat):Rr:=wN b (rdN b 20 p p b.length none [])
theorem BK {b:List UInt8} {p:Nat} {e:Int} (h:rdN b 20 p p b.length none []=.error e):qa b p=zR:=by rw [qa,h];rfl
theorem l8 {b:List UInt8} {p:Nat} {a:List UInt8×Nat} (h:rdN b 20 p p b.length none []=.ok a) (h1:b.length<a.2+10∨b.length<a.2+10+bN b (a.2+8) 2):qa b p=zR:=by rw [qa,h,wN,if_pos h1]
theorem wM {b:List UInt8} {p:Nat} {a:List UInt8×Nat} (h:rdN b 20 p p b.length none []=.ok a) (h1:¬ b.length<a.2+10) (h2:¬ b.length<a.2+10+bN b (a.2+8) 2):qa b p=Ds b a.1 a.2 (rdD b (bN b a.2 2) (a.2+10) (a.2+10+bN b (a.2+8) 2)):=by rw [qa,h,wN,if_neg (by omega)]
theorem xG (b:List UInt8) (p0:Nat) (hb:b.length≤65535) (hp:p0≤100000):AC Tryz.prog 106 [.ptr 0 0 0] (ao [(0,.box [.fz 0 b.length (cl bc b),i64 p0])]) (bZ (.tup [.agg (rrc (qa b p0)),i64 (rnE (rdR b p0))]) [(0,.box [.fz 0 b.length (cl bc b),atE (rdR b p0)])]):=by
 refine AC.intro te_ok (fn:=Tryz.f106) ⟨Tryz.func106,rfl,rfl⟩ (aE rfl) ?_;iterate 2 refine ab ?_
 refine ai rfl rfl (ap 100) ?_;iterate 4 refine ab ?_
 rcases ha:rdN b 20 p0 p0 b.length none [] with e|a
 ·
  iterate 6 refine ab ?_
  refine ai rfl rfl (ay (0) [(0,0)] [] [(_,_)] (hc:=(kJ hb (Nat.le_refl _) hp ha))) ?_;iterate 10 refine ab ?_
  refine am (fun h2_1=>?_) (fun h2_1=>?_)
  ·
   iterate 4 refine ab ?_
   refine ai rfl rfl (aL []) ?_;iterate 5 refine ab ?_
   have hX:rdR b p0=.error e:=by rw [rdR,ha];rfl
   rw [hX,BK ha];refine rHa (0) [] [_,_] [.agg (rrc zR),_] [(_,_)] ?_;rfl
  ·
   exfalso;exact h2_1 (ld _ _ _ _ _ ha)
 ·
  iterate 6 refine ab ?_
  refine ai rfl rfl (ay (0) [(0,0)] [] [(_,_)] (hc:=(kI hb (Nat.le_refl _) hp ha))) ?_;iterate 10 refine ab ?_
  refine am (fun h2_1=>?_) (fun h2_1=>?_)
  ·
   exfalso;simp at h2_1
  ·
   iterate 6 refine ab ?_
   refine ai rfl rfl (aL [(_,_)]) ?_;refine ai rfl rfl (ap 502) ?_;iterate 8 refine ab ?_
   refine ai rfl rfl (cb tc [false,false,false,false] []) ?_;refine ai rfl rfl (ap 701) ?_;iterate 4 refine ab ?_
   obtain ⟨n1,n2,n3⟩:=jf ha;have hsz:=ox (b:=b) (i:=a.2+8);rcases (by omega:b.length<a.2+2∨(a.2+2≤b.length∧b.length<a.2+4)∨(a.2+4≤b.length∧b.length<a.2+6)∨(a.2+6≤b.length∧b.length<a.2+8)∨(a.2+8≤b.length∧b.length<a.2+10)∨a.2+10≤b.length) with g1|g1|g1|g1|g1|g1
   ·
    refine ab ?_;refine ai rfl rfl (ay (0) [(0,0)] [] [(_,_)] (hc:=(ck b (a.2) 2 hb (by omega) (by omega) (by omega)))) ?_;iterate 11 refine ab ?_
    refine ai rfl rfl (ay (0) [(0,0)] [] [(_,_)] (hc:=(ck b (a.2) 2 hb (by omega) (by omega) (by omega)))) ?_;iterate 11 refine ab ?_
    refine ai rfl rfl (ay (0) [(0,0)] [] [(_,_)] (hc:=(ck b (a.2) 4 hb (by omega) (by omega) (by omega)))) ?_;iterate 11 refine ab ?_
    refine ai rfl rfl (ay (0) [(0,0)] [] [(_,_)] (hc:=(ck b (a.2) 2 hb (by omega) (by omega) (by omega)))) ?_;iterate 9 refine ab ?_
    refine bj [ag,ag,ag,ag,ag,ag,ag,ag,ag,ag,ag,ag,ag,ag,ag,ag,ag] [af [8] [701] 54,af [] [] 55,af [53,54] [] 56,af [55] [] 57,af [56] [] 58,af [56] [] 59,af [56] [] 60,af [56] [] 61,af [56] [] 62,af [56] [] 63,af [56] [] 64,af [56] [] 65,af [56] [] 66,af [56] [] 67,af [56] [] 68,af [56] [] 69,af [56,68] [] 70] rfl ⟨ah,aC fun _=>aN rfl rfl (cb tc [true,true,true,true] [(_,_),(_,_),(_,_),(_,_)]),aC fun _=>aN rfl rfl ((OpOk.bool_is (c:=true) (qi) (rfl))),ah,ah,ah,ah,ah,ah,ah,ah,ah,ah,ah,ah,ah,ah,trivial⟩ ?_;iterate 3 refine ab ?_
    refine ai rfl rfl (aL []) ?_;iterate 4 refine ab ?_
    have hX:rdR b p0=.error 20:=eF ha (by omega);rw [hX,l8 ha (by omega)];refine rHa (0) [] [_,_] [.agg (rrc zR),_] [(_,_)] ?_;rfl
   ·
    refine ab ?_;refine ai rfl rfl (ay (0) [(0,0)] [] [(_,_)] (hc:=(bU b (a.2) 2 hb (by omega) (by omega) (by omega)))) ?_;iterate 11 refine ab ?_
    refine ai rfl rfl (ay (0) [(0,0)] [] [(_,_)] (hc:=(ck b (a.2+2) 2 hb (by omega) (by omega) (by omega)))) ?_;iterate 11 refine ab ?_
    refine ai rfl rfl (ay (0) [(0,0)] [] [(_,_)] (hc:=(ck b (a.2+2) 4 hb (by omega) (by omega) (by omega)))) ?_;iterate 11 refine ab ?_
    refine ai rfl rfl (ay (0) [(0,0)] [] [(_,_)] (hc:=(ck b (a.2+2) 2 hb (by omega) (by omega) (by omega)))) ?_;iterate 9 refine ab ?_
    refine bj [ag,ag,ag,ag,ag,ag,ag,ag,ag,ag,ag,ag,ag,ag,ag,ag,ag] [af [8] [701] 54,af [] [] 55,af [53,54] [] 56,af [55] [] 57,af [56] [] 58,af [56] [] 59,af [56] [] 60,af [56] [] 61,af [56] [] 62,af [56] [] 63,af [56] [] 64,af [56] [] 65,af [56] [] 66,af [56] [] 67,af [56] [] 68,af [56] [] 69,af [56,68] [] 70] rfl ⟨ah,aC fun _=>aN rfl rfl (cb tc [true,true,true,true] [(_,_),(_,_),(_,_),(_,_)]),aC fun _=>aN rfl rfl ((OpOk.bool_is (c:=true) (qi) (rfl))),ah,ah,ah,ah,ah,ah,ah,ah,ah,ah,ah,ah,ah,ah,trivial⟩ ?_;iterate 3 refine ab ?_
    refine ai rfl rfl (aL []) ?_;iterate 4 refine ab ?_
    have hX:rdR b p0=.error 20:=eF ha (by omega);rw [hX,l8 ha (by omega)];refine rHa (0) [] [_,_] [.agg (rrc zR),_] [(_,_)] ?_;rfl
   ·
    refine ab ?_;refine ai rfl rfl (ay (0) [(0,0)] [] [(_,_)] (hc:=(bU b (a.2) 2 hb (by omega) (by omega) (by omega)))) ?_;iterate 11 refine ab ?_
    refine ai rfl rfl (ay (0) [(0,0)] [] [(_,_)] (hc:=(bU b (a.2+2) 2 hb (by omega) (by omega) (by omega)))) ?_;iterate 11 refine ab ?_
    refine ai rfl rfl (ay (0) [(0,0)] [] [(_,_)] (hc:=(ck b (a.2+4) 4 hb (by omega) (by omega) (by omega)))) ?_;iterate 11 refine ab ?_
    refine ai rfl rfl (ay (0) [(0,0)] [] [(_,_)] (hc:=(ck b (a.2+4) 2 hb (by omega) (by omega) (by omega)))) ?_;iterate 9 refine ab ?_
    refine bj [ag,ag,ag,ag,ag,ag,ag,ag,ag,ag,ag,ag,ag,ag,ag,ag,ag] [af [8] [701] 54,af [] [] 55,af [53,54] [] 56,af [55] [] 57,af [56] [] 58,af [56] [] 59,af [56] [] 60,af [56] [] 61,af [56] [] 62,af [56] [] 63,af [56] [] 64,af [56] [] 65,af [56] [] 66,af [56] [] 67,af [56] [] 68,af [56] [] 69,af [56,68] [] 70] rfl ⟨ah,aC fun _=>aN rfl rfl (cb tc [true,true,true,true] [(_,_),(_,_),(_,_),(_,_)]),aC fun _=>aN rfl rfl ((OpOk.bool_is (c:=true) (qi) (rfl))),ah,ah,ah,ah,ah,ah,ah,ah,ah,ah,ah,ah,ah,ah,trivial⟩ ?_;iterate 3 refine ab ?_
    refine ai rfl rfl (aL []) ?_;iterate 4 refine ab ?_
    have hX:rdR b p0=.error 20:=eF ha (by omega);rw [hX,l8 ha (by omega)];refine rHa (0) [] [_,_] [.agg (rrc zR),_] [(_,_)] ?_;rfl
   ·
    refine ab ?_;refine ai rfl rfl (ay (0) [(0,0)] [] [(_,_)] (hc:=(bU b (a.2) 2 hb (by omega) (by omega) (by omega)))) ?_;iterate 11 refine ab ?_
    refine ai rfl rfl (ay (0) [(0,0)] [] [(_,_)] (hc:=(bU b (a.2+2) 2 hb (by omega) (by omega) (by omega)))) ?_;iterate 11 refine ab ?_
    refine ai rfl rfl (ay (0) [(0,0)] [] [(_,_)] (hc:=(ck b (a.2+4) 4 hb (by omega) (by omega) (by omega)))) ?_;iterate 11 refine ab ?_
    refine ai rfl rfl (ay (0) [(0,0)] [] [(_,_)] (hc:=(bU b (a.2+4) 2 hb (by omega) (by omega) (by omega)))) ?_;iterate 9 refine ab ?_
    refine bj [ag,ag,ag,ag,ag,ag,ag,ag,ag,ag,ag,ag,ag,ag,ag,ag,ag] [af [8] [701] 54,af [] [] 55,af [53,54] [] 56,af [55] [] 57,af [56] [] 58,af [56] [] 59,af [56] [] 60,af [56] [] 61,af [56] [] 62,af [56] [] 63,af [56] [] 64,af [56] [] 65,af [56] [] 66,af [56] [] 67,af [56] [] 68,af [56] [] 69,af [56,68] [] 70] rfl ⟨ah,aC fun _=>aN rfl rfl (cb tc [true,true,true,true] [(_,_),(_,_),(_,_),(_,_)]),aC fun _=>aN rfl rfl ((OpOk.bool_is (c:=true) (qi) (rfl))),ah,ah,ah,ah,ah,ah,ah,ah,ah,ah,ah,ah,ah,ah,trivial⟩ ?_;iterate 3 refine ab ?_
    refine ai rfl rfl (aL []) ?_;iterate 4 refine ab ?_
    have hX:rdR b p0=.error 20:=eF ha (by omega);rw [hX,l8 ha (by omega)];refine rHa (0) [] [_,_] [.agg (rrc zR),_] [(_,_)] ?_;rfl
   ·
    refine ab ?_;refine ai rfl rfl (ay (0) [(0,0)] [] [(_,_)] (hc:=(bU b (a.2) 2 hb (by omega) (by omega) (by omega)))) ?_;iterate 11 refine ab ?_
    refine ai rfl rfl (ay (0) [(0,0)] [] [(_,_)] (hc:=(bU b (a.2+2) 2 hb (by omega) (by omega) (by omega)))) ?_;iterate 11 refine ab ?_
    refine ai rfl rfl (ay (0) [(0,0)] [] [(_,_)] (hc:=(bU b (a.2+4) 4 hb (by omega) (by omega) (by omega)))) ?_;iterate 11 refine ab ?_
    refine ai rfl rfl (ay (0) [(0,0)] [] [(_,_)] (hc:=(ck b (a.2+8) 2 hb (by omega) (by omega) (by omega)))) ?_;iterate 9 refine ab ?_
    refine bj [ag,ag,ag,ag,ag,ag,ag,ag,ag,ag,ag,ag,ag,ag,ag,ag,ag] [af [8] [701] 54,af [] [] 55,af [53,54] [] 56,af [55] [] 57,af [56] [] 58,af [56] [] 59,af [56] [] 60,af [56] [] 61,af [56] [] 62,af [56] [] 63,af [56] [] 64,af [56] [] 65,af [56] [] 66,af [56] [] 67,af [56] [] 68,af [56] [] 69,af [56,68] [] 70] rfl ⟨ah,aC fun _=>aN rfl rfl (cb tc [true,true,true,true] [(_,_),(_,_),(_,_),(_,_)]),aC fun _=>aN rfl rfl ((OpOk.bool_is (c:=true) (qi) (rfl))),ah,ah,ah,ah,ah,ah,ah,ah,ah,ah,ah,ah,ah,ah,trivial⟩ ?_;iterate 3 refine ab ?_
    refine ai rfl rfl (aL []) ?_;iterate 4 refine ab ?_
    have hX:rdR b p0=.error 20:=eF ha (by omega);rw [hX,l8 ha (by omega)];refine rHa (0) [] [_,_] [.agg (rrc zR),_] [(_,_)] ?_;rfl
   ·
    refine ab ?_;refine ai rfl rfl (ay (0) [(0,0)] [] [(_,_)] (hc:=(bU b (a.2) 2 hb (by omega) (by omega) (by omega)))) ?_;iterate 11 refine ab ?_
    refine ai rfl rfl (ay (0) [(0,0)] [] [(_,_)] (hc:=(bU b (a.2+2) 2 hb (by omega) (by omega) (by omega)))) ?_;iterate 11 refine ab ?_
    refine ai rfl rfl (ay (0) [(0,0)] [] [(_,_)] (hc:=(bU b (a.2+4) 4 hb (by omega) (by omega) (by omega)))) ?_;iterate 11 refine ab ?_
    refine ai rfl rfl (ay (0) [(0,0)] [] [(_,_)] (hc:=(bU b (a.2+8) 2 hb (by omega) (by omega) (by omega)))) ?_;iterate 9 refine ab ?_
    by_cases g2:b.length<a.2+10+bN b (a.2+8) 2
    ·
     refine bj [ag,ag,ag,ag,ag,ag,ag,ag,ag,ag,ag,ag,ag,ag,ag,ag,ag] [af [8] [701] 54,af [] [] 55,af [53,54] [] 56,af [55] [] 57,af [0,56] [] 58,af [56,57] [0] 59,af [56,58] [0] 60,af [56,59] [0] 61,af [56,60] [] 62,af [0,56] [] 63,af [56,62] [0] 64,af [56,63] [0] 65,af [56,64] [0] 66,af [56,61,65] [] 67,af [7,56] [] 68,af [56,66,67] [] 69,af [56,68] [] 70] rfl ⟨ah,aC fun _=>aN rfl rfl (cb tc [true,true,true,true] [(_,_),(_,_),(_,_),(_,_)]),aC fun _=>aN rfl rfl ((OpOk.bool_is (c:=false) (qi) (rfl))),ah,ah,ah,ah,ah,ah,ah,ah,ah,ah,ah,ah,aC fun _=>dV rfl rfl rfl rfl rfl ((OpOk.dec_t (e8) (by omega))),ah,trivial⟩ ?_;iterate 3 refine ab ?_
     refine ai rfl rfl (aL []) ?_;iterate 4 refine ab ?_
     have hX:rdR b p0=.error 20:=eF ha (by omega);rw [hX,l8 ha (by omega)];refine rHa (0) [] [_,_] [.agg (rrc zR),_] [(_,_)] ?_;rfl
    ·
     refine bj [ag,ag,ag,ag,ag,ag,ag,ag,ag,ag,ag,ag,ag,ag,ag,ag,ag] [af [8] [701] 54,af [] [] 55,af [53,54] [] 56,af [55] [] 57,af [0,56] [] 58,af [56,57] [0] 59,af [56,58] [0] 60,af [56,59] [0] 61,af [56,60] [] 62,af [0,56] [] 63,af [56,62] [0] 64,af [56,63] [0] 65,af [56,64] [0] 66,af [56,61,65] [] 67,af [7,56] [] 68,af [56,66,67] [] 69,af [56,68] [] 70] rfl ⟨ah,aC fun _=>aN rfl rfl (cb tc [true,true,true,true] [(_,_),(_,_),(_,_),(_,_)]),aC fun _=>aN rfl rfl ((OpOk.bool_is (c:=false) (qi) (rfl))),ah,ah,ah,ah,ah,ah,ah,ah,ah,ah,ah,ah,aC fun _=>dV rfl rfl rfl rfl rfl ((OpOk.dec_f (e8) (by omega))),ah,trivial⟩ ?_;iterate 3 refine ab ?_
     rcases hd:rdD b (bN b a.2 2) (a.2+10) (a.2+10+bN b (a.2+8) 2) with e|d
     ·
      refine bj [ag,ag,ag,ag,ag,ag,ag,ag,ag,bv [(0,_)],ag,ag,ag,ag,bv [(502,_)],ag] [af [0] [] 73,af [6] [502] 74,af [73] [502] 75,af [0] [] 76,af [75] [0] 77,af [76] [0] 78,af [77] [0] 79,af [7] [] 80,af [78,79] [] 81,af [72,74,80] [0] 82 [0],af [81] [] 72,af [71] [] 83,af [71] [] 84,af [6] [502] 85,af [82,84] [502] 0 [502],af [83] [] 6] rfl ⟨ah,ah,ah,ah,ah,ah,ah,ah,ah,aC fun _=>aN rfl rfl (ay (0) [(0,0)] [] [(_,_)] (hc:=(vk hb (by omega) (by omega) hd))),ah,ah,ah,ah,ah,ah,trivial⟩ ?_;iterate 8 refine ab ?_
      have hX:rdR b p0=.error e:=by rw [nN ha (by omega) (by omega),hd];rfl
      rw [hX,wM ha (by omega) (by omega),hd];refine rHa (0) [] [_,_] [_,_] [(_,_)] ?_;rfl
     ·
      refine bj [ag,ag,ag,ag,ag,ag,ag,ag,ag,bv [(0,_)],ag,ag,ag,ag,bv [(502,_)],ag] [af [0] [] 73,af [6] [502] 74,af [73] [502] 75,af [0] [] 76,af [75] [0] 77,af [76] [0] 78,af [77] [0] 79,af [7] [] 80,af [78,79] [] 81,af [72,74,80] [0] 82 [0],af [81] [] 72,af [71] [] 83,af [71] [] 84,af [6] [502] 85,af [82,84] [502] 0 [502],af [83] [] 6] rfl ⟨ah,ah,ah,ah,ah,ah,ah,ah,ah,aC fun _=>aN rfl rfl (ay (0) [(0,0)] [] [(_,_)] (hc:=(vj hb (by omega) (by omega) hd))),ah,ah,ah,ah,ah,ah,trivial⟩ ?_;iterate 8 refine ab ?_
      have hX:rdR b p0=.ok (⟨a.1,bN b a.2 2,bN b (a.2+2) 2,bN b (a.2+4) 4,d⟩,a.2+10+bN b (a.2+8) 2):=by rw [nN ha (by omega) (by omega),hd];rfl
      rw [hX,wM ha (by omega) (by omega),hd];refine rHa (0) [] [_,_] [_,_] [(_,_)] ?_;rfl
end
section
attribute [local irreducible] AWp AOps
section
variable {b:List UInt8} {p0 k:Nat}
theorem wu {x:Rr×Nat} (hb:b.length≤65535) (hp:p0≤100000) (h:rdR b p0=.ok x):AC Tryz.prog 106 [.ptr 0 0 0] (ao [(0,.box [.fz 0 b.length (cl bc b),i64 p0])]) (bZ (.tup [.agg (rrc (qa b p0)),i64 0]) [(0,.box [.fz 0 b.length (cl bc b),i64 x.2])]):=by
 have:=xG b p0 hb hp;rw [h] at this;exact this
theorem wv {e:Int} (hb:b.length≤65535) (hp:p0≤100000) (h:rdR b p0=.error e):AC Tryz.prog 106 [.ptr 0 0 0] (ao [(0,.box [.fz 0 b.length (cl bc b),i64 p0])]) (bZ (.tup [.agg (rrc (qa b p0)),i64 e]) [(0,.box [.fz 0 b.length (cl bc b),.any])]):=by
 have:=xG b p0 hb hp;rw [h] at this;exact this
end
theorem mN {b:List UInt8}:∀ (k:Nat) (acc:List Rr) (p:Nat) {e:Int},bL b k acc p=.error e→e≠0
 | 0,acc,p,e,h=>by cases h
 | k+1,acc,p,e,h=>by
  cases h1:rdR b p with
  | error x=>rw [ga h1] at h;cases h;exact wO h1
  | ok a=>rw [gK h1] at h;exact mN k _ _ h
theorem l9 {b:List UInt8}:∀ (k:Nat) (acc:List Rr) (p:Nat) {q:List Rr×Nat},bL b k acc p=.ok q→p≤b.length→q.2≤b.length
 | 0,acc,p,q,h,hp=>by cases h;exact hp
 | k+1,acc,p,q,h,hp=>by
  cases h1:rdR b p with
  | error x=>rw [ga h1] at h;cases h
  | ok a=>rw [gK h1] at h;exact l9 k _ _ h (qc h1).2
theorem ub {b:List UInt8}:∀ (k:Nat) (acc:List Qu) (p:Nat) {e:Int},dz b k acc p=.error e→e≠0
 | 0,acc,p,e,h=>by cases h
 | k+1,acc,p,e,h=>by
  cases h1:rdN b 20 p p b.length none [] with
  | error x=>rw [iM h1] at h;cases h;exact ld _ _ _ _ _ h1
  | ok a=>
   by_cases h2:b.length<a.2+4
   · rw [gb h1 h2] at h;cases h;decide
   · rw [je h1 h2] at h;exact ub k _ _ h
theorem sE {b:List UInt8}:∀ (k:Nat) (acc:List Qu) (p:Nat) {q:List Qu×Nat},dz b k acc p=.ok q→p≤b.length→q.2≤b.length
 | 0,acc,p,q,h,hp=>by cases h;exact hp
 | k+1,acc,p,q,h,hp=>by
  cases h1:rdN b 20 p p b.length none [] with
  | error x=>rw [iM h1] at h;cases h
  | ok a=>
   by_cases h2:b.length<a.2+4
   · rw [gb h1 h2] at h;cases h
   · rw [je h1 h2] at h;exact sE k _ _ h (by omega)
theorem BJ {b:List UInt8} {p:Nat} {x:Rr×Nat} (h:rdR b p=.ok x):qa b p=x.1:=by
 unfold rdR at h;unfold qa;cases h1:rdN b 20 p p b.length none [] with
 | error e=>rw [h1] at h;cases h
 | ok a=>
  rw [h1,vN] at h;rw [wN];split at h
  · cases h
  · rename_i h2
    rw [if_neg h2];cases h3:rdD b (bN b a.2 2) (a.2+10) (a.2+10+bN b (a.2+8) 2) with
    | error e=>rw [h3] at h;cases h
    | ok d=>rw [h3] at h;cases h;rfl
def BG {α:Type}:Except Int (List α×Nat)→List α
 | .error _=>[]
 | .ok a=>a.1
theorem B6 (b:List UInt8) (p0 k:Nat) (hb:b.length≤65535) (hp:p0≤b.length) (hk:k≤65535):AC Tryz.prog 62 [.ptr 0 0 0,i64 k] (ao [(0,.box [.fz 0 b.length (cl bc b),i64 p0])]) (bZ (.tup [.fz 0 (BG (bL b k [] p0)).length (cl rrc (BG (bL b k [] p0))),i64 (rnE (bL b k [] p0))]) [(0,.box [.fz 0 b.length (cl bc b),atE (bL b k [] p0)])]):=by
 refine AC.intro te_ok (fn:=Tryz.f62) ⟨Tryz.func62,rfl,rfl⟩ (aE rfl) ?_;iterate 2 refine ab ?_
 refine ai rfl rfl (aR (0) rrc) ?_;iterate 4 refine ab ?_
 refine ai rfl rfl (bD 200 5 rrc) ?_;iterate 8 refine ab ?_
 refine AWp.loopR (α:=Nat×List Rr×Nat×Nat) [4,5,6,7,8,10,11,12,13,14,15,16,17,18,19,20,21,22,23,24] (fun x_=>[(10,i64 (x_.1)),(6,.sl 200 (x_.2.2.2) 0 (x_.2.1).length 5)]) (fun x_=>[(0,.box [.fz 0 b.length (cl bc b),i64 (x_.2.2.1)]),(200,.row (cl rrc (x_.2.1)) 5 (x_.2.2.2))]) (fun x_=>(x_.1)≤k∧bL b (k-(x_.1)) (x_.2.1) (x_.2.2.1)=bL b k [] p0∧(x_.2.1).length=(x_.1)∧(x_.2.2.1)≤b.length) (fun x_=>k-(x_.1)) (0,[],p0,0) ?_ (Back.mk' (HasT.cons (HasT.cons HasT.nil)) (HasH.cons (HasH.cons HasH.nil))) ?_
 ·
  exact ⟨Nat.zero_le _,rfl,rfl,hp⟩
 ·
  rintro ⟨i,l,p,v⟩ hI3;change i≤k∧bL b (k-i) l p=bL b k [] p0∧l.length=i∧p≤b.length at hI3;obtain ⟨hi,hE,hll,hpe⟩:=hI3;refine AWp.as (s':=AS.over _ [4,5,6,7,8,10,11,12,13,14,15,16,17,18,19,20,21,22,23,24] [(10,i64 i),(6,.sl 200 v 0 l.length 5)] [(0,.box [.fz 0 b.length (cl bc b),i64 p]),(200,.row (cl rrc l) 5 v)]) rfl ?_;iterate 2 refine ab ?_
  refine am (fun h3_0=>?_) (fun h3_0=>?_)
  ·
   iterate 8 refine ab ?_
   rcases ha:rdR b p with e|a
   ·
    refine ab ?_;refine ai rfl rfl (ay (0) [(0,0)] [] [(_,_)] (hc:=(wv hb (by omega) ha))) ?_;iterate 3 refine ab ?_
    refine ai rfl rfl (ap 505) ?_;iterate 7 refine ab ?_
    refine am (fun h5_1=>?_) (fun h5_1=>?_)
    ·
     iterate 5 refine ab ?_
     refine ai rfl rfl (aR (0) rrc) ?_;iterate 3 refine ab ?_
     have hX:bL b k [] p0=.error e:=by rw [← hE,show k-i=(k-(i+1))+1 by omega,ga ha]
     rw [hX];refine rHa (0) [] [_,_] [_,_] [(_,_)] ?_;rfl
    ·
     exfalso;exact h5_1 (wO ha)
   ·
    refine ab ?_;refine ai rfl rfl (ay (0) [(0,0)] [] [(_,_)] (hc:=(wu hb (by omega) ha))) ?_;iterate 3 refine ab ?_
    refine ai rfl rfl (ap 505) ?_;iterate 7 refine ab ?_
    refine am (fun h5_1=>?_) (fun h5_1=>?_)
    ·
     exfalso;simp at h5_1
    ·
     iterate 4 refine ab ?_
     rw [BJ ha];iterate 2 refine ab ?_
     refine ai rfl rfl (bO 802 rrc [a.1] [(_,_)]) ?_;iterate 7 refine ab ?_
     refine ⟨(i+1,l++[a.1],a.2,v+1),?_,Back.mk' (HasT.cons (HasT.cons HasT.nil)) (HasH.cons (HasH.cons HasH.nil)),?_⟩
     ·
      try dsimp only
      refine ⟨by omega,?_,by rw [List.length_append,hll];rfl,(qc ha).2⟩;rw [← hE,show k-i=(k-(i+1))+1 by omega,gK ha]
     ·
      try dsimp only
      first|omega|(simp;omega)
  ·
   iterate 11 refine ab ?_
   obtain rfl:i=k:=by omega
   rw [Nat.sub_self,bL] at hE;rw [← hE];refine rHa (0) [] [_,_] [_,_] [(_,_)] ?_;rfl
theorem B7 (b:List UInt8) (p0 k:Nat) (hb:b.length≤65535) (hp:p0≤b.length) (hk:k≤65535):AC Tryz.prog 61 [.ptr 0 0 0,i64 k] (ao [(0,.box [.fz 0 b.length (cl bc b),i64 p0])]) (bZ (.tup [.fz 0 (BG (dz b k [] p0)).length (cl quc (BG (dz b k [] p0))),i64 (rnE (dz b k [] p0))]) [(0,.box [.fz 0 b.length (cl bc b),atE (dz b k [] p0)])]):=by
 refine AC.intro te_ok (fn:=Tryz.f61) ⟨Tryz.func61,rfl,rfl⟩ (aE rfl) ?_;iterate 2 refine ab ?_
 refine ai rfl rfl (aR (0) quc) ?_;iterate 4 refine ab ?_
 refine ai rfl rfl (bD 200 3 quc) ?_;iterate 8 refine ab ?_
 refine AWp.loopR (α:=Nat×List Qu×Nat×Nat) [4,5,6,7,8,9,10,11,12,14,15,16,17,18,19,20,21,22,23,24,25,26,27,28,29,30,31,32,33,34,35,36,37,38,39,40,41,42,43,44,45,46,47,48,49,50,51,52] (fun x_=>[(14,i64 (x_.1)),(6,.sl 200 (x_.2.2.2) 0 (x_.2.1).length 3)]) (fun x_=>[(0,.box [.fz 0 b.length (cl bc b),i64 (x_.2.2.1)]),(200,.row (cl quc (x_.2.1)) 3 (x_.2.2.2))]) (fun x_=>(x_.1)≤k∧dz b (k-(x_.1)) (x_.2.1) (x_.2.2.1)=dz b k [] p0∧(x_.2.1).length=(x_.1)∧(x_.2.2.1)≤b.length) (fun x_=>k-(x_.1)) (0,[],p0,0) ?_ (Back.mk' (HasT.cons (HasT.cons HasT.nil)) (HasH.cons (HasH.cons HasH.nil))) ?_
 ·
  exact ⟨Nat.zero_le _,rfl,rfl,hp⟩
 ·
  rintro ⟨i,l,p,v⟩ hI3;change i≤k∧dz b (k-i) l p=dz b k [] p0∧l.length=i∧p≤b.length at hI3;obtain ⟨hi,hE,hll,hpe⟩:=hI3;refine AWp.as (s':=AS.over _ [4,5,6,7,8,9,10,11,12,14,15,16,17,18,19,20,21,22,23,24,25,26,27,28,29,30,31,32,33,34,35,36,37,38,39,40,41,42,43,44,45,46,47,48,49,50,51,52] [(14,i64 i),(6,.sl 200 v 0 l.length 3)] [(0,.box [.fz 0 b.length (cl bc b),i64 p]),(200,.row (cl quc l) 3 v)]) rfl ?_;iterate 2 refine ab ?_
  refine am (fun h3_0=>?_) (fun h3_0=>?_)
  ·
   iterate 8 refine ab ?_
   rcases ha:rdN b 20 p p b.length none [] with e|a
   ·
    iterate 6 refine ab ?_
    refine ai rfl rfl (ay (0) [(0,0)] [] [(_,_)] (hc:=(kJ hb (Nat.le_refl _) (by omega) ha))) ?_;iterate 10 refine ab ?_
    refine am (fun h5_1=>?_) (fun h5_1=>?_)
    ·
     iterate 5 refine ab ?_
     refine ai rfl rfl (aR (0) quc) ?_;iterate 3 refine ab ?_
     have hX:dz b k [] p0=.error e:=by rw [← hE,show k-i=(k-(i+1))+1 by omega,iM ha]
     rw [hX];refine rHa (0) [] [_,_] [_,_] [(_,_)] ?_;rfl
    ·
     exfalso;exact h5_1 (ld _ _ _ _ _ ha)
   ·
    iterate 6 refine ab ?_
    refine ai rfl rfl (ay (0) [(0,0)] [] [(_,_)] (hc:=(kI hb (Nat.le_refl _) (by omega) ha))) ?_;iterate 10 refine ab ?_
    refine am (fun h5_1=>?_) (fun h5_1=>?_)
    ·
     exfalso;simp at h5_1
    ·
     iterate 5 refine ab ?_
     obtain ⟨n1,n2,n3⟩:=jf ha;rcases (by omega:b.length<a.2+2∨(a.2+2≤b.length∧b.length<a.2+4)∨a.2+4≤b.length) with g1|g1|g1
     ·
      refine ab ?_;refine ai rfl rfl (ay (0) [(0,0)] [] [(_,_)] (hc:=(ck b (a.2) 2 hb (by omega) (by omega) (by omega)))) ?_;iterate 2 refine ab ?_
      refine AOps.cons rfl rfl ((OpOk.bool_is (c:=false) (bM) (rfl))) ?_;iterate 6 refine ab ?_
      refine ai rfl rfl (ay (0) [(0,0)] [] [(_,_)] (hc:=(ck b (a.2) 2 hb (by omega) (by omega) (by omega)))) ?_;iterate 2 refine ab ?_
      refine AOps.cons rfl rfl ((OpOk.bool_is (c:=false) (bM) (rfl))) ?_;iterate 16 refine ab ?_
      refine ai rfl rfl (aR (0) quc) ?_;iterate 3 refine ab ?_
      have hX:dz b k [] p0=.error 20:=by rw [← hE,show k-i=(k-(i+1))+1 by omega,gb ha (by omega)]
      rw [hX];refine rHa (0) [] [_,_] [_,_] [(_,_)] ?_;rfl
     ·
      refine ab ?_;refine ai rfl rfl (ay (0) [(0,0)] [] [(_,_)] (hc:=(bU b (a.2) 2 hb (by omega) (by omega) (by omega)))) ?_;iterate 2 refine ab ?_
      refine AOps.cons rfl rfl ((OpOk.bool_is (c:=true) (bM) (rfl))) ?_;iterate 6 refine ab ?_
      refine ai rfl rfl (ay (0) [(0,0)] [] [(_,_)] (hc:=(ck b (a.2+2) 2 hb (by omega) (by omega) (by omega)))) ?_;iterate 2 refine ab ?_
      refine AOps.cons rfl rfl ((OpOk.bool_is (c:=false) (bM) (rfl))) ?_;iterate 16 refine ab ?_
      refine ai rfl rfl (aR (0) quc) ?_;iterate 3 refine ab ?_
      have hX:dz b k [] p0=.error 20:=by rw [← hE,show k-i=(k-(i+1))+1 by omega,gb ha (by omega)]
      rw [hX];refine rHa (0) [] [_,_] [_,_] [(_,_)] ?_;rfl
     ·
      refine ab ?_;refine ai rfl rfl (ay (0) [(0,0)] [] [(_,_)] (hc:=(bU b (a.2) 2 hb (by omega) (by omega) (by omega)))) ?_;iterate 2 refine ab ?_
      refine AOps.cons rfl rfl ((OpOk.bool_is (c:=true) (bM) (rfl))) ?_;iterate 6 refine ab ?_
      refine ai rfl rfl (ay (0) [(0,0)] [] [(_,_)] (hc:=(bU b (a.2+2) 2 hb (by omega) (by omega) (by omega)))) ?_;iterate 2 refine ab ?_
      refine AOps.cons rfl rfl ((OpOk.bool_is (c:=true) (bM) (rfl))) ?_;iterate 20 refine ab ?_
      refine ai rfl rfl (aL [(_,_),(_,_),(_,_)]) ?_;refine ai rfl rfl (bO 1205 quc [⟨a.1,bN b a.2 2,bN b (a.2+2) 2⟩] [(_,_)]) ?_;iterate 7 refine ab ?_
      refine ⟨(i+1,l++[⟨a.1,bN b a.2 2,bN b (a.2+2) 2⟩],a.2+4,v+1),?_,Back.mk' (HasT.cons (HasT.cons HasT.nil)) (HasH.cons (HasH.cons HasH.nil)),?_⟩
      ·
       try dsimp only
       refine ⟨by omega,?_,by rw [List.length_append,hll];rfl,by omega⟩;rw [← hE,show k-i=(k-(i+1))+1 by omega,je ha (by omega)]
      ·
       try dsimp only
       first|omega|(simp;omega)
  ·
   iterate 11 refine ab ?_
   obtain rfl:i=k:=by omega
   rw [Nat.sub_self,dz] at hE;rw [← hE];refine rHa (0) [] [_,_] [_,_] [(_,_)] ?_;rfl
end
section
attribute [local irreducible] AWp AOps
section
variable {b:List UInt8} {p0 k:Nat}
theorem om {x:List Rr×Nat} (hb:b.length≤65535) (hp:p0≤b.length) (hk:k≤65535) (h:bL b k [] p0=.ok x):AC Tryz.prog 62 [.ptr 0 0 0,i64 k] (ao [(0,.box [.fz 0 b.length (cl bc b),i64 p0])]) (bZ (.tup [.fz 0 x.1.length (cl rrc x.1),i64 0]) [(0,.box [.fz 0 b.length (cl bc b),i64 x.2])]):=by
 have:=B6 b p0 k hb hp hk;rw [h] at this;exact this
theorem oq {e:Int} (hb:b.length≤65535) (hp:p0≤b.length) (hk:k≤65535) (h:bL b k [] p0=.error e):AC Tryz.prog 62 [.ptr 0 0 0,i64 k] (ao [(0,.box [.fz 0 b.length (cl bc b),i64 p0])]) (bZ (.tup [.fz 0 ([]:List Rr).length (cl rrc []),i64 e]) [(0,.box [.fz 0 b.length (cl bc b),.any])]):=by
 have:=B6 b p0 k hb hp hk;rw [h] at this;exact this
theorem yG {x:List Qu×Nat} (hb:b.length≤65535) (hp:p0≤b.length) (hk:k≤65535) (h:dz b k [] p0=.ok x):AC Tryz.prog 61 [.ptr 0 0 0,i64 k] (ao [(0,.box [.fz 0 b.length (cl bc b),i64 p0])]) (bZ (.tup [.fz 0 x.1.length (cl quc x.1),i64 0]) [(0,.box [.fz 0 b.length (cl bc b),i64 x.2])]):=by
 have:=B7 b p0 k hb hp hk;rw [h] at this;exact this
theorem yH {e:Int} (hb:b.length≤65535) (hp:p0≤b.length) (hk:k≤65535) (h:dz b k [] p0=.error e):AC Tryz.prog 61 [.ptr 0 0 0,i64 k] (ao [(0,.box [.fz 0 b.length (cl bc b),i64 p0])]) (bZ (.tup [.fz 0 ([]:List Qu).length (cl quc []),i64 e]) [(0,.box [.fz 0 b.length (cl bc b),.any])]):=by
 have:=B7 b p0 k hb hp hk;rw [h] at this;exact this
end
theorem jr {b:List UInt8} {e:Int} (h:rdM b=.error e):cG b=zM∧jN b=e:=by rw [cG,jN,h];exact ⟨rfl,rfl⟩
theorem EW {b:List UInt8} {m:Msg} (h:rdM b=.ok m):cG b=m∧jN b=0:=by rw [cG,jN,h];exact ⟨rfl,rfl⟩
theorem td (b:List UInt8) (hb:b.length≤140737488351232):AC Tryz.prog 31 [.fz 0 b.length (cl bc b)] (ao []) (bZ (.tup [.agg (dn (cG b)),i64 (jN b)]) []):=by
 refine AC.intro te_ok (fn:=Tryz.f31) ⟨Tryz.func31,rfl,rfl⟩ (aE rfl) ?_;iterate 2 refine ab ?_
 refine ai rfl rfl (ap 100) ?_;iterate 7 refine ab ?_
 refine am (fun h1_2=>?_) (fun h1_2=>?_)
 ·
  iterate 4 refine ab ?_
  refine ai rfl rfl (aL []) ?_;iterate 4 refine ab ?_
  obtain ⟨x1,x2⟩:=jr (b:=b) (e:=42) (by rw [rdM,if_pos (by omega)]);rw [x1,x2];refine rHa (0) [] [_,_] [.agg (dn zM),_] [] ?_;rfl
 ·
  iterate 6 refine ab ?_
  refine ai rfl rfl (aj (0) (hc:=(jz b 0 (by omega)))) ?_;iterate 4 refine ab ?_
  refine ai rfl rfl (ap 406) ?_;refine ai rfl rfl (ap 407) ?_;iterate 8 refine ab ?_
  refine am (fun h4_1=>?_) (fun h4_1=>?_)
  ·
   iterate 4 refine ab ?_
   refine ai rfl rfl (aL []) ?_;iterate 5 refine ab ?_
   obtain ⟨x1,x2⟩:=jr (b:=b) (e:=dE b) (by rw [rdM,if_neg (by omega),if_pos h4_1]);rw [x1,x2];refine rHa (0) [] [_,_] [.agg (dn zM),_] [] ?_;rfl
  ·
   iterate 5 refine ab ?_
   have g1:¬ 65535<b.length:=by omega
   have hb2:b.length≤65535:=by omega
   have hz:dE b=0:=by omega
   have hz1:=uP hz;obtain ⟨e2,l2⟩:=jJ b 2;obtain ⟨e3,l3⟩:=jJ b 3;obtain ⟨e4,l4⟩:=jJ b 4;obtain ⟨e5,l5⟩:=jJ b 5;rw [e2,e3,e4,e5];refine ab ?_;refine ai rfl rfl (aL [(_,_),(_,_)]) ?_;refine ai rfl rfl (aS 702) ?_;iterate 5 refine ab ?_
   refine ai rfl rfl (aL [(_,_)]) ?_;refine ai rfl rfl (ap 802) ?_;iterate 5 refine ab ?_
   rcases hq:dz b (cN b 2) [] 12 with e|q
   ·
    iterate 3 refine ab ?_
    refine ai rfl rfl (ay (0) [(0,702)] [] [(_,_)] (hc:=(yH hb2 (by omega) l2 hq))) ?_;iterate 10 refine ab ?_
    refine am (fun h9_1=>?_) (fun h9_1=>?_)
    ·
     iterate 4 refine ab ?_
     refine ai rfl rfl (aL []) ?_;iterate 5 refine ab ?_
     obtain ⟨x1,x2⟩:=jr (b:=b) (e:=e) (by rw [gc g1 hz,bW hq]);rw [x1,x2];refine rHa (0) [] [_,_] [.agg (dn zM),_] [] ?_;rfl
    ·
     exfalso;exact h9_1 (ub _ _ _ hq)
   ·
    iterate 3 refine ab ?_
    refine ai rfl rfl (ay (0) [(0,702)] [] [(_,_)] (hc:=(yG hb2 (by omega) l2 hq))) ?_;iterate 10 refine ab ?_
    refine am (fun h9_1=>?_) (fun h9_1=>?_)
    ·
     exfalso;simp at h9_1
    ·
     iterate 6 refine ab ?_
     rcases h3:bL b (cN b 3) [] q.2 with e|x
     ·
      have q1:=sE _ _ _ hq (by omega);iterate 3 refine ab ?_
      refine ai rfl rfl (ay (0) [(0,702)] [] [(_,_)] (hc:=(oq hb2 (by omega) l3 h3))) ?_;iterate 10 refine ab ?_
      refine am (fun h12_1=>?_) (fun h12_1=>?_)
      ·
       iterate 4 refine ab ?_
       refine ai rfl rfl (aL []) ?_;iterate 5 refine ab ?_
       obtain ⟨x1,x2⟩:=jr (b:=b) (e:=e) (by rw [gc g1 hz,aY hq];rw [bW h3]);rw [x1,x2];refine rHa (0) [] [_,_] [.agg (dn zM),_] [] ?_;rfl
      ·
       exfalso;exact h12_1 (mN _ _ _ h3)
     ·
      have q1:=sE _ _ _ hq (by omega);iterate 3 refine ab ?_
      refine ai rfl rfl (ay (0) [(0,702)] [] [(_,_)] (hc:=(om hb2 (by omega) l3 h3))) ?_;iterate 10 refine ab ?_
      refine am (fun h12_1=>?_) (fun h12_1=>?_)
      ·
       exfalso;simp at h12_1
      ·
       iterate 6 refine ab ?_
       rcases h4:bL b (cN b 4) [] x.2 with e|y
       ·
        have q2:=l9 _ _ _ h3 q1;iterate 3 refine ab ?_
        refine ai rfl rfl (ay (0) [(0,702)] [] [(_,_)] (hc:=(oq hb2 (by omega) l4 h4))) ?_;iterate 10 refine ab ?_
        refine am (fun h15_1=>?_) (fun h15_1=>?_)
        ·
         iterate 4 refine ab ?_
         refine ai rfl rfl (aL []) ?_;iterate 5 refine ab ?_
         obtain ⟨x1,x2⟩:=jr (b:=b) (e:=e) (by rw [gc g1 hz,aY hq];rw [aY h3];rw [bW h4]);rw [x1,x2];refine rHa (0) [] [_,_] [.agg (dn zM),_] [] ?_;rfl
        ·
         exfalso;exact h15_1 (mN _ _ _ h4)
       ·
        have q2:=l9 _ _ _ h3 q1;iterate 3 refine ab ?_
        refine ai rfl rfl (ay (0) [(0,702)] [] [(_,_)] (hc:=(om hb2 (by omega) l4 h4))) ?_;iterate 10 refine ab ?_
        refine am (fun h15_1=>?_) (fun h15_1=>?_)
        ·
         exfalso;simp at h15_1
        ·
         iterate 6 refine ab ?_
         rcases h5:bL b (cN b 5) [] y.2 with e|z
         ·
          have q3:=l9 _ _ _ h4 q2;iterate 3 refine ab ?_
          refine ai rfl rfl (ay (0) [(0,702)] [] [(_,_)] (hc:=(oq hb2 (by omega) l5 h5))) ?_;iterate 10 refine ab ?_
          refine am (fun h18_1=>?_) (fun h18_1=>?_)
          ·
           iterate 4 refine ab ?_
           refine ai rfl rfl (aL []) ?_;iterate 5 refine ab ?_
           obtain ⟨x1,x2⟩:=jr (b:=b) (e:=e) (by rw [gc g1 hz,aY hq];rw [aY h3];rw [aY h4];rw [bW h5]);rw [x1,x2];refine rHa (0) [] [_,_] [.agg (dn zM),_] [] ?_;rfl
          ·
           exfalso;exact h18_1 (mN _ _ _ h5)
         ·
          have q3:=l9 _ _ _ h4 q2;iterate 3 refine ab ?_
          refine ai rfl rfl (ay (0) [(0,702)] [] [(_,_)] (hc:=(om hb2 (by omega) l5 h5))) ?_;iterate 10 refine ab ?_
          refine am (fun h18_1=>?_) (fun h18_1=>?_)
          ·
           exfalso;simp at h18_1
          ·
           iterate 6 refine ab ?_
           have q4:=l9 _ _ _ h5 q3;iterate 6 refine ab ?_
           refine am (fun h20_6=>?_) (fun h20_6=>?_)
           ·
            iterate 4 refine ab ?_
            refine ai rfl rfl (aL []) ?_;iterate 4 refine ab ?_
            obtain ⟨x1,x2⟩:=jr (b:=b) (e:=41) (by rw [gc g1 hz,aY hq];rw [aY h3];rw [aY h4];rw [aY h5];exact if_neg (by omega));rw [x1,x2];refine rHa (0) [] [_,_] [.agg (dn zM),_] [] ?_;rfl
           ·
            iterate 10 refine ab ?_
            obtain ⟨x1,x2⟩:=EW (b:=b) (m:=⟨hdM b,q.1,x.1,y.1,z.1⟩) (by rw [gc g1 hz,aY hq];rw [aY h3];rw [aY h4];rw [aY h5];exact if_pos (by omega));rw [x1,x2];refine rHa (0) [] [_,_] [_,_] [] ?_;rfl
theorem oS (b:List UInt8) (hb:b.length≤140737488351232):AC Tryz.prog 31 [.fz 0 b.length (cl bc b)] emp (Ret (.tup [.agg (dn (cG b)),i64 (jN b)])):=td b hb
end
inductive At (b:List UInt8):Nat→Nat→List (List UInt8)→Nat→Prop
 | fin {fi p:Nat} (h:p<b.length) (h0:kB b p=0):At b fi p [] (p+1)
 | lab {fi p q:Nat} {l:List UInt8} {ls:List (List UInt8)} (h1:1≤l.length) (h2:l.length≤63) (h3:p+1+l.length≤b.length) (h4:(b.take (p+1+l.length)).drop p=ct (l.length:Int)::l) (h:At b fi (p+1+l.length) ls q):At b fi p (l::ls) q
 | ptr {fi p q:Nat} {ls:List (List UInt8)} (h1:p+2≤b.length) (h2:192≤kB b p) (h3:toI b p<fi) (h:At b (toI b p) (toI b p) ls q):At b fi p ls (p+2)
theorem At.le {b:List UInt8} {fi p q:Nat} {ls:List (List UInt8)} (h:At b fi p ls q):p<q∧q≤b.length:=by
 induction h with
 | fin h h0=>omega
 | lab h1 h2 h3 h4 h ih=>omega
 | ptr h1 h2 h3 h ih=>omega
theorem At.mono {b:List UInt8} {fi p q:Nat} {ls:List (List UInt8)} (h:At b fi p ls q):∀ {fi':Nat},fi≤fi'→At b fi' p ls q:=by
 induction h with
 | fin h h0=>intro fi' k;exact .fin h h0
 | lab h1 h2 h3 h4 h ih=>intro fi' k;exact .lab h1 h2 h3 h4 (ih k)
 | ptr h1 h2 h3 h ih=>intro fi' k;exact .ptr h1 h2 (by omega) h
theorem At.good {b:List UInt8} {fi p q:Nat} {ls:List (List UInt8)} (h:At b fi p ls q):GoodN ls:=by
 induction h with
 | fin h h0=>exact GoodN.nil
 | lab h1 h2 h3 h4 h ih=>
  intro x hx;rcases List.mem_cons.1 hx with rfl|hx
  · exact ⟨h1,h2⟩
  · exact ih x hx
 | ptr h1 h2 h3 h ih=>exact ih
theorem sZ {b x:List UInt8} {p:Nat} (h:p<b.length):kB (b++x) p=kB b p:=by
 simp only [kB,List.getD_eq_getElem?_getD,List.getElem?_append_left h]
theorem Bs {b x:List UInt8} {p:Nat} (h:p+2≤b.length):toI (b++x) p=toI b p:=by
 rw [toI,toI,sZ (by omega),sZ (by omega)]
theorem wI {b x:List UInt8} {p q:Nat} (h:q≤b.length):((b++x).take q).drop p=(b.take q).drop p:=by
 rw [List.take_append_of_le_length h]
theorem At.ext {b:List UInt8} {fi p q:Nat} {ls:List (List UInt8)} (h:At b fi p ls q) (x:List UInt8):At (b++x) fi p ls q:=by
 induction h with
 | fin h h0=>exact .fin (by rw [List.length_append];omega) (by rw [sZ h];exact h0)
 | lab h1 h2 h3 h4 h ih=>exact .lab h1 h2 (by rw [List.length_append];omega) (by rw [wI h3];exact h4) ih
 | ptr h1 h2 h3 h ih=>
  have e:=Bs (x:=x) h1;exact .ptr (by rw [List.length_append];omega) (by rw [sZ (by omega)];exact h2) (by rw [e];exact h3) (by rw [e];exact ih)
theorem tY {b r:List UInt8} {p q:Nat} {c:UInt8} (h:(b.take q).drop p=c::r):b.getD p default=c:=by
 have h2:((b.take q).drop p)[0]?=some c:=by rw [h];rfl
 rw [List.getElem?_drop,List.getElem?_take] at h2;split at h2
 · rw [List.getD_eq_getElem?_getD,show b[p]?=some c from h2];rfl
 · cases h2
theorem At.read {b:List UInt8} {fi p q:Nat} {ls:List (List UInt8)} (h:At b fi p ls q):∀ {sh:Int} {li:Nat} {bh:Option Nat} {n:List UInt8},q≤li→li≤b.length→(n++aw ls).length≤255→rdN b sh p fi li bh n=.ok (n++aw ls,bh.getD q):=by
 induction h with
 | fin h h0=>
  intro sh li bh n h1 h2 h3;rw [List.length_append,fb] at h3;exact eg (by omega) h0 (by simp at h3;omega)
 | @lab fi p q l ls h1 h2 h3 h4 h ih=>
  intro sh li bh n k1 k2 k3;have hk:kB b p=l.length:=by rw [kB,tY h4,gn h2]
  have hle:=h.le;have hj:=cK ls;have e:n++aw (l::ls)=(n++(ct (l.length:Int)::l))++aw ls:=by rw [b7];simp
  rw [e] at k3 ⊢;have h4':(b.take (p+1+kB b p)).drop p=ct (l.length:Int)::l:=by rw [hk];exact h4
  have k3':(n++(ct (l.length:Int)::l)).length+(aw ls).length≤255:=by rw [← List.length_append];exact k3
  rw [fV (by omega) (by omega) (by omega) (by omega) (by rw [h4'];omega),h4',hk];exact ih k1 k2 k3
 | @ptr fi p q ls h1 h2 h3 h ih=>
  intro sh li bh n k1 k2 k3;rw [ed (by omega) h2 (by omega) h3];exact ih h.le.2 (Nat.le_refl _) k3
theorem BL {b:List UInt8} {sh:Int}:∀ (p fi li:Nat) (bh:Option Nat) (n:List UInt8),∀ {N:List UInt8} {P:Nat},li≤b.length→rdN b sh p fi li bh n=.ok (N,P)→∃ ls q,At b fi p ls q∧q≤li∧N=n++aw ls∧N.length≤255∧P=bh.getD q:=by
 intro p fi li bh n;induction p,fi,li,bh,n using rdN.induct b with
 | case1 p fi li bh n h=>intro N P hl e;rw [ec h] at e;cases e
 | case2 p fi li bh n h h1 h2=>
  intro N P hl e;rw [eg h h1 h2] at e;cases e;exact ⟨[],p+1,.fin (by omega) h1,by omega,rfl,by simp;omega,rfl⟩
 | case3 p fi li bh n h h1 h2=>intro N P hl e;rw [dk h h1 h2] at e;cases e
 | case4 p fi li bh n h h1 h2 h3=>intro N P hl e;rw [dA h h2 h3] at e;cases e
 | case5 p fi li bh n h h1 h2 h3 h4 ih=>
  intro N P hl e;rw [ed h h2 h3 h4] at e;obtain ⟨ls,q,a,b1,c,d,f⟩:=ih (Nat.le_refl _) e;exact ⟨ls,p+2,.ptr (by omega) h2 h4 a,by omega,c,d,f⟩
 | case6 p fi li bh n h h1 h2 h3 h4=>intro N P hl e;rw [fk h h2 h3 h4] at e;cases e
 | case7 p fi li bh n h h1 h2 h3=>intro N P hl e;rw [ef h h3 h2] at e;cases e
 | case8 p fi li bh n h h1 h2 h3 h4=>intro N P hl e;rw [dD h h1 h3 h4] at e;cases e
 | case9 p fi li bh n h h1 h2 h3 h4 h5 ih=>
  intro N P hl e;rw [fV h h1 h3 h4 h5] at e;obtain ⟨ls,q,a,b1,c,d,f⟩:=ih hl e;have hlen:((b.take (p+1+kB b p)).drop p).length=1+kB b p:=by rw [List.length_drop,List.length_take];omega
  obtain ⟨x,l,hx⟩:∃ x l,(b.take (p+1+kB b p)).drop p=x::l:=by
   cases hq:(b.take (p+1+kB b p)).drop p with
   | nil=>rw [hq] at hlen;simp at hlen;omega
   | cons x l=>exact ⟨x,l,rfl⟩
  have hll:l.length=kB b p:=by rw [hx] at hlen;simp at hlen;omega
  have hxe:x=ct (l.length:Int):=by
   have:=tY hx;rw [← this,hll,kB];exact (mb _).symm
  rw [hxe] at hx;refine ⟨l::ls,q,(.lab (by omega) (by omega) (by omega) (by rw [show p+1+l.length=p+1+kB b p by omega];exact hx) (by rw [hll];exact a)),b1,?_,d,f⟩;rw [c,hx,b7];simp
 | case10 p fi li bh n h h1 h2 h3 h4 h5=>intro N P hl e;rw [ee h h1 h3 h4 h5] at e;cases e
theorem wR {b:List UInt8} {sh:Int} {p li:Nat} {r:List UInt8×Nat} (h:rdN b sh p p li none []=.ok r) (hl:li≤b.length):bm r.1=true:=by
 obtain ⟨N,P⟩:=r;obtain ⟨ls,q,a,b1,c,d,f⟩:=BL p p li none [] hl h;simp only [List.nil_append] at c;subst c;exact uY a.good d
def Ent (b:List UInt8) (k:List UInt8) (a:Int):Prop:=∃ ls q,Nm ls∧k=aw ls∧0≤a∧a<16384∧At b a.toNat a.toNat ls q
def WInv (w:Wr):Prop:=∀ k a,bg w.m k=some a→Ent w.b k a
theorem Ent.ext {b k:List UInt8} {a:Int} (h:Ent b k a) (x:List UInt8):Ent (b++x) k a:=by
 obtain ⟨ls,q,h1,h2,h3,h4,h5⟩:=h;exact ⟨ls,q,h1,h2,h3,h4,h5.ext x⟩
theorem Ent.lt {b k:List UInt8} {a:Int} (h:Ent b k a):a.toNat<b.length:=by
 obtain ⟨ls,q,h1,h2,h3,h4,h5⟩:=h;have:=h5.le;omega
theorem wj {A r:List UInt8} {c:UInt8} {p:Nat} (h:p=A.length):kB (A++c::r) p=c.toNat:=by
 subst h;simp [kB,List.getD_eq_getElem?_getD]
theorem Ch {A r:List UInt8} {c d:UInt8} {p:Nat} (h:p=A.length):kB (A++c::d::r) (p+1)=d.toNat:=by
 rw [show A++c::d::r=(A++[c])++d::r by simp];exact wj (by simp [h])
theorem y4 {a:Int} (h0:0≤a) (h1:a<16384):(ct ((49152+a) / 2 ^ 8)).toNat=192+a.toNat / 256∧(ct (49152+a)).toNat=a.toNat%256:=by
 have k1:=bV ((49152+a) / 2 ^ 8);have k2:=bV (49152+a);constructor<;>omega
theorem Dh:∀ {ls:List (List UInt8)} {w:Wr} {fi:Nat},Nm ls→fi≤w.b.length→(∀ k a,bg w.m k=some a→k.length≤(aw ls).length→Ent w.b k a∧a.toNat<fi)→
 (∃ x,(aG ls w).b=w.b++x)∧At (aG ls w).b fi w.b.length ls (aG ls w).b.length∧∀ k a,bg (aG ls w).m k=some a→bg w.m k=some a∨Ent (aG ls w).b k a
 | [],w,fi,_,hf,hi=>by
  refine ⟨⟨[0],rfl⟩,?_,fun k a h=>.inl h⟩;show At (w.b++[0]) fi w.b.length [] (w.b++[0]).length;rw [List.length_append];exact .fin (by simp) (by rw [wj rfl];rfl)
 | l::ls,w,fi,hn,hf,hi=>by
  cases hm:bg w.m (aw (l::ls)) with
  | some a=>
   rw [(dx hm).1];obtain ⟨⟨ls',q,e1,e2,e3,e4,e5⟩,hlt⟩:=hi _ _ hm (Nat.le_refl _);have e6:l::ls=ls':=yq hn.1 e1.1 e2;subst e6;refine ⟨⟨_,rfl⟩,?_,fun k a h=>.inl h⟩;obtain ⟨k1,k2⟩:=y4 e3 e4;have g1:kB (w.b++two (49152+a)) w.b.length=192+a.toNat / 256:=by rw [two,wj rfl,k1]
   have g2:kB (w.b++two (49152+a)) (w.b.length+1)=a.toNat%256:=by rw [two,Ch rfl,k2]
   have g3:toI (w.b++two (49152+a)) w.b.length=a.toNat:=by rw [toI,g1,g2];omega
   have gl:(w.b++two (49152+a)).length=w.b.length+2:=by rw [List.length_append];rfl
   show At (w.b++two (49152+a)) fi w.b.length (l::ls) (w.b++two (49152+a)).length;rw [gl];exact .ptr (by omega) (by omega) (by omega) (by rw [g3];exact e5.ext _)
  | none=>
   rw [(cP hm).1];have hh:=hn.1.head;have hle:=i0 (l:=l) (ls:=ls);have hb:(w.put l ls).b=w.b++(ct (l.length:Int)::l):=rfl;have hbl:(w.put l ls).b.length=w.b.length+1+l.length:=by rw [hb];simp;omega
   have hmg:∀ k a,bg (w.put l ls).m k=some a→bg w.m k=some a∨(k=aw (l::ls)∧a=w.b.length∧(w.b.length:Int)<16384):=by
    intro k a h;unfold Wr.put at h;split at h
    · rw [iR] at h
      split at h
      · rename_i hlt hk;cases h;exact .inr ⟨hk.symm,rfl,hlt⟩
      · exact .inl h
    · exact .inl h
   obtain ⟨⟨x,hx⟩,hA,hM⟩:=Dh (ls:=ls) (w:=w.put l ls) (fi:=fi) (vE hn) (by omega) (by
    intro k a h hk;rcases hmg k a h with h|⟨rfl,_⟩
    · obtain ⟨c,d⟩:=hi k a h (by omega)
      exact ⟨c.ext _,d⟩
    · omega)
   have hA2:∀ fi',fi≤fi'→At (aG ls (w.put l ls)).b fi' w.b.length (l::ls) (aG ls (w.put l ls)).b.length:=by
    intro fi' hfi;refine .lab hh.1 hh.2 ?_ ?_ ?_
    · rw [hx,List.length_append];omega
    · rw [hx,wI (by omega),hb]
      rw [show w.b.length+1+l.length=(w.b++(ct (l.length:Int)::l)).length by rw [← hb,hbl],List.take_length,List.drop_left]
    · rw [← hbl];exact hA.mono hfi
   refine ⟨⟨_,by rw [hx,hb,List.append_assoc]⟩,hA2 fi (Nat.le_refl _),fun k a h=>?_⟩;rcases hM k a h with h|h
   · rcases hmg k a h with h|⟨rfl,rfl,hlt⟩
     · exact .inl h
     · exact .inr ⟨l::ls,_,hn,rfl,by omega,hlt,by rw [Int.toNat_natCast];exact hA2 _ hf⟩
   · exact .inr h
theorem sq {ls:List (List UInt8)} {w:Wr} (hn:Nm ls) (hw:WInv w):(∃ x,(aG ls w).b=w.b++x)∧At (aG ls w).b w.b.length w.b.length ls (aG ls w).b.length∧WInv (aG ls w):=by
 obtain ⟨⟨x,hx⟩,h2,h3⟩:=Dh (fi:=w.b.length) hn (Nat.le_refl _) (fun k a h _=>⟨hw k a h,(hw k a h).lt⟩);refine ⟨⟨x,hx⟩,h2,fun k a h=>?_⟩;rcases h3 k a h with h|h
 · rw [hx];exact (hw k a h).ext x
 · exact h
theorem WInv.app {w:Wr} (h:WInv w) (x:List UInt8):WInv ⟨w.b++x,w.m⟩:=fun k a hk=>(h k a hk).ext x
theorem yY:∀ {ls:List (List UInt8)} {B B':List UInt8} {m:List (List UInt8×Int)},B.length=B'.length→∃ x m',aG ls ⟨B,m⟩=⟨B++x,m'⟩∧aG ls ⟨B',m⟩=⟨B'++x,m'⟩
 | [],B,B',m,h=>⟨[0],m,rfl,rfl⟩
 | l::ls,B,B',m,h=>by
  cases hm:bg m (aw (l::ls)) with
  | some a=>exact ⟨two (49152+a),m,(dx (w:=⟨B,m⟩) hm).1,(dx (w:=⟨B',m⟩) hm).1⟩
  | none=>
   rw [(cP (w:=⟨B,m⟩) hm).1,(cP (w:=⟨B',m⟩) hm).1];unfold Wr.put;simp only [h];obtain ⟨x,m',e1,e2⟩:=yY (ls:=ls) (B:=B++(ct (l.length:Int)::l)) (B':=B'++(ct (l.length:Int)::l)) (m:=if (B'.length:Int)<16384 then cp m (aw (l::ls)) B'.length else m) (by simp [h]);exact ⟨(ct (l.length:Int)::l)++x,m',by rw [e1,List.append_assoc],by rw [e2,List.append_assoc]⟩
theorem so:∀ {L:List (List UInt8)} {B B':List UInt8} {m:List (List UInt8×Int)},B.length=B'.length→∃ x m',ba L ⟨B,m⟩=⟨B++x,m'⟩∧ba L ⟨B',m⟩=⟨B'++x,m'⟩
 | [],B,B',m,h=>⟨[],m,by simp [ba],by simp [ba]⟩
 | n::L,B,B',m,h=>by
  obtain ⟨x,m1,e1,e2⟩:=yY (ls:=aP n) (m:=m) h;obtain ⟨y,m2,f1,f2⟩:=so (L:=L) (B:=B++x) (B':=B'++x) (m:=m1) (by simp [h]);refine ⟨x++y,m2,?_,?_⟩
  · rw [ba,e1,f1,List.append_assoc]
  · rw [ba,e2,f2,List.append_assoc]
theorem tP:∀ {L:List (List UInt8)} {w:Wr} {acc:List UInt8},(∀ n∈L,bm n=true)→WInv w→(∃ x,(ba L w).b=w.b++x)∧WInv (ba L w)∧
 ∀ {y:List UInt8} {en:Nat},(ba L w).b.length≤en→en≤((ba L w).b++y).length→fS ((ba L w).b++y) en L.length acc w.b.length=.ok (acc++L.flatten,(ba L w).b.length)
 | [],w,acc,_,hw=>⟨⟨[],by simp [ba]⟩,hw,fun _ _=>by simp [ba,fS]⟩
 | n::L,w,acc,hn,hw=>by
  obtain ⟨c1,c2⟩:=cj (hn n (by simp));obtain ⟨⟨x,hx⟩,hA,hI⟩:=sq c1 hw;obtain ⟨⟨z,hz⟩,hI2,hR⟩:=tP (L:=L) (w:=aG (aP n) w) (acc:=acc++n) (fun q hq=>hn q (by simp [hq])) hI;refine ⟨⟨x++z,by rw [ba,hz,hx,List.append_assoc]⟩,hI2,?_⟩;intro y en h1 h2;have hle:=hA.le;have hzl:=congrArg List.length hz;rw [List.length_append] at hzl;have hr:rdN ((ba L (aG (aP n) w)).b++y) 30 w.b.length w.b.length en none []=.ok (n,(aG (aP n) w).b.length):=by
   have h3:At ((ba L (aG (aP n) w)).b++y) w.b.length w.b.length (aP n) (aG (aP n) w).b.length:=by
    rw [hz,List.append_assoc];exact hA.ext _
   have h4:=h3.read (sh:=30) (li:=en) (bh:=none) (n:=[]) (by rw [ba] at h1;omega) h2 (by rw [List.nil_append,c2];exact by rw [← c2];exact c1.2);rw [h4,List.nil_append,c2];rfl
  rw [ba,List.length_cons,mP hr];rw [hR h1 h2,List.flatten_cons,List.append_assoc]
section
attribute [local irreducible] AWp AOps
theorem lk {n:Int} (h:0≤n∧n≤65535):(((ct (n / 2 ^ 8)).toNat*256+(ct n).toNat:Nat):Int)=n:=by
 have h1:=bV (n / 2 ^ 8);have h2:=bV n;omega
section
variable {h:Hd} {c0 c1 c2 c3:Int}
theorem ny (k:h.can c0 c1 c2 c3) (r:List UInt8):cV (h.bytes c0 c1 c2 c3++r) 0=h.id∧cV (h.bytes c0 c1 c2 c3++r) 1=h.flN 5∧cV (h.bytes c0 c1 c2 c3++r) 2=c0∧cV (h.bytes c0 c1 c2 c3++r) 3=c1∧cV (h.bytes c0 c1 c2 c3++r) 4=c2∧cV (h.bytes c0 c1 c2 c3++r) 5=c3:=by
 obtain ⟨hid,hop,hco,hc0,hc1,hc2,hc3⟩:=k;exact ⟨lk hid,lk (Hd.fl_pos hop hco 5),lk hc0,lk hc1,lk hc2,lk hc3⟩
theorem uN (hop:0≤h.op∧h.op≤15) (hco:0≤h.code∧h.code≤15):h.flN 5 / 16%8=0∧(⟨h.id,cX (h.flN 5) 15,h.flN 5 / 2048%16,cX (h.flN 5) 10,cX (h.flN 5) 9,cX (h.flN 5) 8,cX (h.flN 5) 7,h.flN 5%16⟩:Hd)=h:=by
 obtain ⟨id,resp,op,aa,tc,rd,ra,code⟩:=h;dsimp only at hop hco;have e:Hd.flN ⟨id,resp,op,aa,tc,rd,ra,code⟩ 5=op*2048+code+(if resp=true then 32768 else 0)+(if aa=true then 1024 else 0)+(if tc=true then 512 else 0)+(if rd=true then 256 else 0)+(if ra=true then 128 else 0):=by simp [Hd.flN]
 rw [e];refine ⟨?_,?_⟩
 · repeat' split
   all_goals omega
 · simp only [Hd.mk.injEq,true_and,cX]
   cases resp<;>cases aa<;>cases tc<;>cases rd<;>cases ra<;>simp<;>omega
theorem ov (k:h.can c0 c1 c2 c3) (r:List UInt8):dE (h.bytes c0 c1 c2 c3++r)=0:=by
 refine AI ?_ ?_
 · rw [List.length_append,Hd.bytes_length];omega
 · rw [(ny k r).2.1]
   exact (uN k.2.1 k.2.2.1).1
theorem FA (k:h.can c0 c1 c2 c3) (r:List UInt8):dH (h.bytes c0 c1 c2 c3++r)=h:=by
 rw [xu (ov k r),(ny k r).1,(ny k r).2.1];exact (uN k.2.1 k.2.2.1).2
theorem FB (k:h.can c0 c1 c2 c3) (r:List UInt8):dC (h.bytes c0 c1 c2 c3++r) 2=c0∧dC (h.bytes c0 c1 c2 c3++r) 3=c1∧dC (h.bytes c0 c1 c2 c3++r) 4=c2∧dC (h.bytes c0 c1 c2 c3++r) 5=c3:=by
 rw [gw (ov k r),gw (ov k r),gw (ov k r),gw (ov k r)];exact (ny k r).2.2
end
theorem qu {n:Int} (h:0≤n∧n≤65535):((nV (two n):Nat):Int)=n:=by
 have h1:=bV (n / 2 ^ 8);have h2:=bV n;simp only [nV,two,List.foldl_cons,List.foldl_nil];omega
theorem Ag {n:Int} (h:0≤n):rk n=n%65536:=by
 unfold rk;rw [show (65535:Int).toNat=2 ^ 16-1 by decide,Nat.and_two_pow_sub_one_eq_mod];omega
theorem C6 {n:Int} (h:0≤n∧n<4294967296):((nV (two (n / 2 ^ 16)++two (rk n)):Nat):Int)=n:=by
 rw [Ag h.1];have h1:=bV (n / 2 ^ 16 / 2 ^ 8);have h2:=bV (n / 2 ^ 16);have h3:=bV (n%65536 / 2 ^ 8);have h4:=bV (n%65536);simp only [nV,two,List.cons_append,List.nil_append,List.foldl_cons,List.foldl_nil];omega
theorem ow {A X R:List UInt8} {i w:Nat} (hi:i=A.length) (hw:w=X.length):bN (A++(X++R)) i w=nV X:=by
 subst hi;subst hw;rw [bN,List.take_length_add_append,List.drop_left,List.take_left]
theorem xX {C Z:List UInt8} {c d:UInt8} {n:Nat} (hn:n=C.length+2):lS (C++c::d::Z) n=C++(two (Z.length:Int)++Z):=by
 subst hn;have hl:(((C++c::d::Z).length:Int)-((C.length+2:Nat):Int))=(Z.length:Int):=by simp only [List.length_append,List.length_cons];omega
 rw [lS,hl,show (((C.length+2:Nat):Int)-2).toNat=C.length by omega,show (((C.length+2:Nat):Int)-1).toNat=C.length+1 by omega];rw [List.set_append_right _ _ (Nat.le_refl _),List.set_append_right _ _ (by omega)];rw [Nat.sub_self,show C.length+1-C.length=1 by omega];rfl
theorem C4 {t:Int} {d:List UInt8} (h:fA t d=true):(bF t d).length=cR t:=by
 by_cases h6:t=6
 · subst h6;rw [bF,if_pos rfl,if_pos h];rfl
 · rw [gM h6]
   rw [c7 h6] at h;rw [gq,if_pos h,cR,if_neg h6];by_cases h1:t=2∨t=5∨t=12
   · rw [if_pos h1,if_pos (by omega)];rfl
   · rw [if_neg h1]
     by_cases h2:t=15
     · rw [if_pos h2,if_pos (by omega)];rfl
     · rw [if_neg h2,if_neg (by omega)];rfl
theorem yD {t:Int} {d:List UInt8} (h:cB t d++(bF t d).flatten <+: d):cB t d++(bF t d).flatten++d.drop ((cB t d).length+(bF t d).flatten.length)=d:=by
 obtain ⟨r,hr⟩:=h;have:d.drop ((cB t d).length+(bF t d).flatten.length)=r:=by
  have e:∀ {X Y:List UInt8} {n:Nat},X++r=Y→n=X.length→Y.drop n=r:=by
   intro X Y n h1 h2;subst h1;subst h2;exact List.drop_left
  exact e hr List.length_append.symm
 rw [this,hr]
theorem ze {A X R:List UInt8} {i j:Nat} (hi:i=A.length) (hj:j=A.length+X.length):((A++(X++R)).take j).drop i=X:=by
 subst hi;subst hj;rw [List.take_length_add_append,List.drop_left,List.take_left]
theorem DW {r:Rr} {w:Wr} (hr:rOk r=true) (hw:WInv w) (hs:i5 r w=true):(∃ x,(bC r w).b=w.b++x)∧WInv (bC r w)∧∀ y,rdR ((bC r w).b++y) w.b.length=.ok (r,(bC r w).b.length):=by
 obtain ⟨⟨⟨⟨r1,r2⟩,r3⟩,r4⟩,r5⟩:(((bm r.nm=true∧rb [r.ty,r.cs]=true)∧0≤r.ttl)∧r.ttl<4294967296)∧fA r.ty r.da=true:=by simpa [rOk] using hr
 obtain ⟨t1,t2⟩:(0≤r.ty∧r.ty≤65535)∧(0≤r.cs∧r.cs≤65535):=by
  rw [iL] at r2
  simpa [shB] using r2
 obtain ⟨d1,d2,d3,d4⟩:=js r5;obtain ⟨c1,c2⟩:=cj r1;obtain ⟨⟨x1,hx1⟩,hA1,hI1⟩:=sq c1 hw;have hwn:du r w=⟨(aG (aP r.nm) w).b++(jX r).flatMap two,(aG (aP r.nm) w).m⟩:=rfl;obtain ⟨w1,hw1⟩:∃ w1,w1=aG (aP r.nm) w:=⟨_,rfl⟩;rw [← hw1] at hx1 hA1 hI1 hwn;obtain ⟨C,hC⟩:∃ C,C=w1.b++[r.ty,r.cs,r.ttl / 2 ^ 16,rk r.ttl].flatMap two:=⟨_,rfl⟩;have hB1:w1.b++(jX r).flatMap two=C++[0,0]:=by rw [hC];simp [jX,two];decide
 rw [hB1] at hwn;have hCl:C.length=w1.b.length+8:=by rw [hC,List.length_append,kw];rfl
 obtain ⟨P,hP⟩:∃ P,P=cB r.ty r.da:=⟨_,rfl⟩;obtain ⟨L,hL⟩:∃ L,L=bF r.ty r.da:=⟨_,rfl⟩;obtain ⟨R,hR⟩:∃ R,R=r.da.drop (dN r):=⟨_,rfl⟩;have hda:=yD d4;have hdaR:P++L.flatten++R=r.da:=by rw [hP,hL,hR];exact hda
 have hLn:L.length=cR r.ty:=by rw [hL];exact C4 r5
 have hP2:r.ty=15→P.length=2:=fun e=>by rw [hP,cB,if_pos e,List.length_take];have:=d2 e;omega
 have hP0:r.ty≠15→P=[]:=fun e=>by rw [hP,cB,if_neg e]
 obtain ⟨x,m',e1,_⟩:=so (L:=L) (B:=(C++[0,0])++P) (B':=(C++[0,0])++P) (m:=w1.m) rfl;have hdat:lQ r (du r w)=⟨C++0::0::(P++x++R),m'⟩:=by
  rw [hwn,lQ];dsimp only;rw [← hP,← hL,← hR,e1];simp
 obtain ⟨Z,hZ⟩:∃ Z,Z=P++x++R:=⟨_,rfl⟩;rw [← hZ] at hdat;have hrec:bC r w=⟨C++(two (Z.length:Int)++Z),m'⟩:=by
  rw [bC,hdat,hwn];dsimp only;rw [xX (by simp)]
 have hsz:(Z.length:Int)<65536:=by
  have h:=hs;rw [i5,hdat,hwn,decide_eq_true_eq] at h;simp only [List.length_append,List.length_cons,List.length_nil] at h;omega
 obtain ⟨B2,hB2⟩:∃ B2,B2=C++two (Z.length:Int):=⟨_,rfl⟩;have hB2l:B2.length=w1.b.length+10:=by rw [hB2,List.length_append,hCl];rfl
 obtain ⟨x',m'',f1,f2⟩:=so (L:=L) (B:=(C++[0,0])++P) (B':=B2++P) (m:=w1.m) (by simp only [List.length_append,hB2l,hCl,List.length_cons,List.length_nil]);have hxx:x'=x∧m''=m':=by
  have:=f1.symm.trans e1;simp only [Wr.mk.injEq,List.append_cancel_left_eq] at this;exact this
 obtain ⟨rfl,rfl⟩:=hxx;have hB2w:∃ z,B2=w1.b++z:=⟨_,by rw [hB2,hC,List.append_assoc]⟩;obtain ⟨z2,hz2⟩:=hB2w;have hI2:WInv ⟨B2++P,w1.m⟩:=by
  have:=hI1.app (z2++P);rw [← List.append_assoc,← hz2] at this;exact this
 obtain ⟨⟨x3,hx3⟩,hI3,hrd⟩:=tP (L:=L) (w:=⟨B2++P,w1.m⟩) (acc:=P) (by rw [hL];exact d3) hI2;rw [f2] at hx3 hI3 hrd;dsimp only at hrd;have hb:(bC r w).b=B2++P++x'++R:=by
  rw [hrec,hB2,hZ];simp
 have hm:(bC r w).m=m'':=by rw [hrec]
 have hZl:Z.length=P.length+x'.length+R.length:=by rw [hZ];simp only [List.length_append]
 have hbl:(bC r w).b.length=w1.b.length+10+Z.length:=by rw [hb];simp only [List.length_append,hB2l];omega
 refine ⟨⟨x1++z2++P++x'++R,by rw [hb,hz2,hx1];simp⟩,?_,?_⟩
 · have h:=hI3.app R
   have e:bC r w=⟨B2++P++x'++R,m''⟩:=by rw [← hb,← hm]
   rw [e];exact h
 · intro y
   obtain ⟨F,hF⟩:∃ F,F=(bC r w).b++y:=⟨_,rfl⟩;rw [← hF];have hFl:F.length=w1.b.length+10+Z.length+y.length:=by rw [hF,List.length_append,hbl]
   have hFw:F=w1.b++(z2++P++x'++R++y):=by rw [hF,hb,hz2];simp
   have hFn:F=w1.b++(two r.ty++(two r.cs++((two (r.ttl / 2 ^ 16)++two (rk r.ttl))++(two (Z.length:Int)++(P++x'++R++y))))):=by
    rw [hF,hb,hB2,hC];simp
   have hle:=hA1.le;have ha:rdN F 20 w.b.length w.b.length F.length none []=.ok (r.nm,w1.b.length):=by
    have h3:At F w.b.length w.b.length (aP r.nm) w1.b.length:=by rw [hFw];exact hA1.ext _
    have h4:=h3.read (sh:=20) (li:=F.length) (bh:=none) (n:=[]) (by omega) (Nat.le_refl _) (by rw [List.nil_append];exact c1.2);rw [h4,List.nil_append,c2];rfl
   have n0:bN F w1.b.length 2=nV (two r.ty):=by rw [hFn];exact ow rfl rfl
   have n1:bN F (w1.b.length+2) 2=nV (two r.cs):=by
    rw [hFn,← List.append_assoc];exact ow (by rw [List.length_append];rfl) rfl
   have n2:bN F (w1.b.length+4) 4=nV (two (r.ttl / 2 ^ 16)++two (rk r.ttl)):=by
    rw [hFn,← List.append_assoc,← List.append_assoc];exact ow (by rw [List.length_append,List.length_append];rfl) rfl
   have n3:bN F (w1.b.length+8) 2=nV (two (Z.length:Int)):=by
    rw [hFn,← List.append_assoc,← List.append_assoc,← List.append_assoc];exact ow (by rw [List.length_append,List.length_append,List.length_append];rfl) rfl
   have v0:=qu t1;have v1:=qu t2;have v2:=C6 ⟨r3,r4⟩;have v3:=qu (n:=(Z.length:Int)) ⟨by omega,by omega⟩;rw [← n0] at v0;rw [← n1] at v1;rw [← n2] at v2;rw [← n3] at v3;have v3':bN F (w1.b.length+8) 2=Z.length:=by omega
   have hD:rdD F (bN F w1.b.length 2) (w1.b.length+10) (w1.b.length+10+bN F (w1.b.length+8) 2)=.ok r.da:=by
    rw [v0,v3'];have hF2:F=B2++(P++(x'++R++y)):=by rw [hF,hb];simp
    have hF3:F=(B2++P++x')++(R++y):=by rw [hF,hb];simp
    have hlen3:(B2++P++x').length=w1.b.length+10+P.length+x'.length:=by simp only [List.length_append,hB2l]
    rw [jW (by rintro ⟨e,k⟩;have:=hP2 e;omega)];have hacc:(if r.ty=15 then (F.take (w1.b.length+10+2)).drop (w1.b.length+10) else [])=P:=by
     by_cases e:r.ty=15
     · rw [if_pos e,hF2];exact ze hB2l.symm (by rw [hP2 e,hB2l])
     · rw [if_neg e,hP0 e]
    have hst:(if r.ty=15 then w1.b.length+10+2 else w1.b.length+10)=(B2++P).length:=by
     rw [List.length_append,hB2l];by_cases e:r.ty=15
     · rw [if_pos e,hP2 e]
     · rw [if_neg e,hP0 e];rfl
    rw [hacc,hst,← hLn];have h5:=hrd (y:=R++y) (en:=w1.b.length+10+Z.length) (by rw [hlen3];omega) (by rw [← hF3];omega);rw [← hF3] at h5;rw [h5,rdO];have hrest:(F.take (w1.b.length+10+Z.length)).drop (B2++P++x').length=R:=by
     rw [hF3];exact ze rfl (by rw [hlen3];omega)
    dsimp only;rw [hrest,hdaR,if_pos r5]
   rw [nN ha (by dsimp only;omega) (by dsimp only;omega)];dsimp only;rw [hD,zz,v0,v1,v2,v3',hbl]
end
theorem se:∀ {qs:List Qu} {w:Wr} {acc:List Qu},(∀ q∈qs,qOk q=true)→WInv w→(∃ x,(cC qs w).b=w.b++x)∧WInv (cC qs w)∧∀ y,dz ((cC qs w).b++y) qs.length acc w.b.length=.ok (acc++qs,(cC qs w).b.length)
 | [],w,acc,_,hw=>⟨⟨[],by simp [cC]⟩,hw,fun y=>by simp [cC,dz]⟩
 | q::qs,w,acc,hq,hw=>by
  have h0:=hq q (by simp);rw [qOk,iL] at h0;simp only [Bool.and_eq_true,shB,decide_eq_true_eq] at h0;obtain ⟨h1,h2,h3⟩:=h0;obtain ⟨c1,c2⟩:=cj h1;obtain ⟨⟨x,hx⟩,hA,hI⟩:=sq c1 hw;have hI2:WInv (wrQ q w):=hI.app _;have hqb:(wrQ q w).b=(aG (aP q.nm) w).b++(two q.ty++two q.cs):=by simp [wrQ]
  obtain ⟨⟨z,hz⟩,hI3,hR⟩:=se (qs:=qs) (w:=wrQ q w) (acc:=acc++[q]) (fun a ha=>hq a (by simp [ha])) hI2;have he:cC (q::qs) w=cC qs (wrQ q w):=rfl;refine ⟨⟨x++(two q.ty++two q.cs)++z,by rw [he,hz,hqb,hx];simp⟩,hI3,fun y=>?_⟩;rw [he];obtain ⟨F,hF⟩:∃ F,F=(cC qs (wrQ q w)).b++y:=⟨_,rfl⟩;have hR':=hR y;rw [← hF] at hR' ⊢;have hFn:F=(aG (aP q.nm) w).b++(two q.ty++(two q.cs++(z++y))):=by rw [hF,hz,hqb];simp
  have hle:=hA.le;have hFl:=congrArg List.length hFn;simp only [List.length_append] at hFl;have l2:∀ n:Int,(two n).length=2:=fun _=>rfl
  rw [l2,l2] at hFl;have ha:rdN F 20 w.b.length w.b.length F.length none []=.ok (q.nm,(aG (aP q.nm) w).b.length):=by
   have h3:At F w.b.length w.b.length (aP q.nm) (aG (aP q.nm) w).b.length:=by rw [hFn];exact hA.ext _
   have h4:=h3.read (sh:=20) (li:=F.length) (bh:=none) (n:=[]) (by omega) (Nat.le_refl _) (by rw [List.nil_append];exact c1.2);rw [h4,List.nil_append,c2];rfl
  have n0:bN F (aG (aP q.nm) w).b.length 2=nV (two q.ty):=by rw [hFn];exact ow rfl rfl
  have n1:bN F ((aG (aP q.nm) w).b.length+2) 2=nV (two q.cs):=by
   rw [hFn,← List.append_assoc];exact ow (by rw [List.length_append];rfl) rfl
  have v0:=qu h2;have v1:=qu h3;rw [← n0] at v0;rw [← n1] at v1;rw [List.length_cons,je ha (by dsimp only;omega)];dsimp only;rw [v0,v1];have hl:(aG (aP q.nm) w).b.length+4=(wrQ q w).b.length:=by rw [hqb];simp only [List.length_append];rw [l2,l2]
  rw [hl,hR'];simp
theorem iB:∀ {l:List Rr} {p:Wr×Bool},p.2=false→(cz l p).2=false
 | [],p,h=>h
 | r::l,p,h=>by
  show (cz l (mJ p r)).2=false;exact iB (by rw [mJ,if_neg (by simp [h])];exact h)
theorem lB:∀ {rs:List Rr} {w:Wr} {acc:List Rr},(∀ r∈rs,rOk r=true)→WInv w→(cz rs (w,true)).2=true→(∃ x,(cz rs (w,true)).1.b=w.b++x)∧WInv (cz rs (w,true)).1∧∀ y,bL ((cz rs (w,true)).1.b++y) rs.length acc w.b.length=.ok (acc++rs,(cz rs (w,true)).1.b.length)
 | [],w,acc,_,hw,_=>⟨⟨[],by simp [cz]⟩,hw,fun y=>by simp [cz,bL]⟩
 | r::rs,w,acc,hr,hw,ht=>by
  have he:cz (r::rs) (w,true)=cz rs (bC r w,i5 r w&&decide (((bC r w).b.length:Int)≤65535)):=rfl;have hb:(i5 r w&&decide (((bC r w).b.length:Int)≤65535))=true:=by
   cases hq:(i5 r w&&decide (((bC r w).b.length:Int)≤65535)) with
   | true=>rfl
   | false=>
    have h1:=iB (l:=rs) (p:=(bC r w,i5 r w&&decide (((bC r w).b.length:Int)≤65535))) hq;rw [← he,ht] at h1;cases h1
  rw [hb] at he;rw [he] at ht;have ho:i5 r w=true:=by simp only [Bool.and_eq_true] at hb;exact hb.1
  obtain ⟨⟨x,hx⟩,hI,hR0⟩:=DW (hr r (by simp)) hw ho;obtain ⟨⟨z,hz⟩,hI2,hR⟩:=lB (rs:=rs) (w:=bC r w) (acc:=acc++[r]) (fun a ha=>hr a (by simp [ha])) hI ht;refine ⟨⟨x++z,by rw [he,hz,hx,List.append_assoc]⟩,by rw [he];exact hI2,fun y=>?_⟩;have h1:=hR0 (z++y);rw [← List.append_assoc,← hz] at h1;rw [he,List.length_cons,gK h1];dsimp only;rw [hR y];simp
theorem uO (a b:List Rr) (p:Wr×Bool):cz (a++b) p=cz b (cz a p):=by simp [cz,List.foldl_append]
theorem t9:∀ {rs:List Rr} {w:Wr},(w.b.length:Int)≤65535→(cz rs (w,true)).2=true→((cz rs (w,true)).1.b.length:Int)≤65535
 | [],w,h,_=>h
 | r::rs,w,h,ht=>by
  have he:cz (r::rs) (w,true)=cz rs (bC r w,i5 r w&&decide (((bC r w).b.length:Int)≤65535)):=rfl;have hb:(i5 r w&&decide (((bC r w).b.length:Int)≤65535))=true:=by
   cases hq:(i5 r w&&decide (((bC r w).b.length:Int)≤65535)) with
   | true=>rfl
   | false=>
    have h1:=iB (l:=rs) (p:=(bC r w,i5 r w&&decide (((bC r w).b.length:Int)≤65535))) hq;rw [← he,ht] at h1;cases h1
  rw [hb] at he;rw [he] at ht ⊢;exact t9 (by simp only [Bool.and_eq_true,decide_eq_true_eq] at hb;exact hb.2) ht
theorem sb {m:Msg} (h:gr m=0):jO m=true∧(kF m).2=true∧dI m=(kF m).1.b:=by
 unfold gr at h;split at h
 · rename_i hc
   split at h
   · rename_i hw;exact ⟨hc,hw,by rw [dI,if_pos hc,if_pos hw]⟩
   · cases h
 · cases h
theorem Cz {m:Msg} (h:gr m=0):rdM (dI m)=.ok m∧12≤(dI m).length∧(dI m).length≤65535:=by
 obtain ⟨hc,hw,hb⟩:=sb h;obtain ⟨p1,p2,p3⟩:=jw hc;obtain ⟨k1,k2,k3,k4⟩:=eM p1;have hI0:WInv (hdW m):=fun k a hk=>by cases hk
 have h0b:(hdW m).b=(nD m.h).bytes m.qs.length m.an.length m.au.length m.ad.length:=qE p1;have h0l:(hdW m).b.length=12:=by rw [h0b,Hd.bytes_length]
 obtain ⟨⟨x1,hx1⟩,hI1,hR1⟩:=se (qs:=m.qs) (w:=hdW m) (acc:=[]) p2 hI0;obtain ⟨w1,hw1⟩:∃ w1,w1=cC m.qs (hdW m):=⟨_,rfl⟩;rw [← hw1] at hx1 hI1 hR1;have hq:decide ((w1.b.length:Int)≤65535)=true:=by
  cases hq:decide ((w1.b.length:Int)≤65535) with
  | true=>rfl
  | false=>
   have h1:=iB (l:=m.rrs) (p:=(w1,decide ((w1.b.length:Int)≤65535))) hq;rw [kF,← hw1] at hw;rw [hw] at h1;cases h1
 have hW:kF m=cz m.ad (cz m.au (cz m.an (w1,true))):=by
  rw [kF,← hw1,hq,Msg.rrs,uO,uO]
 have hle:=t9 (rs:=m.rrs) (w:=w1) (of_decide_eq_true hq) (by rw [kF,← hw1,hq] at hw;exact hw);have hW':kF m=cz m.rrs (w1,true):=by rw [kF,← hw1,hq]
 rw [← hW'] at hle;have g3:∀ r∈m.an++m.au++m.ad,rOk r=true:=p3;simp only [List.mem_append] at g3;rw [hW] at hw;have f1:(cz m.an (w1,true)).2=true:=by
  cases hz:(cz m.an (w1,true)).2 with
  | true=>rfl
  | false=>have:=iB (l:=m.ad) (iB (l:=m.au) hz);rw [hw] at this;cases this
 obtain ⟨⟨x2,hx2⟩,hI2,hR2⟩:=lB (rs:=m.an) (w:=w1) (acc:=[]) (fun r hr=>g3 r (.inl (.inl hr))) hI1 f1;obtain ⟨w2,hw2⟩:∃ w2,w2=(cz m.an (w1,true)).1:=⟨_,rfl⟩;have e2:cz m.an (w1,true)=(w2,true):=Prod.ext hw2.symm f1;rw [← hw2] at hx2 hI2 hR2;rw [e2] at hw hW;have f2:(cz m.au (w2,true)).2=true:=by
  cases hz:(cz m.au (w2,true)).2 with
  | true=>rfl
  | false=>have:=iB (l:=m.ad) hz;rw [hw] at this;cases this
 obtain ⟨⟨x3,hx3⟩,hI3,hR3⟩:=lB (rs:=m.au) (w:=w2) (acc:=[]) (fun r hr=>g3 r (.inl (.inr hr))) hI2 f2;obtain ⟨w3,hw3⟩:∃ w3,w3=(cz m.au (w2,true)).1:=⟨_,rfl⟩;have e3:cz m.au (w2,true)=(w3,true):=Prod.ext hw3.symm f2;rw [← hw3] at hx3 hI3 hR3;rw [e3] at hw hW;obtain ⟨⟨x4,hx4⟩,hI4,hR4⟩:=lB (rs:=m.ad) (w:=w3) (acc:=[]) (fun r hr=>g3 r (.inr hr)) hI3 hw;rw [← hW] at hx4 hI4 hR4;rw [← hb] at hx4 hR4;obtain ⟨F,hF⟩:∃ F,F=dI m:=⟨_,rfl⟩;rw [← hF] at hx4 hR4 ⊢;have hl:F.length≤65535:=by rw [hF,hb];omega
 have hF3:F=w3.b++x4:=hx4;have hF2:F=w2.b++(x3++x4):=by rw [hF3,hx3,List.append_assoc]
 have hF1:F=w1.b++(x2++x3++x4):=by rw [hF2,hx2];simp
 have hF0:F=(nD m.h).bytes m.qs.length m.an.length m.au.length m.ad.length++(x1++x2++x3++x4):=by rw [hF1,hx1,h0b];simp
 have q1:=hR1 (x2++x3++x4);rw [← hF1,h0l] at q1;have q2:=hR2 (x3++x4);rw [← hF2] at q2;have q3:=hR3 x4;rw [← hF3] at q3;have q4:=hR4 [];rw [List.append_nil] at q4;have hE0:dE F=0:=by rw [hF0];exact ov p1 _
 have hH:dH F=nD m.h:=by rw [hF0];exact FA p1 _
 obtain ⟨a2,a3,a4,a5⟩:dC F 2=m.qs.length∧dC F 3=m.an.length∧dC F 4=m.au.length∧dC F 5=m.ad.length:=by rw [hF0];exact FB p1 _
 have b2:cN F 2=m.qs.length:=by rw [cN,a2];rfl
 have b3:cN F 3=m.an.length:=by rw [cN,a3];rfl
 have b4:cN F 4=m.au.length:=by rw [cN,a4];rfl
 have b5:cN F 5=m.ad.length:=by rw [cN,a5];rfl
 refine ⟨?_,by rw [hF0,List.length_append,Hd.bytes_length];omega,hl⟩;rw [gc (by omega) hE0,b2,b3,b4,b5,aY q1];dsimp only;rw [aY q2];dsimp only;rw [aY q3];dsimp only;rw [aY q4,if_pos rfl];have hM:hdM F=m.h:=by rw [hdM,hH];rfl
 rw [hM];rfl
theorem vO {b:List UInt8} {sh:Int} (hs:sh≠0):∀ (p fi li:Nat) (bh:Option Nat) (n:List UInt8),∀ {e:Int},rdN b sh p fi li bh n=.error e→e≠0:=by
 intro p fi li bh n;induction p,fi,li,bh,n using rdN.induct b with
 | case1 p fi li bh n h=>intro e k;rw [ec h] at k;cases k;exact hs
 | case2 p fi li bh n h h1 h2=>intro e k;rw [eg h h1 h2] at k;cases k
 | case3 p fi li bh n h h1 h2=>intro e k;rw [dk h h1 h2] at k;cases k;decide
 | case4 p fi li bh n h h1 h2 h3=>intro e k;rw [dA h h2 h3] at k;cases k;exact hs
 | case5 p fi li bh n h h1 h2 h3 h4 ih=>intro e k;rw [ed h h2 h3 h4] at k;exact ih k
 | case6 p fi li bh n h h1 h2 h3 h4=>intro e k;rw [fk h h2 h3 h4] at k;cases k;decide
 | case7 p fi li bh n h h1 h2 h3=>intro e k;rw [ef h h3 h2] at k;cases k;decide
 | case8 p fi li bh n h h1 h2 h3 h4=>intro e k;rw [dD h h1 h3 h4] at k;cases k;exact hs
 | case9 p fi li bh n h h1 h2 h3 h4 h5 ih=>intro e k;rw [fV h h1 h3 h4 h5] at k;exact ih k
 | case10 p fi li bh n h h1 h2 h3 h4 h5=>intro e k;rw [ee h h1 h3 h4 h5] at k;cases k;decide
theorem wQ {b:List UInt8} {en:Nat}:∀ (k:Nat) (acc:List UInt8) (p:Nat) {e:Int},fS b en k acc p=.error e→e≠0
 | 0,acc,p,e,h=>by cases h
 | k+1,acc,p,e,h=>by
  cases h1:rdN b 30 p p en none [] with
  | error x=>rw [jV h1] at h;cases h;exact vO (by decide) _ _ _ _ _ h1
  | ok a=>rw [mP h1] at h;exact wQ k _ _ h
theorem El {b:List UInt8} {t:Int} {p en:Nat} {e:Int} (h:rdD b t p en=.error e):e≠0:=by
 unfold rdD at h;split at h
 · cases h;decide
 · cases h1:fS b en (cR t) (if t=15 then (b.take (p+2)).drop p else []) (if t=15 then p+2 else p) with
   | error x=>rw [h1] at h;cases h;exact wQ _ _ _ h1
   | ok a=>
    rw [h1,rdO] at h;split at h
    · cases h
    · cases h;decide
theorem Ei {b:List UInt8} {p:Nat} {e:Int} (h:rdR b p=.error e):e≠0:=by
 unfold rdR at h;cases h1:rdN b 20 p p b.length none [] with
 | error x=>rw [h1] at h;cases h;exact vO (by decide) _ _ _ _ _ h1
 | ok a=>
  rw [h1,vN] at h;split at h
  · cases h;decide
  · cases h2:rdD b (bN b a.2 2) (a.2+10) (a.2+10+bN b (a.2+8) 2) with
    | error x=>rw [h2] at h;cases h;exact El h2
    | ok d=>rw [h2] at h;cases h
theorem pq {b:List UInt8}:∀ (k:Nat) (acc:List Rr) (p:Nat) {e:Int},bL b k acc p=.error e→e≠0
 | 0,acc,p,e,h=>by cases h
 | k+1,acc,p,e,h=>by
  cases h1:rdR b p with
  | error x=>rw [ga h1] at h;cases h;exact Ei h1
  | ok a=>rw [gK h1] at h;exact pq k _ _ h
theorem wP {b:List UInt8}:∀ (k:Nat) (acc:List Qu) (p:Nat) {e:Int},dz b k acc p=.error e→e≠0
 | 0,acc,p,e,h=>by cases h
 | k+1,acc,p,e,h=>by
  cases h1:rdN b 20 p p b.length none [] with
  | error x=>rw [iM h1] at h;cases h;exact vO (by decide) _ _ _ _ _ h1
  | ok a=>
   by_cases h2:b.length<a.2+4
   · rw [gb h1 h2] at h;cases h;decide
   · rw [je h1 h2] at h;exact wP k _ _ h
theorem Ek {b:List UInt8} {e:Int} (h:rdM b=.error e):e≠0:=by
 by_cases h1:65535<b.length
 · rw [rdM,if_pos h1] at h;cases h;decide
 by_cases h2:dE b=0
 · rw [gc h1 h2] at h
   cases e1:dz b (cN b 2) [] 12 with
   | error x=>rw [bW e1] at h;cases h;exact wP _ _ _ e1
   | ok q=>
    rw [aY e1] at h;cases e2:bL b (cN b 3) [] q.2 with
    | error x=>rw [bW e2] at h;cases h;exact pq _ _ _ e2
    | ok x=>
     rw [aY e2] at h;cases e3:bL b (cN b 4) [] x.2 with
     | error x=>rw [bW e3] at h;cases h;exact pq _ _ _ e3
     | ok z=>
      rw [aY e3] at h;cases e4:bL b (cN b 5) [] z.2 with
      | error x=>rw [bW e4] at h;cases h;exact pq _ _ _ e4
      | ok w=>
       rw [aY e4] at h;split at h
       · cases h
       · cases h;decide
 · rw [rdM,if_neg h1,if_pos h2] at h;cases h;exact h2
section
variable {b:List UInt8} (y:List UInt8)
theorem y0 {m:Msg} (h:rdM b=.ok m):¬ 65535<b.length∧dE b=0∧∃ q x z w,dz b (cN b 2) [] 12=.ok q∧bL b (cN b 3) [] q.2=.ok x∧bL b (cN b 4) [] x.2=.ok z∧bL b (cN b 5) [] z.2=.ok w∧w.2=b.length∧m=⟨hdM b,q.1,x.1,z.1,w.1⟩:=by
 by_cases h1:65535<b.length
 · rw [rdM,if_pos h1] at h;cases h
 by_cases h2:dE b=0
 · rw [gc h1 h2] at h
   refine ⟨h1,h2,?_⟩;cases e1:dz b (cN b 2) [] 12 with
   | error e=>rw [bW e1] at h;cases h
   | ok q=>
    rw [aY e1] at h;cases e2:bL b (cN b 3) [] q.2 with
    | error e=>rw [bW e2] at h;cases h
    | ok x=>
     rw [aY e2] at h;cases e3:bL b (cN b 4) [] x.2 with
     | error e=>rw [bW e3] at h;cases h
     | ok z=>
      rw [aY e3] at h;cases e4:bL b (cN b 5) [] z.2 with
      | error e=>rw [bW e4] at h;cases h
      | ok w=>
       rw [aY e4] at h;split at h
       · rename_i hw;exact ⟨q,x,z,w,rfl,e2,e3,e4,hw,by cases h;rfl⟩
       · cases h
 · rw [rdM,if_neg h1,if_pos h2] at h;cases h
end
theorem F2 {b:List UInt8} (h:dE b=0):(dH b).can (dC b 2) (dC b 3) (dC b 4) (dC b 5):=by
 rw [xu h,gw h,gw h,gw h,gw h];have h0:=jk b 0;have h1:=jk b 1;have h2:=jk b 2;have h3:=jk b 3;have h4:=jk b 4;have h5:=jk b 5;simp only [Hd.can];omega
theorem BM {b:List UInt8} {p:Nat} {x:Rr×Nat} (h:rdR b p=.ok x):rOk x.1=true:=by
 cases h1:rdN b 20 p p b.length none [] with
 | error e=>rw [rdR,h1] at h;cases h
 | ok a=>
  have hn:=wR h1 (Nat.le_refl _);by_cases hb:b.length<a.2+10∨b.length<a.2+10+bN b (a.2+8) 2
  · rw [eF h1 hb] at h;cases h
  · rw [nN h1 (fun k=>hb (.inl k)) (fun k=>hb (.inr k))] at h
    cases h2:rdD b (bN b a.2 2) (a.2+10) (a.2+10+bN b (a.2+8) 2) with
    | error e=>rw [h2] at h;cases h
    | ok d=>
     rw [h2,zz] at h;cases h;have hd:fA (bN b a.2 2) d=true:=by
      unfold rdD at h2;split at h2
      · cases h2
      · cases h3:fS b (a.2+10+bN b (a.2+8) 2) (cR (bN b a.2 2)) (if ((bN b a.2 2:Nat):Int)=15 then (b.take (a.2+10+2)).drop (a.2+10) else []) (if ((bN b a.2 2:Nat):Int)=15 then a.2+10+2 else a.2+10) with
        | error e=>rw [h3] at h2;cases h2
        | ok c=>
         rw [h3,rdO] at h2;split at h2
         · rename_i hc;cases h2;exact hc
         · cases h2
     have k1:=ox (b:=b) (i:=a.2);have k2:=ox (b:=b) (i:=a.2+2);have k3:=GF (b:=b) (i:=a.2+4) (w:=4) (by omega);simp only [rOk,iL,hn,hd,shB,Bool.and_true,Bool.true_and,Bool.and_eq_true,decide_eq_true_eq,Bool.not_eq_true',decide_eq_false_iff_not];omega
theorem mO {b:List UInt8}:∀ {k:Nat} {acc:List Rr} {p:Nat} {r:List Rr×Nat},bL b k acc p=.ok r→(∀ q∈acc,rOk q=true)→(∀ q∈r.1,rOk q=true)∧r.1.length=acc.length+k
 | 0,acc,p,r,h,ha=>by cases h;exact ⟨ha,rfl⟩
 | k+1,acc,p,r,h,ha=>by
  cases h1:rdR b p with
  | error e=>rw [ga h1] at h;cases h
  | ok a=>
   rw [gK h1] at h;obtain ⟨g1,g2⟩:=mO h (by
    intro q hq;rcases List.mem_append.1 hq with hq|hq
    · exact ha q hq
    · obtain rfl:=List.mem_singleton.1 hq;exact BM h1)
   exact ⟨g1,by rw [g2,List.length_append];simp;omega⟩
theorem uc {b:List UInt8}:∀ {k:Nat} {acc:List Qu} {p:Nat} {r:List Qu×Nat},dz b k acc p=.ok r→(∀ q∈acc,qOk q=true)→(∀ q∈r.1,qOk q=true)∧r.1.length=acc.length+k
 | 0,acc,p,r,h,ha=>by cases h;exact ⟨ha,rfl⟩
 | k+1,acc,p,r,h,ha=>by
  cases h1:rdN b 20 p p b.length none [] with
  | error e=>rw [iM h1] at h;cases h
  | ok a=>
   by_cases hb:b.length<a.2+4
   · rw [gb h1 hb] at h;cases h
   · rw [je h1 hb] at h
     obtain ⟨g1,g2⟩:=uc h (by
      intro q hq;rcases List.mem_append.1 hq with hq|hq
      · exact ha q hq
      · obtain rfl:=List.mem_singleton.1 hq
        have hn:=wR h1 (Nat.le_refl _);have k1:=ox (b:=b) (i:=a.2);have k2:=ox (b:=b) (i:=a.2+2);simp only [qOk,iL,hn,shB,Bool.true_and,Bool.and_eq_true,decide_eq_true_eq];omega)
     exact ⟨g1,by rw [g2,List.length_append];simp;omega⟩
theorem BN {b:List UInt8} {m:Msg} (h:rdM b=.ok m):jO m=true:=by
 obtain ⟨h1,h2,q,x,z,w,e1,e2,e3,e4,e5,rfl⟩:=y0 h;obtain ⟨a1,a2⟩:=uc e1 (by simp);obtain ⟨b1,b2⟩:=mO e2 (by simp);obtain ⟨c1,c2⟩:=mO e3 (by simp);obtain ⟨d1,d2⟩:=mO e4 (by simp);have hd:hdO ⟨hdM b,q.1,x.1,z.1,w.1⟩:=by
  have hc:=F2 h2;rw [(jJ b 2).1,(jJ b 3).1,(jJ b 4).1,(jJ b 5).1] at hc;show (nD (hdM b)).can q.1.length x.1.length z.1.length w.1.length;rw [a2,b2,c2,d2];simp only [List.length_nil,Nat.zero_add];exact hc
 rw [jO,j8,j8,decide_eq_true hd,Bool.true_and,Bool.and_eq_true,List.all_eq_true,List.all_eq_true];refine ⟨a1,fun r hr=>?_⟩;simp only [Msg.rrs,List.mem_append] at hr;rcases hr with (hr|hr)|hr
 · exact b1 r hr
 · exact c1 r hr
 · exact d1 r hr
theorem xE {n:List UInt8} (h:bm n=true):n.length≤255:=by
 obtain ⟨c1,c2⟩:=cj h;rw [← c2];exact c1.2
theorem xF {m:Msg} (h:jO m=true):gp m∧oB m:=by
 obtain ⟨p1,p2,p3⟩:=jw h;obtain ⟨k1,k2,k3,k4⟩:=eM p1;have hr:∀ r∈m.rrs,r.nm.length≤255∧r.da.length≤65535:=fun r hr=>by
  obtain ⟨⟨⟨⟨r1,r2⟩,r3⟩,r4⟩,r5⟩:(((bm r.nm=true∧rb [r.ty,r.cs]=true)∧0≤r.ttl)∧r.ttl<4294967296)∧fA r.ty r.da=true:=by simpa [rOk] using p3 r hr
  exact ⟨xE r1,(js r5).1⟩
 have hm:∀ r,(r∈m.an∨r∈m.au)∨r∈m.ad→r∈m.rrs:=fun r hr=>by simp only [Msg.rrs,List.mem_append];exact hr
 refine ⟨⟨by omega,⟨by omega,fun r h=>?_⟩,⟨by omega,fun r h=>?_⟩,⟨by omega,fun r h=>?_⟩⟩,fun q hq=>?_,fun r h=>?_⟩
 · have:=(hr r (hm r (.inl (.inl h)))).2;omega
 · have:=(hr r (hm r (.inl (.inr h)))).2;omega
 · have:=(hr r (hm r (.inr h))).2;omega
 · have h0:=p2 q hq
   rw [qOk,Bool.and_eq_true] at h0;have:=xE h0.1;omega
 · have:=(hr r h).1;omega
theorem Bm {b:List UInt8} (h:jN b=0):jO (cG b)=true∧gp (cG b)∧oB (cG b)∧(gr (cG b)=42∨gr (cG b)=0∧cG (dI (cG b))=cG b∧jN (dI (cG b))=0):=by
 cases h1:rdM b with
 | error e=>
  have h2:jN b=e:=by rw [jN,h1]
  exact absurd (h2.symm.trans h) (Ek h1)
 | ok m=>
  have hm:cG b=m:=by rw [cG,h1]
  rw [hm];have hc:=BN h1;refine ⟨hc,(xF hc).1,(xF hc).2,?_⟩;by_cases hw:(kF m).2=true
  · have he:gr m=0:=by rw [gr,if_pos hc,if_pos hw]
    have hd:=(Cz he).1;exact .inr ⟨he,by rw [cG,hd],by rw [jN,hd]⟩
  · exact .inl (by rw [gr,if_pos hc,if_neg hw])
end Go.Proofs.YthnfcmgpedppaaaGreat.Fw
