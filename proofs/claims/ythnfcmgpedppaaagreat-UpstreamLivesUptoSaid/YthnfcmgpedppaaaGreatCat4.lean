/- The texts V04j, V04k, V04m, V04n, V04o, V04q, M3, L04k, V04r, V04s, V04t, V04u, V04v, V04w, V05a, V05b, V05c, V05d, V05e, V05f, W18, W18b, W18c, W18d, W18e, W18f, R18, one behind the other: what the walks and plain laws need; conditions stand with each theorem. -/
import Derived.Test.YthnfcmgpedppaaaGreatCat3
set_option linter.unusedVariables false
set_option linter.unusedSimpArgs false
set_option linter.unusedSectionVars false
set_option maxRecDepth 20000
set_option maxHeartbeats 4000000
namespace Go.Proofs.YthnfcmgpedppaaaGreat.Fw
open Go.RowKit
theorem jf {b:List UInt8} {sh:Int} {p li:Nat} {a:List UInt8×Nat} (h:rdN b sh p p li none []=.ok a):a.1.length≤255∧p<a.2∧a.2≤li:=by
 obtain ⟨N,P⟩:=a;obtain ⟨h1,h2,_⟩:=Eg _ _ _ _ _ h;exact ⟨h1,(h2 rfl).1,(h2 rfl).2⟩
theorem x5 (t:Int):cR t≤2:=by unfold cR;split<;>(try split)<;>omega
def zy (b:List UInt8) (n:List UInt8) (q:Nat):Except Int (List UInt8)→Except Int (Rr×Nat)
 | .error e=>.error e
 | .ok d=>.ok (⟨n,bN b q 2,bN b (q+2) 2,bN b (q+4) 4,d⟩,q+10+bN b (q+8) 2)
def vN (b:List UInt8):Except Int (List UInt8×Nat)→Except Int (Rr×Nat)
 | .error e=>.error e
 | .ok a=>if b.length<a.2+10∨b.length<a.2+10+bN b (a.2+8) 2 then .error 20 else zy b a.1 a.2 (rdD b (bN b a.2 2) (a.2+10) (a.2+10+bN b (a.2+8) 2))
def rdR (b:List UInt8) (p:Nat):Except Int (Rr×Nat):=vN b (rdN b 20 p p b.length none [])
theorem eF {b:List UInt8} {p:Nat} {a:List UInt8×Nat} (h:rdN b 20 p p b.length none []=.ok a) (h1:b.length<a.2+10∨b.length<a.2+10+bN b (a.2+8) 2):rdR b p=.error 20:=by rw [rdR,h,vN,if_pos h1]
theorem nN {b:List UInt8} {p:Nat} {a:List UInt8×Nat} (h:rdN b 20 p p b.length none []=.ok a) (h1:¬ b.length<a.2+10) (h2:¬ b.length<a.2+10+bN b (a.2+8) 2):rdR b p=zy b a.1 a.2 (rdD b (bN b a.2 2) (a.2+10) (a.2+10+bN b (a.2+8) 2)):=by rw [rdR,h,vN,if_neg (by omega)]
theorem GC {b:List UInt8} {i w:Nat} (h:w≤4):bN b i w<4294967296:=wa (by rw [List.length_drop,List.length_take];omega)
theorem ox {b:List UInt8} {i:Nat}:bN b i 2<65536:=by
 have h:=Dw ((b.take (i+2)).drop i);have h2:((b.take (i+2)).drop i).length≤2:=by rw [List.length_drop,List.length_take];omega
 have h3:256 ^ ((b.take (i+2)).drop i).length≤256 ^ 2:=Nat.pow_le_pow_right (by decide) h2;exact Nat.lt_of_lt_of_le h h3
theorem vn (b:List UInt8) (t:Int) (p0 en:Nat) (hb:b.length≤65535) (he:en≤b.length) (hp:p0≤en):AC Tryz.prog 152 [.ptr 0 0 0,i64 t,i64 en] (ao [(0,.box [.fz 1 b.length (cl bc b),i64 p0])]) (oA (nP (rdD b t p0 en)) (.fz 0 (jL (rdD b t p0 en)).length (cl bc (jL (rdD b t p0 en)))) [(0,.box [.fz 1 b.length (cl bc b),i64 en])] (fun k=>[(0,.box [.fz 1 b.length (cl bc b),i64 k])])):=by
 have hc2:=x5 t;refine AC.intro te_ok (fn:=Tryz.f152) ⟨Tryz.func152,rfl,rfl⟩ (aE rfl) ?_;iterate 2 refine ab ?_
 refine ai rfl rfl (aR (0) bc) ?_;iterate 3 refine ab ?_
 refine ai rfl rfl (bD 200 1 bc) ?_;iterate 3 refine ab ?_
 refine ai rfl rfl (gQ 300 cm (fun b:Int=>i64 b)) ?_;refine ai rfl rfl (jY cm (f:=fun b:Int=>i64 b) (m:=([]:List (Int×Int))) 1) ?_;refine ai rfl rfl (jY cm (f:=fun b:Int=>i64 b) (m:=cp [] 2 1) 1) ?_;refine ai rfl rfl (jY cm (f:=fun b:Int=>i64 b) (m:=cp (cp [] 2 1) 5 1) 1) ?_;refine ai rfl rfl (jY cm (f:=fun b:Int=>i64 b) (m:=cp (cp (cp [] 2 1) 5 1) 12 1) 1) ?_;refine ai rfl rfl (jY cm (f:=fun b:Int=>i64 b) (m:=cp (cp (cp (cp [] 2 1) 5 1) 12 1) 15 1) 2) ?_;iterate 3 refine ab ?_
 refine AWp.cutR (α:=List UInt8×Nat×Nat) [7,11,12,13,14,15,16,17,18,19,20,21,22,23,24,25,26,27,28,29,30,31,32,33,34,35,36,37,38,39,40,41,42,43] (fun x_=>[(7,.sl 200 (x_.2.2) 0 (x_.1).length 1)]) (fun x_=>[(0,.box [.fz 1 b.length (cl bc b),i64 (x_.2.1)]),(200,.row (cl bc (x_.1)) 1 (x_.2.2))]) (fun x_=>(x_.1)=(if t=15 then (b.take (p0+2)).drop p0 else [])∧(x_.2.1)=(if t=15 then p0+2 else p0)∧¬ (t=15∧en<p0+2)∧(x_.1).length≤2∧(x_.2.1)≤en) ?_ ?_
 ·
  iterate 3 refine ab ?_
  refine am (fun h3_1=>?_) (fun h3_1=>?_)
  ·
   iterate 10 refine ab ?_
   refine ai rfl rfl (gX) ?_;refine AOps.callP (hp':=fun k=>[]) (1) [] [] [] (co (decide (2≤(en:Int)-(p0:Int))) 30) (fun h4_7=>?_) (fun x k h4_7=>?_)
   ·
    iterate 2 refine ab ?_
    have g1:¬ en<p0+2:=by have:=d6 h4_7;simp at this;omega
    refine bj [ag,ag,ag,ag,ag,ag,ag,ag,ag,ag,ag,ag,ag,ag,ag,bv [(200,_)],ag] [af [7] [] 22,af [0] [] 23,af [22] [0] 24,af [23] [0] 25,af [24] [0] 26,af [0] [] 27,af [26] [0] 28,af [27] [0] 29,af [28] [0] 30,af [0] [] 31,af [30] [0] 32,af [31] [0] 33,af [32] [0] 34,af [33] [] 35,af [25,29,34] [] 36,af [21,35] [200] 37 [200],af [36] [] 8] rfl ⟨ah,ah,ah,ah,ah,ah,ah,ah,ah,ah,ah,ah,ah,ah,ah,ah,ah,trivial⟩ ?_;iterate 10 refine ab ?_
    rw [show ((p0:Int)+2).toNat=p0+2 by omega,show ((p0:Nat):Int).toNat=p0 by omega];refine ⟨((b.take (p0+2)).drop p0,p0+2,1),?_,Back.mk' (HasT.cons HasT.nil) (HasH.cons (HasH.cons HasH.nil))⟩;try dsimp only
    exact ⟨by rw [if_pos h3_1],by rw [if_pos h3_1],by omega,by rw [List.length_drop,List.length_take];omega,by omega⟩
   ·
    show Post te Tryz.f152 _ (.panic _) _;refine Post.panicH (1) (p0) ?_ (by repeat' (first|exact trivial|exact aK rfl|exact bd rfl rfl|exact aV rfl rfl|exact bw rfl rfl|exact aF (fun _=>rfl)|refine ar ?_|refine ⟨rfl,⟨_,rfl,?_⟩,?_⟩|refine ⟨?_,?_⟩)) rfl;obtain ⟨c1,rfl⟩:=cf h4_7;rw [rdD,if_pos ⟨h3_1,by simp at c1;omega⟩];rfl
  ·
   iterate 3 refine ab ?_
   refine ⟨([],p0,0),?_,Back.mk' (HasT.cons HasT.nil) (HasH.cons (HasH.cons HasH.nil))⟩;try dsimp only
   exact ⟨by rw [if_neg h3_1],by rw [if_neg h3_1],by omega,by simp,hp⟩
 ·
  rintro ⟨acc,p,v⟩ hC7;change acc=(if t=15 then (b.take (p0+2)).drop p0 else [])∧p=(if t=15 then p0+2 else p0)∧¬ (t=15∧en<p0+2)∧acc.length≤2∧p≤en at hC7;obtain ⟨ha0,hp1,hg,hal,hpe⟩:=hC7;refine AWp.as (s':=AS.over _ [7,11,12,13,14,15,16,17,18,19,20,21,22,23,24,25,26,27,28,29,30,31,32,33,34,35,36,37,38,39,40,41,42,43] [(7,.sl 200 v 0 acc.length 1)] [(0,.box [.fz 1 b.length (cl bc b),i64 p]),(200,.row (cl bc acc) 1 v)]) rfl ?_;iterate 5 refine ab ?_
  refine ai rfl rfl (ey cm (f:=fun b:Int=>i64 b) (m:=ED)) ?_;rw [C4];iterate 3 refine ab ?_
  refine AWp.loopR (α:=Nat×List UInt8×Nat×Nat) [7,47,48,49,50,51,52,53,54] (fun x_=>[(47,i64 (x_.1)),(7,.sl 200 (x_.2.2.2) 0 (x_.2.1).length 1)]) (fun x_=>[(0,.box [.fz 1 b.length (cl bc b),i64 (x_.2.2.1)]),(200,.row (cl bc (x_.2.1)) 1 (x_.2.2.2))]) (fun x_=>(x_.1)≤cR t∧fS b en (cR t-(x_.1)) (x_.2.1) (x_.2.2.1)=fS b en (cR t) (if t=15 then (b.take (p0+2)).drop p0 else []) (if t=15 then p0+2 else p0)∧(x_.2.1).length≤2+255*(x_.1)∧(x_.2.2.1)≤en) (fun x_=>cR t-(x_.1)) (0,acc,p,v) ?_ (Back.mk' (HasT.cons (HasT.cons HasT.nil)) (HasH.cons (HasH.cons HasH.nil))) ?_
  ·
   exact ⟨Nat.zero_le _,by show fS b en (cR t-0) acc p=_;rw [ha0,hp1];rfl,hal,hpe⟩
  ·
   rintro ⟨i,ac,p,v⟩ hI8;change i≤cR t∧fS b en (cR t-i) ac p=fS b en (cR t) (if t=15 then (b.take (p0+2)).drop p0 else []) (if t=15 then p0+2 else p0)∧ac.length≤2+255*i∧p≤en at hI8;obtain ⟨hi,hE,hal,hpe⟩:=hI8;refine AWp.as (s':=AS.over _ [7,47,48,49,50,51,52,53,54] [(47,i64 i),(7,.sl 200 v 0 ac.length 1)] [(0,.box [.fz 1 b.length (cl bc b),i64 p]),(200,.row (cl bc ac) 1 v)]) rfl ?_;iterate 2 refine ab ?_
   refine am (fun h8_0=>?_) (fun h8_0=>?_)
   ·
    iterate 10 refine ab ?_
    refine AOps.callP (hp':=fun k=>[(0,.box [_,i64 k])]) (1) [(0,0)] [] [(_,_)] (qU b 30 p en hb he (by omega)) (fun h9_3=>?_) (fun x k h9_3=>?_)
    ·
     obtain ⟨a,ha⟩:=eW h9_3;obtain ⟨n1,n2,n3⟩:=jf ha;rw [ha];dsimp only [jL];iterate 7 refine ab ?_
     refine ⟨(i+1,ac++a.1,a.2,v+1),?_,Back.mk' (HasT.cons (HasT.cons HasT.nil)) (HasH.cons (HasH.cons HasH.nil)),?_⟩
     ·
      try dsimp only
      refine ⟨by omega,?_,by rw [List.length_append];omega,n3⟩;rw [← hE,show cR t-i=(cR t-(i+1))+1 by omega,mP ha]
     ·
      try dsimp only
      first|omega|(simp;omega)
    ·
     show Post te Tryz.f152 _ (.panic _) _;refine Post.panicH (1) (k) ?_ (by repeat' (first|exact trivial|exact aK rfl|exact bd rfl rfl|exact aV rfl rfl|exact bw rfl rfl|exact aF (fun _=>rfl)|refine ar ?_|refine ⟨rfl,⟨_,rfl,?_⟩,?_⟩|refine ⟨?_,?_⟩)) rfl;obtain ⟨e,he1,rfl⟩:=eV h9_3;rw [jW hg,← hE,show cR t-i=(cR t-(i+1))+1 by omega,jV he1];rfl
   ·
    iterate 5 refine ab ?_
    obtain rfl:i=cR t:=by omega
    rw [Nat.sub_self] at hE;have hE2:=hE.symm;rw [fS] at hE2;refine bj [ag,ag,ag,ag,ag,ag,ag,ag,ag,ag,ag,bv [(200,_)],ag] [af [7] [] 56,af [0] [] 57,af [56] [0] 58,af [57] [0] 59,af [58] [0] 60,af [0] [] 61,af [60] [0] 62,af [61] [0] 63,af [62] [0] 64,af [2] [] 65,af [59,63,64] [] 66,af [55,65] [200] 67 [200],af [66] [] 8] rfl ⟨ah,ah,ah,ah,ah,ah,ah,ah,ah,ah,ah,ah,ah,trivial⟩ ?_;rw [show ((en:Nat):Int).toNat=en by omega,show ((p:Nat):Int).toNat=p by omega];iterate 12 refine ab ?_
    refine ai rfl rfl (aj (1) (hc:=(wz t (ac++(b.take en).drop p) 2 (by rw [List.length_append,List.length_drop,List.length_take];omega)))) ?_;refine AOps.callP (hp':=fun k=>[]) (1) [] [] [] (co (fA t (ac++(b.take en).drop p)) 30) (fun h13_3=>?_) (fun x k h13_3=>?_)
    ·
     iterate 3 refine ab ?_
     have g4:fA t (ac++(b.take en).drop p)=true:=d6 h13_3;iterate 4 refine ab ?_
     rw [jW hg,hE2,rdO,if_pos g4];refine Fin.retP (by rfl) ?_;refine im (1) (0) [] [_] [_] [(_,_)] ?_;rfl
    ·
     show Post te Tryz.f152 _ (.panic _) _;refine Post.panicH (1) (en) ?_ (by repeat' (first|exact trivial|exact aK rfl|exact bd rfl rfl|exact aV rfl rfl|exact bw rfl rfl|exact aF (fun _=>rfl)|refine ar ?_|refine ⟨rfl,⟨_,rfl,?_⟩,?_⟩|refine ⟨?_,?_⟩)) rfl;obtain ⟨c1,rfl⟩:=cf h13_3;rw [jW hg,hE2,rdO,if_neg (by rw [c1];simp)];rfl
theorem lE (b:List UInt8) (p0:Nat) (hb:b.length≤65535) (hp:p0≤100000):AC Tryz.prog 134 [.ptr 0 0 0] (ao [(0,.box [.fz 1 b.length (cl bc b),i64 p0])]) (oA (nP (rdR b p0)) (.agg (rrc (jL (rdR b p0)).1)) [(0,.box [.fz 1 b.length (cl bc b),i64 (jL (rdR b p0)).2])] (fun k=>[(0,.box [.fz 1 b.length (cl bc b),i64 k])])):=by
 refine AC.intro te_ok (fn:=Tryz.f134) ⟨Tryz.func134,rfl,rfl⟩ (aE rfl) ?_;iterate 2 refine ab ?_
 refine ai rfl rfl (ap 100) ?_;iterate 9 refine ab ?_
 refine AOps.callP (hp':=fun k=>[(0,.box [_,i64 k])]) (1) [(0,0)] [] [(_,_)] (qU b 20 p0 b.length hb (Nat.le_refl _) hp) (fun h1_6=>?_) (fun x k h1_6=>?_)
 ·
  obtain ⟨a,ha⟩:=eW h1_6;obtain ⟨n1,n2,n3⟩:=jf ha;rw [ha];dsimp only [jL];have hsz:=ox (b:=b) (i:=a.2+8);refine ai rfl rfl (aL [(_,_)]) ?_;refine ai rfl rfl (ap 208) ?_;iterate 5 refine ab ?_
  refine AOps.callP (hp':=fun k=>[(0,.box [_,i64 k])]) (1) [(0,0)] [] [(_,_)] (lG b a.2 2 hb (by omega) (by omega)) (fun h2_1=>?_) (fun x k h2_1=>?_)
  ·
   refine ab ?_;refine AOps.callP (hp':=fun k=>[(0,.box [_,i64 k])]) (1) [(0,0)] [] [(_,_)] (lG b (a.2+2) 2 hb (by omega) (by omega)) (fun h2_3=>?_) (fun x k h2_3=>?_)
   ·
    refine ab ?_;refine AOps.callP (hp':=fun k=>[(0,.box [_,i64 k])]) (1) [(0,0)] [] [(_,_)] (lG b (a.2+4) 4 hb (by omega) (by omega)) (fun h2_5=>?_) (fun x k h2_5=>?_)
    ·
     iterate 10 refine ab ?_
     refine AOps.callP (hp':=fun k=>[(0,.box [_,i64 k])]) (1) [(0,0)] [] [(_,_)] (lG b (a.2+8) 2 hb (by omega) (by omega)) (fun h3_1=>?_) (fun x k h3_1=>?_)
     ·
      have g1:¬ b.length<a.2+10:=by have:=d6 h3_1;simp at this;omega
      iterate 3 refine ab ?_
      rcases hpo:pNo (decide (((bN b (a.2+8) 2:Nat):Int)≤(b.length:Int)-((a.2+10:Nat):Int))) 20 with _|xx
      ·
       refine AWp.drawsX _ [⟨0,[0],[],some 24,_,[]⟩,
        ⟨1,[24],[0],some 25,_,[]⟩,
        ⟨2,[25],[0],some 26,_,[]⟩,
        ⟨3,[26],[0],some 27,_,[]⟩,
        ⟨4,[27],[],some 28,_,[]⟩,
        ⟨5,[0],[],some 29,_,[]⟩,
        ⟨6,[29],[0],some 30,_,[]⟩,
        ⟨7,[30],[0],some 31,_,[]⟩,
        ⟨8,[31],[0],some 32,_,[]⟩,
        ⟨9,[28,32],[],some 33,_,[]⟩,
        ⟨10,[4],[],some 34,_,[]⟩,
        ⟨11,[33,34],[],some 35,_,[]⟩,
        ⟨12,[35],[0,1,2,3,4,5,6,7],some 36,_,[]⟩]
        [⟨0,[0],[],some 24,.any,[]⟩,
         ⟨1,[24],[0],some 25,.any,[]⟩,
         ⟨2,[25],[0],some 26,.any,[]⟩,
         ⟨3,[26],[0],some 27,.any,[]⟩,
         ⟨4,[27],[],some 28,.any,[]⟩,
         ⟨5,[0],[],some 29,.any,[]⟩,
         ⟨6,[29],[0],some 30,.any,[]⟩,
         ⟨7,[30],[0],some 31,.any,[]⟩,
         ⟨8,[31],[0],some 32,.any,[]⟩,
         ⟨9,[28,32],[],some 33,.any,[]⟩,
         ⟨10,[4],[],some 34,.any,[]⟩,
         ⟨11,[33,34],[],some 35,.any,[]⟩,
         ⟨12,[35],[0,1,2,3,4,5,6,7],some 36,.any,[]⟩]
        cE rfl (by kernel_rfl) ⟨DS.okX_over fun s0=>(OpAt.go rfl rfl (aA)).x,
         DS.okX_over fun s0=>(OpAt.go rfl rfl (cW)).x,
         DS.okX_over fun s0=>(OpAt.go rfl rfl (fJ)).x,
         DS.okX_over fun s0=>(OpAt.go rfl rfl (bb)).x,
         DS.okX_over fun s0=>(OpAt.go rfl rfl (jE)).x,
         DS.okX_over fun s0=>(OpAt.go rfl rfl (aA)).x,
         DS.okX_over fun s0=>(OpAt.go rfl rfl (cW)).x,
         DS.okX_over fun s0=>(OpAt.go rfl rfl (fJ)).x,
         DS.okX_over fun s0=>(OpAt.go rfl rfl (bb)).x,
         DS.okX_over fun s0=>(OpAt.go rfl rfl (oG)).x,
         DS.okX_over fun s0=>(OpAt.go rfl rfl (aA)).x,
         DS.okX_over fun s0=>(OpAt.go rfl rfl (gX)).x,
         DS.okX_over fun s0=>db (hp':=fun k=>[]) (1) [] [] [] (co (decide (((bN b (a.2+8) 2:Nat):Int)≤(b.length:Int)-((a.2+10:Nat):Int))) 20) (fun x k h4_12=>?_),trivial⟩ ?_ (fun _ _ h=>h)
       ·
        exact absurd (hpo.symm.trans h4_12) (by simp)
       dsimp only [cS,DS.upd,AS.seto];refine ab ?_;have g2:¬ b.length<a.2+10+bN b (a.2+8) 2:=by have:=d6 hpo;simp at this;omega
       rcases hpo:nP (rdD b (bN b a.2 2) (a.2+10) (a.2+10+bN b (a.2+8) 2)) with _|xx
       ·
        refine AWp.drawsX _ [⟨0,[0],[],some 37,_,[]⟩,
         ⟨1,[3],[208],some 38,_,[]⟩,
         ⟨2,[38],[208],some 39,_,[]⟩,
         ⟨3,[0],[],some 40,_,[]⟩,
         ⟨4,[40],[0],some 41,_,[]⟩,
         ⟨5,[41],[0],some 42,_,[]⟩,
         ⟨6,[42],[0],some 43,_,[]⟩,
         ⟨7,[4],[],some 44,_,[]⟩,
         ⟨8,[43,44],[],some 45,_,[]⟩,
         ⟨9,[37,39,45],[0,1,2,3,4,5,6,7],some 46,_,[(0,_)]⟩,
         ⟨10,[3],[208],some 47,_,[]⟩,
         ⟨11,[46,47],[208],none,_,[(208,_)]⟩]
         [⟨0,[0],[],some 37,.any,[]⟩,
          ⟨1,[3],[208],some 38,.any,[]⟩,
          ⟨2,[38],[208],some 39,.any,[]⟩,
          ⟨3,[0],[],some 40,.any,[]⟩,
          ⟨4,[40],[0],some 41,.any,[]⟩,
          ⟨5,[41],[0],some 42,.any,[]⟩,
          ⟨6,[42],[0],some 43,.any,[]⟩,
          ⟨7,[4],[],some 44,.any,[]⟩,
          ⟨8,[43,44],[],some 45,.any,[]⟩,
          ⟨9,[37,39,45],[0,1,2,3,4,5,6,7],some 46,.any,[(0,.box [])]⟩,
          ⟨10,[3],[208],some 47,.any,[]⟩,
          ⟨11,[46,47],[208],none,.any,[(208,.box [])]⟩]
         cE rfl (by kernel_rfl) ⟨DS.okX_over fun s0=>(OpAt.go rfl rfl (aA)).x,
          DS.okX_over fun s0=>(OpAt.go rfl rfl (fJ)).x,
          DS.okX_over fun s0=>(OpAt.go rfl rfl (bb)).x,
          DS.okX_over fun s0=>(OpAt.go rfl rfl (aA)).x,
          DS.okX_over fun s0=>(OpAt.go rfl rfl (cW)).x,
          DS.okX_over fun s0=>(OpAt.go rfl rfl (fJ)).x,
          DS.okX_over fun s0=>(OpAt.go rfl rfl (bb)).x,
          DS.okX_over fun s0=>(OpAt.go rfl rfl (aA)).x,
          DS.okX_over fun s0=>(OpAt.go rfl rfl (lW)).x,
          DS.okX_over fun s0=>db (hp':=fun k=>[(0,.box [_,i64 k])]) (1) [(0,0)] [] [(_,_)] (vn b (bN b a.2 2) (a.2+10) (a.2+10+bN b (a.2+8) 2) hb (by omega) (by omega)) (fun x k h5_9=>?_),
          DS.okX_over fun s0=>(OpAt.go rfl rfl (fJ)).x,
          DS.okX_over fun s0=>(OpAt.go rfl rfl (cI)).x,trivial⟩ ?_ (fun _ _ h=>h)
        ·
         exact absurd (hpo.symm.trans h5_9) (by simp)
        dsimp only [cS,DS.upd,AS.seto];iterate 2 refine ab ?_
        obtain ⟨dd,hd⟩:=eW hpo;rw [hd];dsimp only [jL];iterate 4 refine ab ?_
        rw [nN ha g1 g2,hd];refine Fin.retP (by rfl) ?_;refine im (1) (0) [] [_] [_] [(_,_)] ?_;rfl
       ·
        refine AWp.drawsX _ [⟨0,[0],[],some 37,_,[]⟩,
         ⟨1,[3],[208],some 38,_,[]⟩,
         ⟨2,[38],[208],some 39,_,[]⟩,
         ⟨3,[0],[],some 40,_,[]⟩,
         ⟨4,[40],[0],some 41,_,[]⟩,
         ⟨5,[41],[0],some 42,_,[]⟩,
         ⟨6,[42],[0],some 43,_,[]⟩,
         ⟨7,[4],[],some 44,_,[]⟩,
         ⟨8,[43,44],[],some 45,_,[]⟩,
         ⟨9,[37,39,45],[0,1,2,3,4,5,6,7],some 46,_,[(0,_)]⟩,
         ⟨10,[3],[208],some 47,_,[]⟩,
         ⟨11,[46,47],[208],none,.fz 0 1 [],[(208,.box [])]⟩]
         [⟨0,[0],[],some 37,.any,[]⟩,
          ⟨1,[3],[208],some 38,.any,[]⟩,
          ⟨2,[38],[208],some 39,.any,[]⟩,
          ⟨3,[0],[],some 40,.any,[]⟩,
          ⟨4,[40],[0],some 41,.any,[]⟩,
          ⟨5,[41],[0],some 42,.any,[]⟩,
          ⟨6,[42],[0],some 43,.any,[]⟩,
          ⟨7,[4],[],some 44,.any,[]⟩,
          ⟨8,[43,44],[],some 45,.any,[]⟩,
          ⟨9,[37,39,45],[0,1,2,3,4,5,6,7],some 46,.any,[(0,.box [])]⟩,
          ⟨10,[3],[208],some 47,.any,[]⟩,
          ⟨11,[46,47],[208],none,.any,[(208,.box [])]⟩]
         cE rfl (by kernel_rfl) ⟨DS.okX_over fun s0=>(OpAt.go rfl rfl (aA)).x,
          DS.okX_over fun s0=>(OpAt.go rfl rfl (fJ)).x,
          DS.okX_over fun s0=>(OpAt.go rfl rfl (bb)).x,
          DS.okX_over fun s0=>(OpAt.go rfl rfl (aA)).x,
          DS.okX_over fun s0=>(OpAt.go rfl rfl (cW)).x,
          DS.okX_over fun s0=>(OpAt.go rfl rfl (fJ)).x,
          DS.okX_over fun s0=>(OpAt.go rfl rfl (bb)).x,
          DS.okX_over fun s0=>(OpAt.go rfl rfl (aA)).x,
          DS.okX_over fun s0=>(OpAt.go rfl rfl (lW)).x,
          DS.okX_over fun s0=>db (hp':=fun k=>[(0,.box [_,i64 k])]) (1) [(0,0)] [] [(_,_)] (AC.bad hpo (vn b (bN b a.2 2) (a.2+10) (a.2+10+bN b (a.2+8) 2) hb (by omega) (by omega))) (fun x k h5_9=>?_),
          DS.okX_over fun s0=>(OpAt.go rfl rfl (fJ)).x,
          DS.okX_over fun s0=>OpAtX.bot (d:=46) rfl,trivial⟩ ?_ (fun _ _ h=>h)
        ·
         show Post te Tryz.f134 _ (.panic _) _;refine Post.panicH (1) (k) ?_ (by repeat' (first|exact trivial|exact aK rfl|exact bd rfl rfl|exact aV rfl rfl|exact bw rfl rfl|exact aF (fun _=>rfl)|refine ar ?_|refine ⟨rfl,⟨_,rfl,?_⟩,?_⟩|refine ⟨?_,?_⟩)) rfl;obtain ⟨e,he1,rfl⟩:=eV h5_9;rw [nN ha g1 g2,he1];rfl
        dsimp only [cS,DS.upd,AS.seto];exact AWp.bot (d:=46) rfl
      ·
       refine AWp.drawsX _ [⟨0,[0],[],some 24,_,[]⟩,
        ⟨1,[24],[0],some 25,_,[]⟩,
        ⟨2,[25],[0],some 26,_,[]⟩,
        ⟨3,[26],[0],some 27,_,[]⟩,
        ⟨4,[27],[],some 28,_,[]⟩,
        ⟨5,[0],[],some 29,_,[]⟩,
        ⟨6,[29],[0],some 30,_,[]⟩,
        ⟨7,[30],[0],some 31,_,[]⟩,
        ⟨8,[31],[0],some 32,_,[]⟩,
        ⟨9,[28,32],[],some 33,_,[]⟩,
        ⟨10,[4],[],some 34,_,[]⟩,
        ⟨11,[33,34],[],some 35,_,[]⟩,
        ⟨12,[35],[0,1,2,3,4,5,6,7],some 36,_,[]⟩]
        [⟨0,[0],[],some 24,.any,[]⟩,
         ⟨1,[24],[0],some 25,.any,[]⟩,
         ⟨2,[25],[0],some 26,.any,[]⟩,
         ⟨3,[26],[0],some 27,.any,[]⟩,
         ⟨4,[27],[],some 28,.any,[]⟩,
         ⟨5,[0],[],some 29,.any,[]⟩,
         ⟨6,[29],[0],some 30,.any,[]⟩,
         ⟨7,[30],[0],some 31,.any,[]⟩,
         ⟨8,[31],[0],some 32,.any,[]⟩,
         ⟨9,[28,32],[],some 33,.any,[]⟩,
         ⟨10,[4],[],some 34,.any,[]⟩,
         ⟨11,[33,34],[],some 35,.any,[]⟩,
         ⟨12,[35],[0,1,2,3,4,5,6,7],some 36,.any,[]⟩]
        cE rfl (by kernel_rfl) ⟨DS.okX_over fun s0=>(OpAt.go rfl rfl (aA)).x,
         DS.okX_over fun s0=>(OpAt.go rfl rfl (cW)).x,
         DS.okX_over fun s0=>(OpAt.go rfl rfl (fJ)).x,
         DS.okX_over fun s0=>(OpAt.go rfl rfl (bb)).x,
         DS.okX_over fun s0=>(OpAt.go rfl rfl (jE)).x,
         DS.okX_over fun s0=>(OpAt.go rfl rfl (aA)).x,
         DS.okX_over fun s0=>(OpAt.go rfl rfl (cW)).x,
         DS.okX_over fun s0=>(OpAt.go rfl rfl (fJ)).x,
         DS.okX_over fun s0=>(OpAt.go rfl rfl (bb)).x,
         DS.okX_over fun s0=>(OpAt.go rfl rfl (oG)).x,
         DS.okX_over fun s0=>(OpAt.go rfl rfl (aA)).x,
         DS.okX_over fun s0=>(OpAt.go rfl rfl (gX)).x,
         DS.okX_over fun s0=>db (hp':=fun k=>[]) (1) [] [] [] (AC.bad hpo (co (decide (((bN b (a.2+8) 2:Nat):Int)≤(b.length:Int)-((a.2+10:Nat):Int))) 20)) (fun x k h4_12=>?_),trivial⟩ ?_ (fun _ _ h=>h)
       ·
        show Post te Tryz.f134 _ (.panic _) _;refine Post.panicH (1) (((a.2+10:Nat):Int)) ?_ (by repeat' (first|exact trivial|exact aK rfl|exact bd rfl rfl|exact aV rfl rfl|exact bw rfl rfl|exact aF (fun _=>rfl)|refine ar ?_|refine ⟨rfl,⟨_,rfl,?_⟩,?_⟩|refine ⟨?_,?_⟩)) rfl;obtain ⟨c1,rfl⟩:=cf h4_12;rw [eF ha (by simp at c1;omega)];rfl
       dsimp only [cS,DS.upd,AS.seto];exact AWp.bot (d:=36) rfl
     ·
      show Post te Tryz.f134 _ (.panic _) _;refine Post.panicH (1) (k) ?_ (by repeat' (first|exact trivial|exact aK rfl|exact bd rfl rfl|exact aV rfl rfl|exact bw rfl rfl|exact aF (fun _=>rfl)|refine ar ?_|refine ⟨rfl,⟨_,rfl,?_⟩,?_⟩|refine ⟨?_,?_⟩)) rfl;obtain ⟨c1,rfl⟩:=cf h3_1;rw [eF ha (by simp at c1;omega)];rfl
    ·
     show Post te Tryz.f134 _ (.panic _) _;refine Post.panicH (1) (k) ?_ (by repeat' (first|exact trivial|exact aK rfl|exact bd rfl rfl|exact aV rfl rfl|exact bw rfl rfl|exact aF (fun _=>rfl)|refine ar ?_|refine ⟨rfl,⟨_,rfl,?_⟩,?_⟩|refine ⟨?_,?_⟩)) rfl;obtain ⟨c1,rfl⟩:=cf h2_5;rw [eF ha (by simp at c1;omega)];rfl
   ·
    show Post te Tryz.f134 _ (.panic _) _;refine Post.panicH (1) (k) ?_ (by repeat' (first|exact trivial|exact aK rfl|exact bd rfl rfl|exact aV rfl rfl|exact bw rfl rfl|exact aF (fun _=>rfl)|refine ar ?_|refine ⟨rfl,⟨_,rfl,?_⟩,?_⟩|refine ⟨?_,?_⟩)) rfl;obtain ⟨c1,rfl⟩:=cf h2_3;rw [eF ha (by simp at c1;omega)];rfl
  ·
   show Post te Tryz.f134 _ (.panic _) _;refine Post.panicH (1) (k) ?_ (by repeat' (first|exact trivial|exact aK rfl|exact bd rfl rfl|exact aV rfl rfl|exact bw rfl rfl|exact aF (fun _=>rfl)|refine ar ?_|refine ⟨rfl,⟨_,rfl,?_⟩,?_⟩|refine ⟨?_,?_⟩)) rfl;obtain ⟨c1,rfl⟩:=cf h2_1;rw [eF ha (by simp at c1;omega)];rfl
 ·
  show Post te Tryz.f134 _ (.panic _) _;refine Post.panicH (1) (k) ?_ (by repeat' (first|exact trivial|exact aK rfl|exact bd rfl rfl|exact aV rfl rfl|exact bw rfl rfl|exact aF (fun _=>rfl)|refine ar ?_|refine ⟨rfl,⟨_,rfl,?_⟩,?_⟩|refine ⟨?_,?_⟩)) rfl;obtain ⟨e,he1,rfl⟩:=eV h1_6;rw [rdR,he1];rfl
def cN (b:List UInt8) (j:Nat):Nat:=(dC b j).toNat
theorem jJ (b:List UInt8) (j:Nat):dC b j=(cN b j:Int)∧cN b j≤65535:=by
 have h:0≤dC b j∧dC b j≤65535:=by
  unfold dC;split
  · have:=jk b j;omega
  · omega
 unfold cN;omega
theorem uP {b:List UInt8} (h:dE b=0):¬ b.length<12:=fun k=>by rw [qK k] at h;cases h
def dz (b:List UInt8):Nat→List Qu→Nat→Except Int (List Qu×Nat)
 | 0,acc,p=>.ok (acc,p)
 | k+1,acc,p=>match rdN b 20 p p b.length none [] with
  | .error e=>.error e
  | .ok a=>if b.length<a.2+4 then .error 20 else dz b k (acc++[⟨a.1,bN b a.2 2,bN b (a.2+2) 2⟩]) (a.2+4)
def bL (b:List UInt8):Nat→List Rr→Nat→Except Int (List Rr×Nat)
 | 0,acc,p=>.ok (acc,p)
 | k+1,acc,p=>match rdR b p with
  | .error e=>.error e
  | .ok a=>bL b k (acc++[a.1]) a.2
def mc {α β:Type}:Except Int α→(α→Except Int β)→Except Int β
 | .error e,_=>.error e
 | .ok a,f=>f a
def hdM (b:List UInt8):Hdr:=⟨(dH b).id,(dH b).resp,(dH b).op,(dH b).aa,(dH b).tc,(dH b).rd,(dH b).ra,(dH b).code⟩
def rdM (b:List UInt8):Except Int Msg:=
 if 65535<b.length then .error 42 else if dE b≠0 then .error (dE b) else
 mc (dz b (cN b 2) [] 12) fun q=>mc (bL b (cN b 3) [] q.2) fun x=>mc (bL b (cN b 4) [] x.2) fun y=>mc (bL b (cN b 5) [] y.2) fun z=>
  if z.2=b.length then .ok ⟨hdM b,q.1,x.1,y.1,z.1⟩ else .error 41
theorem qc {b:List UInt8} {p:Nat} {a:Rr×Nat} (h:rdR b p=.ok a):p<a.2∧a.2≤b.length:=by
 unfold rdR at h;cases h1:rdN b 20 p p b.length none [] with
 | error e=>rw [h1] at h;cases h
 | ok c=>
  obtain ⟨_,h2,h3⟩:=jf h1;rw [h1,vN] at h;split at h
  · cases h
  · cases h4:rdD b (bN b c.2 2) (c.2+10) (c.2+10+bN b (c.2+8) 2) with
    | error e=>rw [h4] at h;cases h
    | ok d=>rw [h4,zy] at h;cases h;simp only;omega
theorem iM {b:List UInt8} {k:Nat} {acc:List Qu} {p:Nat} {e:Int} (h:rdN b 20 p p b.length none []=.error e):dz b (k+1) acc p=.error e:=by simp only [dz,h]
theorem gb {b:List UInt8} {k:Nat} {acc:List Qu} {p:Nat} {a:List UInt8×Nat} (h:rdN b 20 p p b.length none []=.ok a) (h1:b.length<a.2+4):dz b (k+1) acc p=.error 20:=by simp only [dz,h,if_pos h1]
theorem je {b:List UInt8} {k:Nat} {acc:List Qu} {p:Nat} {a:List UInt8×Nat} (h:rdN b 20 p p b.length none []=.ok a) (h1:¬ b.length<a.2+4):dz b (k+1) acc p=dz b k (acc++[⟨a.1,bN b a.2 2,bN b (a.2+2) 2⟩]) (a.2+4):=by simp only [dz,h,if_neg h1]
theorem ga {b:List UInt8} {k:Nat} {acc:List Rr} {p:Nat} {e:Int} (h:rdR b p=.error e):bL b (k+1) acc p=.error e:=by simp only [bL,h]
theorem gK {b:List UInt8} {k:Nat} {acc:List Rr} {p:Nat} {a:Rr×Nat} (h:rdR b p=.ok a):bL b (k+1) acc p=bL b k (acc++[a.1]) a.2:=by simp only [bL,h]
section rdM
variable {b:List UInt8}
theorem gc (h:¬ 65535<b.length) (h0:dE b=0):rdM b=mc (dz b (cN b 2) [] 12) fun q=>mc (bL b (cN b 3) [] q.2) fun x=>mc (bL b (cN b 4) [] x.2) fun y=>mc (bL b (cN b 5) [] y.2) fun z=>if z.2=b.length then .ok ⟨hdM b,q.1,x.1,y.1,z.1⟩ else .error 41:=by rw [rdM,if_neg h,if_neg (by simp [h0])]
theorem bW {α β:Type} {r:Except Int α} {e:Int} {f:α→Except Int β} (h:r=.error e):mc r f=.error e:=by rw [h];rfl
theorem aY {α β:Type} {r:Except Int α} {a:α} {f:α→Except Int β} (h:r=.ok a):mc r f=f a:=by rw [h];rfl
end rdM
theorem CH (b:List UInt8) (hb:b.length≤140737488351232):AC Tryz.prog 93 [.ptr 0 0 0] (ao [(0,.box [.fz 1 b.length (cl bc b),i64 0])]) (oA (nP (rdM b)) (.agg (dn (jL (rdM b)))) [(0,.box [.fz 1 b.length (cl bc b),i64 (b.length:Int)])] (fun k=>[(0,.box [.fz 1 b.length (cl bc b),i64 k])])):=by
 refine AC.intro te_ok (fn:=Tryz.f93) ⟨Tryz.func93,rfl,rfl⟩ (aE rfl) ?_;iterate 2 refine ab ?_
 refine ai rfl rfl (ap 100) ?_;iterate 8 refine ab ?_
 refine ai rfl rfl (iN) ?_;refine AOps.callP (hp':=fun k=>[]) (1) [] [] [] (co (decide ((b.length:Int)≤65535)) 42) (fun h1_6=>?_) (fun x k h1_6=>?_)
 ·
  iterate 3 refine ab ?_
  have g1:¬ 65535<b.length:=by have:=d6 h1_6;simp at this;omega
  have hb2:b.length≤65535:=by omega
  iterate 4 refine ab ?_
  refine ai rfl rfl (aj (1) (hc:=(pj b 1 (by omega)))) ?_;iterate 4 refine ab ?_
  refine ai rfl rfl (ap 309) ?_;refine ai rfl rfl (ap 310) ?_;iterate 7 refine ab ?_
  refine ai rfl rfl (dm) ?_;refine ab ?_;refine AOps.callP (hp':=fun k=>[]) (1) [] [] [] (co (decide (dE b=0)) (dE b)) (fun h3_3=>?_) (fun x k h3_3=>?_)
  ·
   iterate 3 refine ab ?_
   have hz:dE b=0:=by have:=d6 h3_3;simpa using this
   have hz1:=uP hz;obtain ⟨e2,l2⟩:=jJ b 2;obtain ⟨e3,l3⟩:=jJ b 3;obtain ⟨e4,l4⟩:=jJ b 4;obtain ⟨e5,l5⟩:=jJ b 5;iterate 8 refine ab ?_
   refine ai rfl rfl (aL [(_,_)]) ?_;refine ai rfl rfl (ap 602) ?_;iterate 5 refine ab ?_
   refine AOps.weak (Weak.nilcell 602 9008 8 3 quc) ?_;refine AOps.weak (Weak.nilcell 602 9009 9 5 rrc) ?_;refine AOps.weak (Weak.nilcell 602 9010 10 5 rrc) ?_;refine AOps.weak (Weak.nilcell 602 9011 11 5 rrc) ?_;iterate 5 refine ab ?_
   refine AWp.loopR (α:=Nat×List Qu×Nat×Nat) [7,37,38,39,40,41,42,43,44,45,46,47,48,49,50,51,52,53,54,55,56,57,58,59] (fun x_=>[(37,i64 (x_.1))]) (fun x_=>[(0,.box [.fz 1 b.length (cl bc b),i64 (x_.2.2.1)]),(602,.box [i64 (dH b).id,tf (dH b).resp,i64 (dH b).op,tf (dH b).aa,tf (dH b).tc,tf (dH b).rd,tf (dH b).ra,i64 (dH b).code,.sl 9008 ((x_.2.2.2)) 0 ((x_.2.1)).length 3,.sl 9009 (0) 0 (([]:List Rr)).length 5,.sl 9010 (0) 0 (([]:List Rr)).length 5,.sl 9011 (0) 0 (([]:List Rr)).length 5]),(9008,.row (cl quc (x_.2.1)) 3 (x_.2.2.2))]) (fun x_=>(x_.1)≤cN b 2∧dz b (cN b 2-(x_.1)) (x_.2.1) (x_.2.2.1)=dz b (cN b 2) [] 12∧(x_.2.1).length=(x_.1)∧(x_.2.2.1)≤b.length) (fun x_=>cN b 2-(x_.1)) (0,[],12,0) ?_ (Back.mk' (HasT.cons HasT.nil) (HasH.cons (HasH.cons (HasH.cons HasH.nil)))) ?_
   ·
    exact ⟨Nat.zero_le _,rfl,rfl,by show 12≤_;omega⟩
   ·
    rintro ⟨i,qs,p,v⟩ hI7;change i≤cN b 2∧dz b (cN b 2-i) qs p=dz b (cN b 2) [] 12∧qs.length=i∧p≤b.length at hI7;obtain ⟨hi,hE,hql,hp⟩:=hI7;refine AWp.as (s':=AS.over _ [7,37,38,39,40,41,42,43,44,45,46,47,48,49,50,51,52,53,54,55,56,57,58,59] [(37,i64 i)] [(0,.box [.fz 1 b.length (cl bc b),i64 p]),(602,.box [i64 (dH b).id,tf (dH b).resp,i64 (dH b).op,tf (dH b).aa,tf (dH b).tc,tf (dH b).rd,tf (dH b).ra,i64 (dH b).code,.sl 9008 (v) 0 (qs).length 3,.sl 9009 (0) 0 (([]:List Rr)).length 5,.sl 9010 (0) 0 (([]:List Rr)).length 5,.sl 9011 (0) 0 (([]:List Rr)).length 5]),(9008,.row (cl quc qs) 3 v)]) rfl ?_;iterate 2 refine ab ?_
    refine am (fun h7_0=>?_) (fun h7_0=>?_)
    ·
     iterate 14 refine ab ?_
     refine AOps.callP (hp':=fun k=>[(0,.box [_,i64 k])]) (1) [(0,0)] [] [(_,_)] (qU b 20 p b.length hb2 (Nat.le_refl _) (by omega)) (fun h8_6=>?_) (fun x k h8_6=>?_)
     ·
      obtain ⟨a,ha⟩:=eW h8_6;obtain ⟨n1,n2,n3⟩:=jf ha;rw [ha];dsimp only [jL];refine ai rfl rfl (aL [(_,_)]) ?_;refine ai rfl rfl (ap 908) ?_;iterate 5 refine ab ?_
      refine AOps.callP (hp':=fun k=>[(0,.box [_,i64 k])]) (1) [(0,0)] [] [(_,_)] (lG b a.2 2 hb2 (by omega) (by omega)) (fun h9_1=>?_) (fun x k h9_1=>?_)
      ·
       refine ab ?_;refine AOps.callP (hp':=fun k=>[(0,.box [_,i64 k])]) (1) [(0,0)] [] [(_,_)] (lG b (a.2+2) 2 hb2 (by omega) (by omega)) (fun h9_3=>?_) (fun x k h9_3=>?_)
       ·
        iterate 6 refine ab ?_
        have g2:¬ b.length<a.2+4:=by have:=d6 h9_3;simp at this;omega
        iterate 3 refine ab ?_
        refine ai rfl rfl (bO 1103 quc [⟨a.1,bN b a.2 2,bN b (a.2+2) 2⟩] [(_,_)]) ?_;iterate 8 refine ab ?_
        refine ⟨(i+1,qs++[⟨a.1,bN b a.2 2,bN b (a.2+2) 2⟩],a.2+4,v+1),?_,Back.mk' (HasT.cons HasT.nil) (HasH.cons (HasH.cons (HasH.cons HasH.nil))),?_⟩
        ·
         try dsimp only
         refine ⟨by omega,?_,by rw [List.length_append,hql];rfl,by omega⟩;rw [← hE,show cN b 2-i=(cN b 2-(i+1))+1 by omega,je ha g2]
        ·
         try dsimp only
         first|omega|(simp;omega)
       ·
        show Post te Tryz.f93 _ (.panic _) _;refine Post.panicH (1) (k) ?_ (by repeat' (first|exact trivial|exact aK rfl|exact bd rfl rfl|exact aV rfl rfl|exact bw rfl rfl|exact aF (fun _=>rfl)|refine ar ?_|refine ⟨rfl,⟨_,rfl,?_⟩,?_⟩|refine ⟨?_,?_⟩)) rfl;obtain ⟨c1,rfl⟩:=cf h9_3;rw [gc g1 hz,bW (e:=20) (by rw [← hE,show cN b 2-i=(cN b 2-(i+1))+1 by omega,gb ha (by simp at c1;omega)])];rfl
      ·
       show Post te Tryz.f93 _ (.panic _) _;refine Post.panicH (1) (k) ?_ (by repeat' (first|exact trivial|exact aK rfl|exact bd rfl rfl|exact aV rfl rfl|exact bw rfl rfl|exact aF (fun _=>rfl)|refine ar ?_|refine ⟨rfl,⟨_,rfl,?_⟩,?_⟩|refine ⟨?_,?_⟩)) rfl;obtain ⟨c1,rfl⟩:=cf h9_1;rw [gc g1 hz,bW (e:=20) (by rw [← hE,show cN b 2-i=(cN b 2-(i+1))+1 by omega,gb ha (by simp at c1;omega)])];rfl
     ·
      show Post te Tryz.f93 _ (.panic _) _;refine Post.panicH (1) (k) ?_ (by repeat' (first|exact trivial|exact aK rfl|exact bd rfl rfl|exact aV rfl rfl|exact bw rfl rfl|exact aF (fun _=>rfl)|refine ar ?_|refine ⟨rfl,⟨_,rfl,?_⟩,?_⟩|refine ⟨?_,?_⟩)) rfl;obtain ⟨e,he1,rfl⟩:=eV h8_6;rw [gc g1 hz,bW (e:=e) (by rw [← hE,show cN b 2-i=(cN b 2-(i+1))+1 by omega,iM he1])];rfl
    ·
     iterate 7 refine ab ?_
     obtain rfl:i=cN b 2:=by omega
     rw [Nat.sub_self,dz] at hE;have hQ:=hE.symm;obtain ⟨p1,hp1⟩:∃ x,x=p:=⟨_,rfl⟩;rw [← hp1] at hQ;iterate 3 refine ab ?_
     refine ai rfl rfl (bO 1303 (fun k=>[AV.ptr 602 0 k]) [9,10,11] [(_,_),(_,_),(_,_)]) ?_;iterate 4 refine ab ?_
     refine AWp.loopR (α:=Nat×List Rr×List Rr×List Rr×Nat×Nat×Nat×Nat) [8,9,65,66,67,68,69,70,71,72,73,74,75,76,77,78,79,80,81,82,83,84,85,86] (fun x_=>[(65,i64 (x_.1))]) (fun x_=>[(0,.box [.fz 1 b.length (cl bc b),i64 (x_.2.2.2.2.1)]),(602,.box [i64 (dH b).id,tf (dH b).resp,i64 (dH b).op,tf (dH b).aa,tf (dH b).tc,tf (dH b).rd,tf (dH b).ra,i64 (dH b).code,.sl 9008 (v) 0 (qs).length 3,.sl 9009 ((x_.2.2.2.2.2.1)) 0 ((x_.2.1)).length 5,.sl 9010 ((x_.2.2.2.2.2.2.1)) 0 ((x_.2.2.1)).length 5,.sl 9011 ((x_.2.2.2.2.2.2.2)) 0 ((x_.2.2.2.1)).length 5]),(9009,.row (cl rrc ((x_.2.1))) 5 ((x_.2.2.2.2.2.1))),(9010,.row (cl rrc ((x_.2.2.1))) 5 ((x_.2.2.2.2.2.2.1))),(9011,.row (cl rrc ((x_.2.2.2.1))) 5 ((x_.2.2.2.2.2.2.2)))]) (fun x_=>(x_.1)≤3∧(x_.2.2.2.2.1)≤b.length∧(((x_.1)=0∧(x_.2.1)=[]∧(x_.2.2.1)=[]∧(x_.2.2.2.1)=[]∧(x_.2.2.2.2.1)=p1)∨((x_.1)=1∧bL b (cN b 3) [] p1=.ok ((x_.2.1),(x_.2.2.2.2.1))∧(x_.2.2.1)=[]∧(x_.2.2.2.1)=[])∨((x_.1)=2∧(∃ p2,bL b (cN b 3) [] p1=.ok ((x_.2.1),p2)∧bL b (cN b 4) [] p2=.ok ((x_.2.2.1),(x_.2.2.2.2.1)))∧(x_.2.2.2.1)=[])∨((x_.1)=3∧∃ p2 p3,bL b (cN b 3) [] p1=.ok ((x_.2.1),p2)∧bL b (cN b 4) [] p2=.ok ((x_.2.2.1),p3)∧bL b (cN b 5) [] p3=.ok ((x_.2.2.2.1),(x_.2.2.2.2.1))))) (fun x_=>3-(x_.1)) (0,[],[],[],p,0,0,0) ?_ (Back.mk' (HasT.cons HasT.nil) (HasH.cons (HasH.cons (HasH.cons (HasH.cons (HasH.cons HasH.nil)))))) ?_
     ·
      exact ⟨Nat.zero_le _,hp,.inl ⟨rfl,rfl,rfl,rfl,hp1.symm⟩⟩
     ·
      rintro ⟨i,A,U,D,p,va,vu,vd⟩ hI13;change i≤3∧p≤b.length∧((i=0∧A=[]∧U=[]∧D=[]∧p=p1)∨(i=1∧bL b (cN b 3) [] p1=.ok (A,p)∧U=[]∧D=[])∨(i=2∧(∃ p2,bL b (cN b 3) [] p1=.ok (A,p2)∧bL b (cN b 4) [] p2=.ok (U,p))∧D=[])∨(i=3∧∃ p2 p3,bL b (cN b 3) [] p1=.ok (A,p2)∧bL b (cN b 4) [] p2=.ok (U,p3)∧bL b (cN b 5) [] p3=.ok (D,p))) at hI13;obtain ⟨hi,hp,hI⟩:=hI13;refine AWp.as (s':=AS.over _ [8,9,65,66,67,68,69,70,71,72,73,74,75,76,77,78,79,80,81,82,83,84,85,86] [(65,i64 i)] [(0,.box [.fz 1 b.length (cl bc b),i64 p]),(602,.box [i64 (dH b).id,tf (dH b).resp,i64 (dH b).op,tf (dH b).aa,tf (dH b).tc,tf (dH b).rd,tf (dH b).ra,i64 (dH b).code,.sl 9008 (v) 0 (qs).length 3,.sl 9009 (va) 0 (A).length 5,.sl 9010 (vu) 0 (U).length 5,.sl 9011 (vd) 0 (D).length 5]),(9009,.row (cl rrc (A)) 5 (va)),(9010,.row (cl rrc (U)) 5 (vu)),(9011,.row (cl rrc (D)) 5 (vd))]) rfl ?_;iterate 2 refine ab ?_
      refine am (fun h13_0=>?_) (fun h13_0=>?_)
      ·
       iterate 8 refine ab ?_
       rcases hI with ⟨rfl,rfl,rfl,rfl,hp1⟩|⟨rfl,hA1,rfl,rfl⟩|⟨rfl,⟨p2,hA1,hU1⟩,rfl⟩|⟨h3,_⟩
       rotate_left 3
       · exfalso;simp at h13_0;omega
       ·
        iterate 2 refine ab ?_
        refine ai rfl rfl (bb (z:=.ptr 602 0 9) (hy:=rfl)) ?_;iterate 12 refine ab ?_
        refine AWp.loopR (α:=Nat×List Rr×Nat×Nat) [74,75,76,77,78,79,80,81,82,83,84,85] (fun x_=>[(74,i64 (x_.1))]) (fun x_=>[(0,.box [.fz 1 b.length (cl bc b),i64 (x_.2.2.1)]),(602,.box [i64 (dH b).id,tf (dH b).resp,i64 (dH b).op,tf (dH b).aa,tf (dH b).tc,tf (dH b).rd,tf (dH b).ra,i64 (dH b).code,.sl 9008 (v) 0 (qs).length 3,.sl 9009 ((x_.2.2.2)) 0 ((x_.2.1)).length 5,.sl 9010 (vu) 0 (([]:List Rr)).length 5,.sl 9011 (vd) 0 (([]:List Rr)).length 5]),(9009,.row (cl rrc ((x_.2.1))) 5 ((x_.2.2.2)))]) (fun x_=>(x_.1)≤cN b 3∧bL b (cN b 3-(x_.1)) (x_.2.1) (x_.2.2.1)=bL b (cN b 3) [] p∧(x_.2.1).length=(x_.1)∧(x_.2.2.1)≤b.length) (fun x_=>cN b 3-(x_.1)) (0,[],p,va) ?_ (Back.mk' (HasT.cons HasT.nil) (HasH.cons (HasH.cons (HasH.cons HasH.nil)))) ?_
        ·
         exact ⟨Nat.zero_le _,rfl,rfl,hp⟩
        ·
         rintro ⟨j,l,q,w⟩ hI16;change j≤cN b 3∧bL b (cN b 3-j) l q=bL b (cN b 3) [] p∧l.length=j∧q≤b.length at hI16;obtain ⟨hj,hE,hll,hq⟩:=hI16;refine AWp.as (s':=AS.over _ [74,75,76,77,78,79,80,81,82,83,84,85] [(74,i64 j)] [(0,.box [.fz 1 b.length (cl bc b),i64 q]),(602,.box [i64 (dH b).id,tf (dH b).resp,i64 (dH b).op,tf (dH b).aa,tf (dH b).tc,tf (dH b).rd,tf (dH b).ra,i64 (dH b).code,.sl 9008 (v) 0 (qs).length 3,.sl 9009 (w) 0 (l).length 5,.sl 9010 (vu) 0 (([]:List Rr)).length 5,.sl 9011 (vd) 0 (([]:List Rr)).length 5]),(9009,.row (cl rrc (l)) 5 (w))]) rfl ?_;iterate 2 refine ab ?_
         refine am (fun h16_0=>?_) (fun h16_0=>?_)
         ·
          iterate 6 refine ab ?_
          rcases hpo:nP (rdR b q) with _|xx
          ·
           refine AWp.drawsX _ [⟨0,[9],[],some 76,_,[]⟩,
            ⟨1,[9],[],some 77,_,[]⟩,
            ⟨2,[77],[602],some 78,_,[]⟩,
            ⟨3,[78],[602],some 79,_,[]⟩,
            ⟨4,[0],[],some 80,_,[]⟩,
            ⟨5,[80],[0,1,2,3,4,5,6,7],some 81,_,[(0,_)]⟩,
            ⟨6,[81],[1806],some 82,_,[(1806,_)]⟩,
            ⟨7,[79,82],[1806,9009],some 83,_,[(9009,_)]⟩,
            ⟨8,[76],[602],some 84,_,[]⟩,
            ⟨9,[83,84],[602,9009],none,_,[(602,_)]⟩]
            [⟨0,[9],[],some 76,.any,[]⟩,
             ⟨1,[9],[],some 77,.any,[]⟩,
             ⟨2,[77],[602],some 78,.any,[]⟩,
             ⟨3,[78],[602],some 79,.any,[]⟩,
             ⟨4,[0],[],some 80,.any,[]⟩,
             ⟨5,[80],[0,1,2,3,4,5,6,7],some 81,.any,[(0,.box [])]⟩,
             ⟨6,[81],[1806],some 82,.any,[(1806,.box [])]⟩,
             ⟨7,[79,82],[1806,9009],some 83,.any,[(9009,.box [])]⟩,
             ⟨8,[76],[602],some 84,.any,[]⟩,
             ⟨9,[83,84],[602,9009],none,.any,[(602,.box [])]⟩]
            cE rfl (by kernel_rfl) ⟨DS.okX_over fun s0=>(OpAt.go rfl rfl (aA)).x,
             DS.okX_over fun s0=>(OpAt.go rfl rfl (aA)).x,
             DS.okX_over fun s0=>(OpAt.go rfl rfl (cW)).x,
             DS.okX_over fun s0=>(OpAt.go rfl rfl (bb)).x,
             DS.okX_over fun s0=>(OpAt.go rfl rfl (aA)).x,
             DS.okX_over fun s0=>db (hp':=fun k=>[(0,.box [_,i64 k])]) (1) [(0,0)] [] [(_,_)] (lE b q hb2 (by omega)) (fun x k h17_5=>?_),
             DS.okX_over fun s0=>(OpAt.go rfl rfl (bO 1806 rrc [(jL (rdR b q)).1] [(_,_)])).x,
             DS.okX_over fun s0=>(OpAt.go rfl rfl (gY)).x,
             DS.okX_over fun s0=>(OpAt.go rfl rfl (cW)).x,
             DS.okX_over fun s0=>(OpAt.go rfl rfl (cI)).x,trivial⟩ ?_ (fun _ _ h=>h)
           ·
            exact absurd (hpo.symm.trans h17_5) (by simp)
           dsimp only [cS,DS.upd,AS.seto];refine ab ?_;obtain ⟨a,ha⟩:=eW hpo;have hr:=qc ha;rw [ha];dsimp only [jL];iterate 3 refine ab ?_
           refine ⟨(j+1,l++[a.1],a.2,w+1),?_,Back.mk' (HasT.cons HasT.nil) (HasH.cons (HasH.cons (HasH.cons HasH.nil))),?_⟩
           ·
            try dsimp only
            refine ⟨by omega,?_,by rw [List.length_append,hll];rfl,hr.2⟩;rw [← hE,show cN b 3-j=(cN b 3-(j+1))+1 by omega,gK ha]
           ·
            try dsimp only
            first|omega|(simp;omega)
          ·
           refine AWp.drawsX _ [⟨0,[9],[],some 76,_,[]⟩,
            ⟨1,[9],[],some 77,_,[]⟩,
            ⟨2,[77],[602],some 78,_,[]⟩,
            ⟨3,[78],[602],some 79,_,[]⟩,
            ⟨4,[0],[],some 80,_,[]⟩,
            ⟨5,[80],[0,1,2,3,4,5,6,7],some 81,_,[(0,_)]⟩,
            ⟨6,[81],[1806],some 82,.fz 0 1 [],[(1806,.box [])]⟩,
            ⟨7,[79,82],[1806,9009],some 83,.fz 0 1 [],[(9009,.box [])]⟩,
            ⟨8,[76],[602],some 84,_,[]⟩,
            ⟨9,[83,84],[602,9009],none,.fz 0 1 [],[(602,.box [])]⟩]
            [⟨0,[9],[],some 76,.any,[]⟩,
             ⟨1,[9],[],some 77,.any,[]⟩,
             ⟨2,[77],[602],some 78,.any,[]⟩,
             ⟨3,[78],[602],some 79,.any,[]⟩,
             ⟨4,[0],[],some 80,.any,[]⟩,
             ⟨5,[80],[0,1,2,3,4,5,6,7],some 81,.any,[(0,.box [])]⟩,
             ⟨6,[81],[1806],some 82,.any,[(1806,.box [])]⟩,
             ⟨7,[79,82],[1806,9009],some 83,.any,[(9009,.box [])]⟩,
             ⟨8,[76],[602],some 84,.any,[]⟩,
             ⟨9,[83,84],[602,9009],none,.any,[(602,.box [])]⟩]
            cE rfl (by kernel_rfl) ⟨DS.okX_over fun s0=>(OpAt.go rfl rfl (aA)).x,
             DS.okX_over fun s0=>(OpAt.go rfl rfl (aA)).x,
             DS.okX_over fun s0=>(OpAt.go rfl rfl (cW)).x,
             DS.okX_over fun s0=>(OpAt.go rfl rfl (bb)).x,
             DS.okX_over fun s0=>(OpAt.go rfl rfl (aA)).x,
             DS.okX_over fun s0=>db (hp':=fun k=>[(0,.box [_,i64 k])]) (1) [(0,0)] [] [(_,_)] (AC.bad hpo (lE b q hb2 (by omega))) (fun x k h17_5=>?_),
             DS.okX_over fun s0=>OpAtX.bot (d:=81) rfl,
             DS.okX_over fun s0=>OpAtX.bot (d:=82) rfl,
             DS.okX_over fun s0=>(OpAt.go rfl rfl (cW)).x,
             DS.okX_over fun s0=>OpAtX.bot (d:=83) rfl,trivial⟩ ?_ (fun _ _ h=>h)
           ·
            show Post te Tryz.f93 _ (.panic _) _;refine Post.panicH (1) (k) ?_ (by repeat' (first|exact trivial|exact aK rfl|exact bd rfl rfl|exact aV rfl rfl|exact bw rfl rfl|exact aF (fun _=>rfl)|refine ar ?_|refine ⟨rfl,⟨_,rfl,?_⟩,?_⟩|refine ⟨?_,?_⟩)) rfl;obtain ⟨e,he1,rfl⟩:=eV h17_5;have hX:bL b (cN b 3) [] p=.error e:=by rw [← hE,show cN b 3-j=(cN b 3-(j+1))+1 by omega,ga he1]
            rw [hp1] at hX;rw [gc g1 hz,aY hQ];dsimp only;rw [bW hX];rfl
           dsimp only [cS,DS.upd,AS.seto];exact AWp.bot (d:=81) rfl
         ·
          iterate 5 refine ab ?_
          obtain rfl:j=cN b 3:=by omega
          rw [Nat.sub_self,bL] at hE;have hA:=hE.symm;iterate 3 refine ab ?_
          refine ⟨(1,l,([]:List Rr),([]:List Rr),q,w,vu,vd),?_,Back.mk' (HasT.cons HasT.nil) (HasH.cons (HasH.cons (HasH.cons (HasH.cons (HasH.cons HasH.nil))))),?_⟩
          ·
           try dsimp only
           exact ⟨by omega,hq,.inr (.inl ⟨rfl,hp1▸hA,rfl,rfl⟩)⟩
          ·
           try dsimp only
           first|omega|(simp;omega)
       ·
        iterate 2 refine ab ?_
        refine ai rfl rfl (bb (z:=.ptr 602 0 10) (hy:=rfl)) ?_;iterate 12 refine ab ?_
        refine AWp.loopR (α:=Nat×List Rr×Nat×Nat) [74,75,76,77,78,79,80,81,82,83,84,85] (fun x_=>[(74,i64 (x_.1))]) (fun x_=>[(0,.box [.fz 1 b.length (cl bc b),i64 (x_.2.2.1)]),(602,.box [i64 (dH b).id,tf (dH b).resp,i64 (dH b).op,tf (dH b).aa,tf (dH b).tc,tf (dH b).rd,tf (dH b).ra,i64 (dH b).code,.sl 9008 (v) 0 (qs).length 3,.sl 9009 (va) 0 (A).length 5,.sl 9010 ((x_.2.2.2)) 0 ((x_.2.1)).length 5,.sl 9011 (vd) 0 (([]:List Rr)).length 5]),(9010,.row (cl rrc ((x_.2.1))) 5 ((x_.2.2.2)))]) (fun x_=>(x_.1)≤cN b 4∧bL b (cN b 4-(x_.1)) (x_.2.1) (x_.2.2.1)=bL b (cN b 4) [] p∧(x_.2.1).length=(x_.1)∧(x_.2.2.1)≤b.length) (fun x_=>cN b 4-(x_.1)) (0,[],p,vu) ?_ (Back.mk' (HasT.cons HasT.nil) (HasH.cons (HasH.cons (HasH.cons HasH.nil)))) ?_
        ·
         exact ⟨Nat.zero_le _,rfl,rfl,hp⟩
        ·
         rintro ⟨j,l,q,w⟩ hI16;change j≤cN b 4∧bL b (cN b 4-j) l q=bL b (cN b 4) [] p∧l.length=j∧q≤b.length at hI16;obtain ⟨hj,hE,hll,hq⟩:=hI16;refine AWp.as (s':=AS.over _ [74,75,76,77,78,79,80,81,82,83,84,85] [(74,i64 j)] [(0,.box [.fz 1 b.length (cl bc b),i64 q]),(602,.box [i64 (dH b).id,tf (dH b).resp,i64 (dH b).op,tf (dH b).aa,tf (dH b).tc,tf (dH b).rd,tf (dH b).ra,i64 (dH b).code,.sl 9008 (v) 0 (qs).length 3,.sl 9009 (va) 0 (A).length 5,.sl 9010 (w) 0 (l).length 5,.sl 9011 (vd) 0 (([]:List Rr)).length 5]),(9010,.row (cl rrc (l)) 5 (w))]) rfl ?_;iterate 2 refine ab ?_
         refine am (fun h16_0=>?_) (fun h16_0=>?_)
         ·
          iterate 6 refine ab ?_
          rcases hpo:nP (rdR b q) with _|xx
          ·
           refine AWp.drawsX _ [⟨0,[9],[],some 76,_,[]⟩,
            ⟨1,[9],[],some 77,_,[]⟩,
            ⟨2,[77],[602],some 78,_,[]⟩,
            ⟨3,[78],[602],some 79,_,[]⟩,
            ⟨4,[0],[],some 80,_,[]⟩,
            ⟨5,[80],[0,1,2,3,4,5,6,7],some 81,_,[(0,_)]⟩,
            ⟨6,[81],[1806],some 82,_,[(1806,_)]⟩,
            ⟨7,[79,82],[1806,9010],some 83,_,[(9010,_)]⟩,
            ⟨8,[76],[602],some 84,_,[]⟩,
            ⟨9,[83,84],[602,9010],none,_,[(602,_)]⟩]
            [⟨0,[9],[],some 76,.any,[]⟩,
             ⟨1,[9],[],some 77,.any,[]⟩,
             ⟨2,[77],[602],some 78,.any,[]⟩,
             ⟨3,[78],[602],some 79,.any,[]⟩,
             ⟨4,[0],[],some 80,.any,[]⟩,
             ⟨5,[80],[0,1,2,3,4,5,6,7],some 81,.any,[(0,.box [])]⟩,
             ⟨6,[81],[1806],some 82,.any,[(1806,.box [])]⟩,
             ⟨7,[79,82],[1806,9010],some 83,.any,[(9010,.box [])]⟩,
             ⟨8,[76],[602],some 84,.any,[]⟩,
             ⟨9,[83,84],[602,9010],none,.any,[(602,.box [])]⟩]
            cE rfl (by kernel_rfl) ⟨DS.okX_over fun s0=>(OpAt.go rfl rfl (aA)).x,
             DS.okX_over fun s0=>(OpAt.go rfl rfl (aA)).x,
             DS.okX_over fun s0=>(OpAt.go rfl rfl (cW)).x,
             DS.okX_over fun s0=>(OpAt.go rfl rfl (bb)).x,
             DS.okX_over fun s0=>(OpAt.go rfl rfl (aA)).x,
             DS.okX_over fun s0=>db (hp':=fun k=>[(0,.box [_,i64 k])]) (1) [(0,0)] [] [(_,_)] (lE b q hb2 (by omega)) (fun x k h17_5=>?_),
             DS.okX_over fun s0=>(OpAt.go rfl rfl (bO 1806 rrc [(jL (rdR b q)).1] [(_,_)])).x,
             DS.okX_over fun s0=>(OpAt.go rfl rfl (gY)).x,
             DS.okX_over fun s0=>(OpAt.go rfl rfl (cW)).x,
             DS.okX_over fun s0=>(OpAt.go rfl rfl (cI)).x,trivial⟩ ?_ (fun _ _ h=>h)
           ·
            exact absurd (hpo.symm.trans h17_5) (by simp)
           dsimp only [cS,DS.upd,AS.seto];refine ab ?_;obtain ⟨a,ha⟩:=eW hpo;have hr:=qc ha;rw [ha];dsimp only [jL];iterate 3 refine ab ?_
           refine ⟨(j+1,l++[a.1],a.2,w+1),?_,Back.mk' (HasT.cons HasT.nil) (HasH.cons (HasH.cons (HasH.cons HasH.nil))),?_⟩
           ·
            try dsimp only
            refine ⟨by omega,?_,by rw [List.length_append,hll];rfl,hr.2⟩;rw [← hE,show cN b 4-j=(cN b 4-(j+1))+1 by omega,gK ha]
           ·
            try dsimp only
            first|omega|(simp;omega)
          ·
           refine AWp.drawsX _ [⟨0,[9],[],some 76,_,[]⟩,
            ⟨1,[9],[],some 77,_,[]⟩,
            ⟨2,[77],[602],some 78,_,[]⟩,
            ⟨3,[78],[602],some 79,_,[]⟩,
            ⟨4,[0],[],some 80,_,[]⟩,
            ⟨5,[80],[0,1,2,3,4,5,6,7],some 81,_,[(0,_)]⟩,
            ⟨6,[81],[1806],some 82,.fz 0 1 [],[(1806,.box [])]⟩,
            ⟨7,[79,82],[1806,9010],some 83,.fz 0 1 [],[(9010,.box [])]⟩,
            ⟨8,[76],[602],some 84,_,[]⟩,
            ⟨9,[83,84],[602,9010],none,.fz 0 1 [],[(602,.box [])]⟩]
            [⟨0,[9],[],some 76,.any,[]⟩,
             ⟨1,[9],[],some 77,.any,[]⟩,
             ⟨2,[77],[602],some 78,.any,[]⟩,
             ⟨3,[78],[602],some 79,.any,[]⟩,
             ⟨4,[0],[],some 80,.any,[]⟩,
             ⟨5,[80],[0,1,2,3,4,5,6,7],some 81,.any,[(0,.box [])]⟩,
             ⟨6,[81],[1806],some 82,.any,[(1806,.box [])]⟩,
             ⟨7,[79,82],[1806,9010],some 83,.any,[(9010,.box [])]⟩,
             ⟨8,[76],[602],some 84,.any,[]⟩,
             ⟨9,[83,84],[602,9010],none,.any,[(602,.box [])]⟩]
            cE rfl (by kernel_rfl) ⟨DS.okX_over fun s0=>(OpAt.go rfl rfl (aA)).x,
             DS.okX_over fun s0=>(OpAt.go rfl rfl (aA)).x,
             DS.okX_over fun s0=>(OpAt.go rfl rfl (cW)).x,
             DS.okX_over fun s0=>(OpAt.go rfl rfl (bb)).x,
             DS.okX_over fun s0=>(OpAt.go rfl rfl (aA)).x,
             DS.okX_over fun s0=>db (hp':=fun k=>[(0,.box [_,i64 k])]) (1) [(0,0)] [] [(_,_)] (AC.bad hpo (lE b q hb2 (by omega))) (fun x k h17_5=>?_),
             DS.okX_over fun s0=>OpAtX.bot (d:=81) rfl,
             DS.okX_over fun s0=>OpAtX.bot (d:=82) rfl,
             DS.okX_over fun s0=>(OpAt.go rfl rfl (cW)).x,
             DS.okX_over fun s0=>OpAtX.bot (d:=83) rfl,trivial⟩ ?_ (fun _ _ h=>h)
           ·
            show Post te Tryz.f93 _ (.panic _) _;refine Post.panicH (1) (k) ?_ (by repeat' (first|exact trivial|exact aK rfl|exact bd rfl rfl|exact aV rfl rfl|exact bw rfl rfl|exact aF (fun _=>rfl)|refine ar ?_|refine ⟨rfl,⟨_,rfl,?_⟩,?_⟩|refine ⟨?_,?_⟩)) rfl;obtain ⟨e,he1,rfl⟩:=eV h17_5;have hX:bL b (cN b 4) [] p=.error e:=by rw [← hE,show cN b 4-j=(cN b 4-(j+1))+1 by omega,ga he1]
            rw [gc g1 hz,aY hQ];dsimp only;rw [aY hA1];dsimp only;rw [bW hX];rfl
           dsimp only [cS,DS.upd,AS.seto];exact AWp.bot (d:=81) rfl
         ·
          iterate 5 refine ab ?_
          obtain rfl:j=cN b 4:=by omega
          rw [Nat.sub_self,bL] at hE;have hA:=hE.symm;iterate 3 refine ab ?_
          refine ⟨(2,A,l,([]:List Rr),q,va,w,vd),?_,Back.mk' (HasT.cons HasT.nil) (HasH.cons (HasH.cons (HasH.cons (HasH.cons (HasH.cons HasH.nil))))),?_⟩
          ·
           try dsimp only
           exact ⟨by omega,hq,.inr (.inr (.inl ⟨rfl,⟨_,hA1,hA⟩,rfl⟩))⟩
          ·
           try dsimp only
           first|omega|(simp;omega)
       ·
        iterate 2 refine ab ?_
        refine ai rfl rfl (bb (z:=.ptr 602 0 11) (hy:=rfl)) ?_;iterate 12 refine ab ?_
        refine AWp.loopR (α:=Nat×List Rr×Nat×Nat) [74,75,76,77,78,79,80,81,82,83,84,85] (fun x_=>[(74,i64 (x_.1))]) (fun x_=>[(0,.box [.fz 1 b.length (cl bc b),i64 (x_.2.2.1)]),(602,.box [i64 (dH b).id,tf (dH b).resp,i64 (dH b).op,tf (dH b).aa,tf (dH b).tc,tf (dH b).rd,tf (dH b).ra,i64 (dH b).code,.sl 9008 (v) 0 (qs).length 3,.sl 9009 (va) 0 (A).length 5,.sl 9010 (vu) 0 (U).length 5,.sl 9011 ((x_.2.2.2)) 0 ((x_.2.1)).length 5]),(9011,.row (cl rrc ((x_.2.1))) 5 ((x_.2.2.2)))]) (fun x_=>(x_.1)≤cN b 5∧bL b (cN b 5-(x_.1)) (x_.2.1) (x_.2.2.1)=bL b (cN b 5) [] p∧(x_.2.1).length=(x_.1)∧(x_.2.2.1)≤b.length) (fun x_=>cN b 5-(x_.1)) (0,[],p,vd) ?_ (Back.mk' (HasT.cons HasT.nil) (HasH.cons (HasH.cons (HasH.cons HasH.nil)))) ?_
        ·
         exact ⟨Nat.zero_le _,rfl,rfl,hp⟩
        ·
         rintro ⟨j,l,q,w⟩ hI16;change j≤cN b 5∧bL b (cN b 5-j) l q=bL b (cN b 5) [] p∧l.length=j∧q≤b.length at hI16;obtain ⟨hj,hE,hll,hq⟩:=hI16;refine AWp.as (s':=AS.over _ [74,75,76,77,78,79,80,81,82,83,84,85] [(74,i64 j)] [(0,.box [.fz 1 b.length (cl bc b),i64 q]),(602,.box [i64 (dH b).id,tf (dH b).resp,i64 (dH b).op,tf (dH b).aa,tf (dH b).tc,tf (dH b).rd,tf (dH b).ra,i64 (dH b).code,.sl 9008 (v) 0 (qs).length 3,.sl 9009 (va) 0 (A).length 5,.sl 9010 (vu) 0 (U).length 5,.sl 9011 (w) 0 (l).length 5]),(9011,.row (cl rrc (l)) 5 (w))]) rfl ?_;iterate 2 refine ab ?_
         refine am (fun h16_0=>?_) (fun h16_0=>?_)
         ·
          iterate 6 refine ab ?_
          rcases hpo:nP (rdR b q) with _|xx
          ·
           refine AWp.drawsX _ [⟨0,[9],[],some 76,_,[]⟩,
            ⟨1,[9],[],some 77,_,[]⟩,
            ⟨2,[77],[602],some 78,_,[]⟩,
            ⟨3,[78],[602],some 79,_,[]⟩,
            ⟨4,[0],[],some 80,_,[]⟩,
            ⟨5,[80],[0,1,2,3,4,5,6,7],some 81,_,[(0,_)]⟩,
            ⟨6,[81],[1806],some 82,_,[(1806,_)]⟩,
            ⟨7,[79,82],[1806,9011],some 83,_,[(9011,_)]⟩,
            ⟨8,[76],[602],some 84,_,[]⟩,
            ⟨9,[83,84],[602,9011],none,_,[(602,_)]⟩]
            [⟨0,[9],[],some 76,.any,[]⟩,
             ⟨1,[9],[],some 77,.any,[]⟩,
             ⟨2,[77],[602],some 78,.any,[]⟩,
             ⟨3,[78],[602],some 79,.any,[]⟩,
             ⟨4,[0],[],some 80,.any,[]⟩,
             ⟨5,[80],[0,1,2,3,4,5,6,7],some 81,.any,[(0,.box [])]⟩,
             ⟨6,[81],[1806],some 82,.any,[(1806,.box [])]⟩,
             ⟨7,[79,82],[1806,9011],some 83,.any,[(9011,.box [])]⟩,
             ⟨8,[76],[602],some 84,.any,[]⟩,
             ⟨9,[83,84],[602,9011],none,.any,[(602,.box [])]⟩]
            cE rfl (by kernel_rfl) ⟨DS.okX_over fun s0=>(OpAt.go rfl rfl (aA)).x,
             DS.okX_over fun s0=>(OpAt.go rfl rfl (aA)).x,
             DS.okX_over fun s0=>(OpAt.go rfl rfl (cW)).x,
             DS.okX_over fun s0=>(OpAt.go rfl rfl (bb)).x,
             DS.okX_over fun s0=>(OpAt.go rfl rfl (aA)).x,
             DS.okX_over fun s0=>db (hp':=fun k=>[(0,.box [_,i64 k])]) (1) [(0,0)] [] [(_,_)] (lE b q hb2 (by omega)) (fun x k h17_5=>?_),
             DS.okX_over fun s0=>(OpAt.go rfl rfl (bO 1806 rrc [(jL (rdR b q)).1] [(_,_)])).x,
             DS.okX_over fun s0=>(OpAt.go rfl rfl (gY)).x,
             DS.okX_over fun s0=>(OpAt.go rfl rfl (cW)).x,
             DS.okX_over fun s0=>(OpAt.go rfl rfl (cI)).x,trivial⟩ ?_ (fun _ _ h=>h)
           ·
            exact absurd (hpo.symm.trans h17_5) (by simp)
           dsimp only [cS,DS.upd,AS.seto];refine ab ?_;obtain ⟨a,ha⟩:=eW hpo;have hr:=qc ha;rw [ha];dsimp only [jL];iterate 3 refine ab ?_
           refine ⟨(j+1,l++[a.1],a.2,w+1),?_,Back.mk' (HasT.cons HasT.nil) (HasH.cons (HasH.cons (HasH.cons HasH.nil))),?_⟩
           ·
            try dsimp only
            refine ⟨by omega,?_,by rw [List.length_append,hll];rfl,hr.2⟩;rw [← hE,show cN b 5-j=(cN b 5-(j+1))+1 by omega,gK ha]
           ·
            try dsimp only
            first|omega|(simp;omega)
          ·
           refine AWp.drawsX _ [⟨0,[9],[],some 76,_,[]⟩,
            ⟨1,[9],[],some 77,_,[]⟩,
            ⟨2,[77],[602],some 78,_,[]⟩,
            ⟨3,[78],[602],some 79,_,[]⟩,
            ⟨4,[0],[],some 80,_,[]⟩,
            ⟨5,[80],[0,1,2,3,4,5,6,7],some 81,_,[(0,_)]⟩,
            ⟨6,[81],[1806],some 82,.fz 0 1 [],[(1806,.box [])]⟩,
            ⟨7,[79,82],[1806,9011],some 83,.fz 0 1 [],[(9011,.box [])]⟩,
            ⟨8,[76],[602],some 84,_,[]⟩,
            ⟨9,[83,84],[602,9011],none,.fz 0 1 [],[(602,.box [])]⟩]
            [⟨0,[9],[],some 76,.any,[]⟩,
             ⟨1,[9],[],some 77,.any,[]⟩,
             ⟨2,[77],[602],some 78,.any,[]⟩,
             ⟨3,[78],[602],some 79,.any,[]⟩,
             ⟨4,[0],[],some 80,.any,[]⟩,
             ⟨5,[80],[0,1,2,3,4,5,6,7],some 81,.any,[(0,.box [])]⟩,
             ⟨6,[81],[1806],some 82,.any,[(1806,.box [])]⟩,
             ⟨7,[79,82],[1806,9011],some 83,.any,[(9011,.box [])]⟩,
             ⟨8,[76],[602],some 84,.any,[]⟩,
             ⟨9,[83,84],[602,9011],none,.any,[(602,.box [])]⟩]
            cE rfl (by kernel_rfl) ⟨DS.okX_over fun s0=>(OpAt.go rfl rfl (aA)).x,
             DS.okX_over fun s0=>(OpAt.go rfl rfl (aA)).x,
             DS.okX_over fun s0=>(OpAt.go rfl rfl (cW)).x,
             DS.okX_over fun s0=>(OpAt.go rfl rfl (bb)).x,
             DS.okX_over fun s0=>(OpAt.go rfl rfl (aA)).x,
             DS.okX_over fun s0=>db (hp':=fun k=>[(0,.box [_,i64 k])]) (1) [(0,0)] [] [(_,_)] (AC.bad hpo (lE b q hb2 (by omega))) (fun x k h17_5=>?_),
             DS.okX_over fun s0=>OpAtX.bot (d:=81) rfl,
             DS.okX_over fun s0=>OpAtX.bot (d:=82) rfl,
             DS.okX_over fun s0=>(OpAt.go rfl rfl (cW)).x,
             DS.okX_over fun s0=>OpAtX.bot (d:=83) rfl,trivial⟩ ?_ (fun _ _ h=>h)
           ·
            show Post te Tryz.f93 _ (.panic _) _;refine Post.panicH (1) (k) ?_ (by repeat' (first|exact trivial|exact aK rfl|exact bd rfl rfl|exact aV rfl rfl|exact bw rfl rfl|exact aF (fun _=>rfl)|refine ar ?_|refine ⟨rfl,⟨_,rfl,?_⟩,?_⟩|refine ⟨?_,?_⟩)) rfl;obtain ⟨e,he1,rfl⟩:=eV h17_5;have hX:bL b (cN b 5) [] p=.error e:=by rw [← hE,show cN b 5-j=(cN b 5-(j+1))+1 by omega,ga he1]
            rw [gc g1 hz,aY hQ];dsimp only;rw [aY hA1];dsimp only;rw [aY hU1];dsimp only;rw [bW hX];rfl
           dsimp only [cS,DS.upd,AS.seto];exact AWp.bot (d:=81) rfl
         ·
          iterate 5 refine ab ?_
          obtain rfl:j=cN b 5:=by omega
          rw [Nat.sub_self,bL] at hE;have hA:=hE.symm;iterate 3 refine ab ?_
          refine ⟨(3,A,U,l,q,va,vu,w),?_,Back.mk' (HasT.cons HasT.nil) (HasH.cons (HasH.cons (HasH.cons (HasH.cons (HasH.cons HasH.nil))))),?_⟩
          ·
           try dsimp only
           exact ⟨by omega,hq,.inr (.inr (.inr ⟨rfl,_,_,hA1,hU1,hA⟩))⟩
          ·
           try dsimp only
           first|omega|(simp;omega)
      ·
       iterate 5 refine ab ?_
       rcases hpo:pNo (decide ((p:Int)=(b.length:Int))) 41 with _|xx
       ·
        obtain ⟨p2,p3,hA,hU,hD⟩:∃ p2 p3,bL b (cN b 3) [] p1=.ok (A,p2)∧bL b (cN b 4) [] p2=.ok (U,p3)∧bL b (cN b 5) [] p3=.ok (D,p):=by
         simp at h13_0;rcases hI with ⟨h,_⟩|⟨h,_⟩|⟨h,_⟩|⟨_,h⟩
         · omega
         · omega
         · omega
         · exact h
        have hM:rdM b=if p=b.length then .ok ⟨hdM b,qs,A,U,D⟩ else .error 41:=by
         rw [gc g1 hz,aY hQ];dsimp only;rw [aY hA];dsimp only;rw [aY hU];dsimp only;rw [aY hD]
        refine AWp.drawsX _ [⟨0,[0],[],some 87,_,[]⟩,
         ⟨1,[87],[0],some 88,_,[]⟩,
         ⟨2,[88],[0],some 89,_,[]⟩,
         ⟨3,[89],[0],some 90,_,[]⟩,
         ⟨4,[0],[],some 91,_,[]⟩,
         ⟨5,[91],[0],some 92,_,[]⟩,
         ⟨6,[92],[0],some 93,_,[]⟩,
         ⟨7,[93],[0],some 94,_,[]⟩,
         ⟨8,[94],[],some 95,_,[]⟩,
         ⟨9,[90,95],[],some 96,_,[]⟩,
         ⟨10,[96],[0,1,2,3,4,5,6,7],some 97,_,[]⟩]
         [⟨0,[0],[],some 87,.any,[]⟩,
          ⟨1,[87],[0],some 88,.any,[]⟩,
          ⟨2,[88],[0],some 89,.any,[]⟩,
          ⟨3,[89],[0],some 90,.any,[]⟩,
          ⟨4,[0],[],some 91,.any,[]⟩,
          ⟨5,[91],[0],some 92,.any,[]⟩,
          ⟨6,[92],[0],some 93,.any,[]⟩,
          ⟨7,[93],[0],some 94,.any,[]⟩,
          ⟨8,[94],[],some 95,.any,[]⟩,
          ⟨9,[90,95],[],some 96,.any,[]⟩,
          ⟨10,[96],[0,1,2,3,4,5,6,7],some 97,.any,[]⟩]
         cE rfl (by kernel_rfl) ⟨DS.okX_over fun s0=>(OpAt.go rfl rfl (aA)).x,
          DS.okX_over fun s0=>(OpAt.go rfl rfl (cW)).x,
          DS.okX_over fun s0=>(OpAt.go rfl rfl (fJ)).x,
          DS.okX_over fun s0=>(OpAt.go rfl rfl (bb)).x,
          DS.okX_over fun s0=>(OpAt.go rfl rfl (aA)).x,
          DS.okX_over fun s0=>(OpAt.go rfl rfl (cW)).x,
          DS.okX_over fun s0=>(OpAt.go rfl rfl (fJ)).x,
          DS.okX_over fun s0=>(OpAt.go rfl rfl (bb)).x,
          DS.okX_over fun s0=>(OpAt.go rfl rfl (jE)).x,
          DS.okX_over fun s0=>(OpAt.go rfl rfl (dm)).x,
          DS.okX_over fun s0=>db (hp':=fun k=>[]) (1) [] [] [] (co (decide ((p:Int)=(b.length:Int))) 41) (fun x k h20_10=>?_),trivial⟩ ?_ (fun _ _ h=>h)
        ·
         exact absurd (hpo.symm.trans h20_10) (by simp)
        dsimp only [cS,DS.upd,AS.seto];iterate 2 refine ab ?_
        obtain rfl:p=b.length:=by have:=d6 hpo;simp at this;omega
        rw [if_pos rfl] at hM;refine AOps.weak (Weak.fullD 1 0 [] (t:=[(2,.ptr 100 0 0),(6,.ptr 602 0 0)]) (hl:=[(0,.box [.fz 1 b.length (cl bc b),i64 b.length]),(602,.box [i64 (dH b).id,tf (dH b).resp,i64 (dH b).op,tf (dH b).aa,tf (dH b).tc,tf (dH b).rd,tf (dH b).ra,i64 (dH b).code,.fz 0 qs.length (cl quc qs),.fz 0 A.length (cl rrc A),.fz 0 U.length (cl rrc U),.fz 0 D.length (cl rrc D)]),(100,.box [i64 0,tf false,i64 0,tf false,tf false,tf false,tf false,i64 0,.v (.slice none 0 0),.v (.slice none 0 0),.v (.slice none 0 0),.v (.slice none 0 0)])])) ?_;iterate 4 refine ab ?_
        rw [hM];refine Fin.retP (by rfl) ?_;refine im (1) (0) [] [_] [_] [(_,_)] ?_;rfl
       ·
        obtain ⟨p2,p3,hA,hU,hD⟩:∃ p2 p3,bL b (cN b 3) [] p1=.ok (A,p2)∧bL b (cN b 4) [] p2=.ok (U,p3)∧bL b (cN b 5) [] p3=.ok (D,p):=by
         simp at h13_0;rcases hI with ⟨h,_⟩|⟨h,_⟩|⟨h,_⟩|⟨_,h⟩
         · omega
         · omega
         · omega
         · exact h
        have hM:rdM b=if p=b.length then .ok ⟨hdM b,qs,A,U,D⟩ else .error 41:=by
         rw [gc g1 hz,aY hQ];dsimp only;rw [aY hA];dsimp only;rw [aY hU];dsimp only;rw [aY hD]
        refine AWp.drawsX _ [⟨0,[0],[],some 87,_,[]⟩,
         ⟨1,[87],[0],some 88,_,[]⟩,
         ⟨2,[88],[0],some 89,_,[]⟩,
         ⟨3,[89],[0],some 90,_,[]⟩,
         ⟨4,[0],[],some 91,_,[]⟩,
         ⟨5,[91],[0],some 92,_,[]⟩,
         ⟨6,[92],[0],some 93,_,[]⟩,
         ⟨7,[93],[0],some 94,_,[]⟩,
         ⟨8,[94],[],some 95,_,[]⟩,
         ⟨9,[90,95],[],some 96,_,[]⟩,
         ⟨10,[96],[0,1,2,3,4,5,6,7],some 97,_,[]⟩]
         [⟨0,[0],[],some 87,.any,[]⟩,
          ⟨1,[87],[0],some 88,.any,[]⟩,
          ⟨2,[88],[0],some 89,.any,[]⟩,
          ⟨3,[89],[0],some 90,.any,[]⟩,
          ⟨4,[0],[],some 91,.any,[]⟩,
          ⟨5,[91],[0],some 92,.any,[]⟩,
          ⟨6,[92],[0],some 93,.any,[]⟩,
          ⟨7,[93],[0],some 94,.any,[]⟩,
          ⟨8,[94],[],some 95,.any,[]⟩,
          ⟨9,[90,95],[],some 96,.any,[]⟩,
          ⟨10,[96],[0,1,2,3,4,5,6,7],some 97,.any,[]⟩]
         cE rfl (by kernel_rfl) ⟨DS.okX_over fun s0=>(OpAt.go rfl rfl (aA)).x,
          DS.okX_over fun s0=>(OpAt.go rfl rfl (cW)).x,
          DS.okX_over fun s0=>(OpAt.go rfl rfl (fJ)).x,
          DS.okX_over fun s0=>(OpAt.go rfl rfl (bb)).x,
          DS.okX_over fun s0=>(OpAt.go rfl rfl (aA)).x,
          DS.okX_over fun s0=>(OpAt.go rfl rfl (cW)).x,
          DS.okX_over fun s0=>(OpAt.go rfl rfl (fJ)).x,
          DS.okX_over fun s0=>(OpAt.go rfl rfl (bb)).x,
          DS.okX_over fun s0=>(OpAt.go rfl rfl (jE)).x,
          DS.okX_over fun s0=>(OpAt.go rfl rfl (dm)).x,
          DS.okX_over fun s0=>db (hp':=fun k=>[]) (1) [] [] [] (AC.bad hpo (co (decide ((p:Int)=(b.length:Int))) 41)) (fun x k h20_10=>?_),trivial⟩ ?_ (fun _ _ h=>h)
        ·
         show Post te Tryz.f93 _ (.panic _) _;refine Post.panicH (1) (p) ?_ (by repeat' (first|exact trivial|exact aK rfl|exact bd rfl rfl|exact aV rfl rfl|exact bw rfl rfl|exact aF (fun _=>rfl)|refine ar ?_|refine ⟨rfl,⟨_,rfl,?_⟩,?_⟩|refine ⟨?_,?_⟩)) rfl;obtain ⟨c1,rfl⟩:=cf h20_10;rw [hM,if_neg (by simp at c1;omega)];rfl
        dsimp only [cS,DS.upd,AS.seto];exact AWp.bot (d:=97) rfl
  ·
   show Post te Tryz.f93 _ (.panic _) _;refine Post.panicH (1) (0) ?_ (by repeat' (first|exact trivial|exact aK rfl|exact bd rfl rfl|exact aV rfl rfl|exact bw rfl rfl|exact aF (fun _=>rfl)|refine ar ?_|refine ⟨rfl,⟨_,rfl,?_⟩,?_⟩|refine ⟨?_,?_⟩)) rfl;obtain ⟨c1,rfl⟩:=cf h3_3;rw [rdM,if_neg g1,if_pos (by simpa using c1)];rfl
 ·
  show Post te Tryz.f93 _ (.panic _) _;refine Post.panicH (1) (0) ?_ (by repeat' (first|exact trivial|exact aK rfl|exact bd rfl rfl|exact aV rfl rfl|exact bw rfl rfl|exact aF (fun _=>rfl)|refine ar ?_|refine ⟨rfl,⟨_,rfl,?_⟩,?_⟩|refine ⟨?_,?_⟩)) rfl;obtain ⟨c1,rfl⟩:=cf h1_6;rw [rdM,if_pos (by simp at c1;omega)];rfl
def zM:Msg:=⟨⟨0,false,0,false,false,false,false,0⟩,[],[],[],[]⟩
def cG (b:List UInt8):Msg:=match rdM b with
 | .ok m=>m
 | .error _=>zM
def jN (b:List UInt8):Int:=match rdM b with
 | .ok _=>0
 | .error e=>e
theorem rF:Tryz.prog.underlying 29=some (.int .i64):=by kernel_rfl
theorem DX (e:Int) (w:World):(Instr.typeAssert (pE e) 20 29 true).run Tryz.prog w=.ok (.tuple #[.int .i64 e,.bool true]) w:=by
 simp [Instr.typeAssert,run_underlying rF,pE]
theorem DW (w:World):(Instr.typeAssert .nilIface 20 29 true).run Tryz.prog w=.ok (.tuple #[.int .i64 0,.bool false]) w:=by
 simp [Instr.typeAssert,run_underlying rF]
theorem gi {a:Act} {d:Option Tmp} {v:Value} {t:Nat} (h:d≠some t):(a.put d v).tmps.getD t undef=a.tmps.getD t undef:=by
 cases d with
 | none=>rfl
 | some d=>
  have h2:d≠t:=fun e=>h (by rw [e])
  simp [Act.put,Array.getD_eq_getD_getElem?,Array.getElem?_setIfInBounds,h2]
def kpt (T:List Nat) (o:Oper):Bool:=match o.dst with
 | some d=>T.all fun t=>!Nat.beq d t
 | none=>true
theorem o5 {T:List Nat} {ops:Array Oper} (h:ops.toList.all (kpt T)=true) {i:Nat} {o:Oper} (ho:ops[i]?=some o):∀ t∈T,o.dst≠some t:=by
 intro t ht e;have hm:o∈ops.toList:=by simpa using Array.mem_of_getElem? ho
 have h1:=List.all_eq_true.1 h o hm;unfold kpt at h1;rw [e] at h1;have h2:=List.all_eq_true.1 h1 t ht;simp at h2
theorem xo:Tryz.f92.results=#[]:=rfl
theorem AE (p q:Value) (w:World):CallsD Tryz.prog 92 #[p,q] .returning w fun e u' w'=>e=.returned (.tuple #[])∧u'=.returning∧w'=w:=by
 refine callsD_of_wpS (fn:=Tryz.f92) Tryz.func92 rfl fun c₀ cs hu=>?_
 apply wpS_seq
 apply wpS_region
 simp [wpOpsS,go_sem,recoverD,hu,Tryz.ntmps92,Exit.thenS,DW]
 apply wpS_seq
 apply wpS_region
 simp [wpOpsS,go_sem,Exit.thenS];refine wpS_cond (t:=false) (by simp [Act.eval,Array.replicate]) ?_;simp only [Bool.false_eq_true,if_false];refine wpS_of_wp (wp_skip ?_);cases c₀
 simp_all [bodyPostS,results,xo]
def Z12:List AV:=[i64 0,tf false,i64 0,tf false,tf false,tf false,tf false,i64 0,.v (.slice none 0 0),.v (.slice none 0 0),.v (.slice none 0 0),.v (.slice none 0 0)]
noncomputable def og:Array Oper:=match ew (ew (Tryz.f92.body.getD .skip)) with
 | .cond _ x _=>hY x
 | _=>#[]
theorem Cv (e:Int):AOps Tryz.prog 12 og (fun x s=>x=.normal∧Weak s (mkS [(0,.ptr 100 0 0),(1,.ptr 101 0 0)] [(100,.box Z12),(101,.box [i64 e])])) (List.range og.size)
 (mkS [(0,.ptr 100 0 0),(1,.ptr 101 0 0),(2,i64 e)] [(100,.box Z12),(101,.box [i64 0])]):=by
 refine ai rfl rfl (aL []) ?_;refine AOps.cons rfl rfl aA ?_;refine AOps.cons rfl rfl cI ?_;refine AOps.cons rfl rfl cI ?_;refine AOps.nil ⟨rfl,?_⟩;exact Weak.full 0 []
theorem yB {e:Int} {w:World} {φ:aD} {Λ:aW} {pm pe:Value} (hs:HSim w φ Λ (ao [(100,.box Z12),(101,.box [i64 0])])) (r1:Rep w φ Λ (.ptr 100 0 0) pm) (r2:Rep w φ Λ (.ptr 101 0 0) pe) :
 CallsD Tryz.prog 92 #[pm,pe] (.panicking [{ v:=pE e,recovered:=false }]) w fun en u' w'=>en=.returned (.tuple #[])∧u'=.panicking [{ v:=pE e,recovered:=true }]∧
  ∃ φ',HSim w' φ' Λ (ao [(100,.box Z12),(101,.box [i64 e])])∧Goes w φ w' φ'∧Rep w' φ' Λ (.ptr 100 0 0) pm∧Rep w' φ' Λ (.ptr 101 0 0) pe:=by
 refine callsD_of_wpS (fn:=Tryz.f92) Tryz.func92 rfl fun c₀ cs hu=>?_
 apply wpS_seq
 apply wpS_region
 simp [wpOpsS,go_sem,recoverD,hu,Tryz.ntmps92,Exit.thenS,DX]
 apply wpS_seq
 apply wpS_region
 simp [wpOpsS,go_sem,Exit.thenS];refine wpS_cond (t:=true) (by simp [Act.eval,Array.replicate]) ?_;simp only [if_true];refine wpS_of_wp ?_;generalize hT:(#[pm,pe]++_:Array Value)=T;have h0:T.getD 0 undef=pm:=by rw [← hT];simp [Array.replicate]
 have h1:T.getD 1 undef=pe:=by rw [← hT];simp [Array.replicate]
 have h2:T.getD 2 undef=.int .i64 e:=by rw [← hT];simp [Array.replicate]
 have hsz:T.size=12:=by rw [← hT];simp [Array.replicate]
 have hsim:Sim 12 w φ Λ (mkS [(0,.ptr 100 0 0),(1,.ptr 101 0 0),(2,i64 e)] [(100,.box Z12),(101,.box [i64 0])]) ⟨T,[]⟩:=by
  refine ⟨rfl,hsz,fun i=>?_,hs⟩
  match i with
  | 0=>show Rep w φ Λ (.ptr 100 0 0) (T.getD 0 undef);rw [h0];exact r1
  | 1=>show Rep w φ Λ (.ptr 101 0 0) (T.getD 1 undef);rw [h1];exact r2
  | 2=>show Rep w φ Λ (i64 e) (T.getD 2 undef);rw [h2];exact .v
  | i+3=>exact .any
 apply wp_region
 change wpOps Tryz.prog og _ (List.range og.size) (⟨T,[]⟩:Act) w;refine AOps.framed (I:=fun a=>a.tmps.getD 0 undef=pm∧a.tmps.getD 1 undef=pe) (ops:=og) (fun i o ho a v hI=>?_) (fun a ds hI=>hI) (Cv e) [] (a:=⟨T,[]⟩) hsim ⟨h0,h1⟩ ?_
 · have hd:=o5 (T:=[0,1]) (ops:=og) (by kernel_rfl) ho
   exact ⟨by rw [gi (hd 0 (by simp))];exact hI.1,by rw [gi (hd 1 (by simp))];exact hI.2⟩
 · rintro ae s' w' φ' a' ⟨rfl,hw⟩ hs' g ⟨k0,k1⟩
   obtain ⟨φ2,hs2,g2⟩:=hw 12 Λ w' φ' a' hs';refine ⟨rfl,_,rfl,.tuple #[],by simp [results,xo],rfl,rfl,φ2,hs2.hs,g.trans g2,?_,?_⟩
   · have:=hs2.tmps 0;rwa [k0] at this
   · have:=hs2.tmps 1;rwa [k1] at this
noncomputable def dB:Code:=Tryz.f56.body.getD .skip
theorem EX (b:List UInt8):AOps Tryz.prog Tryz.f56.ntmps (hY (nb dB)) (fun x s=>x=.normal∧Weak s (mkS [(0,.fz 1 b.length (cl bc b)),(2,.ptr 100 0 0),(3,.ptr 101 0 0)] [(100,.box Z12),(101,.box [i64 0])])) (List.range (hY (nb dB)).size)
 ⟨fun i=>[.fz 1 b.length (cl bc b)].getD i (.v undef),emp⟩:=by
 refine ai rfl rfl (ap 100) ?_;refine ai rfl rfl (ap 101) ?_;exact AOps.nil ⟨rfl,Weak.full 1 []⟩
theorem EW (b:List UInt8):AOps Tryz.prog Tryz.f56.ntmps (hY (nb (ew (ew dB)))) (fun x s=>x=.normal∧Weak s (mkS [(2,.ptr 100 0 0),(3,.ptr 101 0 0),(4,.ptr 302 0 0)] [(100,.box Z12),(101,.box [i64 0]),(302,.box [.fz 1 b.length (cl bc b),i64 0])])) (List.range (hY (nb (ew (ew dB)))).size)
 ((mkS [(0,.fz 1 b.length (cl bc b)),(2,.ptr 100 0 0),(3,.ptr 101 0 0)] [(100,.box Z12),(101,.box [i64 0])]).put (some 5) .any):=by
 refine AOps.cons rfl rfl aA ?_;refine ai rfl rfl (aL [(_,_)]) ?_;refine ai rfl rfl (aS 302) ?_;refine AOps.cons rfl rfl gh ?_;exact AOps.nil ⟨rfl,Weak.full 1 []⟩
def dQ (b:List UInt8):bC
 | .normal,s=>∃ m,rdM b=.ok m∧Weak s (mkS [(2,.ptr 100 0 0),(3,.ptr 101 0 0)] [(100,.box (dn m)),(101,.box [i64 0])])
 | .panic x,s=>∃ e,x=pE e∧rdM b=.error e∧Weak s (mkS [(2,.ptr 100 0 0),(3,.ptr 101 0 0)] [(100,.box Z12),(101,.box [i64 0])])
 | _,_=>False
theorem EV (b:List UInt8) (hb:b.length≤140737488351232):AOps Tryz.prog Tryz.f56.ntmps (hY (nb (ew (ew (ew dB))))) (dQ b) (List.range (hY (nb (ew (ew (ew dB))))).size)
 (mkS [(2,.ptr 100 0 0),(3,.ptr 101 0 0),(4,.ptr 302 0 0)] [(100,.box Z12),(101,.box [i64 0]),(302,.box [.fz 1 b.length (cl bc b),i64 0])]):=by
 refine AOps.cons rfl rfl aA ?_;refine AOps.callP (hp':=fun k=>[(302,.box [_,i64 k])]) (1) [(0,302)] [] [(_,_)] (CH b hb) (fun h=>?_) (fun x k h=>?_)
 · obtain ⟨m,hm⟩:=eW h
   rw [hm];dsimp only [jL];refine AOps.cons rfl rfl cI ?_;refine AOps.cons rfl rfl cI ?_;exact AOps.nil ⟨m,hm,Weak.full 0 []⟩
 · obtain ⟨e,he,rfl⟩:=eV h
   exact ⟨e,rfl,he,Weak.full 0 []⟩
theorem DH (m:Msg) (e:Int):Fin te Tryz.f56 (Ret (.tup [.agg (dn m),i64 e])) (mkS [(2,.ptr 100 0 0),(3,.ptr 101 0 0)] [(100,.box (dn m)),(101,.box [i64 e])]):=by
 refine ak (0) [_,_] [_,_] ?_;rfl
theorem EU (e:Int):Weak (mkS [(2,.ptr 100 0 0),(3,.ptr 101 0 0)] [(100,.box Z12),(101,.box [i64 e])]) (mkS [(2,.ptr 100 0 0),(3,.ptr 101 0 0)] [(100,.box (dn zM)),(101,.box [i64 e])]):=Weak.full 0 []
theorem AI:(hY (nb (ew (ew dB)))).toList.all (kpt [2,3])=true:=rfl
theorem AH:(hY (nb (ew (ew (ew dB))))).toList.all (kpt [2,3])=true:=rfl
theorem DG (x y:Value) (w:World):(invoke (.fn (.func 92) #[x,y]) #[]).run Tryz.prog w=.ok (.enter 92 #[x,y]) w:=by
 simp [go_sem]
theorem sk (b:List UInt8) (hb:b.length≤140737488351232):AC Tryz.prog 56 [.fz 1 b.length (cl bc b)] emp (Ret (.tup [.agg (dn (cG b)),i64 (jN b)])):=by
 refine ⟨⟨Tryz.f56,_,Tryz.func56,rfl,rfl⟩,fun Λ w φ vals hs ha QQ hret hpan=>?_⟩;have hs0:=xU (n:=Tryz.f56.ntmps) hs ha (aE rfl);refine calls_of_wp_defers (fn:=Tryz.f56) Tryz.func56 rfl ?_;refine wp_seq (wp_region ?_);refine EX b Λ w φ _ hs0 _ ?_;rintro ae s1 w1 φ1 a1 ⟨rfl,hW1⟩ hs1 g1;obtain ⟨φ2,hs2,g2⟩:=hW1 _ Λ w1 φ1 a1 hs1;refine wp_seq (wp_region ?_);have hmf:∀ (fn:Go.Fn) (first cap:Array Value) (w:World),(Instr.makeFunc fn first cap).run Tryz.prog w=.ok (.func fn first cap) w:=fun _ _ _ _=>rfl
 obtain ⟨V,hV⟩:∃ V:Value,V=.func (.func 92) #[] #[a1.eval (.tmp 2),a1.eval (.tmp 3)]:=⟨_,rfl⟩;have hsz:a1.tmps.size=11:=hs1.size;refine pN rfl rfl ?_;simp only [Oper.wp,execOp];simp [hmf];rw [← hV,Oper.upon_value];have h5:(a1.put (some 5) V).eval (.tmp 5)=V:=by simp [Act.put,Act.eval,hsz]
 refine pN rfl rfl ?_;have hd:Deferred.ofValue V #[]=pure { target:=.fn (.func 92) #[a1.eval (.tmp 2),a1.eval (.tmp 3)],args:=#[] }:=by rw [hV];rfl
 simp [Oper.wp,execOp,resolve,h5,hd];rw [Oper.upon_defer];change Code.wp Tryz.prog _ _ ({ a1.put (some 5) V with defers:=_::(a1.put (some 5) V).defers }:Act) w1;rw [show (a1.put (some 5) V).defers=[] from hs1.defs];refine wp_seq (wp_region ?_);change wpOps Tryz.prog (hY (nb (ew (ew dB)))) _ (List.range (hY (nb (ew (ew dB)))).size) _ w1;refine AOps.framed (I:=fun a=>a.tmps.getD 2 undef=a1.eval (.tmp 2)∧a.tmps.getD 3 undef=a1.eval (.tmp 3)) (ops:=hY (nb (ew (ew dB)))) (fun i o ho a v hI=>?_) (fun a ds hI=>hI) (EW b) _ (a:=a1.put (some 5) V) (hs2.put (some 5) rfl .any) ⟨gi (by simp),gi (by simp)⟩ ?_
 · have hd:=o5 (T:=[2,3]) AI ho
   exact ⟨by rw [gi (hd 2 (by simp))];exact hI.1,by rw [gi (hd 3 (by simp))];exact hI.2⟩
 rintro ae s3 w3 φ3 a3 ⟨rfl,hW3⟩ hs3 g3 hI3;obtain ⟨φ4,hs4,g4⟩:=hW3 _ Λ w3 φ3 a3 hs3;refine wp_seq (wp_region ?_);change wpOps Tryz.prog (hY (nb (ew (ew (ew dB))))) _ (List.range (hY (nb (ew (ew (ew dB))))).size) _ w3;refine AOps.framed (I:=fun a=>a.tmps.getD 2 undef=a1.eval (.tmp 2)∧a.tmps.getD 3 undef=a1.eval (.tmp 3)) (ops:=hY (nb (ew (ew (ew dB))))) (fun i o ho a v hI=>?_) (fun a ds hI=>hI) (EV b hb) _ (a:=a3) hs4 hI3 ?_
 · have hd:=o5 (T:=[2,3]) AH ho
   exact ⟨by rw [gi (hd 2 (by simp))];exact hI.1,by rw [gi (hd 3 (by simp))];exact hI.2⟩
 rintro ae s5 w5 φ5 a5 q hs5 g5 ⟨k2,k3⟩;have gg:Goes w φ w5 φ5:=(((g1.trans g2).trans g3).trans g4).trans g5;cases ae with
 | normal=>
  obtain ⟨m,hm,hW5⟩:=q;obtain ⟨φ6,hs6,g6⟩:=hW5 _ Λ w5 φ5 a5 hs5;refine wp_ret ?_;refine leaves_cons (f:=92) (args:=#[a1.eval (.tmp 2),a1.eval (.tmp 3)]) (by simp) (DG _ _ _) ?_;refine (AE _ _ w5).mono ?_;rintro e u' w' ⟨rfl,rfl,rfl⟩;obtain ⟨v,r,h',φ7,f1,f2,f3,f4,f5⟩:=xn te_ok (DH m 0) hs6;refine ⟨v,f1,hret r h' _ φ7 v ?_ f3 ((gg.trans g6).trans f4) f5⟩;rw [show cG b=m by rw [cG,hm],show jN b=0 by rw [jN,hm]];exact f2
 | panic x=>
  obtain ⟨e,rfl,he,hW5⟩:=q;obtain ⟨φ6,hs6,g6⟩:=hW5 _ Λ w5 φ5 a5 hs5;have r1:=hs6.tmps 2;have r2:=hs6.tmps 3;rw [k2] at r1;rw [k3] at r2;refine leaves_cons (f:=92) (args:=#[a1.eval (.tmp 2),a1.eval (.tmp 3)]) (by simp) (DG _ _ _) ?_;refine (yB hs6.hs r1 r2).mono ?_;rintro e' u' w' ⟨rfl,rfl,φ7,hh,g7,q2,q3⟩;have hsim:Sim Tryz.f56.ntmps w' φ7 Λ (mkS [(2,.ptr 100 0 0),(3,.ptr 101 0 0)] [(100,.box Z12),(101,.box [i64 e])]) ⟨a5.tmps,[]⟩:=by
   refine ⟨rfl,hs5.size,fun i=>?_,hh⟩
   match i with
   | 0=>exact .any
   | 1=>exact .any
   | 2=>show Rep w' φ7 Λ (.ptr 100 0 0) (a5.tmps.getD 2 undef);rw [k2];exact q2
   | 3=>show Rep w' φ7 Λ (.ptr 101 0 0) (a5.tmps.getD 3 undef);rw [k3];exact q3
   | i+4=>exact .any
  obtain ⟨φ8,hs8,g8⟩:=EU e _ Λ w' φ7 _ hsim;obtain ⟨v,r,h',φ9,f1,f2,f3,f4,f5⟩:=xn te_ok (DH zM e) hs8;refine ⟨v,f1,hret r h' _ φ9 v ?_ f3 ((((gg.trans g6).trans g7).trans g8).trans f4) f5⟩;rw [show cG b=zM by rw [cG,he],show jN b=e by rw [jN,he]];exact f2
 | exit id=>exact q.elim
 | goto l=>exact q.elim
 | ret=>exact q.elim
theorem B9 (b:List UInt8) (hb:b.length≤140737488351232):AC Tryz.prog 56 [.fz 0 b.length (cl bc b)] emp (Ret (.tup [.agg (dn (cG b)),i64 (jN b)])):=
 ⟨(sk b hb).1,fun Λ w φ vals hs ha QQ h1 h2=>(sk b hb).2 Λ w φ vals hs ⟨ha.1,fun j c hj=>by
  match j,hj with
  | 0,hj=>
   cases hj;obtain ⟨v,e1,e2⟩:=ha.2 0 _ rfl;exact ⟨v,e1,e2.up_fz (Nat.zero_le 1)⟩⟩ QQ h1 h2⟩
section
variable {d:Nat} {s n b u:TypeId} {is in' ib iu:TI}
theorem Cj {t y:TypeId} {it iy:TI} {cs:List AV} (h:Has te (d+2) t cs) (ht:te.get t=some it) (kt:it.k=.struct [(0,s),(1,n),(2,n),(3,n),(4,y)]) (hs:te.get s=some is) (ks:is.k=.str) (hn:te.get n=some in') (kn:in'.k=.int .i64)
 (hy:te.get y=some iy) (ky:iy.k=.slice u) (hu:te.get u=some iu) (ku:iu.k=.int .u8) (bu:iu.bytes=1):∃ x:Rr,cs=rrc x∧(x.da.length≤140737488351232∧x.nm.length≤140737488351232):=by
 obtain ⟨_,w,rfl,q,hh⟩:=has_struct h ht kt;obtain ⟨a1,rfl,bn⟩:=t5 q hs ks;obtain ⟨_,w,rfl,q,hh⟩:=hh;obtain ⟨a2,rfl,_⟩:=has_int q hn kn;obtain ⟨_,w,rfl,q,hh⟩:=hh;obtain ⟨a3,rfl,_⟩:=has_int q hn kn;obtain ⟨_,w,rfl,q,hh⟩:=hh;obtain ⟨a4,rfl,_⟩:=has_int q hn kn;obtain ⟨_,w,rfl,q,hh⟩:=hh;obtain ⟨a5,rfl,h5⟩:=has_bytes q hy ky hu ku bu;cases hh;exact ⟨⟨a1,a2,a3,a4,a5⟩,rfl,h5,bn⟩
theorem Ck {t:TypeId} {it:TI} {cs:List AV} (h:Has te (d+1) t cs) (ht:te.get t=some it) (kt:it.k=.struct [(0,s),(1,n),(2,n)]) (hs:te.get s=some is) (ks:is.k=.str) (hn:te.get n=some in') (kn:in'.k=.int .i64):∃ x:Qu,cs=quc x∧x.nm.length≤140737488351232:=by
 obtain ⟨_,w,rfl,q,hh⟩:=has_struct h ht kt;obtain ⟨a1,rfl,bn⟩:=t5 q hs ks;obtain ⟨_,w,rfl,q,hh⟩:=hh;obtain ⟨a2,rfl,_⟩:=has_int q hn kn;obtain ⟨_,w,rfl,q,hh⟩:=hh;obtain ⟨a3,rfl,_⟩:=has_int q hn kn;cases hh;exact ⟨⟨a1,a2,a3⟩,rfl,bn⟩
theorem n9 {t r y:TypeId} {it ir iy:TI} {cs:List AV} (h:Has te (d+3) t cs) (ht:te.get t=some it) (kt:it.k=.slice r) (hr:te.get r=some ir) (kr:ir.k=.struct [(0,s),(1,n),(2,n),(3,n),(4,y)]) (br:ir.bytes=64)
 (hs:te.get s=some is) (ks:is.k=.str) (hn:te.get n=some in') (kn:in'.k=.int .i64) (hy:te.get y=some iy) (ky:iy.k=.slice u) (hu:te.get u=some iu) (ku:iu.k=.int .u8) (bu:iu.bytes=1):∃ l:List Rr,cs=[.fz 0 l.length (cl rrc l)]∧(RrsOk l∧∀ x∈l,x.nm.length≤140737488351232):=by
 obtain ⟨l,h1,h2,h3⟩:=has_sl (f:=rrc) (q:=fun x=>x.da.length≤140737488351232∧x.nm.length≤140737488351232) h ht kt hr fun c hc=>Cj hc hr kr hs ks hn kn hy ky hu ku bu
 exact ⟨l,h1,⟨by rw [br] at h2;exact h2,fun x hx=>(h3 x hx).1⟩,fun x hx=>(h3 x hx).2⟩
theorem Aq {t r:TypeId} {it ir:TI} {cs:List AV} (h:Has te (d+2) t cs) (ht:te.get t=some it) (kt:it.k=.slice r) (hr:te.get r=some ir) (kr:ir.k=.struct [(0,s),(1,n),(2,n)]) (br:ir.bytes=32)
 (hs:te.get s=some is) (ks:is.k=.str) (hn:te.get n=some in') (kn:in'.k=.int .i64):∃ l:List Qu,cs=[.fz 0 l.length (cl quc l)]∧(l.length*32≤140737488351232∧∀ x∈l,x.nm.length≤140737488351232):=by
 obtain ⟨l,h1,h2,h3⟩:=has_sl (f:=quc) (q:=fun x=>x.nm.length≤140737488351232) h ht kt hr fun c hc=>Ck hc hr kr hs ks hn kn
 exact ⟨l,h1,by rw [br] at h2;exact h2,h3⟩
theorem Ar {t th tq tr r q y:TypeId} {it ith itq itr ir iq iy:TI} {cs:List AV} (h:Has te (d+4) t cs) (ht:te.get t=some it) (kt:it.k=.struct [(0,th),(8,tq),(9,tr),(10,tr),(11,tr)])
 (hth:te.get th=some ith) (kth:ith.k=.struct [(0,n),(1,b),(2,n),(3,b),(4,b),(5,b),(6,b),(7,n)]) (htq:te.get tq=some itq) (ktq:itq.k=.slice q) (hq:te.get q=some iq) (kq:iq.k=.struct [(0,s),(1,n),(2,n)]) (bq:iq.bytes=32)
 (htr:te.get tr=some itr) (ktr:itr.k=.slice r) (hr:te.get r=some ir) (kr:ir.k=.struct [(0,s),(1,n),(2,n),(3,n),(4,y)]) (br:ir.bytes=64)
 (hs:te.get s=some is) (ks:is.k=.str) (hn:te.get n=some in') (kn:in'.k=.int .i64) (hb:te.get b=some ib) (kb:ib.k=.bool) (hy:te.get y=some iy) (ky:iy.k=.slice u) (hu:te.get u=some iu) (ku:iu.k=.int .u8) (bu:iu.bytes=1) :
 ∃ m:Msg,cs=dn m∧gp m∧oB m:=by
 obtain ⟨_,w,rfl,q1,hh⟩:=has_struct h ht kt;obtain ⟨a1,rfl,_⟩:=Cl q1 hth kth hn kn hb kb;obtain ⟨_,w,rfl,q1,hh⟩:=hh;obtain ⟨a2,rfl,b2⟩:=Aq q1 htq ktq hq kq bq hs ks hn kn;obtain ⟨_,w,rfl,q1,hh⟩:=hh;obtain ⟨a3,rfl,b3⟩:=n9 q1 htr ktr hr kr br hs ks hn kn hy ky hu ku bu;obtain ⟨_,w,rfl,q1,hh⟩:=hh;obtain ⟨a4,rfl,b4⟩:=n9 q1 htr ktr hr kr br hs ks hn kn hy ky hu ku bu;obtain ⟨_,w,rfl,q1,hh⟩:=hh;obtain ⟨a5,rfl,b5⟩:=n9 q1 htr ktr hr kr br hs ks hn kn hy ky hu ku bu;cases hh;refine ⟨⟨a1,a2,a3,a4,a5⟩,rfl,⟨b2.1,b3.1,b4.1,b5.1⟩,b2.2,fun x hx=>?_⟩;simp only [Msg.rrs,List.mem_append] at hx;rcases hx with (hx|hx)|hx
 · exact b3.2 x hx
 · exact b4.2 x hx
 · exact b5.2 x hx
end

theorem Ad {ρ:Nat→Bool} {σ:IdMap} {h:aX} {lo hi:Nat} {a:AV}:ie ρ σ h lo hi a .any:=fun _ _ _ _ _ _ _ _ _ _ _ _=>.any
def rnE {α:Type}:Except Int α→Int
 | .error e=>e
 | .ok _=>0
def rnN:Except Int (List UInt8×Nat)→List UInt8
 | .error _=>[]
 | .ok a=>a.1
def atE {α:Type}:Except Int (α×Nat)→AV
 | .error _=>.any
 | .ok a=>i64 a.2
def liB (b:List UInt8) (en:Nat) (bh:Option Nat):Nat:=if bh.isSome then b.length else en
theorem sj (b:List UInt8) (p0 en:Nat) (hb:b.length≤65535) (he:en≤b.length) (hp:p0≤100000):AC Tryz.prog 104 [.ptr 0 0 0,i64 en] (ao [(0,.box [.fz 0 b.length (cl bc b),i64 p0])]) (bZ (.tup [str (rnN (rdN b 20 p0 p0 en none [])),i64 (rnE (rdN b 20 p0 p0 en none []))]) [(0,.box [.fz 0 b.length (cl bc b),atE (rdN b 20 p0 p0 en none [])])]):=by
 refine AC.intro te_ok (fn:=Tryz.f104) ⟨Tryz.func104,rfl,rfl⟩ (aE rfl) ?_;iterate 10 refine ab ?_
 refine bj [ag,ag,ag,ag,ag,ag,ag,ag,ag,ag,ag] [af [0] [] 14,af [13] [0] 15,af [14] [0] 16,af [15] [0] 17,af [0] [] 18,af [17] [0] 19,af [18] [0] 20,af [19] [0] 21,af [16] [] 8,af [20] [] 9,af [] [] 10] rfl ⟨ah,ah,ah,ah,ah,ah,ah,ah,ah,ah,ah,trivial⟩ ?_;refine ab ?_;refine AWp.loopR (α:=Nat×Nat×Option Nat×List UInt8) [4,5,6,7,8,9,10,11,12,21,22,23,24,25,26,27,28,29,30,31,32,33,34,35,36,37,38,39,40,41,42,43,44,45,46,47,48,49,50,51,52,53,54,55,56,57,58,59,60,61,62,63,64,65,66,67,68,69,70,71,72,73,74,75,76,77,78,79,80,81,82,83,84,85,86,87,88,89,90,91,92,93,94,95,96,97,98,99,100,101,102,103,104,105,106,107,108,109,110,111,112,113,114,115,116] (fun x_=>[(7,i64 (x_.1)),(8,i64 (x_.2.1)),(9,tf (x_.2.2.1).isSome),(6,str (x_.2.2.2))]) (fun x_=>[(0,.box [.fz 0 b.length (cl bc b),i64 (((x_.2.2.1).getD p0:Nat):Int)])]) (fun x_=>rdN b 20 (x_.1) (x_.2.1) (liB b en (x_.2.2.1)) (x_.2.2.1) (x_.2.2.2)=rdN b 20 p0 p0 en none []∧(x_.2.2.2).length<255∧(x_.1)≤200000∧(x_.2.1)≤100000) (fun x_=>(x_.2.1)*(b.length+1)+(liB b en (x_.2.2.1)-(x_.1))) (p0,p0,none,[]) ?_ (Back.mk' (HasT.cons (HasT.cons (HasT.cons (HasT.cons HasT.nil)))) (HasH.cons HasH.nil)) ?_
 ·
  exact ⟨rfl,by show 0<255;decide,by show p0≤_;omega,hp⟩
 ·
  rintro ⟨p,fi,bh,n⟩ hI3;change rdN b 20 p fi (liB b en bh) bh n=rdN b 20 p0 p0 en none []∧n.length<255∧p≤200000∧fi≤100000 at hI3;obtain ⟨hE,hN,hP,hF⟩:=hI3;refine AWp.as (s':=AS.over _ [4,5,6,7,8,9,10,11,12,21,22,23,24,25,26,27,28,29,30,31,32,33,34,35,36,37,38,39,40,41,42,43,44,45,46,47,48,49,50,51,52,53,54,55,56,57,58,59,60,61,62,63,64,65,66,67,68,69,70,71,72,73,74,75,76,77,78,79,80,81,82,83,84,85,86,87,88,89,90,91,92,93,94,95,96,97,98,99,100,101,102,103,104,105,106,107,108,109,110,111,112,113,114,115,116] [(7,i64 p),(8,i64 fi),(9,tf bh.isSome),(6,str n)] [(0,.box [.fz 0 b.length (cl bc b),i64 ((bh.getD p0:Nat):Int)])]) rfl ?_;have hk256:=Dy b p;obtain ⟨li,hli0⟩:∃ li,li=liB b en bh:=⟨_,rfl⟩;rw [← hli0] at hE;iterate 9 refine ab ?_
  refine AOps.bool rfl rfl (aA) (fun h4_0=>?_) (fun h4_0=>?_)
  ·
   iterate 13 refine ab ?_
   have hli:liB b en bh=b.length:=by rw [liB,if_pos h4_0]
   have hL:li≤b.length:=by omega
   have hle:b.length=li:=by omega
   iterate 2 refine ab ?_
   refine am (fun h6_2=>?_) (fun h6_2=>?_)
   ·
    iterate 8 refine ab ?_
    have hX:=hE;rw [ec (by omega)] at hX;rw [← hX];refine rHa (0) [] [_,_] [_,_] [(_,_)] ?_;rfl
   ·
    iterate 5 refine ab ?_
    have g1:¬ li≤p:=by omega
    iterate 13 refine ab ?_
    rw [show (b.getD ((p:Nat):Int).toNat default).toNat=kB b p from rfl];refine ab ?_;refine am (fun h15_1=>?_) (fun h15_1=>?_)
    ·
     iterate 6 refine ab ?_
     have hk0:kB b p=0:=by omega
     refine AOps.bool rfl rfl (aA) (fun h16_0=>?_) (fun h16_0=>?_)
     ·
      iterate 7 refine ab ?_
      obtain ⟨a,rfl⟩:=Option.isSome_iff_exists.1 h16_0;iterate 3 refine ab ?_
      refine am (fun h18_3=>?_) (fun h18_3=>?_)
      ·
       iterate 8 refine ab ?_
       have hX:=hE;rw [dk g1 hk0 (by omega)] at hX;rw [← hX];refine rHa (0) [] [_,_] [_,_] [(_,_)] ?_;rfl
      ·
       iterate 6 refine ab ?_
       refine ai rfl rfl (jg) ?_;iterate 4 refine ab ?_
       have hX:=hE;rw [eg g1 hk0 hN] at hX;rw [← hX];refine rHa (0) [] [_,_] [_,_] [(_,_)] ?_;rfl
     ·
      iterate 4 refine ab ?_
      obtain rfl:bh=none:=by simpa using h16_0
      iterate 13 refine ab ?_
      refine am (fun h18_3=>?_) (fun h18_3=>?_)
      ·
       iterate 8 refine ab ?_
       have hX:=hE;rw [dk g1 hk0 (by omega)] at hX;rw [← hX];refine rHa (0) [] [_,_] [_,_] [(_,_)] ?_;rfl
      ·
       iterate 6 refine ab ?_
       refine ai rfl rfl (jg) ?_;iterate 4 refine ab ?_
       have hX:=hE;rw [eg g1 hk0 hN] at hX;rw [← hX];refine rHa (0) [] [_,_] [_,_] [(_,_)] ?_;rfl
    ·
     iterate 6 refine ab ?_
     refine am (fun h21_1=>?_) (fun h21_1=>?_)
     ·
      iterate 6 refine ab ?_
      have hk:192≤kB b p:=by omega
      iterate 3 refine ab ?_
      refine am (fun h22_3=>?_) (fun h22_3=>?_)
      ·
       iterate 8 refine ab ?_
       have hX:=hE;rw [dA g1 hk (by omega)] at hX;rw [← hX];refine rHa (0) [] [_,_] [_,_] [(_,_)] ?_;rfl
      ·
       iterate 5 refine ab ?_
       have g2:¬ li≤p+1:=by omega
       have hq1:=(b.getD ((p:Int)+1).toNat default).toNat_lt;iterate 18 refine ab ?_
       rw [show ((kB b p:Nat):Int)-192=((kB b p-192:Nat):Int) by omega,show (((kB b p-192:Nat):Int)*256+((b.getD ((p:Int)+1).toNat default).toNat:Int))=(toI b p:Int) by
        have e1:kB b (p+1)=(b.getD ((p:Int)+1).toNat default).toNat:=rfl;unfold toI;omega]
       iterate 2 refine ab ?_
       refine am (fun h25_2=>?_) (fun h25_2=>?_)
       ·
        iterate 8 refine ab ?_
        have hX:=hE;rw [fk g1 hk g2 (by omega)] at hX;rw [← hX];refine rHa (0) [] [_,_] [_,_] [(_,_)] ?_;rfl
       ·
        iterate 6 refine ab ?_
        have g3:toI b p<fi:=by omega
        refine AOps.bool rfl rfl (aA) (fun h27_0=>?_) (fun h27_0=>?_)
        ·
         iterate 5 refine ab ?_
         obtain ⟨a,rfl⟩:=Option.isSome_iff_exists.1 h27_0;iterate 6 refine ab ?_
         refine ⟨(toI b p,toI b p,some a,n),?_,Back.mk' (HasT.cons (HasT.cons (HasT.cons (HasT.cons HasT.nil)))) (HasH.cons HasH.nil),?_⟩
         ·
          try dsimp only
          exact ⟨by rw [← hE,ed g1 hk g2 g3];rfl,hN,by omega,by omega⟩
         ·
          try dsimp only
          have:=Nat.mul_le_mul_right (b.length+1) (show toI b p+1≤fi by omega);rw [Nat.succ_mul] at this;have h9:liB b en (some a)=b.length:=rfl;omega
        ·
         iterate 4 refine ab ?_
         obtain rfl:bh=none:=by simpa using h27_0
         iterate 14 refine ab ?_
         refine ⟨(toI b p,toI b p,some (p+2),n),?_,Back.mk' (HasT.cons (HasT.cons (HasT.cons (HasT.cons HasT.nil)))) (HasH.cons HasH.nil),?_⟩
         ·
          try dsimp only
          exact ⟨by rw [← hE,ed g1 hk g2 g3];rfl,hN,by omega,by omega⟩
         ·
          try dsimp only
          have:=Nat.mul_le_mul_right (b.length+1) (show toI b p+1≤fi by omega);rw [Nat.succ_mul] at this;have h9:liB b en (some (p+2))=b.length:=rfl;omega
     ·
      iterate 6 refine ab ?_
      refine am (fun h30_1=>?_) (fun h30_1=>?_)
      ·
       iterate 9 refine ab ?_
       have hX:=hE;rw [ef g1 (by omega) (by omega)] at hX;rw [← hX];refine rHa (0) [] [_,_] [_,_] [(_,_)] ?_;rfl
      ·
       iterate 6 refine ab ?_
       have hk0:kB b p≠0:=by omega
       have hk1:¬ 64≤kB b p:=by omega
       iterate 5 refine ab ?_
       refine am (fun h9_5=>?_) (fun h9_5=>?_)
       ·
        iterate 8 refine ab ?_
        have hX:=hE;rw [dD g1 hk0 hk1 (by omega)] at hX;rw [← hX];refine rHa (0) [] [_,_] [_,_] [(_,_)] ?_;rfl
       ·
        iterate 5 refine ab ?_
        have g2:¬ li<p+1+kB b p:=by omega
        iterate 11 refine ab ?_
        refine AOps.cons rfl rfl (by first|exact b9|exact aU) ?_;refine ai rfl rfl (jg) ?_;iterate 4 refine ab ?_
        rw [show ((p:Int)+1+(kB b p:Int)).toNat=p+1+kB b p by omega,show ((p:Nat):Int).toNat=p by omega];obtain ⟨N,hNN⟩:∃ N,N=n++(b.take (p+1+kB b p)).drop p:=⟨_,rfl⟩;rw [← hNN];have hNl:N.length=n.length+(1+kB b p):=by rw [hNN,List.length_append,List.length_drop,List.length_take];omega
        iterate 11 refine ab ?_
        refine am (fun h13_3=>?_) (fun h13_3=>?_)
        ·
         iterate 8 refine ab ?_
         have hX:=hE;rw [ee g1 hk0 hk1 g2 (by rw [← hNN];omega)] at hX;rw [← hX];refine rHa (0) [] [_,_] [_,_] [(_,_)] ?_;rfl
        ·
         iterate 3 refine ab ?_
         refine ⟨(p+1+kB b p,fi,bh,N),?_,Back.mk' (HasT.cons (HasT.cons (HasT.cons (HasT.cons HasT.nil))) (h1:=by exact ci (by omega)) ) (HasH.cons HasH.nil),?_⟩
         ·
          try dsimp only
          exact ⟨by rw [← hli0,← hE,fV g1 hk0 hk1 g2 (by rw [← hNN];omega),← hNN],by omega,by omega,hF⟩
         ·
          try dsimp only
          rw [← hli0];omega
  ·
   iterate 6 refine ab ?_
   have hli:liB b en bh=en:=by rw [liB,if_neg (by simp [h4_0])]
   have hL:li≤b.length:=by omega
   have hle:en=li:=by omega
   iterate 2 refine ab ?_
   refine am (fun h6_2=>?_) (fun h6_2=>?_)
   ·
    iterate 8 refine ab ?_
    have hX:=hE;rw [ec (by omega)] at hX;rw [← hX];refine rHa (0) [] [_,_] [_,_] [(_,_)] ?_;rfl
   ·
    iterate 5 refine ab ?_
    have g1:¬ li≤p:=by omega
    iterate 13 refine ab ?_
    rw [show (b.getD ((p:Nat):Int).toNat default).toNat=kB b p from rfl];refine ab ?_;refine am (fun h15_1=>?_) (fun h15_1=>?_)
    ·
     iterate 6 refine ab ?_
     have hk0:kB b p=0:=by omega
     refine AOps.bool rfl rfl (aA) (fun h16_0=>?_) (fun h16_0=>?_)
     ·
      iterate 7 refine ab ?_
      obtain ⟨a,rfl⟩:=Option.isSome_iff_exists.1 h16_0;iterate 3 refine ab ?_
      refine am (fun h18_3=>?_) (fun h18_3=>?_)
      ·
       iterate 8 refine ab ?_
       have hX:=hE;rw [dk g1 hk0 (by omega)] at hX;rw [← hX];refine rHa (0) [] [_,_] [_,_] [(_,_)] ?_;rfl
      ·
       iterate 6 refine ab ?_
       refine ai rfl rfl (jg) ?_;iterate 4 refine ab ?_
       have hX:=hE;rw [eg g1 hk0 hN] at hX;rw [← hX];refine rHa (0) [] [_,_] [_,_] [(_,_)] ?_;rfl
     ·
      iterate 4 refine ab ?_
      obtain rfl:bh=none:=by simpa using h16_0
      iterate 13 refine ab ?_
      refine am (fun h18_3=>?_) (fun h18_3=>?_)
      ·
       iterate 8 refine ab ?_
       have hX:=hE;rw [dk g1 hk0 (by omega)] at hX;rw [← hX];refine rHa (0) [] [_,_] [_,_] [(_,_)] ?_;rfl
      ·
       iterate 6 refine ab ?_
       refine ai rfl rfl (jg) ?_;iterate 4 refine ab ?_
       have hX:=hE;rw [eg g1 hk0 hN] at hX;rw [← hX];refine rHa (0) [] [_,_] [_,_] [(_,_)] ?_;rfl
    ·
     iterate 6 refine ab ?_
     refine am (fun h21_1=>?_) (fun h21_1=>?_)
     ·
      iterate 6 refine ab ?_
      have hk:192≤kB b p:=by omega
      iterate 3 refine ab ?_
      refine am (fun h22_3=>?_) (fun h22_3=>?_)
      ·
       iterate 8 refine ab ?_
       have hX:=hE;rw [dA g1 hk (by omega)] at hX;rw [← hX];refine rHa (0) [] [_,_] [_,_] [(_,_)] ?_;rfl
      ·
       iterate 5 refine ab ?_
       have g2:¬ li≤p+1:=by omega
       have hq1:=(b.getD ((p:Int)+1).toNat default).toNat_lt;iterate 18 refine ab ?_
       rw [show ((kB b p:Nat):Int)-192=((kB b p-192:Nat):Int) by omega,show (((kB b p-192:Nat):Int)*256+((b.getD ((p:Int)+1).toNat default).toNat:Int))=(toI b p:Int) by
        have e1:kB b (p+1)=(b.getD ((p:Int)+1).toNat default).toNat:=rfl;unfold toI;omega]
       iterate 2 refine ab ?_
       refine am (fun h25_2=>?_) (fun h25_2=>?_)
       ·
        iterate 8 refine ab ?_
        have hX:=hE;rw [fk g1 hk g2 (by omega)] at hX;rw [← hX];refine rHa (0) [] [_,_] [_,_] [(_,_)] ?_;rfl
       ·
        iterate 6 refine ab ?_
        have g3:toI b p<fi:=by omega
        refine AOps.bool rfl rfl (aA) (fun h27_0=>?_) (fun h27_0=>?_)
        ·
         iterate 5 refine ab ?_
         obtain ⟨a,rfl⟩:=Option.isSome_iff_exists.1 h27_0;iterate 6 refine ab ?_
         refine ⟨(toI b p,toI b p,some a,n),?_,Back.mk' (HasT.cons (HasT.cons (HasT.cons (HasT.cons HasT.nil)))) (HasH.cons HasH.nil),?_⟩
         ·
          try dsimp only
          exact ⟨by rw [← hE,ed g1 hk g2 g3];rfl,hN,by omega,by omega⟩
         ·
          try dsimp only
          have:=Nat.mul_le_mul_right (b.length+1) (show toI b p+1≤fi by omega);rw [Nat.succ_mul] at this;have h9:liB b en (some a)=b.length:=rfl;omega
        ·
         iterate 4 refine ab ?_
         obtain rfl:bh=none:=by simpa using h27_0
         iterate 14 refine ab ?_
         refine ⟨(toI b p,toI b p,some (p+2),n),?_,Back.mk' (HasT.cons (HasT.cons (HasT.cons (HasT.cons HasT.nil)))) (HasH.cons HasH.nil),?_⟩
         ·
          try dsimp only
          exact ⟨by rw [← hE,ed g1 hk g2 g3];rfl,hN,by omega,by omega⟩
         ·
          try dsimp only
          have:=Nat.mul_le_mul_right (b.length+1) (show toI b p+1≤fi by omega);rw [Nat.succ_mul] at this;have h9:liB b en (some (p+2))=b.length:=rfl;omega
     ·
      iterate 6 refine ab ?_
      refine am (fun h30_1=>?_) (fun h30_1=>?_)
      ·
       iterate 9 refine ab ?_
       have hX:=hE;rw [ef g1 (by omega) (by omega)] at hX;rw [← hX];refine rHa (0) [] [_,_] [_,_] [(_,_)] ?_;rfl
      ·
       iterate 6 refine ab ?_
       have hk0:kB b p≠0:=by omega
       have hk1:¬ 64≤kB b p:=by omega
       iterate 5 refine ab ?_
       refine am (fun h9_5=>?_) (fun h9_5=>?_)
       ·
        iterate 8 refine ab ?_
        have hX:=hE;rw [dD g1 hk0 hk1 (by omega)] at hX;rw [← hX];refine rHa (0) [] [_,_] [_,_] [(_,_)] ?_;rfl
       ·
        iterate 5 refine ab ?_
        have g2:¬ li<p+1+kB b p:=by omega
        iterate 11 refine ab ?_
        refine AOps.cons rfl rfl (by first|exact b9|exact aU) ?_;refine ai rfl rfl (jg) ?_;iterate 4 refine ab ?_
        rw [show ((p:Int)+1+(kB b p:Int)).toNat=p+1+kB b p by omega,show ((p:Nat):Int).toNat=p by omega];obtain ⟨N,hNN⟩:∃ N,N=n++(b.take (p+1+kB b p)).drop p:=⟨_,rfl⟩;rw [← hNN];have hNl:N.length=n.length+(1+kB b p):=by rw [hNN,List.length_append,List.length_drop,List.length_take];omega
        iterate 11 refine ab ?_
        refine am (fun h13_3=>?_) (fun h13_3=>?_)
        ·
         iterate 8 refine ab ?_
         have hX:=hE;rw [ee g1 hk0 hk1 g2 (by rw [← hNN];omega)] at hX;rw [← hX];refine rHa (0) [] [_,_] [_,_] [(_,_)] ?_;rfl
        ·
         iterate 3 refine ab ?_
         refine ⟨(p+1+kB b p,fi,bh,N),?_,Back.mk' (HasT.cons (HasT.cons (HasT.cons (HasT.cons HasT.nil))) (h1:=by exact ci (by omega)) ) (HasH.cons HasH.nil),?_⟩
         ·
          try dsimp only
          exact ⟨by rw [← hli0,← hE,fV g1 hk0 hk1 g2 (by rw [← hNN];omega),← hNN],by omega,by omega,hF⟩
         ·
          try dsimp only
          rw [← hli0];omega
section
variable {b:List UInt8} {p0 en:Nat}
theorem kI {a:List UInt8×Nat} (hb:b.length≤65535) (he:en≤b.length) (hp:p0≤100000) (h:rdN b 20 p0 p0 en none []=.ok a):AC Tryz.prog 104 [.ptr 0 0 0,i64 en] (ao [(0,.box [.fz 0 b.length (cl bc b),i64 p0])]) (bZ (.tup [str a.1,i64 0]) [(0,.box [.fz 0 b.length (cl bc b),i64 a.2])]):=by
 have:=sj b p0 en hb he hp;rw [h] at this;exact this
theorem kJ {e:Int} (hb:b.length≤65535) (he:en≤b.length) (hp:p0≤100000) (h:rdN b 20 p0 p0 en none []=.error e):AC Tryz.prog 104 [.ptr 0 0 0,i64 en] (ao [(0,.box [.fz 0 b.length (cl bc b),i64 p0])]) (bZ (.tup [str [],i64 e]) [(0,.box [.fz 0 b.length (cl bc b),.any])]):=by
 have:=sj b p0 en hb he hp;rw [h] at this;exact this
end
def shE (r:Except Int (List UInt8×Nat)):Except Int (List UInt8×Nat):=match r with
 | .error e=>.error (if e=20 then 30 else e)
 | .ok a=>.ok a
theorem sF {b:List UInt8}:∀ (p fi li:Nat) (bh:Option Nat) (n:List UInt8),rdN b 30 p fi li bh n=shE (rdN b 20 p fi li bh n):=by
 intro p fi li bh n;induction p,fi,li,bh,n using rdN.induct b with
 | case1 p fi li bh n h=>rw [ec h,ec h];rfl
 | case2 p fi li bh n h h1 h2=>rw [eg h h1 h2,eg h h1 h2];rfl
 | case3 p fi li bh n h h1 h2=>rw [dk h h1 h2,dk h h1 h2];rfl
 | case4 p fi li bh n h h1 h2 h3=>rw [dA h h2 h3,dA h h2 h3];rfl
 | case5 p fi li bh n h h1 h2 h3 h4 ih=>rw [ed h h2 h3 h4,ed h h2 h3 h4];exact ih
 | case6 p fi li bh n h h1 h2 h3 h4=>rw [fk h h2 h3 h4,fk h h2 h3 h4];rfl
 | case7 p fi li bh n h h1 h2 h3=>rw [ef h h3 h2,ef h h3 h2];rfl
 | case8 p fi li bh n h h1 h2 h3 h4=>rw [dD h h1 h3 h4,dD h h1 h3 h4];rfl
 | case9 p fi li bh n h h1 h2 h3 h4 h5 ih=>rw [fV h h1 h3 h4 h5,fV h h1 h3 h4 h5];exact ih
 | case10 p fi li bh n h h1 h2 h3 h4 h5=>rw [ee h h1 h3 h4 h5,ee h h1 h3 h4 h5];rfl
theorem Fz {b:List UInt8} {p w i:Nat} (h:i<w):((b.take (p+w)).drop p).getD i default=b.getD (p+i) default:=by
 simp only [List.getD_eq_getElem?_getD,List.getElem?_drop,List.getElem?_take];rw [if_pos (by omega)]
def lJ (t:Int):Nat:=if t=15 then 2 else 0
theorem bU (b:List UInt8) (p0 w:Nat) (hb:b.length≤65535) (hp:p0≤200000) (hw:w≤4) (h:p0+w≤b.length):AC Tryz.prog 105 [.ptr 0 0 0,i64 w] (ao [(0,.box [.fz 0 b.length (cl bc b),i64 p0])]) (bZ (.tup [i64 (bN b p0 w),tf true]) [(0,.box [.fz 0 b.length (cl bc b),i64 ((p0+w:Nat):Int)])]):=by
 refine AC.intro te_ok (fn:=Tryz.f105) ⟨Tryz.func105,rfl,rfl⟩ (aE rfl) ?_;iterate 7 refine ab ?_
 refine bj [ag,ag,ag,ag,ag,ag,ag,ag,ag,ag,ag,ag] [af [0] [] 8,af [7] [0] 9,af [8] [0] 10,af [9] [0] 11,af [10] [] 12,af [0] [] 13,af [12] [0] 14,af [13] [0] 15,af [14] [0] 16,af [11,15] [] 17,af [1] [] 18,af [16,17] [] 19] rfl ⟨ah,ah,ah,ah,ah,ah,ah,ah,ah,ah,ah,aC fun _=>aN rfl rfl ((OpOk.dec_f (e8) (by omega))),trivial⟩ ?_;iterate 13 refine ab ?_
 refine AWp.loopR (α:=Nat) [6,20,21,22,23,24,25,26,27,28,29,30,31,32,33,34,35,36,37,38,39,40,41,42,43] (fun i=>[(20,i64 i),(6,i64 (nV (((b.take (p0+w)).drop p0).take i)))]) (fun i=>[(0,.box [.fz 0 b.length (cl bc b),i64 ((p0+i:Nat):Int)])]) (fun i=>i≤w) (fun i=>w-i) 0 ?_ (Back.mk' (HasT.cons (HasT.cons HasT.nil)) (HasH.cons HasH.nil)) ?_
 ·
  exact Nat.zero_le _
 ·
  rintro i hi;have hSl:((b.take (p0+w)).drop p0).length=w:=by rw [List.length_drop,List.length_take];omega
  have hv:nV (((b.take (p0+w)).drop p0).take i)<4294967296:=wa (by rw [List.length_take];omega);iterate 2 refine ab ?_
  refine am (fun h5_0=>?_) (fun h5_0=>?_)
  ·
   iterate 7 refine ab ?_
   have hq1:=(b.getD ((p0+i:Nat):Int).toNat default).toNat_lt;have hq2:(b[p0+i]?.getD default).toNat<256:=(b[p0+i]?.getD default).toNat_lt;refine bj [ag,ag,ag,ag,ag,ag,ag,ag,ag,ag,ag,ag,ag,ag,ag] [af [6] [] 23,af [22] [] 24,af [0] [] 25,af [24] [0] 26,af [25] [0] 27,af [26] [0] 28,af [0] [] 29,af [28] [0] 30,af [29] [0] 31,af [30] [0] 32,af [27,31] [] 33,af [32] [] 34,af [33] [] 35,af [23,34] [] 36,af [35] [] 7] rfl ⟨ah,ah,ah,ah,ah,ah,ah,ah,ah,ah,ah,ah,ah,ah,ah,trivial⟩ ?_;iterate 14 refine ab ?_
   have hgt:=Fz (b:=b) (p:=p0) (w:=w) (i:=i) (by omega);refine ⟨i+1,?_,Back.mk' (HasT.cons (HasT.cons HasT.nil (h1:=by exact ci (by rw [bK (by omega),wZ,hgt];push_cast;rfl)) )) (HasH.cons HasH.nil),?_⟩
   ·
    first|assumption|omega|decide|(simp;omega)|(simp [*];done)
   ·
    first|omega|(simp;omega)
  ·
   iterate 11 refine ab ?_
   obtain rfl:i=w:=by omega
   have hSi:((b.take (p0+i)).drop p0).take i=(b.take (p0+i)).drop p0:=List.take_of_length_le (by omega);rw [hSi];refine aQ (0) [] [_,_] [_,_] [(_,_)] ?_;rfl
theorem ck (b:List UInt8) (p0 w:Nat) (hb:b.length≤65535) (hp:p0≤200000) (hw:w≤4) (h:¬ p0+w≤b.length):AC Tryz.prog 105 [.ptr 0 0 0,i64 w] (ao [(0,.box [.fz 0 b.length (cl bc b),i64 p0])]) (bZ (.tup [i64 0,tf false]) [(0,.box [.fz 0 b.length (cl bc b),i64 p0])]):=by
 refine AC.intro te_ok (fn:=Tryz.f105) ⟨Tryz.func105,rfl,rfl⟩ (aE rfl) ?_;iterate 7 refine ab ?_
 refine bj [ag,ag,ag,ag,ag,ag,ag,ag,ag,ag,ag,ag] [af [0] [] 8,af [7] [0] 9,af [8] [0] 10,af [9] [0] 11,af [10] [] 12,af [0] [] 13,af [12] [0] 14,af [13] [0] 15,af [14] [0] 16,af [11,15] [] 17,af [1] [] 18,af [16,17] [] 19] rfl ⟨ah,ah,ah,ah,ah,ah,ah,ah,ah,ah,ah,aC fun _=>aN rfl rfl ((OpOk.dec_t (e8) (by omega))),trivial⟩ ?_;iterate 7 refine ab ?_
 refine aQ (0) [] [_,_] [_,_] [(_,_)] ?_;rfl
theorem yH (t:Int):AC Tryz.prog 158 [i64 t] emp (Ret (.tup [i64 (cR t),i64 (lJ t)])):=by
 refine AC.intro te_ok (fn:=Tryz.f158) ⟨Tryz.func158,rfl,rfl⟩ (aE rfl) ?_;iterate 14 refine ab ?_
 refine am (fun h2_0=>?_) (fun h2_0=>?_)
 ·
  iterate 11 refine ab ?_
  refine ak (0) [_,_] [_,_] ?_;rw [cR,lJ];simp [*];try rfl
 ·
  iterate 5 refine ab ?_
  refine am (fun h3_0=>?_) (fun h3_0=>?_)
  ·
   iterate 11 refine ab ?_
   refine ak (0) [_,_] [_,_] ?_;rw [cR,lJ];simp [*];try rfl
  ·
   iterate 4 refine ab ?_
   refine am (fun h4_0=>?_) (fun h4_0=>?_)
   ·
    iterate 9 refine ab ?_
    refine ak (0) [_,_] [_,_] ?_;rw [cR,lJ];simp [*];try rfl
   ·
    iterate 5 refine ab ?_
    refine am (fun h6_0=>?_) (fun h6_0=>?_)
    ·
     iterate 9 refine ab ?_
     refine ak (0) [_,_] [_,_] ?_;rw [cR,lJ];simp [*];try rfl
    ·
     iterate 5 refine ab ?_
     refine am (fun h8_0=>?_) (fun h8_0=>?_)
     ·
      iterate 9 refine ab ?_
      refine ak (0) [_,_] [_,_] ?_;rw [cR,lJ];simp [*];try rfl
     ·
      iterate 10 refine ab ?_
      refine ak (0) [_,_] [_,_] ?_;rw [cR,lJ];simp [*];try rfl
theorem ld {b:List UInt8}:∀ (p fi li:Nat) (bh:Option Nat) (n:List UInt8) {e:Int},rdN b 20 p fi li bh n=.error e→e≠0:=by
 intro p fi li bh n;induction p,fi,li,bh,n using rdN.induct b with
 | case1 p fi li bh n h=>intro e k;rw [ec h] at k;cases k;decide
 | case2 p fi li bh n h h1 h2=>intro e k;rw [eg h h1 h2] at k;cases k
 | case3 p fi li bh n h h1 h2=>intro e k;rw [dk h h1 h2] at k;cases k;decide
 | case4 p fi li bh n h h1 h2 h3=>intro e k;rw [dA h h2 h3] at k;cases k;decide
 | case5 p fi li bh n h h1 h2 h3 h4 ih=>intro e k;rw [ed h h2 h3 h4] at k;exact ih k
 | case6 p fi li bh n h h1 h2 h3 h4=>intro e k;rw [fk h h2 h3 h4] at k;cases k;decide
 | case7 p fi li bh n h h1 h2 h3=>intro e k;rw [ef h h3 h2] at k;cases k;decide
 | case8 p fi li bh n h h1 h2 h3 h4=>intro e k;rw [dD h h1 h3 h4] at k;cases k;decide
 | case9 p fi li bh n h h1 h2 h3 h4 h5 ih=>intro e k;rw [fV h h1 h3 h4 h5] at k;exact ih k
 | case10 p fi li bh n h h1 h2 h3 h4 h5=>intro e k;rw [ee h h1 h3 h4 h5] at k;cases k;decide
def Gg:Except Int (List UInt8)→List UInt8
 | .error _=>[]
 | .ok d=>d
def atD (en:Nat):Except Int (List UInt8)→AV
 | .error _=>.any
 | .ok _=>i64 en
theorem BQ (b:List UInt8) (t:Int) (p0:Nat):([]++(b.take (p0+lJ t)).drop p0:List UInt8)=(if t=15 then (b.take (p0+2)).drop p0 else [])∧p0+lJ t=(if t=15 then p0+2 else p0):=by
 unfold lJ;split
 · exact ⟨rfl,rfl⟩
 · refine ⟨?_,rfl⟩
   rw [List.nil_append,Nat.add_zero,List.drop_take,Nat.sub_self,List.take_zero]
theorem vm (b:List UInt8) (t:Int) (p0 en:Nat) (hb:b.length≤65535) (he:en≤b.length) (hp:p0≤en):AC Tryz.prog 147 [.ptr 0 0 0,i64 t,i64 en] (ao [(0,.box [.fz 0 b.length (cl bc b),i64 p0])]) (bZ (.tup [.fz 0 (Gg (rdD b t p0 en)).length (cl bc (Gg (rdD b t p0 en))),i64 (rnE (rdD b t p0 en))]) [(0,.box [.fz 0 b.length (cl bc b),atD en (rdD b t p0 en)])]):=by
 have hc2:=x5 t;have hpn:lJ t=if t=15 then 2 else 0:=rfl
 obtain ⟨hA0,hP1⟩:=BQ b t p0;refine AC.intro te_ok (fn:=Tryz.f147) ⟨Tryz.func147,rfl,rfl⟩ (aE rfl) ?_;iterate 2 refine ab ?_
 refine ai rfl rfl (aR (0) bc) ?_;iterate 5 refine ab ?_
 refine ai rfl rfl (aj (0) (hc:=(yH t))) ?_;iterate 16 refine ab ?_
 refine am (fun h2_7=>?_) (fun h2_7=>?_)
 ·
  iterate 4 refine ab ?_
  refine ai rfl rfl (aR (0) bc) ?_;iterate 3 refine ab ?_
  have h15:t=15:=by
   by_cases h15:t=15
   · exact h15
   · rw [if_neg h15] at hpn;omega
  rw [if_pos h15] at hpn;have hX:rdD b t p0 en=.error 30:=by rw [rdD,if_pos ⟨h15,by omega⟩]
  rw [hX];refine rHa (0) [] [_,_] [_,_] [(_,_)] ?_;rfl
 ·
  iterate 4 refine ab ?_
  have hg:¬ (t=15∧en<p0+2):=by
   rintro ⟨h15,h2⟩;rw [if_pos h15] at hpn;omega
  have hpl:p0+lJ t≤en:=by omega
  refine bj [bv [(500,_)],ag,ag,ag,ag,ag,ag,ag,ag,ag,ag,ag,ag,ag,ag,ag,bv [(500,_)],ag] [af [] [500] 27 [500],af [0] [] 28,af [27] [0] 29,af [28] [0] 30,af [29] [0] 31,af [0] [] 32,af [31] [0] 33,af [32] [0] 34,af [33] [0] 35,af [0] [] 36,af [35] [0] 37,af [36] [0] 38,af [37] [0] 39,af [9] [] 40,af [38,39] [] 41,af [30,34,40] [] 42,af [26,41] [500] 43 [500],af [42] [] 11] rfl ⟨aC fun _=>aN rfl rfl (bO 500 bc [] []),ah,ah,ah,ah,ah,ah,ah,ah,ah,ah,ah,ah,ah,ah,ah,ah,ah,trivial⟩ ?_;rw [show ((p0:Int)+(lJ t:Int)).toNat=p0+lJ t by omega,show ((p0:Nat):Int).toNat=p0 by omega];iterate 15 refine ab ?_
  rw [hA0];obtain ⟨A0,hA1⟩:∃ A0,A0=(if t=15 then (b.take (p0+2)).drop p0 else []):=⟨_,rfl⟩;rw [← hA1];have hAl:A0.length≤2:=by
   rw [hA1];split
   · rw [List.length_drop,List.length_take];omega
   · simp
  iterate 4 refine ab ?_
  refine AWp.loopR (α:=Nat×List UInt8×Nat×Nat) [6,7,10,11,12,52,53,54,55,56,57,58,59,60,61,62,63,64,65,66,67,68] (fun x_=>[(52,i64 (x_.1)),(10,.sl 500 (x_.2.2.2) 0 (x_.2.1).length 1)]) (fun x_=>[(0,.box [.fz 0 b.length (cl bc b),i64 (x_.2.2.1)]),(500,.row (cl bc (x_.2.1)) 1 (x_.2.2.2))]) (fun x_=>(x_.1)≤cR t∧fS b en (cR t-(x_.1)) (x_.2.1) (x_.2.2.1)=fS b en (cR t) (if t=15 then (b.take (p0+2)).drop p0 else []) (if t=15 then p0+2 else p0)∧(x_.2.1).length≤2+255*(x_.1)∧(x_.2.2.1)≤en) (fun x_=>cR t-(x_.1)) (0,A0,p0+lJ t,1) ?_ (Back.mk' (HasT.cons (HasT.cons HasT.nil)) (HasH.cons (HasH.cons HasH.nil))) ?_
  ·
   exact ⟨Nat.zero_le _,by show fS b en (cR t-0) A0 (p0+lJ t)=_;rw [hA1,hP1];rfl,hAl,hpl⟩
  ·
   rintro ⟨i,ac,p,v⟩ hI7;change i≤cR t∧fS b en (cR t-i) ac p=fS b en (cR t) (if t=15 then (b.take (p0+2)).drop p0 else []) (if t=15 then p0+2 else p0)∧ac.length≤2+255*i∧p≤en at hI7;obtain ⟨hi,hE,hal,hpe⟩:=hI7;refine AWp.as (s':=AS.over _ [6,7,10,11,12,52,53,54,55,56,57,58,59,60,61,62,63,64,65,66,67,68] [(52,i64 i),(10,.sl 500 v 0 ac.length 1)] [(0,.box [.fz 0 b.length (cl bc b),i64 p]),(500,.row (cl bc ac) 1 v)]) rfl ?_;iterate 2 refine ab ?_
   refine am (fun h7_0=>?_) (fun h7_0=>?_)
   ·
    iterate 8 refine ab ?_
    rcases ha:rdN b 20 p p en none [] with e|a
    ·
     iterate 2 refine ab ?_
     refine ai rfl rfl (ay (0) [(0,0)] [] [(_,_)] (hc:=(kJ hb he (by omega) ha))) ?_;iterate 10 refine ab ?_
     refine am (fun h9_1=>?_) (fun h9_1=>?_)
     ·
      iterate 4 refine ab ?_
      refine ai rfl rfl (aR (0) bc) ?_;iterate 3 refine ab ?_
      have h30:rdN b 30 p p en none []=.error (if e=20 then 30 else e):=by rw [sF,ha];rfl
      have hX:rdD b t p0 en=.error (if e=20 then 30 else e):=by rw [jW hg,← hE,show cR t-i=(cR t-(i+1))+1 by omega,jV h30];rfl
      rw [hX,if_pos h9_1];refine rHa (0) [] [_,_] [_,_] [(_,_)] ?_;rfl
     ·
      iterate 7 refine ab ?_
      refine am (fun h11_1=>?_) (fun h11_1=>?_)
      ·
       iterate 5 refine ab ?_
       refine ai rfl rfl (aR (0) bc) ?_;iterate 3 refine ab ?_
       have h30:rdN b 30 p p en none []=.error (if e=20 then 30 else e):=by rw [sF,ha];rfl
       have hX:rdD b t p0 en=.error (if e=20 then 30 else e):=by rw [jW hg,← hE,show cR t-i=(cR t-(i+1))+1 by omega,jV h30];rfl
       rw [hX,if_neg h9_1];refine rHa (0) [] [_,_] [_,_] [(_,_)] ?_;rfl
      ·
       exfalso;exact h11_1 (ld _ _ _ _ _ ha)
    ·
     iterate 2 refine ab ?_
     refine ai rfl rfl (ay (0) [(0,0)] [] [(_,_)] (hc:=(kI hb he (by omega) ha))) ?_;iterate 10 refine ab ?_
     refine am (fun h9_1=>?_) (fun h9_1=>?_)
     ·
      exfalso;simp at h9_1
     ·
      iterate 7 refine ab ?_
      refine am (fun h11_1=>?_) (fun h11_1=>?_)
      ·
       exfalso;simp at h11_1
      ·
       iterate 4 refine ab ?_
       obtain ⟨n1,n2,n3⟩:=jf ha;have h30:rdN b 30 p p en none []=.ok a:=by rw [sF,ha];rfl
       iterate 9 refine ab ?_
       refine ⟨(i+1,ac++a.1,a.2,v+1),?_,Back.mk' (HasT.cons (HasT.cons HasT.nil)) (HasH.cons (HasH.cons HasH.nil)),?_⟩
       ·
        try dsimp only
        refine ⟨by omega,?_,by rw [List.length_append];omega,n3⟩;rw [← hE,show cR t-i=(cR t-(i+1))+1 by omega,mP h30]
       ·
        try dsimp only
        first|omega|(simp;omega)
   ·
    iterate 5 refine ab ?_
    obtain rfl:i=cR t:=by omega
    rw [Nat.sub_self] at hE;have hE2:=hE.symm;rw [fS] at hE2;refine bj [ag,ag,ag,ag,ag,ag,ag,ag,ag,ag,ag,bv [(500,_)],ag] [af [10] [] 70,af [0] [] 71,af [70] [0] 72,af [71] [0] 73,af [72] [0] 74,af [0] [] 75,af [74] [0] 76,af [75] [0] 77,af [76] [0] 78,af [2] [] 79,af [73,77,78] [] 80,af [69,79] [500] 81 [500],af [80] [] 11] rfl ⟨ah,ah,ah,ah,ah,ah,ah,ah,ah,ah,ah,ah,ah,trivial⟩ ?_;rw [show ((en:Nat):Int).toNat=en by omega,show ((p:Nat):Int).toNat=p by omega];iterate 13 refine ab ?_
    refine AOps.bool rfl rfl (aj (0) (hc:=(di t (ac++(b.take en).drop p) 1 (by rw [List.length_append,List.length_drop,List.length_take];omega)))) (fun h17_2=>?_) (fun h17_2=>?_)
    ·
     iterate 11 refine ab ?_
     have hX:rdD b t p0 en=.ok (ac++(b.take en).drop p):=by rw [jW hg,hE2,rdO,if_pos h17_2]
     rw [hX];refine rHa (0) [] [_,_] [_,_] [(_,_)] ?_;rfl
    ·
     iterate 5 refine ab ?_
     refine ai rfl rfl (aR (0) bc) ?_;iterate 3 refine ab ?_
     have hX:rdD b t p0 en=.error 30:=by rw [jW hg,hE2,rdO,if_neg (by simp [h17_2])]
     rw [hX];refine rHa (0) [] [_,_] [_,_] [(_,_)] ?_;rfl
section
variable {b:List UInt8} {t:Int} {p0 en:Nat}
theorem vj {d:List UInt8} (hb:b.length≤65535) (he:en≤b.length) (hp:p0≤en) (h:rdD b t p0 en=.ok d):AC Tryz.prog 147 [.ptr 0 0 0,i64 t,i64 en] (ao [(0,.box [.fz 0 b.length (cl bc b),i64 p0])]) (bZ (.tup [.fz 0 d.length (cl bc d),i64 0]) [(0,.box [.fz 0 b.length (cl bc b),i64 en])]):=by
 have:=vm b t p0 en hb he hp;rw [h] at this;exact this
theorem vk {e:Int} (hb:b.length≤65535) (he:en≤b.length) (hp:p0≤en) (h:rdD b t p0 en=.error e):AC Tryz.prog 147 [.ptr 0 0 0,i64 t,i64 en] (ao [(0,.box [.fz 0 b.length (cl bc b),i64 p0])]) (bZ (.tup [.fz 0 ([]:List UInt8).length (cl bc []),i64 e]) [(0,.box [.fz 0 b.length (cl bc b),.any])]):=by
 have:=vm b t p0 en hb he hp;rw [h] at this;exact this
end
theorem ud {b:List UInt8} {en:Nat}:∀ (k:Nat) (acc:List UInt8) (p:Nat) {e:Int},fS b en k acc p=.error e→e≠0
 | 0,acc,p,e,h=>by cases h
 | k+1,acc,p,e,h=>by
  cases h1:rdN b 30 p p en none [] with
  | error x=>
   rw [jV h1] at h;cases h;rw [sF] at h1;cases h2:rdN b 20 p p en none [] with
   | error y=>
    rw [h2] at h1;have h3:(if y=20 then 30 else y)=e:=by simpa [shE] using h1
    rw [← h3];split
    · decide
    · exact ld _ _ _ _ _ h2
   | ok a=>rw [h2] at h1;cases h1
  | ok a=>rw [mP h1] at h;exact ud k _ _ h
theorem BM {b:List UInt8} {t:Int} {p en:Nat} {e:Int} (h:rdD b t p en=.error e):e≠0:=by
 unfold rdD at h;split at h
 · cases h;decide
 · cases h1:fS b en (cR t) (if t=15 then (b.take (p+2)).drop p else []) (if t=15 then p+2 else p) with
   | error x=>rw [h1] at h;cases h;exact ud _ _ _ h1
   | ok a=>
    rw [h1,rdO] at h;split at h
    · cases h
    · cases h;decide
theorem wO {b:List UInt8} {p:Nat} {e:Int} (h:rdR b p=.error e):e≠0:=by
 unfold rdR at h;cases h1:rdN b 20 p p b.length none [] with
 | error x=>rw [h1] at h;cases h;exact ld _ _ _ _ _ h1
 | ok a=>
  rw [h1,vN] at h;split at h
  · cases h;decide
  · cases h2:rdD b (bN b a.2 2) (a.2+10) (a.2+10+bN b (a.2+8) 2) with
    | error x=>rw [h2] at h;cases h;exact BM h2
    | ok d=>rw [h2] at h;cases h
def zR:Rr:=⟨[],0,0,0,[]⟩
def Dp (b:List UInt8) (n:List UInt8) (q:Nat):Except Int (List UInt8)→Rr
 | .error _=>⟨n,bN b q 2,bN b (q+2) 2,bN b (q+4) 4,[]⟩
 | .ok d=>⟨n,bN b q 2,bN b (q+2) 2,bN b (q+4) 4,d⟩
def wN (b:List UInt8):Except Int (List UInt8×Nat)→Rr
 | .error _=>zR
 | .ok a=>if b.length<a.2+10∨b.length<a.2+10+bN b (a.2+8) 2 then zR else Dp b a.1 a.2 (rdD b (bN b a.2 2) (a.2+10) (a.2+10+bN b (a.2+8) 2))
def qa (b:List UInt8) (p:Nat):Rr:=wN b (rdN b 20 p p b.length none [])
theorem BI {b:List UInt8} {p:Nat} {e:Int} (h:rdN b 20 p p b.length none []=.error e):qa b p=zR:=by rw [qa,h];rfl
theorem l8 {b:List UInt8} {p:Nat} {a:List UInt8×Nat} (h:rdN b 20 p p b.length none []=.ok a) (h1:b.length<a.2+10∨b.length<a.2+10+bN b (a.2+8) 2):qa b p=zR:=by rw [qa,h,wN,if_pos h1]
theorem wM {b:List UInt8} {p:Nat} {a:List UInt8×Nat} (h:rdN b 20 p p b.length none []=.ok a) (h1:¬ b.length<a.2+10) (h2:¬ b.length<a.2+10+bN b (a.2+8) 2):qa b p=Dp b a.1 a.2 (rdD b (bN b a.2 2) (a.2+10) (a.2+10+bN b (a.2+8) 2)):=by rw [qa,h,wN,if_neg (by omega)]
theorem xF (b:List UInt8) (p0:Nat) (hb:b.length≤65535) (hp:p0≤100000):AC Tryz.prog 106 [.ptr 0 0 0] (ao [(0,.box [.fz 0 b.length (cl bc b),i64 p0])]) (bZ (.tup [.agg (rrc (qa b p0)),i64 (rnE (rdR b p0))]) [(0,.box [.fz 0 b.length (cl bc b),atE (rdR b p0)])]):=by
 refine AC.intro te_ok (fn:=Tryz.f106) ⟨Tryz.func106,rfl,rfl⟩ (aE rfl) ?_;iterate 2 refine ab ?_
 refine ai rfl rfl (ap 100) ?_;iterate 4 refine ab ?_
 rcases ha:rdN b 20 p0 p0 b.length none [] with e|a
 ·
  iterate 6 refine ab ?_
  refine ai rfl rfl (ay (0) [(0,0)] [] [(_,_)] (hc:=(kJ hb (Nat.le_refl _) hp ha))) ?_;iterate 10 refine ab ?_
  refine am (fun h2_1=>?_) (fun h2_1=>?_)
  ·
   iterate 4 refine ab ?_
   refine ai rfl rfl (aL []) ?_;iterate 5 refine ab ?_
   have hX:rdR b p0=.error e:=by rw [rdR,ha];rfl
   rw [hX,BI ha];refine rHa (0) [] [_,_] [.agg (rrc zR),_] [(_,_)] ?_;rfl
  ·
   exfalso;exact h2_1 (ld _ _ _ _ _ ha)
 ·
  iterate 6 refine ab ?_
  refine ai rfl rfl (ay (0) [(0,0)] [] [(_,_)] (hc:=(kI hb (Nat.le_refl _) hp ha))) ?_;iterate 10 refine ab ?_
  refine am (fun h2_1=>?_) (fun h2_1=>?_)
  ·
   exfalso;simp at h2_1
  ·
   iterate 6 refine ab ?_
   refine ai rfl rfl (aL [(_,_)]) ?_;refine ai rfl rfl (ap 502) ?_;iterate 8 refine ab ?_
   refine ai rfl rfl (cb tc [false,false,false,false] []) ?_;refine ai rfl rfl (ap 701) ?_;iterate 4 refine ab ?_
   obtain ⟨n1,n2,n3⟩:=jf ha;have hsz:=ox (b:=b) (i:=a.2+8);rcases (by omega:b.length<a.2+2∨(a.2+2≤b.length∧b.length<a.2+4)∨(a.2+4≤b.length∧b.length<a.2+6)∨(a.2+6≤b.length∧b.length<a.2+8)∨(a.2+8≤b.length∧b.length<a.2+10)∨a.2+10≤b.length) with g1|g1|g1|g1|g1|g1
   ·
    refine ab ?_;refine ai rfl rfl (ay (0) [(0,0)] [] [(_,_)] (hc:=(ck b (a.2) 2 hb (by omega) (by omega) (by omega)))) ?_;iterate 11 refine ab ?_
    refine ai rfl rfl (ay (0) [(0,0)] [] [(_,_)] (hc:=(ck b (a.2) 2 hb (by omega) (by omega) (by omega)))) ?_;iterate 11 refine ab ?_
    refine ai rfl rfl (ay (0) [(0,0)] [] [(_,_)] (hc:=(ck b (a.2) 4 hb (by omega) (by omega) (by omega)))) ?_;iterate 11 refine ab ?_
    refine ai rfl rfl (ay (0) [(0,0)] [] [(_,_)] (hc:=(ck b (a.2) 2 hb (by omega) (by omega) (by omega)))) ?_;iterate 9 refine ab ?_
    refine bj [ag,ag,ag,ag,ag,ag,ag,ag,ag,ag,ag,ag,ag,ag,ag,ag,ag] [af [8] [701] 54,af [] [] 55,af [53,54] [] 56,af [55] [] 57,af [56] [] 58,af [56] [] 59,af [56] [] 60,af [56] [] 61,af [56] [] 62,af [56] [] 63,af [56] [] 64,af [56] [] 65,af [56] [] 66,af [56] [] 67,af [56] [] 68,af [56] [] 69,af [56,68] [] 70] rfl ⟨ah,aC fun _=>aN rfl rfl (cb tc [true,true,true,true] [(_,_),(_,_),(_,_),(_,_)]),aC fun _=>aN rfl rfl ((OpOk.bool_is (c:=true) (qi) (rfl))),ah,ah,ah,ah,ah,ah,ah,ah,ah,ah,ah,ah,ah,ah,trivial⟩ ?_;iterate 3 refine ab ?_
    refine ai rfl rfl (aL []) ?_;iterate 4 refine ab ?_
    have hX:rdR b p0=.error 20:=eF ha (by omega);rw [hX,l8 ha (by omega)];refine rHa (0) [] [_,_] [.agg (rrc zR),_] [(_,_)] ?_;rfl
   ·
    refine ab ?_;refine ai rfl rfl (ay (0) [(0,0)] [] [(_,_)] (hc:=(bU b (a.2) 2 hb (by omega) (by omega) (by omega)))) ?_;iterate 11 refine ab ?_
    refine ai rfl rfl (ay (0) [(0,0)] [] [(_,_)] (hc:=(ck b (a.2+2) 2 hb (by omega) (by omega) (by omega)))) ?_;iterate 11 refine ab ?_
    refine ai rfl rfl (ay (0) [(0,0)] [] [(_,_)] (hc:=(ck b (a.2+2) 4 hb (by omega) (by omega) (by omega)))) ?_;iterate 11 refine ab ?_
    refine ai rfl rfl (ay (0) [(0,0)] [] [(_,_)] (hc:=(ck b (a.2+2) 2 hb (by omega) (by omega) (by omega)))) ?_;iterate 9 refine ab ?_
    refine bj [ag,ag,ag,ag,ag,ag,ag,ag,ag,ag,ag,ag,ag,ag,ag,ag,ag] [af [8] [701] 54,af [] [] 55,af [53,54] [] 56,af [55] [] 57,af [56] [] 58,af [56] [] 59,af [56] [] 60,af [56] [] 61,af [56] [] 62,af [56] [] 63,af [56] [] 64,af [56] [] 65,af [56] [] 66,af [56] [] 67,af [56] [] 68,af [56] [] 69,af [56,68] [] 70] rfl ⟨ah,aC fun _=>aN rfl rfl (cb tc [true,true,true,true] [(_,_),(_,_),(_,_),(_,_)]),aC fun _=>aN rfl rfl ((OpOk.bool_is (c:=true) (qi) (rfl))),ah,ah,ah,ah,ah,ah,ah,ah,ah,ah,ah,ah,ah,ah,trivial⟩ ?_;iterate 3 refine ab ?_
    refine ai rfl rfl (aL []) ?_;iterate 4 refine ab ?_
    have hX:rdR b p0=.error 20:=eF ha (by omega);rw [hX,l8 ha (by omega)];refine rHa (0) [] [_,_] [.agg (rrc zR),_] [(_,_)] ?_;rfl
   ·
    refine ab ?_;refine ai rfl rfl (ay (0) [(0,0)] [] [(_,_)] (hc:=(bU b (a.2) 2 hb (by omega) (by omega) (by omega)))) ?_;iterate 11 refine ab ?_
    refine ai rfl rfl (ay (0) [(0,0)] [] [(_,_)] (hc:=(bU b (a.2+2) 2 hb (by omega) (by omega) (by omega)))) ?_;iterate 11 refine ab ?_
    refine ai rfl rfl (ay (0) [(0,0)] [] [(_,_)] (hc:=(ck b (a.2+4) 4 hb (by omega) (by omega) (by omega)))) ?_;iterate 11 refine ab ?_
    refine ai rfl rfl (ay (0) [(0,0)] [] [(_,_)] (hc:=(ck b (a.2+4) 2 hb (by omega) (by omega) (by omega)))) ?_;iterate 9 refine ab ?_
    refine bj [ag,ag,ag,ag,ag,ag,ag,ag,ag,ag,ag,ag,ag,ag,ag,ag,ag] [af [8] [701] 54,af [] [] 55,af [53,54] [] 56,af [55] [] 57,af [56] [] 58,af [56] [] 59,af [56] [] 60,af [56] [] 61,af [56] [] 62,af [56] [] 63,af [56] [] 64,af [56] [] 65,af [56] [] 66,af [56] [] 67,af [56] [] 68,af [56] [] 69,af [56,68] [] 70] rfl ⟨ah,aC fun _=>aN rfl rfl (cb tc [true,true,true,true] [(_,_),(_,_),(_,_),(_,_)]),aC fun _=>aN rfl rfl ((OpOk.bool_is (c:=true) (qi) (rfl))),ah,ah,ah,ah,ah,ah,ah,ah,ah,ah,ah,ah,ah,ah,trivial⟩ ?_;iterate 3 refine ab ?_
    refine ai rfl rfl (aL []) ?_;iterate 4 refine ab ?_
    have hX:rdR b p0=.error 20:=eF ha (by omega);rw [hX,l8 ha (by omega)];refine rHa (0) [] [_,_] [.agg (rrc zR),_] [(_,_)] ?_;rfl
   ·
    refine ab ?_;refine ai rfl rfl (ay (0) [(0,0)] [] [(_,_)] (hc:=(bU b (a.2) 2 hb (by omega) (by omega) (by omega)))) ?_;iterate 11 refine ab ?_
    refine ai rfl rfl (ay (0) [(0,0)] [] [(_,_)] (hc:=(bU b (a.2+2) 2 hb (by omega) (by omega) (by omega)))) ?_;iterate 11 refine ab ?_
    refine ai rfl rfl (ay (0) [(0,0)] [] [(_,_)] (hc:=(ck b (a.2+4) 4 hb (by omega) (by omega) (by omega)))) ?_;iterate 11 refine ab ?_
    refine ai rfl rfl (ay (0) [(0,0)] [] [(_,_)] (hc:=(bU b (a.2+4) 2 hb (by omega) (by omega) (by omega)))) ?_;iterate 9 refine ab ?_
    refine bj [ag,ag,ag,ag,ag,ag,ag,ag,ag,ag,ag,ag,ag,ag,ag,ag,ag] [af [8] [701] 54,af [] [] 55,af [53,54] [] 56,af [55] [] 57,af [56] [] 58,af [56] [] 59,af [56] [] 60,af [56] [] 61,af [56] [] 62,af [56] [] 63,af [56] [] 64,af [56] [] 65,af [56] [] 66,af [56] [] 67,af [56] [] 68,af [56] [] 69,af [56,68] [] 70] rfl ⟨ah,aC fun _=>aN rfl rfl (cb tc [true,true,true,true] [(_,_),(_,_),(_,_),(_,_)]),aC fun _=>aN rfl rfl ((OpOk.bool_is (c:=true) (qi) (rfl))),ah,ah,ah,ah,ah,ah,ah,ah,ah,ah,ah,ah,ah,ah,trivial⟩ ?_;iterate 3 refine ab ?_
    refine ai rfl rfl (aL []) ?_;iterate 4 refine ab ?_
    have hX:rdR b p0=.error 20:=eF ha (by omega);rw [hX,l8 ha (by omega)];refine rHa (0) [] [_,_] [.agg (rrc zR),_] [(_,_)] ?_;rfl
   ·
    refine ab ?_;refine ai rfl rfl (ay (0) [(0,0)] [] [(_,_)] (hc:=(bU b (a.2) 2 hb (by omega) (by omega) (by omega)))) ?_;iterate 11 refine ab ?_
    refine ai rfl rfl (ay (0) [(0,0)] [] [(_,_)] (hc:=(bU b (a.2+2) 2 hb (by omega) (by omega) (by omega)))) ?_;iterate 11 refine ab ?_
    refine ai rfl rfl (ay (0) [(0,0)] [] [(_,_)] (hc:=(bU b (a.2+4) 4 hb (by omega) (by omega) (by omega)))) ?_;iterate 11 refine ab ?_
    refine ai rfl rfl (ay (0) [(0,0)] [] [(_,_)] (hc:=(ck b (a.2+8) 2 hb (by omega) (by omega) (by omega)))) ?_;iterate 9 refine ab ?_
    refine bj [ag,ag,ag,ag,ag,ag,ag,ag,ag,ag,ag,ag,ag,ag,ag,ag,ag] [af [8] [701] 54,af [] [] 55,af [53,54] [] 56,af [55] [] 57,af [56] [] 58,af [56] [] 59,af [56] [] 60,af [56] [] 61,af [56] [] 62,af [56] [] 63,af [56] [] 64,af [56] [] 65,af [56] [] 66,af [56] [] 67,af [56] [] 68,af [56] [] 69,af [56,68] [] 70] rfl ⟨ah,aC fun _=>aN rfl rfl (cb tc [true,true,true,true] [(_,_),(_,_),(_,_),(_,_)]),aC fun _=>aN rfl rfl ((OpOk.bool_is (c:=true) (qi) (rfl))),ah,ah,ah,ah,ah,ah,ah,ah,ah,ah,ah,ah,ah,ah,trivial⟩ ?_;iterate 3 refine ab ?_
    refine ai rfl rfl (aL []) ?_;iterate 4 refine ab ?_
    have hX:rdR b p0=.error 20:=eF ha (by omega);rw [hX,l8 ha (by omega)];refine rHa (0) [] [_,_] [.agg (rrc zR),_] [(_,_)] ?_;rfl
   ·
    refine ab ?_;refine ai rfl rfl (ay (0) [(0,0)] [] [(_,_)] (hc:=(bU b (a.2) 2 hb (by omega) (by omega) (by omega)))) ?_;iterate 11 refine ab ?_
    refine ai rfl rfl (ay (0) [(0,0)] [] [(_,_)] (hc:=(bU b (a.2+2) 2 hb (by omega) (by omega) (by omega)))) ?_;iterate 11 refine ab ?_
    refine ai rfl rfl (ay (0) [(0,0)] [] [(_,_)] (hc:=(bU b (a.2+4) 4 hb (by omega) (by omega) (by omega)))) ?_;iterate 11 refine ab ?_
    refine ai rfl rfl (ay (0) [(0,0)] [] [(_,_)] (hc:=(bU b (a.2+8) 2 hb (by omega) (by omega) (by omega)))) ?_;iterate 9 refine ab ?_
    by_cases g2:b.length<a.2+10+bN b (a.2+8) 2
    ·
     refine bj [ag,ag,ag,ag,ag,ag,ag,ag,ag,ag,ag,ag,ag,ag,ag,ag,ag] [af [8] [701] 54,af [] [] 55,af [53,54] [] 56,af [55] [] 57,af [0,56] [] 58,af [56,57] [0] 59,af [56,58] [0] 60,af [56,59] [0] 61,af [56,60] [] 62,af [0,56] [] 63,af [56,62] [0] 64,af [56,63] [0] 65,af [56,64] [0] 66,af [56,61,65] [] 67,af [7,56] [] 68,af [56,66,67] [] 69,af [56,68] [] 70] rfl ⟨ah,aC fun _=>aN rfl rfl (cb tc [true,true,true,true] [(_,_),(_,_),(_,_),(_,_)]),aC fun _=>aN rfl rfl ((OpOk.bool_is (c:=false) (qi) (rfl))),ah,ah,ah,ah,ah,ah,ah,ah,ah,ah,ah,ah,aC fun _=>dV rfl rfl rfl rfl rfl ((OpOk.dec_t (e8) (by omega))),ah,trivial⟩ ?_;iterate 3 refine ab ?_
     refine ai rfl rfl (aL []) ?_;iterate 4 refine ab ?_
     have hX:rdR b p0=.error 20:=eF ha (by omega);rw [hX,l8 ha (by omega)];refine rHa (0) [] [_,_] [.agg (rrc zR),_] [(_,_)] ?_;rfl
    ·
     refine bj [ag,ag,ag,ag,ag,ag,ag,ag,ag,ag,ag,ag,ag,ag,ag,ag,ag] [af [8] [701] 54,af [] [] 55,af [53,54] [] 56,af [55] [] 57,af [0,56] [] 58,af [56,57] [0] 59,af [56,58] [0] 60,af [56,59] [0] 61,af [56,60] [] 62,af [0,56] [] 63,af [56,62] [0] 64,af [56,63] [0] 65,af [56,64] [0] 66,af [56,61,65] [] 67,af [7,56] [] 68,af [56,66,67] [] 69,af [56,68] [] 70] rfl ⟨ah,aC fun _=>aN rfl rfl (cb tc [true,true,true,true] [(_,_),(_,_),(_,_),(_,_)]),aC fun _=>aN rfl rfl ((OpOk.bool_is (c:=false) (qi) (rfl))),ah,ah,ah,ah,ah,ah,ah,ah,ah,ah,ah,ah,aC fun _=>dV rfl rfl rfl rfl rfl ((OpOk.dec_f (e8) (by omega))),ah,trivial⟩ ?_;iterate 3 refine ab ?_
     rcases hd:rdD b (bN b a.2 2) (a.2+10) (a.2+10+bN b (a.2+8) 2) with e|d
     ·
      refine bj [ag,ag,ag,ag,ag,ag,ag,ag,ag,bv [(0,_)],ag,ag,ag,ag,bv [(502,_)],ag] [af [0] [] 73,af [6] [502] 74,af [73] [502] 75,af [0] [] 76,af [75] [0] 77,af [76] [0] 78,af [77] [0] 79,af [7] [] 80,af [78,79] [] 81,af [72,74,80] [0] 82 [0],af [81] [] 72,af [71] [] 83,af [71] [] 84,af [6] [502] 85,af [82,84] [502] 0 [502],af [83] [] 6] rfl ⟨ah,ah,ah,ah,ah,ah,ah,ah,ah,aC fun _=>aN rfl rfl (ay (0) [(0,0)] [] [(_,_)] (hc:=(vk hb (by omega) (by omega) hd))),ah,ah,ah,ah,ah,ah,trivial⟩ ?_;iterate 8 refine ab ?_
      have hX:rdR b p0=.error e:=by rw [nN ha (by omega) (by omega),hd];rfl
      rw [hX,wM ha (by omega) (by omega),hd];refine rHa (0) [] [_,_] [_,_] [(_,_)] ?_;rfl
     ·
      refine bj [ag,ag,ag,ag,ag,ag,ag,ag,ag,bv [(0,_)],ag,ag,ag,ag,bv [(502,_)],ag] [af [0] [] 73,af [6] [502] 74,af [73] [502] 75,af [0] [] 76,af [75] [0] 77,af [76] [0] 78,af [77] [0] 79,af [7] [] 80,af [78,79] [] 81,af [72,74,80] [0] 82 [0],af [81] [] 72,af [71] [] 83,af [71] [] 84,af [6] [502] 85,af [82,84] [502] 0 [502],af [83] [] 6] rfl ⟨ah,ah,ah,ah,ah,ah,ah,ah,ah,aC fun _=>aN rfl rfl (ay (0) [(0,0)] [] [(_,_)] (hc:=(vj hb (by omega) (by omega) hd))),ah,ah,ah,ah,ah,ah,trivial⟩ ?_;iterate 8 refine ab ?_
      have hX:rdR b p0=.ok (⟨a.1,bN b a.2 2,bN b (a.2+2) 2,bN b (a.2+4) 4,d⟩,a.2+10+bN b (a.2+8) 2):=by rw [nN ha (by omega) (by omega),hd];rfl
      rw [hX,wM ha (by omega) (by omega),hd];refine rHa (0) [] [_,_] [_,_] [(_,_)] ?_;rfl
section
variable {b:List UInt8} {p0 k:Nat}
theorem wu {x:Rr×Nat} (hb:b.length≤65535) (hp:p0≤100000) (h:rdR b p0=.ok x):AC Tryz.prog 106 [.ptr 0 0 0] (ao [(0,.box [.fz 0 b.length (cl bc b),i64 p0])]) (bZ (.tup [.agg (rrc (qa b p0)),i64 0]) [(0,.box [.fz 0 b.length (cl bc b),i64 x.2])]):=by
 have:=xF b p0 hb hp;rw [h] at this;exact this
theorem wv {e:Int} (hb:b.length≤65535) (hp:p0≤100000) (h:rdR b p0=.error e):AC Tryz.prog 106 [.ptr 0 0 0] (ao [(0,.box [.fz 0 b.length (cl bc b),i64 p0])]) (bZ (.tup [.agg (rrc (qa b p0)),i64 e]) [(0,.box [.fz 0 b.length (cl bc b),.any])]):=by
 have:=xF b p0 hb hp;rw [h] at this;exact this
end
theorem mN {b:List UInt8}:∀ (k:Nat) (acc:List Rr) (p:Nat) {e:Int},bL b k acc p=.error e→e≠0
 | 0,acc,p,e,h=>by cases h
 | k+1,acc,p,e,h=>by
  cases h1:rdR b p with
  | error x=>rw [ga h1] at h;cases h;exact wO h1
  | ok a=>rw [gK h1] at h;exact mN k _ _ h
theorem l9 {b:List UInt8}:∀ (k:Nat) (acc:List Rr) (p:Nat) {q:List Rr×Nat},bL b k acc p=.ok q→p≤b.length→q.2≤b.length
 | 0,acc,p,q,h,hp=>by cases h;exact hp
 | k+1,acc,p,q,h,hp=>by
  cases h1:rdR b p with
  | error x=>rw [ga h1] at h;cases h
  | ok a=>rw [gK h1] at h;exact l9 k _ _ h (qc h1).2
theorem ub {b:List UInt8}:∀ (k:Nat) (acc:List Qu) (p:Nat) {e:Int},dz b k acc p=.error e→e≠0
 | 0,acc,p,e,h=>by cases h
 | k+1,acc,p,e,h=>by
  cases h1:rdN b 20 p p b.length none [] with
  | error x=>rw [iM h1] at h;cases h;exact ld _ _ _ _ _ h1
  | ok a=>
   by_cases h2:b.length<a.2+4
   · rw [gb h1 h2] at h;cases h;decide
   · rw [je h1 h2] at h;exact ub k _ _ h
theorem sE {b:List UInt8}:∀ (k:Nat) (acc:List Qu) (p:Nat) {q:List Qu×Nat},dz b k acc p=.ok q→p≤b.length→q.2≤b.length
 | 0,acc,p,q,h,hp=>by cases h;exact hp
 | k+1,acc,p,q,h,hp=>by
  cases h1:rdN b 20 p p b.length none [] with
  | error x=>rw [iM h1] at h;cases h
  | ok a=>
   by_cases h2:b.length<a.2+4
   · rw [gb h1 h2] at h;cases h
   · rw [je h1 h2] at h;exact sE k _ _ h (by omega)
theorem BH {b:List UInt8} {p:Nat} {x:Rr×Nat} (h:rdR b p=.ok x):qa b p=x.1:=by
 unfold rdR at h;unfold qa;cases h1:rdN b 20 p p b.length none [] with
 | error e=>rw [h1] at h;cases h
 | ok a=>
  rw [h1,vN] at h;rw [wN];split at h
  · cases h
  · rename_i h2
    rw [if_neg h2];cases h3:rdD b (bN b a.2 2) (a.2+10) (a.2+10+bN b (a.2+8) 2) with
    | error e=>rw [h3] at h;cases h
    | ok d=>rw [h3] at h;cases h;rfl
def BE {α:Type}:Except Int (List α×Nat)→List α
 | .error _=>[]
 | .ok a=>a.1
theorem B4 (b:List UInt8) (p0 k:Nat) (hb:b.length≤65535) (hp:p0≤b.length) (hk:k≤65535):AC Tryz.prog 62 [.ptr 0 0 0,i64 k] (ao [(0,.box [.fz 0 b.length (cl bc b),i64 p0])]) (bZ (.tup [.fz 0 (BE (bL b k [] p0)).length (cl rrc (BE (bL b k [] p0))),i64 (rnE (bL b k [] p0))]) [(0,.box [.fz 0 b.length (cl bc b),atE (bL b k [] p0)])]):=by
 refine AC.intro te_ok (fn:=Tryz.f62) ⟨Tryz.func62,rfl,rfl⟩ (aE rfl) ?_;iterate 2 refine ab ?_
 refine ai rfl rfl (aR (0) rrc) ?_;iterate 4 refine ab ?_
 refine ai rfl rfl (bD 200 5 rrc) ?_;iterate 8 refine ab ?_
 refine AWp.loopR (α:=Nat×List Rr×Nat×Nat) [4,5,6,7,8,10,11,12,13,14,15,16,17,18,19,20,21,22,23,24] (fun x_=>[(10,i64 (x_.1)),(6,.sl 200 (x_.2.2.2) 0 (x_.2.1).length 5)]) (fun x_=>[(0,.box [.fz 0 b.length (cl bc b),i64 (x_.2.2.1)]),(200,.row (cl rrc (x_.2.1)) 5 (x_.2.2.2))]) (fun x_=>(x_.1)≤k∧bL b (k-(x_.1)) (x_.2.1) (x_.2.2.1)=bL b k [] p0∧(x_.2.1).length=(x_.1)∧(x_.2.2.1)≤b.length) (fun x_=>k-(x_.1)) (0,[],p0,0) ?_ (Back.mk' (HasT.cons (HasT.cons HasT.nil)) (HasH.cons (HasH.cons HasH.nil))) ?_
 ·
  exact ⟨Nat.zero_le _,rfl,rfl,hp⟩
 ·
  rintro ⟨i,l,p,v⟩ hI3;change i≤k∧bL b (k-i) l p=bL b k [] p0∧l.length=i∧p≤b.length at hI3;obtain ⟨hi,hE,hll,hpe⟩:=hI3;refine AWp.as (s':=AS.over _ [4,5,6,7,8,10,11,12,13,14,15,16,17,18,19,20,21,22,23,24] [(10,i64 i),(6,.sl 200 v 0 l.length 5)] [(0,.box [.fz 0 b.length (cl bc b),i64 p]),(200,.row (cl rrc l) 5 v)]) rfl ?_;iterate 2 refine ab ?_
  refine am (fun h3_0=>?_) (fun h3_0=>?_)
  ·
   iterate 8 refine ab ?_
   rcases ha:rdR b p with e|a
   ·
    refine ab ?_;refine ai rfl rfl (ay (0) [(0,0)] [] [(_,_)] (hc:=(wv hb (by omega) ha))) ?_;iterate 3 refine ab ?_
    refine ai rfl rfl (ap 505) ?_;iterate 7 refine ab ?_
    refine am (fun h5_1=>?_) (fun h5_1=>?_)
    ·
     iterate 5 refine ab ?_
     refine ai rfl rfl (aR (0) rrc) ?_;iterate 3 refine ab ?_
     have hX:bL b k [] p0=.error e:=by rw [← hE,show k-i=(k-(i+1))+1 by omega,ga ha]
     rw [hX];refine rHa (0) [] [_,_] [_,_] [(_,_)] ?_;rfl
    ·
     exfalso;exact h5_1 (wO ha)
   ·
    refine ab ?_;refine ai rfl rfl (ay (0) [(0,0)] [] [(_,_)] (hc:=(wu hb (by omega) ha))) ?_;iterate 3 refine ab ?_
    refine ai rfl rfl (ap 505) ?_;iterate 7 refine ab ?_
    refine am (fun h5_1=>?_) (fun h5_1=>?_)
    ·
     exfalso;simp at h5_1
    ·
     iterate 4 refine ab ?_
     rw [BH ha];iterate 2 refine ab ?_
     refine ai rfl rfl (bO 802 rrc [a.1] [(_,_)]) ?_;iterate 7 refine ab ?_
     refine ⟨(i+1,l++[a.1],a.2,v+1),?_,Back.mk' (HasT.cons (HasT.cons HasT.nil)) (HasH.cons (HasH.cons HasH.nil)),?_⟩
     ·
      try dsimp only
      refine ⟨by omega,?_,by rw [List.length_append,hll];rfl,(qc ha).2⟩;rw [← hE,show k-i=(k-(i+1))+1 by omega,gK ha]
     ·
      try dsimp only
      first|omega|(simp;omega)
  ·
   iterate 11 refine ab ?_
   obtain rfl:i=k:=by omega
   rw [Nat.sub_self,bL] at hE;rw [← hE];refine rHa (0) [] [_,_] [_,_] [(_,_)] ?_;rfl
theorem B5 (b:List UInt8) (p0 k:Nat) (hb:b.length≤65535) (hp:p0≤b.length) (hk:k≤65535):AC Tryz.prog 61 [.ptr 0 0 0,i64 k] (ao [(0,.box [.fz 0 b.length (cl bc b),i64 p0])]) (bZ (.tup [.fz 0 (BE (dz b k [] p0)).length (cl quc (BE (dz b k [] p0))),i64 (rnE (dz b k [] p0))]) [(0,.box [.fz 0 b.length (cl bc b),atE (dz b k [] p0)])]):=by
 refine AC.intro te_ok (fn:=Tryz.f61) ⟨Tryz.func61,rfl,rfl⟩ (aE rfl) ?_;iterate 2 refine ab ?_
 refine ai rfl rfl (aR (0) quc) ?_;iterate 4 refine ab ?_
 refine ai rfl rfl (bD 200 3 quc) ?_;iterate 8 refine ab ?_
 refine AWp.loopR (α:=Nat×List Qu×Nat×Nat) [4,5,6,7,8,9,10,11,12,14,15,16,17,18,19,20,21,22,23,24,25,26,27,28,29,30,31,32,33,34,35,36,37,38,39,40,41,42,43,44,45,46,47,48,49,50,51,52] (fun x_=>[(14,i64 (x_.1)),(6,.sl 200 (x_.2.2.2) 0 (x_.2.1).length 3)]) (fun x_=>[(0,.box [.fz 0 b.length (cl bc b),i64 (x_.2.2.1)]),(200,.row (cl quc (x_.2.1)) 3 (x_.2.2.2))]) (fun x_=>(x_.1)≤k∧dz b (k-(x_.1)) (x_.2.1) (x_.2.2.1)=dz b k [] p0∧(x_.2.1).length=(x_.1)∧(x_.2.2.1)≤b.length) (fun x_=>k-(x_.1)) (0,[],p0,0) ?_ (Back.mk' (HasT.cons (HasT.cons HasT.nil)) (HasH.cons (HasH.cons HasH.nil))) ?_
 ·
  exact ⟨Nat.zero_le _,rfl,rfl,hp⟩
 ·
  rintro ⟨i,l,p,v⟩ hI3;change i≤k∧dz b (k-i) l p=dz b k [] p0∧l.length=i∧p≤b.length at hI3;obtain ⟨hi,hE,hll,hpe⟩:=hI3;refine AWp.as (s':=AS.over _ [4,5,6,7,8,9,10,11,12,14,15,16,17,18,19,20,21,22,23,24,25,26,27,28,29,30,31,32,33,34,35,36,37,38,39,40,41,42,43,44,45,46,47,48,49,50,51,52] [(14,i64 i),(6,.sl 200 v 0 l.length 3)] [(0,.box [.fz 0 b.length (cl bc b),i64 p]),(200,.row (cl quc l) 3 v)]) rfl ?_;iterate 2 refine ab ?_
  refine am (fun h3_0=>?_) (fun h3_0=>?_)
  ·
   iterate 8 refine ab ?_
   rcases ha:rdN b 20 p p b.length none [] with e|a
   ·
    iterate 6 refine ab ?_
    refine ai rfl rfl (ay (0) [(0,0)] [] [(_,_)] (hc:=(kJ hb (Nat.le_refl _) (by omega) ha))) ?_;iterate 10 refine ab ?_
    refine am (fun h5_1=>?_) (fun h5_1=>?_)
    ·
     iterate 5 refine ab ?_
     refine ai rfl rfl (aR (0) quc) ?_;iterate 3 refine ab ?_
     have hX:dz b k [] p0=.error e:=by rw [← hE,show k-i=(k-(i+1))+1 by omega,iM ha]
     rw [hX];refine rHa (0) [] [_,_] [_,_] [(_,_)] ?_;rfl
    ·
     exfalso;exact h5_1 (ld _ _ _ _ _ ha)
   ·
    iterate 6 refine ab ?_
    refine ai rfl rfl (ay (0) [(0,0)] [] [(_,_)] (hc:=(kI hb (Nat.le_refl _) (by omega) ha))) ?_;iterate 10 refine ab ?_
    refine am (fun h5_1=>?_) (fun h5_1=>?_)
    ·
     exfalso;simp at h5_1
    ·
     iterate 5 refine ab ?_
     obtain ⟨n1,n2,n3⟩:=jf ha;rcases (by omega:b.length<a.2+2∨(a.2+2≤b.length∧b.length<a.2+4)∨a.2+4≤b.length) with g1|g1|g1
     ·
      refine ab ?_;refine ai rfl rfl (ay (0) [(0,0)] [] [(_,_)] (hc:=(ck b (a.2) 2 hb (by omega) (by omega) (by omega)))) ?_;iterate 2 refine ab ?_
      refine AOps.cons rfl rfl ((OpOk.bool_is (c:=false) (bM) (rfl))) ?_;iterate 6 refine ab ?_
      refine ai rfl rfl (ay (0) [(0,0)] [] [(_,_)] (hc:=(ck b (a.2) 2 hb (by omega) (by omega) (by omega)))) ?_;iterate 2 refine ab ?_
      refine AOps.cons rfl rfl ((OpOk.bool_is (c:=false) (bM) (rfl))) ?_;iterate 16 refine ab ?_
      refine ai rfl rfl (aR (0) quc) ?_;iterate 3 refine ab ?_
      have hX:dz b k [] p0=.error 20:=by rw [← hE,show k-i=(k-(i+1))+1 by omega,gb ha (by omega)]
      rw [hX];refine rHa (0) [] [_,_] [_,_] [(_,_)] ?_;rfl
     ·
      refine ab ?_;refine ai rfl rfl (ay (0) [(0,0)] [] [(_,_)] (hc:=(bU b (a.2) 2 hb (by omega) (by omega) (by omega)))) ?_;iterate 2 refine ab ?_
      refine AOps.cons rfl rfl ((OpOk.bool_is (c:=true) (bM) (rfl))) ?_;iterate 6 refine ab ?_
      refine ai rfl rfl (ay (0) [(0,0)] [] [(_,_)] (hc:=(ck b (a.2+2) 2 hb (by omega) (by omega) (by omega)))) ?_;iterate 2 refine ab ?_
      refine AOps.cons rfl rfl ((OpOk.bool_is (c:=false) (bM) (rfl))) ?_;iterate 16 refine ab ?_
      refine ai rfl rfl (aR (0) quc) ?_;iterate 3 refine ab ?_
      have hX:dz b k [] p0=.error 20:=by rw [← hE,show k-i=(k-(i+1))+1 by omega,gb ha (by omega)]
      rw [hX];refine rHa (0) [] [_,_] [_,_] [(_,_)] ?_;rfl
     ·
      refine ab ?_;refine ai rfl rfl (ay (0) [(0,0)] [] [(_,_)] (hc:=(bU b (a.2) 2 hb (by omega) (by omega) (by omega)))) ?_;iterate 2 refine ab ?_
      refine AOps.cons rfl rfl ((OpOk.bool_is (c:=true) (bM) (rfl))) ?_;iterate 6 refine ab ?_
      refine ai rfl rfl (ay (0) [(0,0)] [] [(_,_)] (hc:=(bU b (a.2+2) 2 hb (by omega) (by omega) (by omega)))) ?_;iterate 2 refine ab ?_
      refine AOps.cons rfl rfl ((OpOk.bool_is (c:=true) (bM) (rfl))) ?_;iterate 20 refine ab ?_
      refine ai rfl rfl (aL [(_,_),(_,_),(_,_)]) ?_;refine ai rfl rfl (bO 1205 quc [⟨a.1,bN b a.2 2,bN b (a.2+2) 2⟩] [(_,_)]) ?_;iterate 7 refine ab ?_
      refine ⟨(i+1,l++[⟨a.1,bN b a.2 2,bN b (a.2+2) 2⟩],a.2+4,v+1),?_,Back.mk' (HasT.cons (HasT.cons HasT.nil)) (HasH.cons (HasH.cons HasH.nil)),?_⟩
      ·
       try dsimp only
       refine ⟨by omega,?_,by rw [List.length_append,hll];rfl,by omega⟩;rw [← hE,show k-i=(k-(i+1))+1 by omega,je ha (by omega)]
      ·
       try dsimp only
       first|omega|(simp;omega)
  ·
   iterate 11 refine ab ?_
   obtain rfl:i=k:=by omega
   rw [Nat.sub_self,dz] at hE;rw [← hE];refine rHa (0) [] [_,_] [_,_] [(_,_)] ?_;rfl
section
variable {b:List UInt8} {p0 k:Nat}
theorem om {x:List Rr×Nat} (hb:b.length≤65535) (hp:p0≤b.length) (hk:k≤65535) (h:bL b k [] p0=.ok x):AC Tryz.prog 62 [.ptr 0 0 0,i64 k] (ao [(0,.box [.fz 0 b.length (cl bc b),i64 p0])]) (bZ (.tup [.fz 0 x.1.length (cl rrc x.1),i64 0]) [(0,.box [.fz 0 b.length (cl bc b),i64 x.2])]):=by
 have:=B4 b p0 k hb hp hk;rw [h] at this;exact this
theorem oq {e:Int} (hb:b.length≤65535) (hp:p0≤b.length) (hk:k≤65535) (h:bL b k [] p0=.error e):AC Tryz.prog 62 [.ptr 0 0 0,i64 k] (ao [(0,.box [.fz 0 b.length (cl bc b),i64 p0])]) (bZ (.tup [.fz 0 ([]:List Rr).length (cl rrc []),i64 e]) [(0,.box [.fz 0 b.length (cl bc b),.any])]):=by
 have:=B4 b p0 k hb hp hk;rw [h] at this;exact this
theorem yF {x:List Qu×Nat} (hb:b.length≤65535) (hp:p0≤b.length) (hk:k≤65535) (h:dz b k [] p0=.ok x):AC Tryz.prog 61 [.ptr 0 0 0,i64 k] (ao [(0,.box [.fz 0 b.length (cl bc b),i64 p0])]) (bZ (.tup [.fz 0 x.1.length (cl quc x.1),i64 0]) [(0,.box [.fz 0 b.length (cl bc b),i64 x.2])]):=by
 have:=B5 b p0 k hb hp hk;rw [h] at this;exact this
theorem yG {e:Int} (hb:b.length≤65535) (hp:p0≤b.length) (hk:k≤65535) (h:dz b k [] p0=.error e):AC Tryz.prog 61 [.ptr 0 0 0,i64 k] (ao [(0,.box [.fz 0 b.length (cl bc b),i64 p0])]) (bZ (.tup [.fz 0 ([]:List Qu).length (cl quc []),i64 e]) [(0,.box [.fz 0 b.length (cl bc b),.any])]):=by
 have:=B5 b p0 k hb hp hk;rw [h] at this;exact this
end
theorem jr {b:List UInt8} {e:Int} (h:rdM b=.error e):cG b=zM∧jN b=e:=by rw [cG,jN,h];exact ⟨rfl,rfl⟩
theorem ET {b:List UInt8} {m:Msg} (h:rdM b=.ok m):cG b=m∧jN b=0:=by rw [cG,jN,h];exact ⟨rfl,rfl⟩
theorem td (b:List UInt8) (hb:b.length≤140737488351232):AC Tryz.prog 31 [.fz 0 b.length (cl bc b)] (ao []) (bZ (.tup [.agg (dn (cG b)),i64 (jN b)]) []):=by
 refine AC.intro te_ok (fn:=Tryz.f31) ⟨Tryz.func31,rfl,rfl⟩ (aE rfl) ?_;iterate 2 refine ab ?_
 refine ai rfl rfl (ap 100) ?_;iterate 7 refine ab ?_
 refine am (fun h1_2=>?_) (fun h1_2=>?_)
 ·
  iterate 4 refine ab ?_
  refine ai rfl rfl (aL []) ?_;iterate 4 refine ab ?_
  obtain ⟨x1,x2⟩:=jr (b:=b) (e:=42) (by rw [rdM,if_pos (by omega)]);rw [x1,x2];refine rHa (0) [] [_,_] [.agg (dn zM),_] [] ?_;rfl
 ·
  iterate 6 refine ab ?_
  refine ai rfl rfl (aj (0) (hc:=(jz b 0 (by omega)))) ?_;iterate 4 refine ab ?_
  refine ai rfl rfl (ap 406) ?_;refine ai rfl rfl (ap 407) ?_;iterate 8 refine ab ?_
  refine am (fun h4_1=>?_) (fun h4_1=>?_)
  ·
   iterate 4 refine ab ?_
   refine ai rfl rfl (aL []) ?_;iterate 5 refine ab ?_
   obtain ⟨x1,x2⟩:=jr (b:=b) (e:=dE b) (by rw [rdM,if_neg (by omega),if_pos h4_1]);rw [x1,x2];refine rHa (0) [] [_,_] [.agg (dn zM),_] [] ?_;rfl
  ·
   iterate 5 refine ab ?_
   have g1:¬ 65535<b.length:=by omega
   have hb2:b.length≤65535:=by omega
   have hz:dE b=0:=by omega
   have hz1:=uP hz;obtain ⟨e2,l2⟩:=jJ b 2;obtain ⟨e3,l3⟩:=jJ b 3;obtain ⟨e4,l4⟩:=jJ b 4;obtain ⟨e5,l5⟩:=jJ b 5;rw [e2,e3,e4,e5];refine ab ?_;refine ai rfl rfl (aL [(_,_),(_,_)]) ?_;refine ai rfl rfl (aS 702) ?_;iterate 5 refine ab ?_
   refine ai rfl rfl (aL [(_,_)]) ?_;refine ai rfl rfl (ap 802) ?_;iterate 5 refine ab ?_
   rcases hq:dz b (cN b 2) [] 12 with e|q
   ·
    iterate 3 refine ab ?_
    refine ai rfl rfl (ay (0) [(0,702)] [] [(_,_)] (hc:=(yG hb2 (by omega) l2 hq))) ?_;iterate 10 refine ab ?_
    refine am (fun h9_1=>?_) (fun h9_1=>?_)
    ·
     iterate 4 refine ab ?_
     refine ai rfl rfl (aL []) ?_;iterate 5 refine ab ?_
     obtain ⟨x1,x2⟩:=jr (b:=b) (e:=e) (by rw [gc g1 hz,bW hq]);rw [x1,x2];refine rHa (0) [] [_,_] [.agg (dn zM),_] [] ?_;rfl
    ·
     exfalso;exact h9_1 (ub _ _ _ hq)
   ·
    iterate 3 refine ab ?_
    refine ai rfl rfl (ay (0) [(0,702)] [] [(_,_)] (hc:=(yF hb2 (by omega) l2 hq))) ?_;iterate 10 refine ab ?_
    refine am (fun h9_1=>?_) (fun h9_1=>?_)
    ·
     exfalso;simp at h9_1
    ·
     iterate 6 refine ab ?_
     rcases h3:bL b (cN b 3) [] q.2 with e|x
     ·
      have q1:=sE _ _ _ hq (by omega);iterate 3 refine ab ?_
      refine ai rfl rfl (ay (0) [(0,702)] [] [(_,_)] (hc:=(oq hb2 (by omega) l3 h3))) ?_;iterate 10 refine ab ?_
      refine am (fun h12_1=>?_) (fun h12_1=>?_)
      ·
       iterate 4 refine ab ?_
       refine ai rfl rfl (aL []) ?_;iterate 5 refine ab ?_
       obtain ⟨x1,x2⟩:=jr (b:=b) (e:=e) (by rw [gc g1 hz,aY hq];rw [bW h3]);rw [x1,x2];refine rHa (0) [] [_,_] [.agg (dn zM),_] [] ?_;rfl
      ·
       exfalso;exact h12_1 (mN _ _ _ h3)
     ·
      have q1:=sE _ _ _ hq (by omega);iterate 3 refine ab ?_
      refine ai rfl rfl (ay (0) [(0,702)] [] [(_,_)] (hc:=(om hb2 (by omega) l3 h3))) ?_;iterate 10 refine ab ?_
      refine am (fun h12_1=>?_) (fun h12_1=>?_)
      ·
       exfalso;simp at h12_1
      ·
       iterate 6 refine ab ?_
       rcases h4:bL b (cN b 4) [] x.2 with e|y
       ·
        have q2:=l9 _ _ _ h3 q1;iterate 3 refine ab ?_
        refine ai rfl rfl (ay (0) [(0,702)] [] [(_,_)] (hc:=(oq hb2 (by omega) l4 h4))) ?_;iterate 10 refine ab ?_
        refine am (fun h15_1=>?_) (fun h15_1=>?_)
        ·
         iterate 4 refine ab ?_
         refine ai rfl rfl (aL []) ?_;iterate 5 refine ab ?_
         obtain ⟨x1,x2⟩:=jr (b:=b) (e:=e) (by rw [gc g1 hz,aY hq];rw [aY h3];rw [bW h4]);rw [x1,x2];refine rHa (0) [] [_,_] [.agg (dn zM),_] [] ?_;rfl
        ·
         exfalso;exact h15_1 (mN _ _ _ h4)
       ·
        have q2:=l9 _ _ _ h3 q1;iterate 3 refine ab ?_
        refine ai rfl rfl (ay (0) [(0,702)] [] [(_,_)] (hc:=(om hb2 (by omega) l4 h4))) ?_;iterate 10 refine ab ?_
        refine am (fun h15_1=>?_) (fun h15_1=>?_)
        ·
         exfalso;simp at h15_1
        ·
         iterate 6 refine ab ?_
         rcases h5:bL b (cN b 5) [] y.2 with e|z
         ·
          have q3:=l9 _ _ _ h4 q2;iterate 3 refine ab ?_
          refine ai rfl rfl (ay (0) [(0,702)] [] [(_,_)] (hc:=(oq hb2 (by omega) l5 h5))) ?_;iterate 10 refine ab ?_
          refine am (fun h18_1=>?_) (fun h18_1=>?_)
          ·
           iterate 4 refine ab ?_
           refine ai rfl rfl (aL []) ?_;iterate 5 refine ab ?_
           obtain ⟨x1,x2⟩:=jr (b:=b) (e:=e) (by rw [gc g1 hz,aY hq];rw [aY h3];rw [aY h4];rw [bW h5]);rw [x1,x2];refine rHa (0) [] [_,_] [.agg (dn zM),_] [] ?_;rfl
          ·
           exfalso;exact h18_1 (mN _ _ _ h5)
         ·
          have q3:=l9 _ _ _ h4 q2;iterate 3 refine ab ?_
          refine ai rfl rfl (ay (0) [(0,702)] [] [(_,_)] (hc:=(om hb2 (by omega) l5 h5))) ?_;iterate 10 refine ab ?_
          refine am (fun h18_1=>?_) (fun h18_1=>?_)
          ·
           exfalso;simp at h18_1
          ·
           iterate 6 refine ab ?_
           have q4:=l9 _ _ _ h5 q3;iterate 6 refine ab ?_
           refine am (fun h20_6=>?_) (fun h20_6=>?_)
           ·
            iterate 4 refine ab ?_
            refine ai rfl rfl (aL []) ?_;iterate 4 refine ab ?_
            obtain ⟨x1,x2⟩:=jr (b:=b) (e:=41) (by rw [gc g1 hz,aY hq];rw [aY h3];rw [aY h4];rw [aY h5];exact if_neg (by omega));rw [x1,x2];refine rHa (0) [] [_,_] [.agg (dn zM),_] [] ?_;rfl
           ·
            iterate 10 refine ab ?_
            obtain ⟨x1,x2⟩:=ET (b:=b) (m:=⟨hdM b,q.1,x.1,y.1,z.1⟩) (by rw [gc g1 hz,aY hq];rw [aY h3];rw [aY h4];rw [aY h5];exact if_pos (by omega));rw [x1,x2];refine rHa (0) [] [_,_] [_,_] [] ?_;rfl
theorem oS (b:List UInt8) (hb:b.length≤140737488351232):AC Tryz.prog 31 [.fz 0 b.length (cl bc b)] emp (Ret (.tup [.agg (dn (cG b)),i64 (jN b)])):=td b hb
inductive At (b:List UInt8):Nat→Nat→List (List UInt8)→Nat→Prop
 | fin {fi p:Nat} (h:p<b.length) (h0:kB b p=0):At b fi p [] (p+1)
 | lab {fi p q:Nat} {l:List UInt8} {ls:List (List UInt8)} (h1:1≤l.length) (h2:l.length≤63) (h3:p+1+l.length≤b.length) (h4:(b.take (p+1+l.length)).drop p=ct (l.length:Int)::l) (h:At b fi (p+1+l.length) ls q):At b fi p (l::ls) q
 | ptr {fi p q:Nat} {ls:List (List UInt8)} (h1:p+2≤b.length) (h2:192≤kB b p) (h3:toI b p<fi) (h:At b (toI b p) (toI b p) ls q):At b fi p ls (p+2)
theorem At.le {b:List UInt8} {fi p q:Nat} {ls:List (List UInt8)} (h:At b fi p ls q):p<q∧q≤b.length:=by
 induction h with
 | fin h h0=>omega
 | lab h1 h2 h3 h4 h ih=>omega
 | ptr h1 h2 h3 h ih=>omega
theorem At.mono {b:List UInt8} {fi p q:Nat} {ls:List (List UInt8)} (h:At b fi p ls q):∀ {fi':Nat},fi≤fi'→At b fi' p ls q:=by
 induction h with
 | fin h h0=>intro fi' k;exact .fin h h0
 | lab h1 h2 h3 h4 h ih=>intro fi' k;exact .lab h1 h2 h3 h4 (ih k)
 | ptr h1 h2 h3 h ih=>intro fi' k;exact .ptr h1 h2 (by omega) h
theorem At.good {b:List UInt8} {fi p q:Nat} {ls:List (List UInt8)} (h:At b fi p ls q):GoodN ls:=by
 induction h with
 | fin h h0=>exact GoodN.nil
 | lab h1 h2 h3 h4 h ih=>
  intro x hx;rcases List.mem_cons.1 hx with rfl|hx
  · exact ⟨h1,h2⟩
  · exact ih x hx
 | ptr h1 h2 h3 h ih=>exact ih
theorem sZ {b x:List UInt8} {p:Nat} (h:p<b.length):kB (b++x) p=kB b p:=by
 simp only [kB,List.getD_eq_getElem?_getD,List.getElem?_append_left h]
theorem Bq {b x:List UInt8} {p:Nat} (h:p+2≤b.length):toI (b++x) p=toI b p:=by
 rw [toI,toI,sZ (by omega),sZ (by omega)]
theorem wI {b x:List UInt8} {p q:Nat} (h:q≤b.length):((b++x).take q).drop p=(b.take q).drop p:=by
 rw [List.take_append_of_le_length h]
theorem At.ext {b:List UInt8} {fi p q:Nat} {ls:List (List UInt8)} (h:At b fi p ls q) (x:List UInt8):At (b++x) fi p ls q:=by
 induction h with
 | fin h h0=>exact .fin (by rw [List.length_append];omega) (by rw [sZ h];exact h0)
 | lab h1 h2 h3 h4 h ih=>exact .lab h1 h2 (by rw [List.length_append];omega) (by rw [wI h3];exact h4) ih
 | ptr h1 h2 h3 h ih=>
  have e:=Bq (x:=x) h1;exact .ptr (by rw [List.length_append];omega) (by rw [sZ (by omega)];exact h2) (by rw [e];exact h3) (by rw [e];exact ih)
theorem tY {b r:List UInt8} {p q:Nat} {c:UInt8} (h:(b.take q).drop p=c::r):b.getD p default=c:=by
 have h2:((b.take q).drop p)[0]?=some c:=by rw [h];rfl
 rw [List.getElem?_drop,List.getElem?_take] at h2;split at h2
 · rw [List.getD_eq_getElem?_getD,show b[p]?=some c from h2];rfl
 · cases h2
theorem At.read {b:List UInt8} {fi p q:Nat} {ls:List (List UInt8)} (h:At b fi p ls q):∀ {sh:Int} {li:Nat} {bh:Option Nat} {n:List UInt8},q≤li→li≤b.length→(n++aw ls).length≤255→rdN b sh p fi li bh n=.ok (n++aw ls,bh.getD q):=by
 induction h with
 | fin h h0=>
  intro sh li bh n h1 h2 h3;rw [List.length_append,fb] at h3;exact eg (by omega) h0 (by simp at h3;omega)
 | @lab fi p q l ls h1 h2 h3 h4 h ih=>
  intro sh li bh n k1 k2 k3;have hk:kB b p=l.length:=by rw [kB,tY h4,gn h2]
  have hle:=h.le;have hj:=cK ls;have e:n++aw (l::ls)=(n++(ct (l.length:Int)::l))++aw ls:=by rw [b7];simp
  rw [e] at k3 ⊢;have h4':(b.take (p+1+kB b p)).drop p=ct (l.length:Int)::l:=by rw [hk];exact h4
  have k3':(n++(ct (l.length:Int)::l)).length+(aw ls).length≤255:=by rw [← List.length_append];exact k3
  rw [fV (by omega) (by omega) (by omega) (by omega) (by rw [h4'];omega),h4',hk];exact ih k1 k2 k3
 | @ptr fi p q ls h1 h2 h3 h ih=>
  intro sh li bh n k1 k2 k3;rw [ed (by omega) h2 (by omega) h3];exact ih h.le.2 (Nat.le_refl _) k3
theorem BJ {b:List UInt8} {sh:Int}:∀ (p fi li:Nat) (bh:Option Nat) (n:List UInt8),∀ {N:List UInt8} {P:Nat},li≤b.length→rdN b sh p fi li bh n=.ok (N,P)→∃ ls q,At b fi p ls q∧q≤li∧N=n++aw ls∧N.length≤255∧P=bh.getD q:=by
 intro p fi li bh n;induction p,fi,li,bh,n using rdN.induct b with
 | case1 p fi li bh n h=>intro N P hl e;rw [ec h] at e;cases e
 | case2 p fi li bh n h h1 h2=>
  intro N P hl e;rw [eg h h1 h2] at e;cases e;exact ⟨[],p+1,.fin (by omega) h1,by omega,rfl,by simp;omega,rfl⟩
 | case3 p fi li bh n h h1 h2=>intro N P hl e;rw [dk h h1 h2] at e;cases e
 | case4 p fi li bh n h h1 h2 h3=>intro N P hl e;rw [dA h h2 h3] at e;cases e
 | case5 p fi li bh n h h1 h2 h3 h4 ih=>
  intro N P hl e;rw [ed h h2 h3 h4] at e;obtain ⟨ls,q,a,b1,c,d,f⟩:=ih (Nat.le_refl _) e;exact ⟨ls,p+2,.ptr (by omega) h2 h4 a,by omega,c,d,f⟩
 | case6 p fi li bh n h h1 h2 h3 h4=>intro N P hl e;rw [fk h h2 h3 h4] at e;cases e
 | case7 p fi li bh n h h1 h2 h3=>intro N P hl e;rw [ef h h3 h2] at e;cases e
 | case8 p fi li bh n h h1 h2 h3 h4=>intro N P hl e;rw [dD h h1 h3 h4] at e;cases e
 | case9 p fi li bh n h h1 h2 h3 h4 h5 ih=>
  intro N P hl e;rw [fV h h1 h3 h4 h5] at e;obtain ⟨ls,q,a,b1,c,d,f⟩:=ih hl e;have hlen:((b.take (p+1+kB b p)).drop p).length=1+kB b p:=by rw [List.length_drop,List.length_take];omega
  obtain ⟨x,l,hx⟩:∃ x l,(b.take (p+1+kB b p)).drop p=x::l:=by
   cases hq:(b.take (p+1+kB b p)).drop p with
   | nil=>rw [hq] at hlen;simp at hlen;omega
   | cons x l=>exact ⟨x,l,rfl⟩
  have hll:l.length=kB b p:=by rw [hx] at hlen;simp at hlen;omega
  have hxe:x=ct (l.length:Int):=by
   have:=tY hx;rw [← this,hll,kB];exact (mb _).symm
  rw [hxe] at hx;refine ⟨l::ls,q,(.lab (by omega) (by omega) (by omega) (by rw [show p+1+l.length=p+1+kB b p by omega];exact hx) (by rw [hll];exact a)),b1,?_,d,f⟩;rw [c,hx,b7];simp
 | case10 p fi li bh n h h1 h2 h3 h4 h5=>intro N P hl e;rw [ee h h1 h3 h4 h5] at e;cases e
theorem wR {b:List UInt8} {sh:Int} {p li:Nat} {r:List UInt8×Nat} (h:rdN b sh p p li none []=.ok r) (hl:li≤b.length):bm r.1=true:=by
 obtain ⟨N,P⟩:=r;obtain ⟨ls,q,a,b1,c,d,f⟩:=BJ p p li none [] hl h;simp only [List.nil_append] at c;subst c;exact uY a.good d
def Ent (b:List UInt8) (k:List UInt8) (a:Int):Prop:=∃ ls q,Nm ls∧k=aw ls∧0≤a∧a<16384∧At b a.toNat a.toNat ls q
def WInv (w:Wr):Prop:=∀ k a,bg w.m k=some a→Ent w.b k a
theorem Ent.ext {b k:List UInt8} {a:Int} (h:Ent b k a) (x:List UInt8):Ent (b++x) k a:=by
 obtain ⟨ls,q,h1,h2,h3,h4,h5⟩:=h;exact ⟨ls,q,h1,h2,h3,h4,h5.ext x⟩
theorem Ent.lt {b k:List UInt8} {a:Int} (h:Ent b k a):a.toNat<b.length:=by
 obtain ⟨ls,q,h1,h2,h3,h4,h5⟩:=h;have:=h5.le;omega
theorem wj {A r:List UInt8} {c:UInt8} {p:Nat} (h:p=A.length):kB (A++c::r) p=c.toNat:=by
 subst h;simp [kB,List.getD_eq_getElem?_getD]
theorem Ce {A r:List UInt8} {c d:UInt8} {p:Nat} (h:p=A.length):kB (A++c::d::r) (p+1)=d.toNat:=by
 rw [show A++c::d::r=(A++[c])++d::r by simp];exact wj (by simp [h])
theorem y3 {a:Int} (h0:0≤a) (h1:a<16384):(ct ((49152+a) / 2 ^ 8)).toNat=192+a.toNat / 256∧(ct (49152+a)).toNat=a.toNat%256:=by
 have k1:=bV ((49152+a) / 2 ^ 8);have k2:=bV (49152+a);constructor<;>omega
theorem De:∀ {ls:List (List UInt8)} {w:Wr} {fi:Nat},Nm ls→fi≤w.b.length→(∀ k a,bg w.m k=some a→k.length≤(aw ls).length→Ent w.b k a∧a.toNat<fi)→
 (∃ x,(aG ls w).b=w.b++x)∧At (aG ls w).b fi w.b.length ls (aG ls w).b.length∧∀ k a,bg (aG ls w).m k=some a→bg w.m k=some a∨Ent (aG ls w).b k a
 | [],w,fi,_,hf,hi=>by
  refine ⟨⟨[0],rfl⟩,?_,fun k a h=>.inl h⟩;show At (w.b++[0]) fi w.b.length [] (w.b++[0]).length;rw [List.length_append];exact .fin (by simp) (by rw [wj rfl];rfl)
 | l::ls,w,fi,hn,hf,hi=>by
  cases hm:bg w.m (aw (l::ls)) with
  | some a=>
   rw [(dx hm).1];obtain ⟨⟨ls',q,e1,e2,e3,e4,e5⟩,hlt⟩:=hi _ _ hm (Nat.le_refl _);have e6:l::ls=ls':=yp hn.1 e1.1 e2;subst e6;refine ⟨⟨_,rfl⟩,?_,fun k a h=>.inl h⟩;obtain ⟨k1,k2⟩:=y3 e3 e4;have g1:kB (w.b++two (49152+a)) w.b.length=192+a.toNat / 256:=by rw [two,wj rfl,k1]
   have g2:kB (w.b++two (49152+a)) (w.b.length+1)=a.toNat%256:=by rw [two,Ce rfl,k2]
   have g3:toI (w.b++two (49152+a)) w.b.length=a.toNat:=by rw [toI,g1,g2];omega
   have gl:(w.b++two (49152+a)).length=w.b.length+2:=by rw [List.length_append];rfl
   show At (w.b++two (49152+a)) fi w.b.length (l::ls) (w.b++two (49152+a)).length;rw [gl];exact .ptr (by omega) (by omega) (by omega) (by rw [g3];exact e5.ext _)
  | none=>
   rw [(cP hm).1];have hh:=hn.1.head;have hle:=i0 (l:=l) (ls:=ls);have hb:(w.put l ls).b=w.b++(ct (l.length:Int)::l):=rfl;have hbl:(w.put l ls).b.length=w.b.length+1+l.length:=by rw [hb];simp;omega
   have hmg:∀ k a,bg (w.put l ls).m k=some a→bg w.m k=some a∨(k=aw (l::ls)∧a=w.b.length∧(w.b.length:Int)<16384):=by
    intro k a h;unfold Wr.put at h;split at h
    · rw [iR] at h
      split at h
      · rename_i hlt hk;cases h;exact .inr ⟨hk.symm,rfl,hlt⟩
      · exact .inl h
    · exact .inl h
   obtain ⟨⟨x,hx⟩,hA,hM⟩:=De (ls:=ls) (w:=w.put l ls) (fi:=fi) (vE hn) (by omega) (by
    intro k a h hk;rcases hmg k a h with h|⟨rfl,_⟩
    · obtain ⟨c,d⟩:=hi k a h (by omega)
      exact ⟨c.ext _,d⟩
    · omega)
   have hA2:∀ fi',fi≤fi'→At (aG ls (w.put l ls)).b fi' w.b.length (l::ls) (aG ls (w.put l ls)).b.length:=by
    intro fi' hfi;refine .lab hh.1 hh.2 ?_ ?_ ?_
    · rw [hx,List.length_append];omega
    · rw [hx,wI (by omega),hb]
      rw [show w.b.length+1+l.length=(w.b++(ct (l.length:Int)::l)).length by rw [← hb,hbl],List.take_length,List.drop_left]
    · rw [← hbl];exact hA.mono hfi
   refine ⟨⟨_,by rw [hx,hb,List.append_assoc]⟩,hA2 fi (Nat.le_refl _),fun k a h=>?_⟩;rcases hM k a h with h|h
   · rcases hmg k a h with h|⟨rfl,rfl,hlt⟩
     · exact .inl h
     · exact .inr ⟨l::ls,_,hn,rfl,by omega,hlt,by rw [Int.toNat_natCast];exact hA2 _ hf⟩
   · exact .inr h
theorem sq {ls:List (List UInt8)} {w:Wr} (hn:Nm ls) (hw:WInv w):(∃ x,(aG ls w).b=w.b++x)∧At (aG ls w).b w.b.length w.b.length ls (aG ls w).b.length∧WInv (aG ls w):=by
 obtain ⟨⟨x,hx⟩,h2,h3⟩:=De (fi:=w.b.length) hn (Nat.le_refl _) (fun k a h _=>⟨hw k a h,(hw k a h).lt⟩);refine ⟨⟨x,hx⟩,h2,fun k a h=>?_⟩;rcases h3 k a h with h|h
 · rw [hx];exact (hw k a h).ext x
 · exact h
theorem WInv.app {w:Wr} (h:WInv w) (x:List UInt8):WInv ⟨w.b++x,w.m⟩:=fun k a hk=>(h k a hk).ext x
theorem yX:∀ {ls:List (List UInt8)} {B B':List UInt8} {m:List (List UInt8×Int)},B.length=B'.length→∃ x m',aG ls ⟨B,m⟩=⟨B++x,m'⟩∧aG ls ⟨B',m⟩=⟨B'++x,m'⟩
 | [],B,B',m,h=>⟨[0],m,rfl,rfl⟩
 | l::ls,B,B',m,h=>by
  cases hm:bg m (aw (l::ls)) with
  | some a=>exact ⟨two (49152+a),m,(dx (w:=⟨B,m⟩) hm).1,(dx (w:=⟨B',m⟩) hm).1⟩
  | none=>
   rw [(cP (w:=⟨B,m⟩) hm).1,(cP (w:=⟨B',m⟩) hm).1];unfold Wr.put;simp only [h];obtain ⟨x,m',e1,e2⟩:=yX (ls:=ls) (B:=B++(ct (l.length:Int)::l)) (B':=B'++(ct (l.length:Int)::l)) (m:=if (B'.length:Int)<16384 then cp m (aw (l::ls)) B'.length else m) (by simp [h]);exact ⟨(ct (l.length:Int)::l)++x,m',by rw [e1,List.append_assoc],by rw [e2,List.append_assoc]⟩
theorem so:∀ {L:List (List UInt8)} {B B':List UInt8} {m:List (List UInt8×Int)},B.length=B'.length→∃ x m',ba L ⟨B,m⟩=⟨B++x,m'⟩∧ba L ⟨B',m⟩=⟨B'++x,m'⟩
 | [],B,B',m,h=>⟨[],m,by simp [ba],by simp [ba]⟩
 | n::L,B,B',m,h=>by
  obtain ⟨x,m1,e1,e2⟩:=yX (ls:=aP n) (m:=m) h;obtain ⟨y,m2,f1,f2⟩:=so (L:=L) (B:=B++x) (B':=B'++x) (m:=m1) (by simp [h]);refine ⟨x++y,m2,?_,?_⟩
  · rw [ba,e1,f1,List.append_assoc]
  · rw [ba,e2,f2,List.append_assoc]
theorem tP:∀ {L:List (List UInt8)} {w:Wr} {acc:List UInt8},(∀ n∈L,bm n=true)→WInv w→(∃ x,(ba L w).b=w.b++x)∧WInv (ba L w)∧
 ∀ {y:List UInt8} {en:Nat},(ba L w).b.length≤en→en≤((ba L w).b++y).length→fS ((ba L w).b++y) en L.length acc w.b.length=.ok (acc++L.flatten,(ba L w).b.length)
 | [],w,acc,_,hw=>⟨⟨[],by simp [ba]⟩,hw,fun _ _=>by simp [ba,fS]⟩
 | n::L,w,acc,hn,hw=>by
  obtain ⟨c1,c2⟩:=cj (hn n (by simp));obtain ⟨⟨x,hx⟩,hA,hI⟩:=sq c1 hw;obtain ⟨⟨z,hz⟩,hI2,hR⟩:=tP (L:=L) (w:=aG (aP n) w) (acc:=acc++n) (fun q hq=>hn q (by simp [hq])) hI;refine ⟨⟨x++z,by rw [ba,hz,hx,List.append_assoc]⟩,hI2,?_⟩;intro y en h1 h2;have hle:=hA.le;have hzl:=congrArg List.length hz;rw [List.length_append] at hzl;have hr:rdN ((ba L (aG (aP n) w)).b++y) 30 w.b.length w.b.length en none []=.ok (n,(aG (aP n) w).b.length):=by
   have h3:At ((ba L (aG (aP n) w)).b++y) w.b.length w.b.length (aP n) (aG (aP n) w).b.length:=by
    rw [hz,List.append_assoc];exact hA.ext _
   have h4:=h3.read (sh:=30) (li:=en) (bh:=none) (n:=[]) (by rw [ba] at h1;omega) h2 (by rw [List.nil_append,c2];exact by rw [← c2];exact c1.2);rw [h4,List.nil_append,c2];rfl
  rw [ba,List.length_cons,mP hr];rw [hR h1 h2,List.flatten_cons,List.append_assoc]
theorem lk {n:Int} (h:0≤n∧n≤65535):(((ct (n / 2 ^ 8)).toNat*256+(ct n).toNat:Nat):Int)=n:=by
 have h1:=bV (n / 2 ^ 8);have h2:=bV n;omega
section
variable {h:Hd} {c0 c1 c2 c3:Int}
theorem ny (k:h.can c0 c1 c2 c3) (r:List UInt8):cV (h.bytes c0 c1 c2 c3++r) 0=h.id∧cV (h.bytes c0 c1 c2 c3++r) 1=h.flN 5∧cV (h.bytes c0 c1 c2 c3++r) 2=c0∧cV (h.bytes c0 c1 c2 c3++r) 3=c1∧cV (h.bytes c0 c1 c2 c3++r) 4=c2∧cV (h.bytes c0 c1 c2 c3++r) 5=c3:=by
 obtain ⟨hid,hop,hco,hc0,hc1,hc2,hc3⟩:=k;exact ⟨lk hid,lk (Hd.fl_pos hop hco 5),lk hc0,lk hc1,lk hc2,lk hc3⟩
theorem uN (hop:0≤h.op∧h.op≤15) (hco:0≤h.code∧h.code≤15):h.flN 5 / 16%8=0∧(⟨h.id,cX (h.flN 5) 15,h.flN 5 / 2048%16,cX (h.flN 5) 10,cX (h.flN 5) 9,cX (h.flN 5) 8,cX (h.flN 5) 7,h.flN 5%16⟩:Hd)=h:=by
 obtain ⟨id,resp,op,aa,tc,rd,ra,code⟩:=h;dsimp only at hop hco;have e:Hd.flN ⟨id,resp,op,aa,tc,rd,ra,code⟩ 5=op*2048+code+(if resp=true then 32768 else 0)+(if aa=true then 1024 else 0)+(if tc=true then 512 else 0)+(if rd=true then 256 else 0)+(if ra=true then 128 else 0):=by simp [Hd.flN]
 rw [e];refine ⟨?_,?_⟩
 · repeat' split
   all_goals omega
 · simp only [Hd.mk.injEq,true_and,cX]
   cases resp<;>cases aa<;>cases tc<;>cases rd<;>cases ra<;>simp<;>omega
theorem ov (k:h.can c0 c1 c2 c3) (r:List UInt8):dE (h.bytes c0 c1 c2 c3++r)=0:=by
 refine AG ?_ ?_
 · rw [List.length_append,Hd.bytes_length];omega
 · rw [(ny k r).2.1]
   exact (uN k.2.1 k.2.2.1).1
theorem Fx (k:h.can c0 c1 c2 c3) (r:List UInt8):dH (h.bytes c0 c1 c2 c3++r)=h:=by
 rw [xt (ov k r),(ny k r).1,(ny k r).2.1];exact (uN k.2.1 k.2.2.1).2
theorem Fy (k:h.can c0 c1 c2 c3) (r:List UInt8):dC (h.bytes c0 c1 c2 c3++r) 2=c0∧dC (h.bytes c0 c1 c2 c3++r) 3=c1∧dC (h.bytes c0 c1 c2 c3++r) 4=c2∧dC (h.bytes c0 c1 c2 c3++r) 5=c3:=by
 rw [gw (ov k r),gw (ov k r),gw (ov k r),gw (ov k r)];exact (ny k r).2.2
end
theorem qu {n:Int} (h:0≤n∧n≤65535):((nV (two n):Nat):Int)=n:=by
 have h1:=bV (n / 2 ^ 8);have h2:=bV n;simp only [nV,two,List.foldl_cons,List.foldl_nil];omega
theorem Ae {n:Int} (h:0≤n):rk n=n%65536:=by
 unfold rk;rw [show (65535:Int).toNat=2 ^ 16-1 by decide,Nat.and_two_pow_sub_one_eq_mod];omega
theorem C3 {n:Int} (h:0≤n∧n<4294967296):((nV (two (n / 2 ^ 16)++two (rk n)):Nat):Int)=n:=by
 rw [Ae h.1];have h1:=bV (n / 2 ^ 16 / 2 ^ 8);have h2:=bV (n / 2 ^ 16);have h3:=bV (n%65536 / 2 ^ 8);have h4:=bV (n%65536);simp only [nV,two,List.cons_append,List.nil_append,List.foldl_cons,List.foldl_nil];omega
theorem ow {A X R:List UInt8} {i w:Nat} (hi:i=A.length) (hw:w=X.length):bN (A++(X++R)) i w=nV X:=by
 subst hi;subst hw;rw [bN,List.take_length_add_append,List.drop_left,List.take_left]
theorem xW {C Z:List UInt8} {c d:UInt8} {n:Nat} (hn:n=C.length+2):lS (C++c::d::Z) n=C++(two (Z.length:Int)++Z):=by
 subst hn;have hl:(((C++c::d::Z).length:Int)-((C.length+2:Nat):Int))=(Z.length:Int):=by simp only [List.length_append,List.length_cons];omega
 rw [lS,hl,show (((C.length+2:Nat):Int)-2).toNat=C.length by omega,show (((C.length+2:Nat):Int)-1).toNat=C.length+1 by omega];rw [List.set_append_right _ _ (Nat.le_refl _),List.set_append_right _ _ (by omega)];rw [Nat.sub_self,show C.length+1-C.length=1 by omega];rfl
theorem C1 {t:Int} {d:List UInt8} (h:fA t d=true):(bF t d).length=cR t:=by
 by_cases h6:t=6
 · subst h6;rw [bF,if_pos rfl,if_pos h];rfl
 · rw [gM h6]
   rw [c7 h6] at h;rw [gq,if_pos h,cR,if_neg h6];by_cases h1:t=2∨t=5∨t=12
   · rw [if_pos h1,if_pos (by omega)];rfl
   · rw [if_neg h1]
     by_cases h2:t=15
     · rw [if_pos h2,if_pos (by omega)];rfl
     · rw [if_neg h2,if_neg (by omega)];rfl
theorem yC {t:Int} {d:List UInt8} (h:cB t d++(bF t d).flatten <+: d):cB t d++(bF t d).flatten++d.drop ((cB t d).length+(bF t d).flatten.length)=d:=by
 obtain ⟨r,hr⟩:=h;have:d.drop ((cB t d).length+(bF t d).flatten.length)=r:=by
  have e:∀ {X Y:List UInt8} {n:Nat},X++r=Y→n=X.length→Y.drop n=r:=by
   intro X Y n h1 h2;subst h1;subst h2;exact List.drop_left
  exact e hr List.length_append.symm
 rw [this,hr]
theorem zd {A X R:List UInt8} {i j:Nat} (hi:i=A.length) (hj:j=A.length+X.length):((A++(X++R)).take j).drop i=X:=by
 subst hi;subst hj;rw [List.take_length_add_append,List.drop_left,List.take_left]
theorem DT {r:Rr} {w:Wr} (hr:rOk r=true) (hw:WInv w) (hs:i5 r w=true):(∃ x,(bB r w).b=w.b++x)∧WInv (bB r w)∧∀ y,rdR ((bB r w).b++y) w.b.length=.ok (r,(bB r w).b.length):=by
 obtain ⟨⟨⟨⟨r1,r2⟩,r3⟩,r4⟩,r5⟩:(((bm r.nm=true∧rb [r.ty,r.cs]=true)∧0≤r.ttl)∧r.ttl<4294967296)∧fA r.ty r.da=true:=by simpa [rOk] using hr
 obtain ⟨t1,t2⟩:(0≤r.ty∧r.ty≤65535)∧(0≤r.cs∧r.cs≤65535):=by
  rw [iL] at r2
  simpa [shB] using r2
 obtain ⟨d1,d2,d3,d4⟩:=js r5;obtain ⟨c1,c2⟩:=cj r1;obtain ⟨⟨x1,hx1⟩,hA1,hI1⟩:=sq c1 hw;have hwn:du r w=⟨(aG (aP r.nm) w).b++(jX r).flatMap two,(aG (aP r.nm) w).m⟩:=rfl;obtain ⟨w1,hw1⟩:∃ w1,w1=aG (aP r.nm) w:=⟨_,rfl⟩;rw [← hw1] at hx1 hA1 hI1 hwn;obtain ⟨C,hC⟩:∃ C,C=w1.b++[r.ty,r.cs,r.ttl / 2 ^ 16,rk r.ttl].flatMap two:=⟨_,rfl⟩;have hB1:w1.b++(jX r).flatMap two=C++[0,0]:=by rw [hC];simp [jX,two];decide
 rw [hB1] at hwn;have hCl:C.length=w1.b.length+8:=by rw [hC,List.length_append,kw];rfl
 obtain ⟨P,hP⟩:∃ P,P=cB r.ty r.da:=⟨_,rfl⟩;obtain ⟨L,hL⟩:∃ L,L=bF r.ty r.da:=⟨_,rfl⟩;obtain ⟨R,hR⟩:∃ R,R=r.da.drop (dN r):=⟨_,rfl⟩;have hda:=yC d4;have hdaR:P++L.flatten++R=r.da:=by rw [hP,hL,hR];exact hda
 have hLn:L.length=cR r.ty:=by rw [hL];exact C1 r5
 have hP2:r.ty=15→P.length=2:=fun e=>by rw [hP,cB,if_pos e,List.length_take];have:=d2 e;omega
 have hP0:r.ty≠15→P=[]:=fun e=>by rw [hP,cB,if_neg e]
 obtain ⟨x,m',e1,_⟩:=so (L:=L) (B:=(C++[0,0])++P) (B':=(C++[0,0])++P) (m:=w1.m) rfl;have hdat:lQ r (du r w)=⟨C++0::0::(P++x++R),m'⟩:=by
  rw [hwn,lQ];dsimp only;rw [← hP,← hL,← hR,e1];simp
 obtain ⟨Z,hZ⟩:∃ Z,Z=P++x++R:=⟨_,rfl⟩;rw [← hZ] at hdat;have hrec:bB r w=⟨C++(two (Z.length:Int)++Z),m'⟩:=by
  rw [bB,hdat,hwn];dsimp only;rw [xW (by simp)]
 have hsz:(Z.length:Int)<65536:=by
  have h:=hs;rw [i5,hdat,hwn,decide_eq_true_eq] at h;simp only [List.length_append,List.length_cons,List.length_nil] at h;omega
 obtain ⟨B2,hB2⟩:∃ B2,B2=C++two (Z.length:Int):=⟨_,rfl⟩;have hB2l:B2.length=w1.b.length+10:=by rw [hB2,List.length_append,hCl];rfl
 obtain ⟨x',m'',f1,f2⟩:=so (L:=L) (B:=(C++[0,0])++P) (B':=B2++P) (m:=w1.m) (by simp only [List.length_append,hB2l,hCl,List.length_cons,List.length_nil]);have hxx:x'=x∧m''=m':=by
  have:=f1.symm.trans e1;simp only [Wr.mk.injEq,List.append_cancel_left_eq] at this;exact this
 obtain ⟨rfl,rfl⟩:=hxx;have hB2w:∃ z,B2=w1.b++z:=⟨_,by rw [hB2,hC,List.append_assoc]⟩;obtain ⟨z2,hz2⟩:=hB2w;have hI2:WInv ⟨B2++P,w1.m⟩:=by
  have:=hI1.app (z2++P);rw [← List.append_assoc,← hz2] at this;exact this
 obtain ⟨⟨x3,hx3⟩,hI3,hrd⟩:=tP (L:=L) (w:=⟨B2++P,w1.m⟩) (acc:=P) (by rw [hL];exact d3) hI2;rw [f2] at hx3 hI3 hrd;dsimp only at hrd;have hb:(bB r w).b=B2++P++x'++R:=by
  rw [hrec,hB2,hZ];simp
 have hm:(bB r w).m=m'':=by rw [hrec]
 have hZl:Z.length=P.length+x'.length+R.length:=by rw [hZ];simp only [List.length_append]
 have hbl:(bB r w).b.length=w1.b.length+10+Z.length:=by rw [hb];simp only [List.length_append,hB2l];omega
 refine ⟨⟨x1++z2++P++x'++R,by rw [hb,hz2,hx1];simp⟩,?_,?_⟩
 · have h:=hI3.app R
   have e:bB r w=⟨B2++P++x'++R,m''⟩:=by rw [← hb,← hm]
   rw [e];exact h
 · intro y
   obtain ⟨F,hF⟩:∃ F,F=(bB r w).b++y:=⟨_,rfl⟩;rw [← hF];have hFl:F.length=w1.b.length+10+Z.length+y.length:=by rw [hF,List.length_append,hbl]
   have hFw:F=w1.b++(z2++P++x'++R++y):=by rw [hF,hb,hz2];simp
   have hFn:F=w1.b++(two r.ty++(two r.cs++((two (r.ttl / 2 ^ 16)++two (rk r.ttl))++(two (Z.length:Int)++(P++x'++R++y))))):=by
    rw [hF,hb,hB2,hC];simp
   have hle:=hA1.le;have ha:rdN F 20 w.b.length w.b.length F.length none []=.ok (r.nm,w1.b.length):=by
    have h3:At F w.b.length w.b.length (aP r.nm) w1.b.length:=by rw [hFw];exact hA1.ext _
    have h4:=h3.read (sh:=20) (li:=F.length) (bh:=none) (n:=[]) (by omega) (Nat.le_refl _) (by rw [List.nil_append];exact c1.2);rw [h4,List.nil_append,c2];rfl
   have n0:bN F w1.b.length 2=nV (two r.ty):=by rw [hFn];exact ow rfl rfl
   have n1:bN F (w1.b.length+2) 2=nV (two r.cs):=by
    rw [hFn,← List.append_assoc];exact ow (by rw [List.length_append];rfl) rfl
   have n2:bN F (w1.b.length+4) 4=nV (two (r.ttl / 2 ^ 16)++two (rk r.ttl)):=by
    rw [hFn,← List.append_assoc,← List.append_assoc];exact ow (by rw [List.length_append,List.length_append];rfl) rfl
   have n3:bN F (w1.b.length+8) 2=nV (two (Z.length:Int)):=by
    rw [hFn,← List.append_assoc,← List.append_assoc,← List.append_assoc];exact ow (by rw [List.length_append,List.length_append,List.length_append];rfl) rfl
   have v0:=qu t1;have v1:=qu t2;have v2:=C3 ⟨r3,r4⟩;have v3:=qu (n:=(Z.length:Int)) ⟨by omega,by omega⟩;rw [← n0] at v0;rw [← n1] at v1;rw [← n2] at v2;rw [← n3] at v3;have v3':bN F (w1.b.length+8) 2=Z.length:=by omega
   have hD:rdD F (bN F w1.b.length 2) (w1.b.length+10) (w1.b.length+10+bN F (w1.b.length+8) 2)=.ok r.da:=by
    rw [v0,v3'];have hF2:F=B2++(P++(x'++R++y)):=by rw [hF,hb];simp
    have hF3:F=(B2++P++x')++(R++y):=by rw [hF,hb];simp
    have hlen3:(B2++P++x').length=w1.b.length+10+P.length+x'.length:=by simp only [List.length_append,hB2l]
    rw [jW (by rintro ⟨e,k⟩;have:=hP2 e;omega)];have hacc:(if r.ty=15 then (F.take (w1.b.length+10+2)).drop (w1.b.length+10) else [])=P:=by
     by_cases e:r.ty=15
     · rw [if_pos e,hF2];exact zd hB2l.symm (by rw [hP2 e,hB2l])
     · rw [if_neg e,hP0 e]
    have hst:(if r.ty=15 then w1.b.length+10+2 else w1.b.length+10)=(B2++P).length:=by
     rw [List.length_append,hB2l];by_cases e:r.ty=15
     · rw [if_pos e,hP2 e]
     · rw [if_neg e,hP0 e];rfl
    rw [hacc,hst,← hLn];have h5:=hrd (y:=R++y) (en:=w1.b.length+10+Z.length) (by rw [hlen3];omega) (by rw [← hF3];omega);rw [← hF3] at h5;rw [h5,rdO];have hrest:(F.take (w1.b.length+10+Z.length)).drop (B2++P++x').length=R:=by
     rw [hF3];exact zd rfl (by rw [hlen3];omega)
    dsimp only;rw [hrest,hdaR,if_pos r5]
   rw [nN ha (by dsimp only;omega) (by dsimp only;omega)];dsimp only;rw [hD,zy,v0,v1,v2,v3',hbl]
theorem se:∀ {qs:List Qu} {w:Wr} {acc:List Qu},(∀ q∈qs,qOk q=true)→WInv w→(∃ x,(cC qs w).b=w.b++x)∧WInv (cC qs w)∧∀ y,dz ((cC qs w).b++y) qs.length acc w.b.length=.ok (acc++qs,(cC qs w).b.length)
 | [],w,acc,_,hw=>⟨⟨[],by simp [cC]⟩,hw,fun y=>by simp [cC,dz]⟩
 | q::qs,w,acc,hq,hw=>by
  have h0:=hq q (by simp);rw [qOk,iL] at h0;simp only [Bool.and_eq_true,shB,decide_eq_true_eq] at h0;obtain ⟨h1,h2,h3⟩:=h0;obtain ⟨c1,c2⟩:=cj h1;obtain ⟨⟨x,hx⟩,hA,hI⟩:=sq c1 hw;have hI2:WInv (wrQ q w):=hI.app _;have hqb:(wrQ q w).b=(aG (aP q.nm) w).b++(two q.ty++two q.cs):=by simp [wrQ]
  obtain ⟨⟨z,hz⟩,hI3,hR⟩:=se (qs:=qs) (w:=wrQ q w) (acc:=acc++[q]) (fun a ha=>hq a (by simp [ha])) hI2;have he:cC (q::qs) w=cC qs (wrQ q w):=rfl;refine ⟨⟨x++(two q.ty++two q.cs)++z,by rw [he,hz,hqb,hx];simp⟩,hI3,fun y=>?_⟩;rw [he];obtain ⟨F,hF⟩:∃ F,F=(cC qs (wrQ q w)).b++y:=⟨_,rfl⟩;have hR':=hR y;rw [← hF] at hR' ⊢;have hFn:F=(aG (aP q.nm) w).b++(two q.ty++(two q.cs++(z++y))):=by rw [hF,hz,hqb];simp
  have hle:=hA.le;have hFl:=congrArg List.length hFn;simp only [List.length_append] at hFl;have l2:∀ n:Int,(two n).length=2:=fun _=>rfl
  rw [l2,l2] at hFl;have ha:rdN F 20 w.b.length w.b.length F.length none []=.ok (q.nm,(aG (aP q.nm) w).b.length):=by
   have h3:At F w.b.length w.b.length (aP q.nm) (aG (aP q.nm) w).b.length:=by rw [hFn];exact hA.ext _
   have h4:=h3.read (sh:=20) (li:=F.length) (bh:=none) (n:=[]) (by omega) (Nat.le_refl _) (by rw [List.nil_append];exact c1.2);rw [h4,List.nil_append,c2];rfl
  have n0:bN F (aG (aP q.nm) w).b.length 2=nV (two q.ty):=by rw [hFn];exact ow rfl rfl
  have n1:bN F ((aG (aP q.nm) w).b.length+2) 2=nV (two q.cs):=by
   rw [hFn,← List.append_assoc];exact ow (by rw [List.length_append];rfl) rfl
  have v0:=qu h2;have v1:=qu h3;rw [← n0] at v0;rw [← n1] at v1;rw [List.length_cons,je ha (by dsimp only;omega)];dsimp only;rw [v0,v1];have hl:(aG (aP q.nm) w).b.length+4=(wrQ q w).b.length:=by rw [hqb];simp only [List.length_append];rw [l2,l2]
  rw [hl,hR'];simp
theorem iB:∀ {l:List Rr} {p:Wr×Bool},p.2=false→(cz l p).2=false
 | [],p,h=>h
 | r::l,p,h=>by
  show (cz l (mJ p r)).2=false;exact iB (by rw [mJ,if_neg (by simp [h])];exact h)
theorem lB:∀ {rs:List Rr} {w:Wr} {acc:List Rr},(∀ r∈rs,rOk r=true)→WInv w→(cz rs (w,true)).2=true→(∃ x,(cz rs (w,true)).1.b=w.b++x)∧WInv (cz rs (w,true)).1∧∀ y,bL ((cz rs (w,true)).1.b++y) rs.length acc w.b.length=.ok (acc++rs,(cz rs (w,true)).1.b.length)
 | [],w,acc,_,hw,_=>⟨⟨[],by simp [cz]⟩,hw,fun y=>by simp [cz,bL]⟩
 | r::rs,w,acc,hr,hw,ht=>by
  have he:cz (r::rs) (w,true)=cz rs (bB r w,i5 r w&&decide (((bB r w).b.length:Int)≤65535)):=rfl;have hb:(i5 r w&&decide (((bB r w).b.length:Int)≤65535))=true:=by
   cases hq:(i5 r w&&decide (((bB r w).b.length:Int)≤65535)) with
   | true=>rfl
   | false=>
    have h1:=iB (l:=rs) (p:=(bB r w,i5 r w&&decide (((bB r w).b.length:Int)≤65535))) hq;rw [← he,ht] at h1;cases h1
  rw [hb] at he;rw [he] at ht;have ho:i5 r w=true:=by simp only [Bool.and_eq_true] at hb;exact hb.1
  obtain ⟨⟨x,hx⟩,hI,hR0⟩:=DT (hr r (by simp)) hw ho;obtain ⟨⟨z,hz⟩,hI2,hR⟩:=lB (rs:=rs) (w:=bB r w) (acc:=acc++[r]) (fun a ha=>hr a (by simp [ha])) hI ht;refine ⟨⟨x++z,by rw [he,hz,hx,List.append_assoc]⟩,by rw [he];exact hI2,fun y=>?_⟩;have h1:=hR0 (z++y);rw [← List.append_assoc,← hz] at h1;rw [he,List.length_cons,gK h1];dsimp only;rw [hR y];simp
theorem uO (a b:List Rr) (p:Wr×Bool):cz (a++b) p=cz b (cz a p):=by simp [cz,List.foldl_append]
theorem t9:∀ {rs:List Rr} {w:Wr},(w.b.length:Int)≤65535→(cz rs (w,true)).2=true→((cz rs (w,true)).1.b.length:Int)≤65535
 | [],w,h,_=>h
 | r::rs,w,h,ht=>by
  have he:cz (r::rs) (w,true)=cz rs (bB r w,i5 r w&&decide (((bB r w).b.length:Int)≤65535)):=rfl;have hb:(i5 r w&&decide (((bB r w).b.length:Int)≤65535))=true:=by
   cases hq:(i5 r w&&decide (((bB r w).b.length:Int)≤65535)) with
   | true=>rfl
   | false=>
    have h1:=iB (l:=rs) (p:=(bB r w,i5 r w&&decide (((bB r w).b.length:Int)≤65535))) hq;rw [← he,ht] at h1;cases h1
  rw [hb] at he;rw [he] at ht ⊢;exact t9 (by simp only [Bool.and_eq_true,decide_eq_true_eq] at hb;exact hb.2) ht
theorem sb {m:Msg} (h:gr m=0):jO m=true∧(kF m).2=true∧dI m=(kF m).1.b:=by
 unfold gr at h;split at h
 · rename_i hc
   split at h
   · rename_i hw;exact ⟨hc,hw,by rw [dI,if_pos hc,if_pos hw]⟩
   · cases h
 · cases h
theorem Cw {m:Msg} (h:gr m=0):rdM (dI m)=.ok m∧12≤(dI m).length∧(dI m).length≤65535:=by
 obtain ⟨hc,hw,hb⟩:=sb h;obtain ⟨p1,p2,p3⟩:=jw hc;obtain ⟨k1,k2,k3,k4⟩:=eM p1;have hI0:WInv (hdW m):=fun k a hk=>by cases hk
 have h0b:(hdW m).b=(nD m.h).bytes m.qs.length m.an.length m.au.length m.ad.length:=qE p1;have h0l:(hdW m).b.length=12:=by rw [h0b,Hd.bytes_length]
 obtain ⟨⟨x1,hx1⟩,hI1,hR1⟩:=se (qs:=m.qs) (w:=hdW m) (acc:=[]) p2 hI0;obtain ⟨w1,hw1⟩:∃ w1,w1=cC m.qs (hdW m):=⟨_,rfl⟩;rw [← hw1] at hx1 hI1 hR1;have hq:decide ((w1.b.length:Int)≤65535)=true:=by
  cases hq:decide ((w1.b.length:Int)≤65535) with
  | true=>rfl
  | false=>
   have h1:=iB (l:=m.rrs) (p:=(w1,decide ((w1.b.length:Int)≤65535))) hq;rw [kF,← hw1] at hw;rw [hw] at h1;cases h1
 have hW:kF m=cz m.ad (cz m.au (cz m.an (w1,true))):=by
  rw [kF,← hw1,hq,Msg.rrs,uO,uO]
 have hle:=t9 (rs:=m.rrs) (w:=w1) (of_decide_eq_true hq) (by rw [kF,← hw1,hq] at hw;exact hw);have hW':kF m=cz m.rrs (w1,true):=by rw [kF,← hw1,hq]
 rw [← hW'] at hle;have g3:∀ r∈m.an++m.au++m.ad,rOk r=true:=p3;simp only [List.mem_append] at g3;rw [hW] at hw;have f1:(cz m.an (w1,true)).2=true:=by
  cases hz:(cz m.an (w1,true)).2 with
  | true=>rfl
  | false=>have:=iB (l:=m.ad) (iB (l:=m.au) hz);rw [hw] at this;cases this
 obtain ⟨⟨x2,hx2⟩,hI2,hR2⟩:=lB (rs:=m.an) (w:=w1) (acc:=[]) (fun r hr=>g3 r (.inl (.inl hr))) hI1 f1;obtain ⟨w2,hw2⟩:∃ w2,w2=(cz m.an (w1,true)).1:=⟨_,rfl⟩;have e2:cz m.an (w1,true)=(w2,true):=Prod.ext hw2.symm f1;rw [← hw2] at hx2 hI2 hR2;rw [e2] at hw hW;have f2:(cz m.au (w2,true)).2=true:=by
  cases hz:(cz m.au (w2,true)).2 with
  | true=>rfl
  | false=>have:=iB (l:=m.ad) hz;rw [hw] at this;cases this
 obtain ⟨⟨x3,hx3⟩,hI3,hR3⟩:=lB (rs:=m.au) (w:=w2) (acc:=[]) (fun r hr=>g3 r (.inl (.inr hr))) hI2 f2;obtain ⟨w3,hw3⟩:∃ w3,w3=(cz m.au (w2,true)).1:=⟨_,rfl⟩;have e3:cz m.au (w2,true)=(w3,true):=Prod.ext hw3.symm f2;rw [← hw3] at hx3 hI3 hR3;rw [e3] at hw hW;obtain ⟨⟨x4,hx4⟩,hI4,hR4⟩:=lB (rs:=m.ad) (w:=w3) (acc:=[]) (fun r hr=>g3 r (.inr hr)) hI3 hw;rw [← hW] at hx4 hI4 hR4;rw [← hb] at hx4 hR4;obtain ⟨F,hF⟩:∃ F,F=dI m:=⟨_,rfl⟩;rw [← hF] at hx4 hR4 ⊢;have hl:F.length≤65535:=by rw [hF,hb];omega
 have hF3:F=w3.b++x4:=hx4;have hF2:F=w2.b++(x3++x4):=by rw [hF3,hx3,List.append_assoc]
 have hF1:F=w1.b++(x2++x3++x4):=by rw [hF2,hx2];simp
 have hF0:F=(nD m.h).bytes m.qs.length m.an.length m.au.length m.ad.length++(x1++x2++x3++x4):=by rw [hF1,hx1,h0b];simp
 have q1:=hR1 (x2++x3++x4);rw [← hF1,h0l] at q1;have q2:=hR2 (x3++x4);rw [← hF2] at q2;have q3:=hR3 x4;rw [← hF3] at q3;have q4:=hR4 [];rw [List.append_nil] at q4;have hE0:dE F=0:=by rw [hF0];exact ov p1 _
 have hH:dH F=nD m.h:=by rw [hF0];exact Fx p1 _
 obtain ⟨a2,a3,a4,a5⟩:dC F 2=m.qs.length∧dC F 3=m.an.length∧dC F 4=m.au.length∧dC F 5=m.ad.length:=by rw [hF0];exact Fy p1 _
 have b2:cN F 2=m.qs.length:=by rw [cN,a2];rfl
 have b3:cN F 3=m.an.length:=by rw [cN,a3];rfl
 have b4:cN F 4=m.au.length:=by rw [cN,a4];rfl
 have b5:cN F 5=m.ad.length:=by rw [cN,a5];rfl
 refine ⟨?_,by rw [hF0,List.length_append,Hd.bytes_length];omega,hl⟩;rw [gc (by omega) hE0,b2,b3,b4,b5,aY q1];dsimp only;rw [aY q2];dsimp only;rw [aY q3];dsimp only;rw [aY q4,if_pos rfl];have hM:hdM F=m.h:=by rw [hdM,hH];rfl
 rw [hM];rfl
theorem vO {b:List UInt8} {sh:Int} (hs:sh≠0):∀ (p fi li:Nat) (bh:Option Nat) (n:List UInt8),∀ {e:Int},rdN b sh p fi li bh n=.error e→e≠0:=by
 intro p fi li bh n;induction p,fi,li,bh,n using rdN.induct b with
 | case1 p fi li bh n h=>intro e k;rw [ec h] at k;cases k;exact hs
 | case2 p fi li bh n h h1 h2=>intro e k;rw [eg h h1 h2] at k;cases k
 | case3 p fi li bh n h h1 h2=>intro e k;rw [dk h h1 h2] at k;cases k;decide
 | case4 p fi li bh n h h1 h2 h3=>intro e k;rw [dA h h2 h3] at k;cases k;exact hs
 | case5 p fi li bh n h h1 h2 h3 h4 ih=>intro e k;rw [ed h h2 h3 h4] at k;exact ih k
 | case6 p fi li bh n h h1 h2 h3 h4=>intro e k;rw [fk h h2 h3 h4] at k;cases k;decide
 | case7 p fi li bh n h h1 h2 h3=>intro e k;rw [ef h h3 h2] at k;cases k;decide
 | case8 p fi li bh n h h1 h2 h3 h4=>intro e k;rw [dD h h1 h3 h4] at k;cases k;exact hs
 | case9 p fi li bh n h h1 h2 h3 h4 h5 ih=>intro e k;rw [fV h h1 h3 h4 h5] at k;exact ih k
 | case10 p fi li bh n h h1 h2 h3 h4 h5=>intro e k;rw [ee h h1 h3 h4 h5] at k;cases k;decide
theorem wQ {b:List UInt8} {en:Nat}:∀ (k:Nat) (acc:List UInt8) (p:Nat) {e:Int},fS b en k acc p=.error e→e≠0
 | 0,acc,p,e,h=>by cases h
 | k+1,acc,p,e,h=>by
  cases h1:rdN b 30 p p en none [] with
  | error x=>rw [jV h1] at h;cases h;exact vO (by decide) _ _ _ _ _ h1
  | ok a=>rw [mP h1] at h;exact wQ k _ _ h
theorem Ei {b:List UInt8} {t:Int} {p en:Nat} {e:Int} (h:rdD b t p en=.error e):e≠0:=by
 unfold rdD at h;split at h
 · cases h;decide
 · cases h1:fS b en (cR t) (if t=15 then (b.take (p+2)).drop p else []) (if t=15 then p+2 else p) with
   | error x=>rw [h1] at h;cases h;exact wQ _ _ _ h1
   | ok a=>
    rw [h1,rdO] at h;split at h
    · cases h
    · cases h;decide
theorem Ef {b:List UInt8} {p:Nat} {e:Int} (h:rdR b p=.error e):e≠0:=by
 unfold rdR at h;cases h1:rdN b 20 p p b.length none [] with
 | error x=>rw [h1] at h;cases h;exact vO (by decide) _ _ _ _ _ h1
 | ok a=>
  rw [h1,vN] at h;split at h
  · cases h;decide
  · cases h2:rdD b (bN b a.2 2) (a.2+10) (a.2+10+bN b (a.2+8) 2) with
    | error x=>rw [h2] at h;cases h;exact Ei h2
    | ok d=>rw [h2] at h;cases h
theorem pq {b:List UInt8}:∀ (k:Nat) (acc:List Rr) (p:Nat) {e:Int},bL b k acc p=.error e→e≠0
 | 0,acc,p,e,h=>by cases h
 | k+1,acc,p,e,h=>by
  cases h1:rdR b p with
  | error x=>rw [ga h1] at h;cases h;exact Ef h1
  | ok a=>rw [gK h1] at h;exact pq k _ _ h
theorem wP {b:List UInt8}:∀ (k:Nat) (acc:List Qu) (p:Nat) {e:Int},dz b k acc p=.error e→e≠0
 | 0,acc,p,e,h=>by cases h
 | k+1,acc,p,e,h=>by
  cases h1:rdN b 20 p p b.length none [] with
  | error x=>rw [iM h1] at h;cases h;exact vO (by decide) _ _ _ _ _ h1
  | ok a=>
   by_cases h2:b.length<a.2+4
   · rw [gb h1 h2] at h;cases h;decide
   · rw [je h1 h2] at h;exact wP k _ _ h
theorem Eh {b:List UInt8} {e:Int} (h:rdM b=.error e):e≠0:=by
 by_cases h1:65535<b.length
 · rw [rdM,if_pos h1] at h;cases h;decide
 by_cases h2:dE b=0
 · rw [gc h1 h2] at h
   cases e1:dz b (cN b 2) [] 12 with
   | error x=>rw [bW e1] at h;cases h;exact wP _ _ _ e1
   | ok q=>
    rw [aY e1] at h;cases e2:bL b (cN b 3) [] q.2 with
    | error x=>rw [bW e2] at h;cases h;exact pq _ _ _ e2
    | ok x=>
     rw [aY e2] at h;cases e3:bL b (cN b 4) [] x.2 with
     | error x=>rw [bW e3] at h;cases h;exact pq _ _ _ e3
     | ok z=>
      rw [aY e3] at h;cases e4:bL b (cN b 5) [] z.2 with
      | error x=>rw [bW e4] at h;cases h;exact pq _ _ _ e4
      | ok w=>
       rw [aY e4] at h;split at h
       · cases h
       · cases h;decide
 · rw [rdM,if_neg h1,if_pos h2] at h;cases h;exact h2
section
variable {b:List UInt8} (y:List UInt8)
theorem xZ {m:Msg} (h:rdM b=.ok m):¬ 65535<b.length∧dE b=0∧∃ q x z w,dz b (cN b 2) [] 12=.ok q∧bL b (cN b 3) [] q.2=.ok x∧bL b (cN b 4) [] x.2=.ok z∧bL b (cN b 5) [] z.2=.ok w∧w.2=b.length∧m=⟨hdM b,q.1,x.1,z.1,w.1⟩:=by
 by_cases h1:65535<b.length
 · rw [rdM,if_pos h1] at h;cases h
 by_cases h2:dE b=0
 · rw [gc h1 h2] at h
   refine ⟨h1,h2,?_⟩;cases e1:dz b (cN b 2) [] 12 with
   | error e=>rw [bW e1] at h;cases h
   | ok q=>
    rw [aY e1] at h;cases e2:bL b (cN b 3) [] q.2 with
    | error e=>rw [bW e2] at h;cases h
    | ok x=>
     rw [aY e2] at h;cases e3:bL b (cN b 4) [] x.2 with
     | error e=>rw [bW e3] at h;cases h
     | ok z=>
      rw [aY e3] at h;cases e4:bL b (cN b 5) [] z.2 with
      | error e=>rw [bW e4] at h;cases h
      | ok w=>
       rw [aY e4] at h;split at h
       · rename_i hw;exact ⟨q,x,z,w,rfl,e2,e3,e4,hw,by cases h;rfl⟩
       · cases h
 · rw [rdM,if_neg h1,if_pos h2] at h;cases h
end
theorem EZ {b:List UInt8} (h:dE b=0):(dH b).can (dC b 2) (dC b 3) (dC b 4) (dC b 5):=by
 rw [xt h,gw h,gw h,gw h,gw h];have h0:=jk b 0;have h1:=jk b 1;have h2:=jk b 2;have h3:=jk b 3;have h4:=jk b 4;have h5:=jk b 5;simp only [Hd.can];omega
theorem BK {b:List UInt8} {p:Nat} {x:Rr×Nat} (h:rdR b p=.ok x):rOk x.1=true:=by
 cases h1:rdN b 20 p p b.length none [] with
 | error e=>rw [rdR,h1] at h;cases h
 | ok a=>
  have hn:=wR h1 (Nat.le_refl _);by_cases hb:b.length<a.2+10∨b.length<a.2+10+bN b (a.2+8) 2
  · rw [eF h1 hb] at h;cases h
  · rw [nN h1 (fun k=>hb (.inl k)) (fun k=>hb (.inr k))] at h
    cases h2:rdD b (bN b a.2 2) (a.2+10) (a.2+10+bN b (a.2+8) 2) with
    | error e=>rw [h2] at h;cases h
    | ok d=>
     rw [h2,zy] at h;cases h;have hd:fA (bN b a.2 2) d=true:=by
      unfold rdD at h2;split at h2
      · cases h2
      · cases h3:fS b (a.2+10+bN b (a.2+8) 2) (cR (bN b a.2 2)) (if ((bN b a.2 2:Nat):Int)=15 then (b.take (a.2+10+2)).drop (a.2+10) else []) (if ((bN b a.2 2:Nat):Int)=15 then a.2+10+2 else a.2+10) with
        | error e=>rw [h3] at h2;cases h2
        | ok c=>
         rw [h3,rdO] at h2;split at h2
         · rename_i hc;cases h2;exact hc
         · cases h2
     have k1:=ox (b:=b) (i:=a.2);have k2:=ox (b:=b) (i:=a.2+2);have k3:=GC (b:=b) (i:=a.2+4) (w:=4) (by omega);simp only [rOk,iL,hn,hd,shB,Bool.and_true,Bool.true_and,Bool.and_eq_true,decide_eq_true_eq,Bool.not_eq_true',decide_eq_false_iff_not];omega
theorem mO {b:List UInt8}:∀ {k:Nat} {acc:List Rr} {p:Nat} {r:List Rr×Nat},bL b k acc p=.ok r→(∀ q∈acc,rOk q=true)→(∀ q∈r.1,rOk q=true)∧r.1.length=acc.length+k
 | 0,acc,p,r,h,ha=>by cases h;exact ⟨ha,rfl⟩
 | k+1,acc,p,r,h,ha=>by
  cases h1:rdR b p with
  | error e=>rw [ga h1] at h;cases h
  | ok a=>
   rw [gK h1] at h;obtain ⟨g1,g2⟩:=mO h (by
    intro q hq;rcases List.mem_append.1 hq with hq|hq
    · exact ha q hq
    · obtain rfl:=List.mem_singleton.1 hq;exact BK h1)
   exact ⟨g1,by rw [g2,List.length_append];simp;omega⟩
theorem uc {b:List UInt8}:∀ {k:Nat} {acc:List Qu} {p:Nat} {r:List Qu×Nat},dz b k acc p=.ok r→(∀ q∈acc,qOk q=true)→(∀ q∈r.1,qOk q=true)∧r.1.length=acc.length+k
 | 0,acc,p,r,h,ha=>by cases h;exact ⟨ha,rfl⟩
 | k+1,acc,p,r,h,ha=>by
  cases h1:rdN b 20 p p b.length none [] with
  | error e=>rw [iM h1] at h;cases h
  | ok a=>
   by_cases hb:b.length<a.2+4
   · rw [gb h1 hb] at h;cases h
   · rw [je h1 hb] at h
     obtain ⟨g1,g2⟩:=uc h (by
      intro q hq;rcases List.mem_append.1 hq with hq|hq
      · exact ha q hq
      · obtain rfl:=List.mem_singleton.1 hq
        have hn:=wR h1 (Nat.le_refl _);have k1:=ox (b:=b) (i:=a.2);have k2:=ox (b:=b) (i:=a.2+2);simp only [qOk,iL,hn,shB,Bool.true_and,Bool.and_eq_true,decide_eq_true_eq];omega)
     exact ⟨g1,by rw [g2,List.length_append];simp;omega⟩
theorem BL {b:List UInt8} {m:Msg} (h:rdM b=.ok m):jO m=true:=by
 obtain ⟨h1,h2,q,x,z,w,e1,e2,e3,e4,e5,rfl⟩:=xZ h;obtain ⟨a1,a2⟩:=uc e1 (by simp);obtain ⟨b1,b2⟩:=mO e2 (by simp);obtain ⟨c1,c2⟩:=mO e3 (by simp);obtain ⟨d1,d2⟩:=mO e4 (by simp);have hd:hdO ⟨hdM b,q.1,x.1,z.1,w.1⟩:=by
  have hc:=EZ h2;rw [(jJ b 2).1,(jJ b 3).1,(jJ b 4).1,(jJ b 5).1] at hc;show (nD (hdM b)).can q.1.length x.1.length z.1.length w.1.length;rw [a2,b2,c2,d2];simp only [List.length_nil,Nat.zero_add];exact hc
 rw [jO,j8,j8,decide_eq_true hd,Bool.true_and,Bool.and_eq_true,List.all_eq_true,List.all_eq_true];refine ⟨a1,fun r hr=>?_⟩;simp only [Msg.rrs,List.mem_append] at hr;rcases hr with (hr|hr)|hr
 · exact b1 r hr
 · exact c1 r hr
 · exact d1 r hr
theorem xD {n:List UInt8} (h:bm n=true):n.length≤255:=by
 obtain ⟨c1,c2⟩:=cj h;rw [← c2];exact c1.2
theorem xE {m:Msg} (h:jO m=true):gp m∧oB m:=by
 obtain ⟨p1,p2,p3⟩:=jw h;obtain ⟨k1,k2,k3,k4⟩:=eM p1;have hr:∀ r∈m.rrs,r.nm.length≤255∧r.da.length≤65535:=fun r hr=>by
  obtain ⟨⟨⟨⟨r1,r2⟩,r3⟩,r4⟩,r5⟩:(((bm r.nm=true∧rb [r.ty,r.cs]=true)∧0≤r.ttl)∧r.ttl<4294967296)∧fA r.ty r.da=true:=by simpa [rOk] using p3 r hr
  exact ⟨xD r1,(js r5).1⟩
 have hm:∀ r,(r∈m.an∨r∈m.au)∨r∈m.ad→r∈m.rrs:=fun r hr=>by simp only [Msg.rrs,List.mem_append];exact hr
 refine ⟨⟨by omega,⟨by omega,fun r h=>?_⟩,⟨by omega,fun r h=>?_⟩,⟨by omega,fun r h=>?_⟩⟩,fun q hq=>?_,fun r h=>?_⟩
 · have:=(hr r (hm r (.inl (.inl h)))).2;omega
 · have:=(hr r (hm r (.inl (.inr h)))).2;omega
 · have:=(hr r (hm r (.inr h))).2;omega
 · have h0:=p2 q hq
   rw [qOk,Bool.and_eq_true] at h0;have:=xD h0.1;omega
 · have:=(hr r h).1;omega
theorem Bk {b:List UInt8} (h:jN b=0):jO (cG b)=true∧gp (cG b)∧oB (cG b)∧(gr (cG b)=42∨gr (cG b)=0∧cG (dI (cG b))=cG b∧jN (dI (cG b))=0):=by
 cases h1:rdM b with
 | error e=>
  have h2:jN b=e:=by rw [jN,h1]
  exact absurd (h2.symm.trans h) (Eh h1)
 | ok m=>
  have hm:cG b=m:=by rw [cG,h1]
  rw [hm];have hc:=BL h1;refine ⟨hc,(xE hc).1,(xE hc).2,?_⟩;by_cases hw:(kF m).2=true
  · have he:gr m=0:=by rw [gr,if_pos hc,if_pos hw]
    have hd:=(Cw he).1;exact .inr ⟨he,by rw [cG,hd],by rw [jN,hd]⟩
  · exact .inl (by rw [gr,if_pos hc,if_neg hw])
structure Zo where
 o:List UInt8
 rs:List Rr
 deriving Inhabited,DecidableEq
structure Sv where
 ad:Int
 zs:List Int
 deriving Inhabited,DecidableEq
structure Tr where
 zs:List Zo
 ss:List Sv
 deriving Inhabited
def zoC (z:Zo):List AV:=[str z.o,.fz 0 z.rs.length (cl rrc z.rs)]
def svC (s:Sv):List AV:=[i64 s.ad,.fz 0 s.zs.length (cl ic s.zs)]
def trC (t:Tr):List AV:=[.fz 0 t.zs.length (cl zoC t.zs),.fz 0 t.ss.length (cl svC t.ss)]
def eR (z:Zo):Prop:=z.o.length≤140737488351232∧RrsOk z.rs∧∀ r∈z.rs,r.nm.length≤140737488351232
def cx (t:Tr):Prop:=t.zs.length*40≤140737488351232∧(∀ z∈t.zs,eR z)∧t.ss.length*32≤140737488351232∧∀ s∈t.ss,s.zs.length*8≤140737488351232
theorem kD {α:Type} [Inhabited α] {p:α→Bool} {l:List α} {i:Nat} (h:i<l.length):(l.take (i+1)).filter p=(l.take i).filter p++(if p (l.getD i default) then [l.getD i default] else []):=by
 rw [bK h,List.filter_append];congr 1;generalize l.getD i default=x;cases hp:p x<;>simp [List.filter,hp]
theorem qG {α:Type} [Inhabited α] {p:α→Bool} {l:List α} {i:Nat} (h:i<l.length) (hp:p (l.getD i default)=true):(l.take (i+1)).filter p=(l.take i).filter p++[l.getD i default]:=by rw [kD h,if_pos hp]
theorem o9 {α:Type} [Inhabited α] {p:α→Bool} {l:List α} {i:Nat} (h:i<l.length) (hp:p (l.getD i default)=false):(l.take (i+1)).filter p=(l.take i).filter p:=by rw [kD h,hp];simp
theorem bG {α β:Type} [Inhabited α] {f:β→α→β} {b:β} {l:List α} {i:Nat} (h:i<l.length):(l.take (i+1)).foldl f b=f ((l.take i).foldl f b) (l.getD i default):=by
 rw [bK h,List.foldl_append];rfl
theorem m0 {α:Type} (p:α→Bool) (l:List α) (i:Nat):((l.take i).filter p).length≤l.length:=by
 have h1:=List.length_filter_le p (l.take i);have h2:=List.length_take (i:=i) (l:=l);omega
def atP (n:List UInt8) (t:Int) (r:Rr):Bool:=decide (r.ty=t)&&bi r.nm n
def atZ (z:Zo) (n:List UInt8) (t:Int):List Rr:=z.rs.filter (atP n t)
def i9 (z:Zo) (n:List UInt8) (r:Rr):Bool:=decide (r.ty=2)&&!bi r.nm z.o&&bQ r.nm z.o&&bQ n r.nm
def kG (z:Zo) (n:List UInt8) (b:List UInt8) (r:Rr):List UInt8:=if i9 z n r&&(decide (b=[]) || decide (dt r.nm<dt b)) then r.nm else b
def bI (z:Zo) (n:List UInt8):List UInt8:=z.rs.foldl (kG z n) []
def lM (z:Zo) (n:List UInt8):Bool:=decide (bI z n≠[])&&!bi (bI z n) n
def thP (z:Zo) (n:List UInt8) (r:Rr):Bool:=bQ r.nm n&&!lM z r.nm
def nE (z:Zo) (n:List UInt8):Bool:=!lM z n&&z.rs.any (thP z n)
theorem nz {a b:List UInt8} (h:bQ a b=true):bm a=true∧bm b=true:=by
 unfold bQ at h;simp only [Bool.and_eq_true] at h;exact ⟨h.1.1.1,h.1.1.2⟩
theorem tu {n:List UInt8} (h:bm n=true):n≠[]:=by
 intro e;subst e;obtain ⟨ls,g,e,_⟩:=d9.1 h;have:=cK ls;rw [← e] at this;simp at this
theorem z0 {a b:List UInt8} (h:bQ a b=true):a≠[]:=tu (nz h).1
theorem ju {z:Zo} {n b:List UInt8} {r:Rr} (h:i9 z n r=false):kG z n b r=b:=by rw [kG,h];rfl
theorem sf {z:Zo} {n b:List UInt8} {r:Rr} (h:b≠[]) (h2:¬ dt r.nm<dt b):kG z n b r=b:=by rw [kG,decide_eq_false h,decide_eq_false h2];simp
theorem lD {z:Zo} {n b:List UInt8} {r:Rr} (h:i9 z n r=true) (h2:b=[]∨dt r.nm<dt b):kG z n b r=r.nm:=by
 rw [kG,h];rcases h2 with h2|h2<;>simp [h2]
section
variable {z:Zo} {n:List UInt8} {r:Rr}
theorem uT (h:¬ r.ty=2):i9 z n r=false:=by simp [i9,h]
theorem AO (h:bi r.nm z.o=true):i9 z n r=false:=by simp [i9,h]
theorem AN (h:bQ r.nm z.o=false):i9 z n r=false:=by simp [i9,h]
theorem uS (h:bQ n r.nm=false):i9 z n r=false:=by simp [i9,h]
theorem AL (h1:¬ ¬ r.ty=2) (h2:bi r.nm z.o=false) (h3:bQ r.nm z.o=true) (h4:bQ n r.nm=true):i9 z n r=true:=by
 rw [Decidable.not_not] at h1;simp [i9,h1,h2,h3,h4]
end
theorem ta (z:Zo) (n:List UInt8):∀ (l:List Rr) (b:List UInt8),l.foldl (kG z n) b=b∨∃ r∈l,l.foldl (kG z n) b=r.nm∧i9 z n r=true
 | [],b=>.inl rfl
 | r::l,b=>by
  have h1:=ta z n l (kG z n b r);rw [List.foldl_cons];rcases h1 with h1|⟨q,h2,h3,h4⟩
  · by_cases hc:(i9 z n r&&(decide (b=[]) || decide (dt r.nm<dt b)))=true
    · right
      refine ⟨r,by simp,?_,by simp only [Bool.and_eq_true] at hc;exact hc.1⟩;rw [h1,kG,if_pos hc]
    · left;rw [h1,kG,if_neg hc]
  · exact .inr ⟨q,by simp [h2],h3,h4⟩
theorem AK {z:Zo} {n:List UInt8} (h:bI z n≠[]):∃ r∈z.rs,bI z n=r.nm∧i9 z n r=true:=(ta z n z.rs []).resolve_left h
theorem eC {z:Zo} (hz:eR z) (n:List UInt8):(bI z n).length≤140737488351232:=by
 by_cases h:bI z n=[]
 · rw [h];decide
 · obtain ⟨r,h1,h2,_⟩:=AK h
   rw [h2];exact hz.2.2 r h1
theorem ni {z:Zo} (hz:eR z) (n:List UInt8) (i:Nat):((z.rs.take i).foldl (kG z n) []).length≤140737488351232:=by
 rcases ta z n (z.rs.take i) [] with h|⟨r,h1,h2,_⟩
 · rw [h];decide
 · rw [h2];exact hz.2.2 r (List.mem_of_mem_take h1)
theorem RrsOk.filter {l:List Rr} (h:RrsOk l) (p:Rr→Bool):RrsOk (l.filter p):=⟨by have:=List.length_filter_le p l;have:=h.1;omega,fun x hx=>h.2 x (List.mem_filter.1 hx).1⟩
theorem jB {z:Zo} (hz:eR z) (n:List UInt8) (t:Int):RrsOk (atZ z n t):=hz.2.1.filter _
theorem qY {z:Zo} {n:List UInt8} {t:Int} {i:Nat} {acc:List Rr} (ha:acc=(z.rs.take i).filter (atP n t)):acc.length≤i:=by
 have h1:=List.length_filter_le (atP n t) (z.rs.take i);have h2:=List.length_take_le i z.rs;rw [ha];omega
theorem ws (l:List Rr) (lv:Nat) (h:RrsOk l):AC Tryz.prog 77 [.fz lv l.length (cl rrc l)] emp (Ret (.fz 0 l.length (cl rrc l))):=by
 obtain ⟨hb,hd⟩:=id h;refine AC.intro te_ok (fn:=Tryz.f77) ⟨Tryz.func77,rfl,rfl⟩ (aE rfl) ?_;iterate 2 refine ab ?_
 refine ai rfl rfl (aR (0) rrc) ?_;iterate 3 refine ab ?_
 refine ai rfl rfl (bD 200 5 rrc) ?_;iterate 9 refine ab ?_
 refine AWp.loopR (α:=Nat×List Rr×Nat) [3,5,8,9,10,11,12,13,14,15,16,17,18,19,20] (fun x_=>[(8,i64 (x_.1)),(3,.sl 200 (x_.2.2) 0 (x_.2.1).length 5)]) (fun x_=>[(200,.row (cl rrc (x_.2.1)) 5 (x_.2.2))]) (fun x_=>(x_.1)≤l.length∧(x_.2.1)=l.take (x_.1)) (fun x_=>l.length-(x_.1)) (0,[],0) ?_ (Back.mk' (HasT.cons (HasT.cons HasT.nil)) (HasH.cons HasH.nil)) ?_
 ·
  exact ⟨Nat.zero_le _,rfl⟩
 ·
  rintro ⟨i,acc,v⟩ hI3;change i≤l.length∧acc=l.take i at hI3;obtain ⟨hi,hacc⟩:=hI3;refine AWp.as (s':=AS.over _ [3,5,8,9,10,11,12,13,14,15,16,17,18,19,20] [(8,i64 i),(3,.sl 200 v 0 acc.length 5)] [(200,.row (cl rrc acc) 5 v)]) rfl ?_;have hal:acc.length=i:=by rw [hacc,List.length_take];omega
  iterate 2 refine ab ?_
  refine am (fun h3_0=>?_) (fun h3_0=>?_)
  ·
   iterate 8 refine ab ?_
   have hdi:(l.getD i default).da.length≤140737488351232:=hd _ (aq (by omega));iterate 2 refine ab ?_
   refine ai rfl rfl (ap 502) ?_;iterate 6 refine ab ?_
   refine ai rfl rfl (aj (0) (hc:=iI _ _ bE)) ?_;iterate 6 refine ab ?_
   refine ai rfl rfl (bO 702 rrc [_] [(_,_)]) ?_;iterate 7 refine ab ?_
   refine ⟨(i+1,_,_),?_,Back.mk' (HasT.cons (HasT.cons HasT.nil)) (HasH.cons HasH.nil),?_⟩
   ·
    try dsimp only
    exact ⟨by omega,by rw [bK (by omega),← hacc];rfl⟩
   ·
    try dsimp only
    first|omega|(simp;omega)
  ·
   iterate 10 refine ab ?_
   obtain rfl:acc=l:=by rw [hacc,List.take_of_length_le (by omega)]
   refine ak (0) [_] [_] ?_;rfl
theorem vc (r:Rr) (n:List UInt8) (t:Int) (lv:Nat) (hr:r.nm.length≤140737488351232) (hn:n.length≤140737488351232):AC Tryz.prog 76 [.agg (rrc r),.fp lv [i64 t],.fp lv [str n]] emp (Ret (tf (atP n t r))):=by
 refine AC.intro te_ok (fn:=Tryz.f76) ⟨Tryz.func76,rfl,rfl⟩ (aE rfl) ?_;iterate 2 refine ab ?_
 refine ai rfl rfl (aS 100) ?_;iterate 7 refine ab ?_
 refine am (fun h1_3=>?_) (fun h1_3=>?_)
 ·
  iterate 4 refine ab ?_
  refine cw rfl rfl rfl rfl rfl (aj (0) (hc:=(bT r.nm n (by omega) (by omega)))) ?_;iterate 4 refine ab ?_
  refine ak (0) [_] [_] ?_;exact congrArg tf (by simp [atP, *])
 ·
  iterate 9 refine ab ?_
  refine ak (0) [_] [_] ?_;exact congrArg tf (by simp [atP, *])
theorem cQ (z:Zo) (n:List UInt8) (t:Int) (hz:eR z) (hn:n.length≤140737488351232):AC Tryz.prog 39 [.agg (zoC z),str n,i64 t] emp (Ret (.fz 0 (atZ z n t).length (cl rrc (atZ z n t)))):=by
 have hrl:z.rs.length*64≤140737488351232:=hz.2.1.1;have hol:=hz.1;refine AC.intro te_ok (fn:=Tryz.f39) ⟨Tryz.func39,rfl,rfl⟩ (aE rfl) ?_;iterate 2 refine ab ?_
 refine ai rfl rfl (aS 100) ?_;refine ai rfl rfl (aS 101) ?_;refine ai rfl rfl (aS 102) ?_;iterate 4 refine ab ?_
 refine ai rfl rfl (ca [] [_,_]) ?_;iterate 4 refine ab ?_
 refine ai rfl rfl (bD 300 5 rrc) ?_;iterate 10 refine ab ?_
 refine AWp.loopR (α:=Nat×List Rr×Nat) [8,10,15,16,17,18,19,20,21,22,23,24,25,26] (fun x_=>[(15,i64 (x_.1)),(8,.sl 300 (x_.2.2) 0 (x_.2.1).length 5)]) (fun x_=>[(300,.row (cl rrc (x_.2.1)) 5 (x_.2.2))]) (fun x_=>(x_.1)≤z.rs.length∧(x_.2.1)=(z.rs.take (x_.1)).filter (atP n t)) (fun x_=>z.rs.length-(x_.1)) (0,[],0) ?_ (Back.mk' (HasT.cons (HasT.cons HasT.nil)) (HasH.cons HasH.nil)) ?_
 ·
  exact ⟨Nat.zero_le _,rfl⟩
 ·
  rintro ⟨i,acc,v⟩ hI4;change i≤z.rs.length∧acc=(z.rs.take i).filter (atP n t) at hI4;obtain ⟨hi,ha⟩:=hI4;refine AWp.as (s':=AS.over _ [8,10,15,16,17,18,19,20,21,22,23,24,25,26] [(15,i64 i),(8,.sl 300 v 0 acc.length 5)] [(300,.row (cl rrc acc) 5 v)]) rfl ?_;have hal:=qY ha;iterate 2 refine ab ?_
  refine am (fun h4_0=>?_) (fun h4_0=>?_)
  ·
   iterate 8 refine ab ?_
   have hr:=hz.2.2 _ (aq (l:=z.rs) (i:=i) (by omega));have hrd:=hz.2.1.2 _ (aq (l:=z.rs) (i:=i) (by omega));iterate 2 refine ab ?_
   refine ai rfl rfl (ap 602) ?_;iterate 6 refine ab ?_
   refine AOps.bool rfl rfl (aj (0) (hc:=(vc (z.rs.getD i default) n t 1 hr hn))) (fun h6_2=>?_) (fun h6_2=>?_)
   ·
    iterate 5 refine ab ?_
    refine ai rfl rfl (bO 802 rrc [_] [(_,_)]) ?_;iterate 7 refine ab ?_
    refine ⟨(i+1,acc++[z.rs.getD i default],v+1),?_,Back.mk' (HasT.cons (HasT.cons HasT.nil)) (HasH.cons HasH.nil),?_⟩
    ·
     try dsimp only
     exact ⟨by omega,by rw [qG (by omega) h6_2,← ha]⟩
    ·
     try dsimp only
     first|omega|(simp;omega)
   ·
    iterate 7 refine ab ?_
    refine ⟨(i+1,acc,v),?_,Back.mk' (HasT.cons (HasT.cons HasT.nil)) (HasH.cons HasH.nil),?_⟩
    ·
     try dsimp only
     exact ⟨by omega,by rw [o9 (by omega) h6_2,← ha]⟩
    ·
     try dsimp only
     first|omega|(simp;omega)
  ·
   iterate 6 refine ab ?_
   obtain rfl:i=z.rs.length:=by omega
   rw [List.take_length] at ha;obtain rfl:acc=atZ z n t:=ha;refine ab ?_;refine ai rfl rfl (aj (0) (hc:=(ws (atZ z n t) 1 (jB hz n t)))) ?_;iterate 3 refine ab ?_
   refine ak (0) [_] [_] ?_;rfl
theorem jx (z:Zo) (n:List UInt8) (hz:eR z) (hn:n.length≤140737488351232):AC Tryz.prog 75 [.agg (zoC z),str n] emp (Ret (.tup [str (bI z n),tf (decide (bI z n≠[]))])):=by
 have hrl:z.rs.length*64≤140737488351232:=hz.2.1.1;have hol:=hz.1;refine AC.intro te_ok (fn:=Tryz.f75) ⟨Tryz.func75,rfl,rfl⟩ (aE rfl) ?_;iterate 2 refine ab ?_
 refine ai rfl rfl (aS 100) ?_;iterate 17 refine ab ?_
 refine AWp.loopR (α:=Nat×List UInt8) [6,7,9,13,14,15,16,17,18,19,20,21,22,23,24,25,26,27,28,29,30,31,32,33,34,35,36,37,38,39,40,41,42,43,44,45,46,47,48,49,50,51,52,53,54] (fun x_=>[(13,i64 (x_.1)),(6,str (x_.2)),(7,tf (decide ((x_.2)≠[])))]) (fun x_=>[]) (fun x_=>(x_.1)≤z.rs.length∧(z.rs.take (x_.1)).foldl (kG z n) []=(x_.2)) (fun x_=>z.rs.length-(x_.1)) (0,[]) ?_ (Back.mk' (HasT.cons (HasT.cons (HasT.cons HasT.nil))) HasH.nil) ?_
 ·
  exact ⟨Nat.zero_le _,rfl⟩
 ·
  rintro ⟨i,b⟩ hI3;change i≤z.rs.length∧(z.rs.take i).foldl (kG z n) []=b at hI3;obtain ⟨hi,hb⟩:=hI3;refine AWp.as (s':=AS.over _ [6,7,9,13,14,15,16,17,18,19,20,21,22,23,24,25,26,27,28,29,30,31,32,33,34,35,36,37,38,39,40,41,42,43,44,45,46,47,48,49,50,51,52,53,54] [(13,i64 i),(6,str b),(7,tf (decide (b≠[])))] []) rfl ?_;have hbl:=ni hz n i;rw [hb] at hbl;iterate 2 refine ab ?_
  refine am (fun h3_0=>?_) (fun h3_0=>?_)
  ·
   iterate 8 refine ab ?_
   have hr:=hz.2.2 _ (aq (l:=z.rs) (i:=i) (by omega));have hrd:=hz.2.1.2 _ (aq (l:=z.rs) (i:=i) (by omega));iterate 2 refine ab ?_
   refine ai rfl rfl (ap 502) ?_;iterate 7 refine ab ?_
   refine am (fun h5_2=>?_) (fun h5_2=>?_)
   ·
    iterate 29 refine ab ?_
    refine ⟨(i+1,b),?_,Back.mk' (HasT.cons (HasT.cons (HasT.cons HasT.nil))) HasH.nil,?_⟩
    ·
     try dsimp only
     exact ⟨by omega,by rw [bG (by omega),hb];exact ju (uT h5_2)⟩
    ·
     try dsimp only
     first|omega|(simp;omega)
   ·
    iterate 5 refine ab ?_
    refine AOps.gbool rfl rfl rfl rfl rfl (aj (0) (hc:=(bT (z.rs.getD i default).nm z.o (by omega) (by omega)))) (fun h5_8=>?_) (fun h5_8=>?_)
    ·
     iterate 23 refine ab ?_
     refine ⟨(i+1,b),?_,Back.mk' (HasT.cons (HasT.cons (HasT.cons HasT.nil))) HasH.nil,?_⟩
     ·
      try dsimp only
      exact ⟨by omega,by rw [bG (by omega),hb];exact ju (AO h5_8)⟩
     ·
      try dsimp only
      first|omega|(simp;omega)
    ·
     iterate 6 refine ab ?_
     refine AOps.gbool rfl rfl rfl rfl rfl (aj (0) (hc:=(df (z.rs.getD i default).nm z.o (by omega) (by omega)))) (fun h5_15=>?_) (fun h5_15=>?_)
     ·
      iterate 6 refine ab ?_
      refine AOps.gbool rfl rfl rfl rfl rfl (aj (0) (hc:=(df n (z.rs.getD i default).nm (by omega) (by omega)))) (fun h5_22=>?_) (fun h5_22=>?_)
      ·
       iterate 7 refine ab ?_
       have hP:i9 z n (z.rs.getD i default)=true:=AL h5_2 h5_8 h5_15 h5_22;have hne:=z0 h5_15;refine AOps.bool rfl rfl (aA) (fun h6_0=>?_) (fun h6_0=>?_)
       ·
        iterate 4 refine ab ?_
        refine cw rfl rfl rfl rfl rfl (aj (0) (hc:=(cL (z.rs.getD i default).nm (by omega)))) ?_;refine ab ?_;refine cw rfl rfl rfl rfl rfl (aj (0) (hc:=(cL b (by omega)))) ?_;refine am (fun h6_8=>?_) (fun h6_8=>?_)
        ·
         iterate 13 refine ab ?_
         refine ⟨(i+1,(z.rs.getD i default).nm),?_,Back.mk' (HasT.cons (HasT.cons (HasT.cons HasT.nil (h1:=by exact congrArg tf (decide_eq_true hne).symm) ))) HasH.nil,?_⟩
         ·
          try dsimp only
          exact ⟨by omega,by rw [bG (by omega),hb];exact lD hP (.inr h6_8)⟩
         ·
          try dsimp only
          first|omega|(simp;omega)
        ·
         iterate 8 refine ab ?_
         refine ⟨(i+1,b),?_,Back.mk' (HasT.cons (HasT.cons (HasT.cons HasT.nil))) HasH.nil,?_⟩
         ·
          try dsimp only
          exact ⟨by omega,by rw [bG (by omega),hb];exact sf (by simpa using h6_0) h6_8⟩
         ·
          try dsimp only
          first|omega|(simp;omega)
       ·
        iterate 21 refine ab ?_
        refine ⟨(i+1,(z.rs.getD i default).nm),?_,Back.mk' (HasT.cons (HasT.cons (HasT.cons HasT.nil (h1:=by exact congrArg tf (decide_eq_true hne).symm) ))) HasH.nil,?_⟩
        ·
         try dsimp only
         exact ⟨by omega,by rw [bG (by omega),hb];exact lD hP (.inl (by simpa using h6_0))⟩
        ·
         try dsimp only
         first|omega|(simp;omega)
      ·
       iterate 9 refine ab ?_
       refine ⟨(i+1,b),?_,Back.mk' (HasT.cons (HasT.cons (HasT.cons HasT.nil))) HasH.nil,?_⟩
       ·
        try dsimp only
        exact ⟨by omega,by rw [bG (by omega),hb];exact ju (uS h5_22)⟩
       ·
        try dsimp only
        first|omega|(simp;omega)
     ·
      iterate 16 refine ab ?_
      refine ⟨(i+1,b),?_,Back.mk' (HasT.cons (HasT.cons (HasT.cons HasT.nil))) HasH.nil,?_⟩
      ·
       try dsimp only
       exact ⟨by omega,by rw [bG (by omega),hb];exact ju (AN h5_15)⟩
      ·
       try dsimp only
       first|omega|(simp;omega)
  ·
   iterate 12 refine ab ?_
   obtain rfl:i=z.rs.length:=by omega
   rw [List.take_length] at hb;obtain rfl:b=bI z n:=hb.symm;refine ak (0) [_,_] [_,_] ?_;rfl
def zAt (t:Tr) (i:Int):Zo:=t.zs.getD i.toNat default
def mU (t:Tr) (b:Int):Int:=if b<0 then -1 else dt (zAt t b).o
def eZ (t:Tr) (p:Zo→Bool) (b i:Int):Int:=if p (zAt t i)&&decide (mU t b<dt (zAt t i).o) then i else b
def rT (t:Tr) (p:Zo→Bool) (w:List Int):Int:=w.foldl (eZ t p) (-1)
def fL (t:Tr) (w:List Int) (n:List UInt8):Int:=rT t (fun z=>bQ n z.o) w
def eO (k:Nat):List Int:=(List.range k).map fun (j:Nat)=>((j:Nat):Int)
def oc (t:Tr):List Int:=eO t.zs.length
def zK (z o:Zo):Bool:=bQ z.o o.o&&!bi z.o o.o
def kd (t:Tr) (z:Zo):Int:=rT t (zK z) (oc t)
def ka (t:Tr):List Int:=t.zs.map (kd t)
def rc (r o:Rr):Bool:=bi r.da o.da
def Bv (b:List Rr) (r:Rr):Bool:=!(b.any (rc r))
def jK (a b:List Rr):Bool:=!(a.any (Bv b))
theorem qr {t:Tr} {p:Zo→Bool} {b i:Int} (h:p (zAt t i)=false):eZ t p b i=b:=by simp [eZ,h]
theorem qt {t:Tr} {p:Zo→Bool} {b i:Int} (h:¬ mU t b<dt (zAt t i).o):eZ t p b i=b:=by simp [eZ,h]
theorem mq {t:Tr} {p:Zo→Bool} {b i:Int} (h:p (zAt t i)=true) (h2:mU t b<dt (zAt t i).o):eZ t p b i=i:=by simp [eZ,h,h2]
theorem qv {t:Tr} {b:Int} (h:0≤b):mU t b=dt (zAt t b).o:=if_neg (by omega)
theorem kU {t:Tr} {i:Int} (h:0≤i∧i<t.zs.length):zAt t i∈t.zs:=aq (by omega)
theorem fU (k:Nat):(eO k).length=k:=by simp [eO]
theorem oR (k:Nat):eO (k+1)=eO k++[(k:Int)]:=by simp [eO,List.range_succ]
theorem sa {k:Nat} {i:Int} (h:i∈eO k):0≤i∧i<k:=by
 simp only [eO,List.mem_map,List.mem_range] at h;obtain ⟨a,h1,rfl⟩:=h;omega
theorem yA (t:Tr):∀ i∈oc t,0≤i∧i<t.zs.length:=fun i h=>sa h
theorem jT {t:Tr} (ht:cx t) {i:Int} (h:0≤i∧i<t.zs.length):eR (zAt t i):=ht.2.1 _ (kU h)
theorem wY {t:Tr} {p:Zo→Bool}:∀ {w:List Int} {b:Int},(∀ i∈w,0≤i∧i<t.zs.length)→-1≤b∧b<t.zs.length→-1≤w.foldl (eZ t p) b∧w.foldl (eZ t p) b<t.zs.length
 | [],b,_,hb=>hb
 | i::w,b,h,hb=>by
  rw [List.foldl_cons];refine wY (fun j hj=>h j (by simp [hj])) ?_;have:=h i (by simp);unfold eZ;split
  · omega
  · exact hb
theorem mT {t:Tr} {p:Zo→Bool} {w:List Int} (h:∀ i∈w,0≤i∧i<t.zs.length):-1≤rT t p w∧rT t p w<t.zs.length:=wY h (by omega)
theorem BB {k i:Nat} (h:i<k):(eO i++List.replicate (k-i) (0:Int)).set i (i:Int)=eO (i+1)++List.replicate (k-(i+1)) 0:=by
 rw [List.set_append_right _ _ (by rw [fU];exact Nat.le_refl _),fU,Nat.sub_self,oR,List.append_assoc];congr 1;rw [show k-i=(k-(i+1))+1 by omega,List.replicate_succ];rfl
theorem m8 (z:Zo) (n:List UInt8) (hz:eR z) (hn:n.length≤140737488351232):AC Tryz.prog 153 [.agg (zoC z),str n] emp (Ret (tf (lM z n))):=by
 have hcl:=eC hz n;refine AC.intro te_ok (fn:=Tryz.f153) ⟨Tryz.func153,rfl,rfl⟩ (aE rfl) ?_;iterate 2 refine ab ?_
 refine ai rfl rfl (aS 100) ?_;iterate 6 refine ab ?_
 refine ai rfl rfl (aj (0) (hc:=(jx z n hz hn))) ?_;iterate 2 refine ab ?_
 refine AOps.bool rfl rfl (bM) (fun h1_5=>?_) (fun h1_5=>?_)
 ·
  iterate 9 refine ab ?_
  refine cw rfl rfl rfl rfl rfl (aj (0) (hc:=(bT (bI z n) n (by omega) (by omega)))) ?_;iterate 5 refine ab ?_
  refine ak (0) [_] [_] ?_;exact congrArg tf (by simp_all [lM])
 ·
  iterate 15 refine ab ?_
  refine ak (0) [_] [_] ?_;exact congrArg tf (by simp_all [lM])
theorem qO (r:Rr) (z:Zo) (n:List UInt8) (lv:Nat) (hz:eR z) (hr:r.nm.length≤140737488351232) (hn:n.length≤140737488351232):AC Tryz.prog 154 [.agg (rrc r),.fp lv [str n],.fp lv (zoC z)] emp (Ret (tf (thP z n r))):=by
 refine AC.intro te_ok (fn:=Tryz.f154) ⟨Tryz.func154,rfl,rfl⟩ (aE rfl) ?_;iterate 2 refine ab ?_
 refine ai rfl rfl (aS 100) ?_;iterate 7 refine ab ?_
 refine AOps.bool rfl rfl (aj (lv) (hc:=(df r.nm n (by omega) (by omega)))) (fun h1_3=>?_) (fun h1_3=>?_)
 ·
  iterate 4 refine ab ?_
  refine cw rfl rfl rfl rfl rfl (aj (lv) (hc:=(m8 z r.nm hz hr))) ?_;iterate 5 refine ab ?_
  refine ak (0) [_] [_] ?_;exact congrArg tf (by simp_all [thP])
 ·
  iterate 10 refine ab ?_
  refine ak (0) [_] [_] ?_;exact congrArg tf (by simp_all [thP])
theorem nq (z:Zo) (n:List UInt8) (hz:eR z) (hn:n.length≤140737488351232):AC Tryz.prog 138 [.agg (zoC z),str n] emp (Ret (tf (nE z n))):=by
 have hrl:z.rs.length*64≤140737488351232:=hz.2.1.1;refine AC.intro te_ok (fn:=Tryz.f138) ⟨Tryz.func138,rfl,rfl⟩ (aE rfl) ?_;iterate 2 refine ab ?_
 refine ai rfl rfl (aS 100) ?_;refine ai rfl rfl (aS 101) ?_;iterate 6 refine ab ?_
 refine AOps.bool rfl rfl (aj (0) (hc:=(m8 z n hz hn))) (fun h1_2=>?_) (fun h1_2=>?_)
 ·
  iterate 10 refine ab ?_
  refine ak (0) [_] [_] ?_;exact congrArg tf (by simp_all [nE])
 ·
  iterate 4 refine ab ?_
  refine cw rfl rfl rfl rfl rfl (ca [] [_,_]) ?_;refine cw rfl rfl rfl rfl rfl (aj (0) (hc:=(cA z.rs (0) 0 (0+1) [.fp 1 [str n],.fp 1 (zoC z)] (thP z n) (by omega) (by simp [AV.oks,AV.ok,Nat.ble_eq]) (fun r hr=>qO r z n 1 hz (hz.2.2 r hr) hn)))) ?_;iterate 4 refine ab ?_
  refine ak (0) [_] [_] ?_;exact congrArg tf (by simp_all [nE])
theorem rq (z:Zo) (n:List UInt8) (lv:Nat) (hz:eR z) (hn:n.length≤140737488351232):AC Tryz.prog 135 [.agg (zoC z),.fp lv [str n]] emp (Ret (tf (bQ n z.o))):=by
 have hol:=hz.1;refine AC.intro te_ok (fn:=Tryz.f135) ⟨Tryz.func135,rfl,rfl⟩ (aE rfl) ?_;iterate 2 refine ab ?_
 refine ai rfl rfl (aS 100) ?_;iterate 7 refine ab ?_
 refine ai rfl rfl (aj (lv) (hc:=(df n z.o (by omega) (by omega)))) ?_;iterate 3 refine ab ?_
 refine ak (0) [_] [_] ?_;rfl
theorem kH (t:Tr) (w:List Int) (lw lp:Nat) (caps:List AV) (p:Zo→Bool) {fid:Nat} (ht:cx t) (hw:w.length≤140737488351232) (hin:∀ i∈w,0≤i∧i<t.zs.length) (hcaps:AV.oks lp caps=true) (hg:∀ z∈t.zs,AC Tryz.prog fid (.agg (zoC z)::caps) emp (Ret (tf (p z)))):AC Tryz.prog 68 [.agg (trC t),.fz lw w.length (cl ic w),.fn (.func fid) [] caps] emp (Ret (i64 (rT t p w))):=by
 refine AC.intro te_ok (fn:=Tryz.f68) ⟨Tryz.func68,rfl,rfl⟩ (aE rfl) ?_;iterate 2 refine ab ?_
 refine ai rfl rfl (aS 100) ?_;iterate 15 refine ab ?_
 refine AWp.loopR (α:=Nat×Int) [7,8,10,11,14,15,16,17,18,19,20,21,22,23,24,25,26,27,28,29,30,31,32,33,34,35,36,37] (fun x_=>[(14,i64 (x_.1)),(7,i64 (x_.2)),(8,i64 (mU t (x_.2)))]) (fun x_=>[]) (fun x_=>(x_.1)≤w.length∧(w.take (x_.1)).foldl (eZ t p) (-1)=(x_.2)∧-1≤(x_.2)∧(x_.2)<t.zs.length) (fun x_=>w.length-(x_.1)) (0,-1) ?_ (Back.mk' (HasT.cons (HasT.cons (HasT.cons HasT.nil))) HasH.nil) ?_
 ·
  exact ⟨Nat.zero_le _,rfl,by omega,by omega⟩
 ·
  rintro ⟨i,b⟩ hI3;change i≤w.length∧(w.take i).foldl (eZ t p) (-1)=b∧-1≤b∧b<t.zs.length at hI3;obtain ⟨hi,hb,hb1,hb2⟩:=hI3;refine AWp.as (s':=AS.over _ [7,8,10,11,14,15,16,17,18,19,20,21,22,23,24,25,26,27,28,29,30,31,32,33,34,35,36,37] [(14,i64 i),(7,i64 b),(8,i64 (mU t b))] []) rfl ?_;iterate 2 refine ab ?_
  refine am (fun h3_0=>?_) (fun h3_0=>?_)
  ·
   iterate 14 refine ab ?_
   have hj:=hin _ (aq (l:=w) (i:=i) (by omega));have hj2:0≤w[i]?.getD 0∧w[i]?.getD 0<t.zs.length:=by have h:=hj;rw [List.getD_eq_getElem?_getD] at h;exact h
   have hzo:=jT ht hj;have hol:=hzo.1;iterate 5 refine ab ?_
   refine ai rfl rfl (ap 605) ?_;iterate 6 refine ab ?_
   refine AOps.bool rfl rfl (aj (lw+lp) (hA:=by exact kl (l:=lp) (dG rfl (by first|rfl|exact fG (by omega)|(simp [AV.ok,AV.oks];done))) (by omega) hcaps) (hc:=(hg (zAt t (w.getD i default)) (kU hj)))) (fun h6_2=>?_) (fun h6_2=>?_)
   ·
    iterate 3 refine ab ?_
    refine cw rfl rfl rfl rfl rfl (aj (lw+lp) (hc:=(cL (zAt t (w.getD i default)).o (by omega)))) ?_;refine ab ?_;refine am (fun h6_8=>?_) (fun h6_8=>?_)
    ·
     iterate 7 refine ab ?_
     refine ai rfl rfl (aj (lw+lp) (hc:=(cL (zAt t (w.getD i default)).o (by omega)))) ?_;iterate 7 refine ab ?_
     refine ⟨(i+1,w.getD i default),?_,Back.mk' (HasT.cons (HasT.cons (HasT.cons HasT.nil (h1:=by exact congrArg i64 (qv hj.1).symm) ))) HasH.nil,?_⟩
     ·
      try dsimp only
      exact ⟨by omega,by rw [bG (by omega),hb];exact mq h6_2 h6_8,by omega,by omega⟩
     ·
      try dsimp only
      first|omega|(simp;omega)
    ·
     iterate 8 refine ab ?_
     refine ⟨(i+1,b),?_,Back.mk' (HasT.cons (HasT.cons (HasT.cons HasT.nil))) HasH.nil,?_⟩
     ·
      try dsimp only
      exact ⟨by omega,by rw [bG (by omega),hb];exact qt h6_8,hb1,hb2⟩
     ·
      try dsimp only
      first|omega|(simp;omega)
   ·
    iterate 14 refine ab ?_
    refine ⟨(i+1,b),?_,Back.mk' (HasT.cons (HasT.cons (HasT.cons HasT.nil))) HasH.nil,?_⟩
    ·
     try dsimp only
     exact ⟨by omega,by rw [bG (by omega),hb];exact qr h6_2,hb1,hb2⟩
    ·
     try dsimp only
     first|omega|(simp;omega)
  ·
   iterate 10 refine ab ?_
   obtain rfl:i=w.length:=by omega
   rw [List.take_length] at hb;obtain rfl:b=rT t p w:=hb.symm;refine ak (0) [_] [_] ?_;rfl
theorem v5 (t:Tr) (w:List Int) (lw:Nat) (n:List UInt8) (ht:cx t) (hw:w.length≤140737488351232) (hin:∀ i∈w,0≤i∧i<t.zs.length) (hn:n.length≤140737488351232):AC Tryz.prog 95 [.agg (trC t),.fz lw w.length (cl ic w),str n] emp (Ret (i64 (fL t w n))):=by
 refine AC.intro te_ok (fn:=Tryz.f95) ⟨Tryz.func95,rfl,rfl⟩ (aE rfl) ?_;iterate 2 refine ab ?_
 refine ai rfl rfl (aS 100) ?_;refine ai rfl rfl (aS 101) ?_;iterate 6 refine ab ?_
 refine ai rfl rfl (ca [] [_]) ?_;refine ai rfl rfl (aj (lw) (hc:=(kH t w lw (lw+1) [.fp (lw+1) [str n]] (fun z=>bQ n z.o) ht hw hin (by simp [AV.oks,AV.ok]) (fun z hz=>rq z n (lw+1) (ht.2.1 z hz) hn)))) ?_;iterate 3 refine ab ?_
 refine ak (0) [_] [_] ?_;rfl
theorem tv (t:Tr) (ht:cx t):AC Tryz.prog 69 [.agg (trC t)] emp (Ret (.fz 0 (oc t).length (cl ic (oc t)))):=by
 have hb1:=ht.1;have hel:=fU t.zs.length;have hrl:(List.replicate t.zs.length (0:Int)).length=t.zs.length:=List.length_replicate;refine AC.intro te_ok (fn:=Tryz.f69) ⟨Tryz.func69,rfl,rfl⟩ (aE rfl) ?_;iterate 2 refine ab ?_
 refine ai rfl rfl (aS 100) ?_;iterate 7 refine ab ?_
 refine ai rfl rfl (Ek 203 ic 0 t.zs.length) ?_;iterate 10 refine ab ?_
 refine AWp.loopR (α:=Nat×List Int) [3,4,11,12,13,14,15,16,17,18] (fun x_=>[(11,i64 (x_.1)),(3,.sl 203 0 0 (x_.2).length 1)]) (fun x_=>[(203,.row (cl ic (x_.2)) 1 0)]) (fun x_=>(x_.1)≤t.zs.length∧(x_.2)=eO (x_.1)++List.replicate (t.zs.length-(x_.1)) 0) (fun x_=>t.zs.length-(x_.1)) (0,List.replicate t.zs.length 0) ?_ (Back.mk' (HasT.cons (HasT.cons HasT.nil)) (HasH.cons HasH.nil)) ?_
 ·
  exact ⟨Nat.zero_le _,rfl⟩
 ·
  rintro ⟨i,acc⟩ hI3;change i≤t.zs.length∧acc=eO i++List.replicate (t.zs.length-i) 0 at hI3;obtain ⟨hi,ha⟩:=hI3;refine AWp.as (s':=AS.over _ [3,4,11,12,13,14,15,16,17,18] [(11,i64 i),(3,.sl 203 0 0 acc.length 1)] [(203,.row (cl ic acc) 1 0)]) rfl ?_;have hal:=congrArg List.length ha;rw [List.length_append,List.length_replicate,fU] at hal;iterate 2 refine ab ?_
  refine am (fun h3_0=>?_) (fun h3_0=>?_)
  ·
   iterate 22 refine ab ?_
   refine ⟨(i+1,acc.set i (i:Int)),?_,Back.mk' (HasT.cons (HasT.cons HasT.nil (h1:=by exact Gd (by simp)) )) (HasH.cons HasH.nil),?_⟩
   ·
    try dsimp only
    exact ⟨by omega,by rw [ha];exact BB (by omega)⟩
   ·
    try dsimp only
    first|omega|(simp;omega)
  ·
   iterate 10 refine ab ?_
   obtain rfl:i=t.zs.length:=by omega
   rw [Nat.sub_self,List.replicate_zero,List.append_nil] at ha;obtain rfl:acc=oc t:=ha;refine ak (0) [_] [_] ?_;rfl
theorem ol (o z:Zo) (lv:Nat) (ho:eR o) (hz:eR z):AC Tryz.prog 70 [.agg (zoC o),.fp lv (zoC z)] emp (Ret (tf (zK z o))):=by
 have h1:=ho.1;have h2:=hz.1;refine AC.intro te_ok (fn:=Tryz.f70) ⟨Tryz.func70,rfl,rfl⟩ (aE rfl) ?_;iterate 2 refine ab ?_
 refine ai rfl rfl (aS 100) ?_;iterate 8 refine ab ?_
 refine AOps.bool rfl rfl (aj (lv) (hc:=(df z.o o.o (by omega) (by omega)))) (fun h1_4=>?_) (fun h1_4=>?_)
 ·
  iterate 5 refine ab ?_
  refine cw rfl rfl rfl rfl rfl (aj (lv) (hc:=(bT z.o o.o (by omega) (by omega)))) ?_;iterate 5 refine ab ?_
  refine ak (0) [_] [_] ?_;exact congrArg tf (by simp_all [zK])
 ·
  iterate 11 refine ab ?_
  refine ak (0) [_] [_] ?_;exact congrArg tf (by simp_all [zK])
def cO (z:Zo) (r:Rr):Bool:=bQ r.nm z.o&&decide (r.cs=1)&&decide (0≤r.ttl)&&decide (r.ttl≤2147483647)&&decide (1≤r.ty)&&decide (r.ty≤65535)&&fA r.ty r.da
def cq (z:Zo) (r:Rr):Bool:=if r.ty=6 then bi r.nm z.o&&decide (bI z r.nm=[]) else if r.ty=2 then decide (bI z r.nm=[]) || bi (bI z r.nm) r.nm else if r.ty=1 then true else decide (bI z r.nm=[])
def i7 (z:Zo) (r:Rr):Bool:=cO z r&&cq z r
def gt (z:Zo) (n:List UInt8):Nat:=(z.rs.filter fun o=>bi o.nm n).length
def inZ (z:Zo) (r:Rr):Bool:=i7 z r&&(!decide (r.ty=5) || decide (gt z r.nm=1))
def dJ (t:Tr) (up:List Int) (k:Int) (n:List UInt8) (i:Nat):Bool:=decide (0<i)&&decide (up.getD i default=k)&&bi (t.zs.getD i default).o n
def fK (t:Tr) (up:List Int) (k:Int) (z:Zo) (r:Rr):Bool:=decide (r.ty=2)&&!bi r.nm z.o&&!((List.range t.zs.length).any (dJ t up k r.nm))
def nZ (t:Tr) (up:List Int) (k:Int) (i:Nat):Bool:=decide (i=0) || decide (up.getD i default≠k) || (bi (bI (zAt t k) (t.zs.getD i default).o) (t.zs.getD i default).o&&jK (atZ (zAt t k) (t.zs.getD i default).o 2) (atZ (t.zs.getD i default) (t.zs.getD i default).o 2)&&jK (atZ (t.zs.getD i default) (t.zs.getD i default).o 2) (atZ (zAt t k) (t.zs.getD i default).o 2))
def ki (t:Tr) (up:List Int) (k:Int):Bool:=(List.range t.zs.length).all (nZ t up k)&&!((zAt t k).rs.any (fK t up k (zAt t k)))
def lO (t:Tr) (i:Int):Bool:=decide (i<0) || decide ((t.zs.length:Int)≤i)
def svO (t:Tr) (i:Nat):Bool:=decide (0≤(t.ss.getD i default).ad)&&decide ((t.ss.getD i default).ad≤4294967295)&&!decide ((t.ss.getD i default).ad∈(t.ss.take i).map Sv.ad)&&!((t.ss.getD i default).zs.any (lO t))
def nH (t:Tr):Bool:=decide (t.ss.length≤40)&&(List.range t.ss.length).all (svO t)
def nS (t:Tr) (i:Nat):Bool:=bm (t.zs.getD i default).o&&!((t.zs.take i).any fun o=>bi o.o (t.zs.getD i default).o)
def mC (t:Tr) (k:Nat):Bool:=(t.zs.getD k default).rs.all (inZ (t.zs.getD k default))&&decide ((atZ (t.zs.getD k default) (t.zs.getD k default).o 6).length=1)&&decide (1≤(atZ (t.zs.getD k default) (t.zs.getD k default).o 2).length)&&ki t (ka t) k
def i6 (l:List Zo):Nat:=(l.map fun z=>z.rs.length).sum
def dZ (t:Tr):Bool:=decide (1≤t.zs.length)&&decide (t.zs.length≤20)&&decide ((t.zs.getD 0 default).o=[0])&&nH t&&(List.range t.zs.length).all (nS t)&&decide (i6 t.zs≤400)&&(List.range t.zs.length).all (mC t)
theorem cd {k:Nat} {p:Nat→Bool}:(List.range k).all p=true↔∀ j,j<k→p j=true:=by simp [List.all_eq_true]
theorem fm {k j:Nat} {p:Nat→Bool} (h:j<k) (hp:p j=false):(List.range k).all p=false:=by
 cases hx:(List.range k).all p with
 | false=>rfl
 | true=>rw [cd.1 hx j h] at hp;cases hp
theorem sG {k:Nat} {p:Nat→Bool} (h:∀ j,j<k→p j=false):(List.range k).any p=false:=by
 rw [List.any_eq_false];intro j hj;rw [h j (List.mem_range.1 hj)];exact Bool.false_ne_true
theorem lU {k j:Nat} {p:Nat→Bool} (h:j<k) (hp:p j=true):(List.range k).any p=true:=List.any_eq_true.2 ⟨j,List.mem_range.2 h,hp⟩
theorem dh {p:Nat→Bool} {i:Nat} {b:Bool} (h:∀ j,j<i→p j=b) (hp:p i=b):∀ j,j<i+1→p j=b:=fun j hj=>by
 by_cases e:j=i
 · rw [e];exact hp
 · exact h j (by omega)
theorem nk {z:Zo} {n:List UInt8} {i:Nat} (h:i<z.rs.length):((z.rs.take (i+1)).filter fun o=>bi o.nm n).length=((z.rs.take i).filter fun o=>bi o.nm n).length+(if bi (z.rs.getD i default).nm n then 1 else 0):=by
 rw [kD h,List.length_append];split<;>rfl
theorem k8 {t:Tr} {i:Nat} (h:i<t.zs.length):(ka t).getD i default=kd t (t.zs.getD i default):=by
 rw [ka,List.getD_eq_getElem?_getD,List.getElem?_map,List.getD_eq_getElem?_getD,List.getElem?_eq_getElem h];rfl
theorem zJ (t:Tr):(ka t).length=t.zs.length:=by simp [ka]
theorem iS {α β:Type} [Inhabited α] {f:α→β} {l:List α} {i:Nat} (h:i<l.length):(l.take (i+1)).map f=(l.take i).map f++[f (l.getD i default)]:=by
 rw [bK h,List.map_append];rfl
theorem tX {l:List Zo} {i:Nat} (h:i<l.length):i6 (l.take (i+1))=i6 (l.take i)+(l.getD i default).rs.length:=by
 rw [bK h,i6,List.map_append,List.sum_append];rfl
theorem qP (t:Tr) (ht:cx t):AC Tryz.prog 35 [.agg (trC t)] emp (Ret (.fz 0 (ka t).length (cl ic (ka t)))):=by
 have hb1:=ht.1;have hel:=fU t.zs.length;refine AC.intro te_ok (fn:=Tryz.f35) ⟨Tryz.func35,rfl,rfl⟩ (aE rfl) ?_;iterate 2 refine ab ?_
 refine ai rfl rfl (aS 100) ?_;iterate 4 refine ab ?_
 refine ai rfl rfl (bD 200 1 ic) ?_;iterate 10 refine ab ?_
 refine AWp.loopR (α:=Nat×List Int×Nat) [3,5,9,10,11,12,13,14,15,16,17,18,19,20,21] (fun x_=>[(9,i64 (x_.1)),(3,.sl 200 (x_.2.2) 0 (x_.2.1).length 1)]) (fun x_=>[(200,.row (cl ic (x_.2.1)) 1 (x_.2.2))]) (fun x_=>(x_.1)≤t.zs.length∧(x_.2.1)=(t.zs.take (x_.1)).map (kd t)) (fun x_=>t.zs.length-(x_.1)) (0,[],0) ?_ (Back.mk' (HasT.cons (HasT.cons HasT.nil)) (HasH.cons HasH.nil)) ?_
 ·
  exact ⟨Nat.zero_le _,rfl⟩
 ·
  rintro ⟨i,acc,v⟩ hI3;change i≤t.zs.length∧acc=(t.zs.take i).map (kd t) at hI3;obtain ⟨hi,ha⟩:=hI3;refine AWp.as (s':=AS.over _ [3,5,9,10,11,12,13,14,15,16,17,18,19,20,21] [(9,i64 i),(3,.sl 200 v 0 acc.length 1)] [(200,.row (cl ic acc) 1 v)]) rfl ?_;have hal:=congrArg List.length ha;rw [List.length_map,List.length_take] at hal;iterate 2 refine ab ?_
  refine am (fun h3_0=>?_) (fun h3_0=>?_)
  ·
   iterate 10 refine ab ?_
   refine ai rfl rfl (ap 502) ?_;iterate 2 refine ab ?_
   have hzi:=ht.2.1 _ (aq (l:=t.zs) (i:=i) (by omega));refine bj [ag,ag,ag,ag,ag,ag,bv [(606,_)],bv [(200,_)],ag] [af [3] [] 14,af [1] [100] 15,af [1] [100] 16,af [15] [] 17,af [5] [502] 18,af [14,16,17] [502] 19,af [18] [606] 20 [606],af [13,19] [200,606] 21 [200],af [20] [] 4] rfl ⟨ah,ah,ah,aC fun _=>aN rfl rfl (aj (0) (hc:=(tv t ht))),aC fun _=>aN rfl rfl (ca [] [_]),aC fun _=>aN rfl rfl (aj (0) (hc:=(kH t (oc t) 0 1 [.fp 1 (zoC (t.zs.getD i default))] (zK (t.zs.getD i default)) ht (by show (eO t.zs.length).length≤_;omega) (yA t) rfl (fun z hz=>ol z (t.zs.getD i default) 1 (ht.2.1 z hz) hzi)))),aC fun _=>aN rfl rfl (bO 606 ic [_] [(_,_)]),ah,ah,trivial⟩ ?_;iterate 4 refine ab ?_
   refine ⟨(i+1,acc++[kd t (t.zs.getD i default)],v+1),?_,Back.mk' (HasT.cons (HasT.cons HasT.nil)) (HasH.cons HasH.nil),?_⟩
   ·
    try dsimp only
    exact ⟨by omega,by rw [iS (by omega),← ha]⟩
   ·
    try dsimp only
    first|omega|(simp;omega)
  ·
   iterate 10 refine ab ?_
   obtain rfl:i=t.zs.length:=by omega
   rw [List.take_length] at ha;obtain rfl:acc=ka t:=ha;refine ak (0) [_] [_] ?_;rfl
theorem nr (r o:Rr) (lv:Nat) (hr:r.da.length≤140737488351232) (ho:o.da.length≤140737488351232):AC Tryz.prog 120 [.agg (rrc o),.fp lv (rrc r)] emp (Ret (tf (rc r o))):=by
 refine AC.intro te_ok (fn:=Tryz.f120) ⟨Tryz.func120,rfl,rfl⟩ (aE rfl) ?_;iterate 2 refine ab ?_
 refine ai rfl rfl (aS 100) ?_;iterate 6 refine ab ?_
 refine AOps.cons rfl rfl (by first|exact b9|exact aU) ?_;iterate 2 refine ab ?_
 refine AOps.cons rfl rfl (by first|exact b9|exact aU) ?_;refine ai rfl rfl (aj (lv) (hc:=(bT r.da o.da (by omega) (by omega)))) ?_;iterate 3 refine ab ?_
 refine ak (0) [_] [_] ?_;rfl
theorem pb (b:List Rr) (r:Rr) (lv lb:Nat) (hb:RrsOk b) (hr:r.da.length≤140737488351232) (hl:lb≤lv):AC Tryz.prog 119 [.agg (rrc r),.fp lv [.fz lb b.length (cl rrc b)]] emp (Ret (tf (Bv b r))):=by
 have hbl:=hb.1;refine AC.intro te_ok (fn:=Tryz.f119) ⟨Tryz.func119,rfl,rfl⟩ (aE rfl) ?_;iterate 2 refine ab ?_
 refine ai rfl rfl (aS 100) ?_;iterate 5 refine ab ?_
 refine ai rfl rfl (ca [] [_]) ?_;refine ai rfl rfl (aj (lv) (hc:=(cA b lb 0 (lv+1) [.fp (lv+1) (rrc r)] (rc r) (by omega) (by simp [AV.oks,AV.ok,Nat.ble_eq]<;>omega) (fun o ho=>nr r o (lv+1) hr (hb.2 o ho))))) ?_;iterate 4 refine ab ?_
 refine ak (0) [_] [_] ?_;rfl
theorem m7 (a b:List Rr) (la lb:Nat) (ha:RrsOk a) (hb:RrsOk b):AC Tryz.prog 78 [.fz la a.length (cl rrc a),.fz lb b.length (cl rrc b)] emp (Ret (tf (jK a b))):=by
 have hal:=ha.1;refine AC.intro te_ok (fn:=Tryz.f78) ⟨Tryz.func78,rfl,rfl⟩ (aE rfl) ?_;iterate 2 refine ab ?_
 refine ai rfl rfl (aS 100) ?_;iterate 5 refine ab ?_
 refine ai rfl rfl (ca [] [_]) ?_;refine ai rfl rfl (aj (la+lb) (hA:=by exact ⟨dG rfl (fG (by omega)),xm trivial ⟨jp rfl .box (by simp [AV.oks,AV.ok,Nat.ble_eq]) rfl rfl,trivial⟩,trivial⟩) (hc:=(cA a la 0 (la+lb+1) [.fp (la+lb+1) [.fz lb b.length (cl rrc b)]] (Bv b) (by omega) (by simp [AV.oks,AV.ok,Nat.ble_eq]<;>omega) (fun r hr=>pb b r (la+lb+1) lb hb (ha.2 r hr) (by omega))))) ?_;iterate 4 refine ab ?_
 refine ak (0) [_] [_] ?_;rfl
theorem pc (i:Int) (t:Tr) (lv:Nat) (ht:cx t):AC Tryz.prog 65 [i64 i,.fp lv (trC t)] emp (Ret (tf (lO t i))):=by
 have hb1:=ht.1;refine AC.intro te_ok (fn:=Tryz.f65) ⟨Tryz.func65,rfl,rfl⟩ (aE rfl) ?_;iterate 7 refine ab ?_
 refine am (fun h1_1=>?_) (fun h1_1=>?_)
 ·
  iterate 10 refine ab ?_
  refine ak (0) [_] [_] ?_;exact congrArg tf (by simp [lO, *];try omega)
 ·
  iterate 5 refine ab ?_
  refine cw rfl rfl rfl rfl rfl (gX) ?_;iterate 4 refine ab ?_
  refine ak (0) [_] [_] ?_;exact congrArg tf (by simp [lO, *];try omega)
theorem kid4 (a b:Prop) [Decidable a] [Decidable b] (c:Bool):(a∧b∧c=true)∨(a∧b∧c=false)∨(a∧¬ b)∨¬ a:=by
 by_cases h1:a
 · by_cases h2:b
   · cases c
     · exact .inr (.inl ⟨h1,h2,rfl⟩)
     · exact .inl ⟨h1,h2,rfl⟩
   · exact .inr (.inr (.inl ⟨h1,h2⟩))
 · exact .inr (.inr (.inr h1))
theorem pd (t:Tr) (up:List Int) (k:Int) (z:Zo) (r:Rr) (lv lu:Nat) (ht:cx t) (hz:eR z) (hr:r.nm.length≤140737488351232) (hu:up.length=t.zs.length) (hl:lu≤lv):AC Tryz.prog 79 [.agg (rrc r),.fp lv (zoC z),.fp lv (trC t),.fp lv [.fz lu up.length (cl ic up)],.fp lv [i64 k]] emp (Ret (tf (fK t up k z r))):=by
 have hb1:=ht.1;have hol:=hz.1;refine AC.intro te_ok (fn:=Tryz.f79) ⟨Tryz.func79,rfl,rfl⟩ (aE rfl) ?_;iterate 2 refine ab ?_
 refine ai rfl rfl (aS 100) ?_;iterate 7 refine ab ?_
 refine am (fun h1_2=>?_) (fun h1_2=>?_)
 ·
  iterate 14 refine ab ?_
  refine ak (0) [_] [_] ?_;exact congrArg tf (by simp [fK, *])
 ·
  iterate 5 refine ab ?_
  refine AOps.gbool rfl rfl rfl rfl rfl (aj (lv) (hc:=(bT r.nm z.o (by omega) (by omega)))) (fun h1_8=>?_) (fun h1_8=>?_)
  ·
   iterate 8 refine ab ?_
   refine ak (0) [_] [_] ?_;exact congrArg tf (by simp [fK, *])
  ·
   iterate 13 refine ab ?_
   refine AWp.loopR (α:=Nat) [6,7,8,22,23,24,25,26,27,28,29,30,31,32,33,34,35,36,37,38,39,40,41,42,43,44] (fun i=>[(22,i64 i)]) (fun i=>[]) (fun i=>i≤t.zs.length∧∀ j,j<i→dJ t up k r.nm j=false) (fun i=>t.zs.length-i) 0 ?_ (Back.mk' (HasT.cons HasT.nil) HasH.nil) ?_
   ·
    exact ⟨Nat.zero_le _,fun j hj=>absurd hj (Nat.not_lt_zero j)⟩
   ·
    rintro i ⟨hi,hc⟩;iterate 2 refine ab ?_
    refine am (fun h4_0=>?_) (fun h4_0=>?_)
    ·
     iterate 11 refine ab ?_
     refine ai rfl rfl (ap 603) ?_;iterate 4 refine ab ?_
     have hzi:=ht.2.1 _ (aq (l:=t.zs) (i:=i) (by omega));have hzl:=hzi.1;rcases kid4 (0<(i:Int)) (up.getD i default=k) (bi (t.zs.getD i default).o r.nm) with ⟨h1,h2,h3⟩|⟨h1,h2,h3⟩|⟨h1,h2⟩|h1
     ·
      refine bj [ag,ag,ag,ag,ag,ag,ag,ag,ag,ag,ag,ag,ag,ag,ag,ag,ag] [af [7] [] 28,af [27] [] 29,af [28] [] 30,af [3,29] [] 31,af [7,29] [] 32,af [29,30,31] [] 33,af [29,32] [] 34,af [4,29] [] 35,af [29,33,34] [] 36,af [29,35] [] 37,af [36] [] 38,af [8,37] [603] 39,af [37,38] [603] 40,af [5,37] [100] 41,af [37,40] [100] 42,af [37,39,41] [] 43,af [37,42] [] 44] rfl ⟨ah,aC fun _=>aN rfl rfl ((OpOk.dec_t (gW) (h1))),ah,ah,ah,ah,ah,ah,aC fun _=>dV rfl rfl rfl rfl rfl ((OpOk.dec_t (dm) (h2))),ah,ah,ah,ah,ah,ah,aC fun _=>dV rfl rfl rfl rfl rfl ((OpOk.bool_is (c:=true) (aj (lv) (hc:=(bT (t.zs.getD i default).o r.nm (by omega) (by omega)))) (h3))),ah,trivial⟩ ?_;iterate 6 refine ab ?_
      refine ak (0) [_] [_] ?_;exact congrArg tf (by rw [fK,lU (j:=i) (by omega) (show dJ t up k r.nm i=true by rw [dJ,decide_eq_true (by omega),decide_eq_true h2,h3];rfl),Bool.not_true,Bool.and_false])
     ·
      refine bj [ag,ag,ag,ag,ag,ag,ag,ag,ag,ag,ag,ag,ag,ag,ag,ag,ag] [af [7] [] 28,af [27] [] 29,af [28] [] 30,af [3,29] [] 31,af [7,29] [] 32,af [29,30,31] [] 33,af [29,32] [] 34,af [4,29] [] 35,af [29,33,34] [] 36,af [29,35] [] 37,af [36] [] 38,af [8,37] [603] 39,af [37,38] [603] 40,af [5,37] [100] 41,af [37,40] [100] 42,af [37,39,41] [] 43,af [37,42] [] 44] rfl ⟨ah,aC fun _=>aN rfl rfl ((OpOk.dec_t (gW) (h1))),ah,ah,ah,ah,ah,ah,aC fun _=>dV rfl rfl rfl rfl rfl ((OpOk.dec_t (dm) (h2))),ah,ah,ah,ah,ah,ah,aC fun _=>dV rfl rfl rfl rfl rfl ((OpOk.bool_is (c:=false) (aj (lv) (hc:=(bT (t.zs.getD i default).o r.nm (by omega) (by omega)))) (h3))),ah,trivial⟩ ?_;iterate 6 refine ab ?_
      refine ⟨i+1,?_,Back.mk' (HasT.cons HasT.nil) HasH.nil,?_⟩
      ·
       exact ⟨by omega,dh hc (by rw [dJ,h3,Bool.and_false])⟩
      ·
       first|omega|(simp;omega)
     ·
      refine bj [ag,ag,ag,ag,ag,ag,ag,ag,ag,ag,ag,ag,ag,ag,ag,ag,ag] [af [7] [] 28,af [27] [] 29,af [28] [] 30,af [3,29] [] 31,af [7,29] [] 32,af [29,30,31] [] 33,af [29,32] [] 34,af [4,29] [] 35,af [29,33,34] [] 36,af [29,35] [] 37,af [36] [] 38,af [37] [] 39,af [37] [] 40,af [37] [] 41,af [37] [] 42,af [37] [] 43,af [37,42] [] 44] rfl ⟨ah,aC fun _=>aN rfl rfl ((OpOk.dec_t (gW) (h1))),ah,ah,ah,ah,ah,ah,aC fun _=>dV rfl rfl rfl rfl rfl ((OpOk.dec_f (dm) (h2))),ah,ah,ah,ah,ah,ah,ah,ah,trivial⟩ ?_;iterate 6 refine ab ?_
      refine ⟨i+1,?_,Back.mk' (HasT.cons HasT.nil) HasH.nil,?_⟩
      ·
       exact ⟨by omega,dh hc (by rw [dJ,decide_eq_false h2,Bool.and_false,Bool.false_and])⟩
      ·
       first|omega|(simp;omega)
     ·
      refine bj [ag,ag,ag,ag,ag,ag,ag,ag,ag,ag,ag,ag,ag,ag,ag,ag,ag] [af [7] [] 28,af [27] [] 29,af [28] [] 30,af [29] [] 31,af [29] [] 32,af [29] [] 33,af [29] [] 34,af [29] [] 35,af [29] [] 36,af [29,35] [] 37,af [36] [] 38,af [37] [] 39,af [37] [] 40,af [37] [] 41,af [37] [] 42,af [37] [] 43,af [37,42] [] 44] rfl ⟨ah,aC fun _=>aN rfl rfl ((OpOk.dec_f (gW) (h1))),ah,ah,ah,ah,ah,ah,ah,ah,ah,ah,ah,ah,ah,ah,ah,trivial⟩ ?_;iterate 6 refine ab ?_
      refine ⟨i+1,?_,Back.mk' (HasT.cons HasT.nil) HasH.nil,?_⟩
      ·
       exact ⟨by omega,dh hc (by rw [dJ,decide_eq_false (by omega),Bool.false_and,Bool.false_and])⟩
      ·
       first|omega|(simp;omega)
    ·
     iterate 9 refine ab ?_
     refine ak (0) [_] [_] ?_;obtain rfl:i=t.zs.length:=by omega
     exact congrArg tf (by rw [fK,sG hc];simp_all)
theorem eS (n:List UInt8):bi [] n=false:=by
 unfold bi;have:bm []=false:=by
  cases h:bm [] with
  | false=>rfl
  | true=>exact absurd rfl (tu h)
 rw [this];rfl
theorem iX {t:Tr} {up:List Int} {k:Int} {j:Nat} (hj:j<t.zs.length) (h:nZ t up k j=false):ki t up k=false:=by rw [ki,fm hj h,Bool.false_and]
theorem lq {t:Tr} {up:List Int} {k:Int} {i:Nat} (h0:¬ (i:Int)=0) (h1:up.getD i default=k) (h:(bi (bI (zAt t k) (t.zs.getD i default).o) (t.zs.getD i default).o&&jK (atZ (zAt t k) (t.zs.getD i default).o 2) (atZ (t.zs.getD i default) (t.zs.getD i default).o 2)&&jK (atZ (t.zs.getD i default) (t.zs.getD i default).o 2) (atZ (zAt t k) (t.zs.getD i default).o 2))=false):nZ t up k i=false:=by
 rw [nZ,decide_eq_false (by omega),decide_eq_false (by simpa using h1),h];rfl
theorem uE {t:Tr} {up:List Int} {k:Int} {i:Nat} (h1:bi (bI (zAt t k) (t.zs.getD i default).o) (t.zs.getD i default).o=true) (h2:jK (atZ (zAt t k) (t.zs.getD i default).o 2) (atZ (t.zs.getD i default) (t.zs.getD i default).o 2)=true) (h3:jK (atZ (t.zs.getD i default) (t.zs.getD i default).o 2) (atZ (zAt t k) (t.zs.getD i default).o 2)=true):nZ t up k i=true:=by
 rw [nZ,h1,h2,h3];simp
theorem kid3 (a b:Prop) [Decidable a] [Decidable b]:a∨(¬ a∧¬ b)∨(¬ a∧b):=by
 by_cases h1:a
 · exact .inl h1
 · by_cases h2:b
   · exact .inr (.inr ⟨h1,h2⟩)
   · exact .inr (.inl ⟨h1,h2⟩)
theorem gD {t:Tr} {j:Nat} (hj:j<t.ss.length) (h:svO t j=false):nH t=false:=by rw [nH,fm hj h,Bool.and_false]
theorem u5 {t:Tr} (h:∀ j,j<t.ss.length→svO t j=true):nH t=decide (t.ss.length≤40):=by rw [nH,cd.2 h,Bool.and_true]
def MetA (t:Tr) (i:Nat) (m:List (Int×Bool)):Prop:=∀ a,(bg m a).getD false=decide (a∈(t.ss.take i).map Sv.ad)
theorem MetA.start (t:Tr):MetA t 0 []:=fun a=>by simp [bg]
theorem MetA.step {t:Tr} {i:Nat} {m:List (Int×Bool)} (h:MetA t i m) (hi:i<t.ss.length):MetA t (i+1) (cp m (t.ss.getD i default).ad true):=fun a=>by
 rw [iR,iS hi];obtain ⟨x,hx⟩:∃ x,x=(t.ss.getD i default).ad:=⟨_,rfl⟩;rw [← hx];by_cases e:x=a
 · rw [if_pos e];simp [e]
 · rw [if_neg e,h a]
   have e2:¬ a=x:=fun k=>e k.symm
   simp [e2]
theorem sm {z:Zo} {r:Rr} (a:bQ r.nm z.o=true) (b:¬ ¬ r.cs=1) (c:¬ r.ttl<0) (d:¬ 2147483647<r.ttl) (e:¬ r.ty<1) (f:¬ 65535<r.ty) (g:fA r.ty r.da=true):cO z r=true:=by
 rw [Decidable.not_not] at b;rw [cO,a,g,decide_eq_true b,decide_eq_true (by omega),decide_eq_true (by omega),decide_eq_true (by omega),decide_eq_true (by omega)];rfl
theorem d7 {z:Zo} {r:Rr} (h:cO z r=true):inZ z r=(cq z r&&(!decide (r.ty=5) || decide (gt z r.nm=1))):=by rw [inZ,i7,h,Bool.true_and]
section
variable {t:Tr} {i:Nat} {m:List (Int×Bool)}
theorem Dg (h:(t.ss.getD i default).ad<0):svO t i=false:=by rw [svO,decide_eq_false (by omega)];rfl
theorem Df (h:4294967295<(t.ss.getD i default).ad):svO t i=false:=by rw [svO,decide_eq_false (p:=(t.ss.getD i default).ad≤4294967295) (by omega),Bool.and_false];rfl
theorem G9 (hm:MetA t i m) (h:(bg m (t.ss.getD i default).ad).getD false=true):svO t i=false:=by rw [svO,← hm,h,Bool.not_true,Bool.and_false];rfl
theorem zf (h:(t.ss.getD i default).zs.any (lO t)=true):svO t i=false:=by rw [svO,h,Bool.not_true,Bool.and_false]
theorem Bs (hm:MetA t i m) (h1:¬ (t.ss.getD i default).ad<0) (h2:¬ 4294967295<(t.ss.getD i default).ad) (h3:(bg m (t.ss.getD i default).ad).getD false=false) (h4:(t.ss.getD i default).zs.any (lO t)=false):svO t i=true:=by
 rw [svO,← hm,h3,h4,decide_eq_true (by omega),decide_eq_true (by omega)];rfl
end
theorem ro (t:Tr) (up:List Int) (k:Int) (lu:Nat) (ht:cx t) (hu:up.length=t.zs.length) (hk:0≤k∧k<t.zs.length):AC Tryz.prog 40 [.agg (trC t),.fz lu up.length (cl ic up),i64 k] emp (Ret (tf (ki t up k))):=by
 have hb1:=ht.1;have hzk:=jT ht hk;have hkl:=hzk.1;have hkr:(zAt t k).rs.length*64≤140737488351232:=hzk.2.1.1;refine AC.intro te_ok (fn:=Tryz.f40) ⟨Tryz.func40,rfl,rfl⟩ (aE rfl) ?_;iterate 2 refine ab ?_
 refine ai rfl rfl (aS 100) ?_;refine ai rfl rfl (aS 101) ?_;refine ai rfl rfl (aS 102) ?_;iterate 9 refine ab ?_
 refine ai rfl rfl (ap 205) ?_;iterate 11 refine ab ?_
 refine AWp.loopR (α:=Nat) [6,8,9,10,11,12,13,22,23,24,25,26,27,28,29,30,31,32,33,34,35,36,37,38,39,40,41,42,43,44,45,46,47,48,49,50,51,52,53,54,55,56,57,58,59,60,61,62,63,64,65,66,67,68,69,70,71,72,73] (fun i=>[(22,i64 i)]) (fun i=>[]) (fun i=>i≤t.zs.length∧∀ j,j<i→nZ t up k j=true) (fun i=>t.zs.length-i) 0 ?_ (Back.mk' (HasT.cons HasT.nil) HasH.nil) ?_
 ·
  exact ⟨Nat.zero_le _,fun j hj=>absurd hj (Nat.not_lt_zero j)⟩
 ·
  rintro i ⟨hi,hc⟩;iterate 2 refine ab ?_
  refine am (fun h3_0=>?_) (fun h3_0=>?_)
  ·
   iterate 11 refine ab ?_
   refine ai rfl rfl (ap 503) ?_;iterate 5 refine ab ?_
   have hzi:=ht.2.1 _ (aq (l:=t.zs) (i:=i) (by omega));have hzl:=hzi.1;rcases kid3 ((i:Int)=0) (up.getD i default=k) with h1|⟨h1,h2⟩|⟨h1,h2⟩
   ·
    refine bj [ag,ag,ag,ag,ag,ag,ag,ag,ag,ag] [af [8] [] 28,af [27] [] 29,af [28] [] 30,af [29] [] 31,af [29] [] 32,af [29] [] 33,af [29] [] 34,af [29] [] 35,af [29] [] 36,af [29,35] [] 37] rfl ⟨ah,aC fun _=>aN rfl rfl ((OpOk.dec_t (dm) (h1))),ah,ah,ah,ah,ah,ah,ah,ah,trivial⟩ ?_;iterate 6 refine ab ?_
    refine ⟨i+1,?_,Back.mk' (HasT.cons HasT.nil) HasH.nil,?_⟩
    ·
     exact ⟨by omega,dh hc (by rw [nZ,decide_eq_true (by omega)];rfl)⟩
    ·
     first|omega|(simp;omega)
   ·
    refine bj [ag,ag,ag,ag,ag,ag,ag,ag,ag,ag] [af [8] [] 28,af [27] [] 29,af [28] [] 30,af [4,29] [101] 31,af [8,29] [] 32,af [29,30,31] [] 33,af [29,32] [] 34,af [5,29] [102] 35,af [29,33,34] [] 36,af [29,35] [] 37] rfl ⟨ah,aC fun _=>aN rfl rfl ((OpOk.dec_f (dm) (h1))),ah,ah,ah,ah,ah,ah,aC fun _=>dV rfl rfl rfl rfl rfl ((OpOk.dec_t (gV) (h2))),ah,trivial⟩ ?_;iterate 6 refine ab ?_
    refine ⟨i+1,?_,Back.mk' (HasT.cons HasT.nil) HasH.nil,?_⟩
    ·
     exact ⟨by omega,dh hc (by rw [nZ,decide_eq_true h2,Bool.or_true];rfl)⟩
    ·
     first|omega|(simp;omega)
   ·
    refine bj [ag,ag,ag,ag,ag,ag,ag,ag,ag,ag] [af [8] [] 28,af [27] [] 29,af [28] [] 30,af [4,29] [101] 31,af [8,29] [] 32,af [29,30,31] [] 33,af [29,32] [] 34,af [5,29] [102] 35,af [29,33,34] [] 36,af [29,35] [] 37] rfl ⟨ah,aC fun _=>aN rfl rfl ((OpOk.dec_f (dm) (h1))),ah,ah,ah,ah,ah,ah,aC fun _=>dV rfl rfl rfl rfl rfl ((OpOk.dec_f (gV) (fun h=>h h2))),ah,trivial⟩ ?_;iterate 4 refine ab ?_
    have hcl:=eC hzk (t.zs.getD i default).o;iterate 3 refine ab ?_
    refine ai rfl rfl (aj (lu) (hc:=(jx (zAt t k) (t.zs.getD i default).o hzk hzl))) ?_;iterate 2 refine ab ?_
    refine AOps.bool rfl rfl (bM) (fun h6_6=>?_) (fun h6_6=>?_)
    ·
     iterate 4 refine ab ?_
     refine bj [ag,ag,ag,ag,ag,ag,ag,ag,ag,ag] [af [7] [205] 45,af [9] [503] 46,af [45] [503] 47,af [44,46] [] 48,af [9] [503] 49,af [9] [503] 50,af [49] [503] 51,af [48,50] [] 52,af [47] [] 13,af [51] [] 14] rfl ⟨ah,ah,ah,aC fun _=>aN rfl rfl (aj (lu) (hc:=(cQ (zAt t k) (t.zs.getD i default).o 2 hzk hzl))),ah,ah,ah,aC fun _=>aN rfl rfl (aj (lu) (hc:=(cQ (t.zs.getD i default) (t.zs.getD i default).o 2 hzi hzl))),ah,ah,trivial⟩ ?_;iterate 8 refine ab ?_
     refine AOps.gbool rfl rfl rfl rfl rfl (aj (lu) (hc:=(bT (bI (zAt t k) (t.zs.getD i default).o) (t.zs.getD i default).o (by omega) (by omega)))) (fun h8_6=>?_) (fun h8_6=>?_)
     ·
      iterate 5 refine ab ?_
      refine AOps.gbool rfl rfl rfl rfl rfl (aj (lu) (hc:=(m7 (atZ (zAt t k) (t.zs.getD i default).o 2) (atZ (t.zs.getD i default) (t.zs.getD i default).o 2) 0 0 (jB hzk _ _) (jB hzi _ _)))) (fun h8_12=>?_) (fun h8_12=>?_)
      ·
       iterate 5 refine ab ?_
       refine AOps.gbool rfl rfl rfl rfl rfl (aj (lu) (hc:=(m7 (atZ (t.zs.getD i default) (t.zs.getD i default).o 2) (atZ (zAt t k) (t.zs.getD i default).o 2) 0 0 (jB hzi _ _) (jB hzk _ _)))) (fun h8_18=>?_) (fun h8_18=>?_)
       ·
        iterate 9 refine ab ?_
        refine ⟨i+1,?_,Back.mk' (HasT.cons HasT.nil) HasH.nil,?_⟩
        ·
         exact ⟨by omega,dh hc (uE h8_6 h8_12 h8_18)⟩
        ·
         first|omega|(simp;omega)
       ·
        iterate 9 refine ab ?_
        refine ak (0) [_] [_] ?_;exact congrArg tf (iX (j:=i) (by omega) (lq h1 h2 (by rw [h8_18,Bool.and_false]))).symm
      ·
       iterate 15 refine ab ?_
       refine ak (0) [_] [_] ?_;exact congrArg tf (iX (j:=i) (by omega) (lq h1 h2 (by rw [h8_12,Bool.and_false];rfl))).symm
     ·
      iterate 21 refine ab ?_
      refine ak (0) [_] [_] ?_;exact congrArg tf (iX (j:=i) (by omega) (lq h1 h2 (by rw [h8_6];rfl))).symm
    ·
     iterate 4 refine ab ?_
     refine bj [ag,ag,ag,ag,ag,ag,ag,ag,ag,ag] [af [7] [205] 45,af [9] [503] 46,af [45] [503] 47,af [44,46] [] 48,af [9] [503] 49,af [9] [503] 50,af [49] [503] 51,af [48,50] [] 52,af [47] [] 13,af [51] [] 14] rfl ⟨ah,ah,ah,aC fun _=>aN rfl rfl (aj (lu) (hc:=(cQ (zAt t k) (t.zs.getD i default).o 2 hzk hzl))),ah,ah,ah,aC fun _=>aN rfl rfl (aj (lu) (hc:=(cQ (t.zs.getD i default) (t.zs.getD i default).o 2 hzi hzl))),ah,ah,trivial⟩ ?_;iterate 30 refine ab ?_
     refine ak (0) [_] [_] ?_;exact congrArg tf (iX (j:=i) (by omega) (lq h1 h2 (by rw [show bI (zAt t k) (t.zs.getD i default).o=[] from Decidable.not_not.1 (of_decide_eq_false h6_6),eS];rfl))).symm
  ·
   iterate 8 refine ab ?_
   refine ai rfl rfl (ca [] [_,_,_,_]) ?_;refine ai rfl rfl (aj (lu) (hA:=by exact ⟨dG rfl (fG (by omega)),xm trivial ⟨jp rfl .box rfl rfl rfl,jp rfl .box rfl rfl rfl,jp rfl .box (by simp [AV.oks,AV.ok,Nat.ble_eq]) rfl rfl,jp rfl .box rfl rfl rfl,trivial⟩,trivial⟩) (hc:=(cA (zAt t k).rs 0 0 (lu+1) [.fp (lu+1) (zoC (zAt t k)),.fp (lu+1) (trC t),.fp (lu+1) [.fz lu up.length (cl ic up)],.fp (lu+1) [i64 k]] (fK t up k (zAt t k)) (by omega) (by simp [AV.oks,AV.ok,Nat.ble_eq]<;>omega) (fun r hr=>pd t up k (zAt t k) r (lu+1) lu ht hzk (hzk.2.2 r hr) hu (by omega))))) ?_;iterate 4 refine ab ?_
   refine ak (0) [_] [_] ?_;obtain rfl:i=t.zs.length:=by omega
   exact congrArg tf (by rw [ki,cd.2 hc,Bool.true_and])
theorem rm (t:Tr) (ht:cx t):AC Tryz.prog 33 [.agg (trC t)] emp (Ret (tf (nH t))):=by
 have hb1:=ht.1;have hb2:=ht.2.2.1;refine AC.intro te_ok (fn:=Tryz.f33) ⟨Tryz.func33,rfl,rfl⟩ (aE rfl) ?_;iterate 2 refine ab ?_
 refine ai rfl rfl (aS 100) ?_;iterate 4 refine ab ?_
 refine ai rfl rfl (gQ 200 cm (fun b:Bool=>tf b)) ?_;iterate 11 refine ab ?_
 refine AWp.loopR (α:=Nat×List (Int×Bool)) [2,5,6,11,12,13,14,15,16,17,18,19,20,21,22,23,24,25,26,27,28,29,30,31,32,33,34,35,36,37,38,39] (fun x_=>[(11,i64 (x_.1))]) (fun x_=>[(200,.map (me cm (fun b:Bool=>tf b) (x_.2)))]) (fun x_=>(x_.1)≤t.ss.length∧MetA t (x_.1) (x_.2)∧∀ j,j<(x_.1)→svO t j=true) (fun x_=>t.ss.length-(x_.1)) (0,[]) ?_ (Back.mk' (HasT.cons HasT.nil) (HasH.cons HasH.nil (h2:=by exact cg (fun _=>rfl)) )) ?_
 ·
  exact ⟨Nat.zero_le _,MetA.start t,fun j hj=>absurd hj (Nat.not_lt_zero j)⟩
 ·
  rintro ⟨i,m⟩ hI3;change i≤t.ss.length∧MetA t i m∧∀ j,j<i→svO t j=true at hI3;obtain ⟨hi,hm,hc⟩:=hI3;refine AWp.as (s':=AS.over _ [2,5,6,11,12,13,14,15,16,17,18,19,20,21,22,23,24,25,26,27,28,29,30,31,32,33,34,35,36,37,38,39] [(11,i64 i)] [(200,.map (me cm (fun b:Bool=>tf b) m))]) rfl ?_;iterate 2 refine ab ?_
  refine am (fun h3_0=>?_) (fun h3_0=>?_)
  ·
   iterate 8 refine ab ?_
   have hsz:=ht.2.2.2 _ (aq (l:=t.ss) (i:=i) (by omega));iterate 2 refine ab ?_
   refine ai rfl rfl (ap 502) ?_;iterate 4 refine ab ?_
   refine ai rfl rfl (ca [] [_]) ?_;iterate 7 refine ab ?_
   refine am (fun h6_2=>?_) (fun h6_2=>?_)
   ·
    iterate 24 refine ab ?_
    refine ak (0) [_] [_] ?_;exact congrArg tf (gD (j:=i) (by omega) (Dg h6_2)).symm
   ·
    iterate 3 refine ab ?_
    refine am (fun h6_6=>?_) (fun h6_6=>?_)
    ·
     iterate 20 refine ab ?_
     refine ak (0) [_] [_] ?_;exact congrArg tf (gD (j:=i) (by omega) (Df h6_6)).symm
    ·
     iterate 5 refine ab ?_
     refine AOps.gbool rfl rfl rfl rfl rfl (ey cm) (fun h6_12=>?_) (fun h6_12=>?_)
     ·
      iterate 14 refine ab ?_
      refine ak (0) [_] [_] ?_;exact congrArg tf (gD (j:=i) (by omega) (G9 hm h6_12)).symm
     ·
      iterate 5 refine ab ?_
      refine AOps.gbool rfl rfl rfl rfl rfl (aj (0) (hc:=(eQ (t.ss.getD i default).zs 0 0 1 [.fp 1 (trC t)] (lO t) (by omega) rfl (fun j hj=>pc j t 1 ht)))) (fun h6_18=>?_) (fun h6_18=>?_)
      ·
       iterate 8 refine ab ?_
       refine ak (0) [_] [_] ?_;exact congrArg tf (gD (j:=i) (by omega) (zf h6_18)).symm
      ·
       iterate 8 refine ab ?_
       refine ai rfl rfl (gf cm true) ?_;iterate 5 refine ab ?_
       refine ⟨(i+1,cp m (t.ss.getD i default).ad true),?_,Back.mk' (HasT.cons HasT.nil) (HasH.cons HasH.nil (h2:=by exact cg (fun _=>rfl)) ),?_⟩
       ·
        try dsimp only
        exact ⟨by omega,hm.step (by omega),dh hc (Bs hm h6_2 h6_6 h6_12 h6_18)⟩
       ·
        try dsimp only
        first|omega|(simp;omega)
  ·
   iterate 9 refine ab ?_
   refine ai rfl rfl (iN) ?_;iterate 3 refine ab ?_
   refine ak (0) [_] [_] ?_;obtain rfl:i=t.ss.length:=by omega
   exact congrArg tf (by rw [u5 hc];exact decide_eq_decide.2 (by omega))
theorem rp (z:Zo) (r:Rr) (hz:eR z) (hr:r.nm.length≤140737488351232) (hd:r.da.length≤140737488351232):AC Tryz.prog 38 [.agg (zoC z),.agg (rrc r)] emp (Ret (tf (inZ z r))):=by
 have hol:=hz.1;have hrl:z.rs.length*64≤140737488351232:=hz.2.1.1;have hcl:=eC hz r.nm;refine AC.intro te_ok (fn:=Tryz.f38) ⟨Tryz.func38,rfl,rfl⟩ (aE rfl) ?_;iterate 2 refine ab ?_
 refine ai rfl rfl (aS 100) ?_;refine ai rfl rfl (aS 101) ?_;iterate 9 refine ab ?_
 refine AOps.bool rfl rfl (aj (0) (hc:=(df r.nm z.o (by omega) (by omega)))) (fun h1_4=>?_) (fun h1_4=>?_)
 ·
  iterate 4 refine ab ?_
  refine am (fun h1_9=>?_) (fun h1_9=>?_)
  ·
   iterate 36 refine ab ?_
   refine ak (0) [_] [_] ?_;exact congrArg tf (by simp [inZ,i7,cO,cq,gt, *];try omega)
  ·
   iterate 4 refine ab ?_
   refine am (fun h1_14=>?_) (fun h1_14=>?_)
   ·
    iterate 31 refine ab ?_
    refine ak (0) [_] [_] ?_;exact congrArg tf (by simp [inZ,i7,cO,cq,gt, *];try omega)
   ·
    iterate 4 refine ab ?_
    refine am (fun h1_19=>?_) (fun h1_19=>?_)
    ·
     iterate 26 refine ab ?_
     refine ak (0) [_] [_] ?_;exact congrArg tf (by simp [inZ,i7,cO,cq,gt, *];try omega)
    ·
     iterate 4 refine ab ?_
     refine am (fun h1_24=>?_) (fun h1_24=>?_)
     ·
      iterate 21 refine ab ?_
      refine ak (0) [_] [_] ?_;exact congrArg tf (by simp [inZ,i7,cO,cq,gt, *];try omega)
     ·
      iterate 4 refine ab ?_
      refine am (fun h1_29=>?_) (fun h1_29=>?_)
      ·
       iterate 16 refine ab ?_
       refine ak (0) [_] [_] ?_;exact congrArg tf (by simp [inZ,i7,cO,cq,gt, *];try omega)
      ·
       iterate 6 refine ab ?_
       refine AOps.gbool rfl rfl rfl rfl rfl (aj (0) (hc:=(wz r.ty r.da 0 hd))) (fun h1_36=>?_) (fun h1_36=>?_)
       ·
        iterate 7 refine ab ?_
        have hbase:=sm h1_4 h1_9 h1_14 h1_19 h1_24 h1_29 h1_36;iterate 3 refine ab ?_
        refine ai rfl rfl (aj (0) (hc:=(jx z r.nm hz hr))) ?_;iterate 2 refine ab ?_
        refine AOps.bool rfl rfl (bM) (fun h3_6=>?_) (fun h3_6=>?_)
        ·
         iterate 12 refine ab ?_
         refine am (fun h5_0=>?_) (fun h5_0=>?_)
         ·
          iterate 9 refine ab ?_
          refine AOps.bool rfl rfl (aj (0) (hc:=(bT r.nm z.o (by omega) (by omega)))) (fun h6_4=>?_) (fun h6_4=>?_)
          ·
           iterate 7 refine ab ?_
           have hc6:bI z r.nm≠[]:=of_decide_eq_true h3_6
           clear h3_6
           refine ak (0) [_] [_] ?_;exact congrArg tf (by rw [d7 hbase,cq];simp [gt, *];first|done|omega|exact decide_eq_true (by omega)|exact decide_eq_false (by omega))
          ·
           iterate 7 refine ab ?_
           have hc6:bI z r.nm≠[]:=of_decide_eq_true h3_6
           clear h3_6
           refine ak (0) [_] [_] ?_;exact congrArg tf (by rw [d7 hbase,cq];simp [gt, *];first|done|omega|exact decide_eq_true (by omega)|exact decide_eq_false (by omega))
         ·
          iterate 5 refine ab ?_
          refine am (fun h7_0=>?_) (fun h7_0=>?_)
          ·
           iterate 11 refine ab ?_
           refine cw rfl rfl rfl rfl rfl (aj (0) (hc:=(bT (bI z r.nm) r.nm (by omega) (by omega)))) ?_;iterate 4 refine ab ?_
           have hc6:bI z r.nm≠[]:=of_decide_eq_true h3_6
           clear h3_6
           refine ak (0) [_] [_] ?_;exact congrArg tf (by rw [d7 hbase,cq];simp [gt, *];first|done|omega|exact decide_eq_true (by omega)|exact decide_eq_false (by omega))
          ·
           iterate 5 refine ab ?_
           refine am (fun h9_0=>?_) (fun h9_0=>?_)
           ·
            iterate 8 refine ab ?_
            have hc6:bI z r.nm≠[]:=of_decide_eq_true h3_6
            clear h3_6
            refine ak (0) [_] [_] ?_;exact congrArg tf (by rw [d7 hbase,cq];simp [gt, *];first|done|omega|exact decide_eq_true (by omega)|exact decide_eq_false (by omega))
           ·
            iterate 5 refine ab ?_
            refine am (fun h11_0=>?_) (fun h11_0=>?_)
            ·
             iterate 16 refine ab ?_
             refine AWp.loopR (α:=Nat) [7,9,86,87,88,89,90,91,92,93,94,95,96,97] (fun i=>[(86,i64 i),(7,i64 ((z.rs.take i).filter fun o=>bi o.nm r.nm).length)]) (fun i=>[]) (fun i=>i≤z.rs.length) (fun i=>z.rs.length-i) 0 ?_ (Back.mk' (HasT.cons (HasT.cons HasT.nil)) HasH.nil) ?_
             ·
              exact Nat.zero_le _
             ·
              rintro i hi;have hfl:=m0 (fun o:Rr=>bi o.nm r.nm) z.rs i;iterate 2 refine ab ?_
              refine am (fun h14_0=>?_) (fun h14_0=>?_)
              ·
               iterate 8 refine ab ?_
               have hri:=hz.2.2 _ (aq (l:=z.rs) (i:=i) (by omega));iterate 2 refine ab ?_
               refine ai rfl rfl (ap 1602) ?_;iterate 8 refine ab ?_
               refine AOps.bool rfl rfl (aj (0) (hc:=(bT (z.rs.getD i default).nm r.nm (by omega) (by omega)))) (fun h16_4=>?_) (fun h16_4=>?_)
               ·
                iterate 11 refine ab ?_
                refine ⟨i+1,?_,Back.mk' (HasT.cons (HasT.cons HasT.nil (h1:=by exact ci (by rw [nk (by omega),if_pos h16_4];omega)) )) HasH.nil,?_⟩
                ·
                 first|assumption|omega|decide|(simp;omega)|(simp [*];done)
                ·
                 first|omega|(simp;omega)
               ·
                iterate 7 refine ab ?_
                refine ⟨i+1,?_,Back.mk' (HasT.cons (HasT.cons HasT.nil (h1:=by exact ci (by rw [nk (by omega),if_neg (by rw [h16_4];decide)];omega)) )) HasH.nil,?_⟩
                ·
                 first|assumption|omega|decide|(simp;omega)|(simp [*];done)
                ·
                 first|omega|(simp;omega)
              ·
               iterate 6 refine ab ?_
               obtain rfl:i=z.rs.length:=by omega
               rw [List.take_length];refine ab ?_;refine am (fun h19_1=>?_) (fun h19_1=>?_)
               ·
                iterate 7 refine ab ?_
                have hc6:bI z r.nm≠[]:=of_decide_eq_true h3_6
                clear h3_6
                refine ak (0) [_] [_] ?_;exact congrArg tf (by rw [d7 hbase,cq];simp [gt, *];first|done|omega|exact decide_eq_true (by omega)|exact decide_eq_false (by omega))
               ·
                iterate 7 refine ab ?_
                have hc6:bI z r.nm≠[]:=of_decide_eq_true h3_6
                clear h3_6
                refine ak (0) [_] [_] ?_;exact congrArg tf (by rw [d7 hbase,cq];simp [gt, *];first|done|omega|exact decide_eq_true (by omega)|exact decide_eq_false (by omega))
            ·
             iterate 11 refine ab ?_
             have hc6:bI z r.nm≠[]:=of_decide_eq_true h3_6
             clear h3_6
             refine ak (0) [_] [_] ?_;exact congrArg tf (by rw [d7 hbase,cq];simp [gt, *];first|done|omega|exact decide_eq_true (by omega)|exact decide_eq_false (by omega))
        ·
         iterate 12 refine ab ?_
         refine am (fun h5_0=>?_) (fun h5_0=>?_)
         ·
          iterate 9 refine ab ?_
          refine AOps.bool rfl rfl (aj (0) (hc:=(bT r.nm z.o (by omega) (by omega)))) (fun h6_4=>?_) (fun h6_4=>?_)
          ·
           iterate 7 refine ab ?_
           have hc6:bI z r.nm=[]:=Decidable.not_not.1 (of_decide_eq_false h3_6)
           clear h3_6
           refine ak (0) [_] [_] ?_;exact congrArg tf (by rw [d7 hbase,cq];simp [gt,eS, *];first|done|omega|exact decide_eq_true (by omega)|exact decide_eq_false (by omega))
          ·
           iterate 7 refine ab ?_
           have hc6:bI z r.nm=[]:=Decidable.not_not.1 (of_decide_eq_false h3_6)
           clear h3_6
           refine ak (0) [_] [_] ?_;exact congrArg tf (by rw [d7 hbase,cq];simp [gt,eS, *];first|done|omega|exact decide_eq_true (by omega)|exact decide_eq_false (by omega))
         ·
          iterate 5 refine ab ?_
          refine am (fun h7_0=>?_) (fun h7_0=>?_)
          ·
           iterate 16 refine ab ?_
           have hc6:bI z r.nm=[]:=Decidable.not_not.1 (of_decide_eq_false h3_6)
           clear h3_6
           refine ak (0) [_] [_] ?_;exact congrArg tf (by rw [d7 hbase,cq];simp [gt,eS, *];first|done|omega|exact decide_eq_true (by omega)|exact decide_eq_false (by omega))
          ·
           iterate 5 refine ab ?_
           refine am (fun h9_0=>?_) (fun h9_0=>?_)
           ·
            iterate 8 refine ab ?_
            have hc6:bI z r.nm=[]:=Decidable.not_not.1 (of_decide_eq_false h3_6)
            clear h3_6
            refine ak (0) [_] [_] ?_;exact congrArg tf (by rw [d7 hbase,cq];simp [gt,eS, *];first|done|omega|exact decide_eq_true (by omega)|exact decide_eq_false (by omega))
           ·
            iterate 5 refine ab ?_
            refine am (fun h11_0=>?_) (fun h11_0=>?_)
            ·
             iterate 16 refine ab ?_
             refine AWp.loopR (α:=Nat) [7,9,86,87,88,89,90,91,92,93,94,95,96,97] (fun i=>[(86,i64 i),(7,i64 ((z.rs.take i).filter fun o=>bi o.nm r.nm).length)]) (fun i=>[]) (fun i=>i≤z.rs.length) (fun i=>z.rs.length-i) 0 ?_ (Back.mk' (HasT.cons (HasT.cons HasT.nil)) HasH.nil) ?_
             ·
              exact Nat.zero_le _
             ·
              rintro i hi;have hfl:=m0 (fun o:Rr=>bi o.nm r.nm) z.rs i;iterate 2 refine ab ?_
              refine am (fun h14_0=>?_) (fun h14_0=>?_)
              ·
               iterate 8 refine ab ?_
               have hri:=hz.2.2 _ (aq (l:=z.rs) (i:=i) (by omega));iterate 2 refine ab ?_
               refine ai rfl rfl (ap 1602) ?_;iterate 8 refine ab ?_
               refine AOps.bool rfl rfl (aj (0) (hc:=(bT (z.rs.getD i default).nm r.nm (by omega) (by omega)))) (fun h16_4=>?_) (fun h16_4=>?_)
               ·
                iterate 11 refine ab ?_
                refine ⟨i+1,?_,Back.mk' (HasT.cons (HasT.cons HasT.nil (h1:=by exact ci (by rw [nk (by omega),if_pos h16_4];omega)) )) HasH.nil,?_⟩
                ·
                 first|assumption|omega|decide|(simp;omega)|(simp [*];done)
                ·
                 first|omega|(simp;omega)
               ·
                iterate 7 refine ab ?_
                refine ⟨i+1,?_,Back.mk' (HasT.cons (HasT.cons HasT.nil (h1:=by exact ci (by rw [nk (by omega),if_neg (by rw [h16_4];decide)];omega)) )) HasH.nil,?_⟩
                ·
                 first|assumption|omega|decide|(simp;omega)|(simp [*];done)
                ·
                 first|omega|(simp;omega)
              ·
               iterate 6 refine ab ?_
               obtain rfl:i=z.rs.length:=by omega
               rw [List.take_length];refine ab ?_;refine am (fun h19_1=>?_) (fun h19_1=>?_)
               ·
                iterate 7 refine ab ?_
                have hc6:bI z r.nm=[]:=Decidable.not_not.1 (of_decide_eq_false h3_6)
                clear h3_6
                refine ak (0) [_] [_] ?_;exact congrArg tf (by rw [d7 hbase,cq];simp [gt,eS, *];first|done|omega|exact decide_eq_true (by omega)|exact decide_eq_false (by omega))
               ·
                iterate 7 refine ab ?_
                have hc6:bI z r.nm=[]:=Decidable.not_not.1 (of_decide_eq_false h3_6)
                clear h3_6
                refine ak (0) [_] [_] ?_;exact congrArg tf (by rw [d7 hbase,cq];simp [gt,eS, *];first|done|omega|exact decide_eq_true (by omega)|exact decide_eq_false (by omega))
            ·
             iterate 11 refine ab ?_
             have hc6:bI z r.nm=[]:=Decidable.not_not.1 (of_decide_eq_false h3_6)
             clear h3_6
             refine ak (0) [_] [_] ?_;exact congrArg tf (by rw [d7 hbase,cq];simp [gt,eS, *];first|done|omega|exact decide_eq_true (by omega)|exact decide_eq_false (by omega))
       ·
        iterate 9 refine ab ?_
        refine ak (0) [_] [_] ?_;exact congrArg tf (by simp [inZ,i7,cO,cq,gt, *];try omega)
 ·
  iterate 41 refine ab ?_
  refine ak (0) [_] [_] ?_;exact congrArg tf (by simp [inZ,i7,cO,cq,gt, *];try omega)
theorem kh {n:List UInt8}:eK n=[]↔bm n=false:=by
 unfold eK;cases h:bm n with
 | false=>simp
 | true=>simp [tu h]
def MetL (t:Tr) (i:Nat) (m:List (List UInt8×Bool)):Prop:=∀ a,(bg m a).getD false=decide (a∈(t.zs.take i).map fun z=>eK z.o)
theorem MetL.start (t:Tr):MetL t 0 []:=fun a=>by simp [bg]
theorem MetL.step {t:Tr} {i:Nat} {m:List (List UInt8×Bool)} (h:MetL t i m) (hi:i<t.zs.length):MetL t (i+1) (cp m (eK (t.zs.getD i default).o) true):=fun a=>by
 rw [iR,iS hi];obtain ⟨x,hx⟩:∃ x,x=eK (t.zs.getD i default).o:=⟨_,rfl⟩;rw [← hx];by_cases e:x=a
 · rw [if_pos e];simp [e]
 · rw [if_neg e,h a]
   have e2:¬ a=x:=fun k=>e k.symm
   simp [e2]
theorem MetL.any {t:Tr} {i:Nat} {m:List (List UInt8×Bool)} (h:MetL t i m) {n:List UInt8} (hn:bm n=true):(bg m (eK n)).getD false=(t.zs.take i).any fun o=>bi o.o n:=by
 rw [h,Bool.eq_iff_iff,decide_eq_true_iff,List.any_eq_true,List.mem_map];constructor
 · rintro ⟨z,h1,h2⟩
   have hc:bm z.o=true:=by
    cases hc:bm z.o with
    | true=>rfl
    | false=>rw [kh.2 hc] at h2;rw [kh.1 h2.symm] at hn;cases hn
   exact ⟨z,h1,by simp [bi,hc,hn,h2]⟩
 · rintro ⟨z,h1,h2⟩
   unfold bi at h2;simp only [Bool.and_eq_true,decide_eq_true_eq] at h2;exact ⟨z,h1,h2.2⟩
theorem E5 {l:List Zo} (h:∀ z∈l,eR z):i6 l≤l.length*2199023255552:=by
 induction l with
 | nil=>simp [i6]
 | cons z l ih=>
  have h1:=(h z (by simp)).2.1.1;have h2:=ih fun y hy=>h y (by simp [hy])
  have h3:i6 (z::l)=z.rs.length+i6 l:=by simp [i6]
  rw [h3,List.length_cons,Nat.succ_mul];omega
theorem tW {t:Tr} (ht:cx t) (i:Nat):i6 (t.zs.take i)≤i*2199023255552:=by
 have h1:=E5 (l:=t.zs.take i) fun z hz=>ht.2.1 z (List.mem_of_mem_take hz)
 have h2:=List.length_take_le i t.zs;exact Nat.le_trans h1 (Nat.mul_le_mul_right _ h2)
section
variable {t:Tr}
theorem AY (h:(t.zs.length:Int)<1):dZ t=false:=by rw [dZ,decide_eq_false (by omega)];rfl
theorem AX (h:20<(t.zs.length:Int)):dZ t=false:=by rw [dZ,decide_eq_false (p:=t.zs.length≤20) (by omega),Bool.and_false];rfl
theorem AW (h:¬ (t.zs.getD 0 default).o=[0]):dZ t=false:=by rw [dZ,decide_eq_false (p:=(t.zs.getD 0 default).o=[0]) h,Bool.and_false];rfl
theorem AU (h:nH t=false):dZ t=false:=by rw [dZ,h,Bool.and_false];rfl
theorem tp {j:Nat} (hj:j<t.zs.length) (h:nS t j=false):dZ t=false:=by rw [dZ,fm hj h,Bool.and_false];rfl
theorem AT (h:400<(i6 t.zs:Int)):dZ t=false:=by rw [dZ,decide_eq_false (p:=i6 t.zs≤400) (by omega),Bool.and_false];rfl
theorem my {j:Nat} (hj:j<t.zs.length) (h:mC t j=false):dZ t=false:=by rw [dZ,fm hj h,Bool.and_false]
theorem uZ (h1:¬ (t.zs.length:Int)<1) (h2:¬ 20<(t.zs.length:Int)) (h3:¬ ¬ (t.zs.getD 0 default).o=[0]) (h4:nH t=true) (h5:∀ j,j<t.zs.length→nS t j=true) (h6:¬ 400<(i6 t.zs:Int)) (h7:∀ j,j<t.zs.length→mC t j=true):dZ t=true:=by
 rw [Decidable.not_not] at h3;rw [dZ,decide_eq_true (p:=1≤t.zs.length) (by omega),decide_eq_true (p:=t.zs.length≤20) (by omega),decide_eq_true h3,h4,cd.2 h5,decide_eq_true (p:=i6 t.zs≤400) (by omega),cd.2 h7];rfl
theorem xK {α:Type} {p:α→Bool} {l:List α}:(l.any fun x=>!p x)=!l.all p:=by
 induction l with
 | nil=>rfl
 | cons a l ih=>rw [List.any_cons,List.all_cons,ih,Bool.not_and]
end
theorem tx (r:Rr) (z:Zo) (lv:Nat) (hz:eR z) (hr:r.nm.length≤140737488351232) (hd:r.da.length≤140737488351232):AC Tryz.prog 37 [.agg (rrc r),.fp lv (zoC z)] emp (Ret (tf (!inZ z r))):=by
 refine AC.intro te_ok (fn:=Tryz.f37) ⟨Tryz.func37,rfl,rfl⟩ (aE rfl) ?_;iterate 2 refine ab ?_
 refine ai rfl rfl (aS 100) ?_;iterate 6 refine ab ?_
 refine ai rfl rfl (aj (lv) (hc:=(rp z r hz hr hd))) ?_;iterate 4 refine ab ?_
 refine ak (0) [_] [_] ?_;rfl
theorem mz (t:Tr) (ht:cx t):AC Tryz.prog 15 [.agg (trC t)] emp (Ret (tf (dZ t))):=by
 have hb1:=ht.1;have hsum:=tW ht;refine AC.intro te_ok (fn:=Tryz.f15) ⟨Tryz.func15,rfl,rfl⟩ (aE rfl) ?_;iterate 2 refine ab ?_
 refine ai rfl rfl (aS 100) ?_;iterate 8 refine ab ?_
 refine am (fun h1_3=>?_) (fun h1_3=>?_)
 ·
  iterate 26 refine ab ?_
  refine ak (0) [_] [_] ?_;exact congrArg tf (AY h1_3).symm
 ·
  iterate 4 refine ab ?_
  refine am (fun h1_8=>?_) (fun h1_8=>?_)
  ·
   iterate 21 refine ab ?_
   refine ak (0) [_] [_] ?_;exact congrArg tf (AX h1_8).symm
  ·
   iterate 7 refine ab ?_
   refine am (fun h1_16=>?_) (fun h1_16=>?_)
   ·
    iterate 13 refine ab ?_
    refine ak (0) [_] [_] ?_;exact congrArg tf (AW h1_16).symm
   ·
    iterate 3 refine ab ?_
    refine AOps.gbool rfl rfl rfl rfl rfl (aj (0) (hc:=(rm t ht))) (fun h1_20=>?_) (fun h1_20=>?_)
    ·
     iterate 7 refine ab ?_
     refine ai rfl rfl (gQ 400 fI (fun b:Bool=>tf b)) ?_;iterate 15 refine ab ?_
     refine AWp.loopR (α:=Nat×List (List UInt8×Bool)) [2,4,6,7,38,39,40,41,42,43,44,45,46,47,48,49,50,51,52,53,54,55,56,57,58,59] (fun x_=>[(38,i64 (x_.1)),(4,i64 (i6 (t.zs.take (x_.1))))]) (fun x_=>[(400,.map (me fI (fun b:Bool=>tf b) (x_.2)))]) (fun x_=>(x_.1)≤t.zs.length∧MetL t (x_.1) (x_.2)∧∀ j,j<(x_.1)→nS t j=true) (fun x_=>t.zs.length-(x_.1)) (0,[]) ?_ (Back.mk' (HasT.cons (HasT.cons HasT.nil)) (HasH.cons HasH.nil (h2:=by exact cg (fun _=>rfl)) )) ?_
     ·
      exact ⟨Nat.zero_le _,MetL.start t,fun j hj=>absurd hj (Nat.not_lt_zero j)⟩
     ·
      rintro ⟨i,m⟩ hI6;change i≤t.zs.length∧MetL t i m∧∀ j,j<i→nS t j=true at hI6;obtain ⟨hi,hm,hc⟩:=hI6;refine AWp.as (s':=AS.over _ [2,4,6,7,38,39,40,41,42,43,44,45,46,47,48,49,50,51,52,53,54,55,56,57,58,59] [(38,i64 i),(4,i64 (i6 (t.zs.take i)))] [(400,.map (me fI (fun b:Bool=>tf b) m))]) rfl ?_;have hsi:=hsum i;iterate 2 refine ab ?_
      refine am (fun h6_0=>?_) (fun h6_0=>?_)
      ·
       iterate 10 refine ab ?_
       refine ai rfl rfl (ap 802) ?_;iterate 4 refine ab ?_
       have hzi:=ht.2.1 _ (aq (l:=t.zs) (i:=i) (by omega));have hzl:=hzi.1;iterate 2 refine ab ?_
       refine ai rfl rfl (aj (0) (hc:=(gO (t.zs.getD i default).o (by omega)))) ?_;iterate 6 refine ab ?_
       refine am (fun h9_1=>?_) (fun h9_1=>?_)
       ·
        iterate 12 refine ab ?_
        refine ak (0) [_] [_] ?_;exact congrArg tf (tp (j:=i) (by omega) (by rw [nS,kh.1 h9_1];rfl)).symm
       ·
        iterate 3 refine ab ?_
        refine AOps.gbool rfl rfl rfl rfl rfl (ey fI) (fun h9_5=>?_) (fun h9_5=>?_)
        ·
         iterate 8 refine ab ?_
         refine ak (0) [_] [_] ?_;have hcn:bm (t.zs.getD i default).o=true:=by
          cases hcn:bm (t.zs.getD i default).o with
          | true=>rfl
          | false=>exact absurd (kh.2 hcn) h9_1
         exact congrArg tf (tp (j:=i) (by omega) (by rw [nS,← hm.any hcn,h9_5,Bool.not_true,Bool.and_false])).symm
        ·
         iterate 6 refine ab ?_
         have hcn:bm (t.zs.getD i default).o=true:=by
          cases hcn:bm (t.zs.getD i default).o with
          | true=>rfl
          | false=>exact absurd (kh.2 hcn) h9_1
         iterate 2 refine ab ?_
         refine ai rfl rfl (gf fI true) ?_;iterate 2 refine ab ?_
         have hrl:(t.zs.getD i default).rs.length*64≤140737488351232:=hzi.2.1.1;have hrl2:(t.zs[i]?.getD default).rs.length*64≤140737488351232:=by rw [← List.getD_eq_getElem?_getD];exact hrl
         have hrl3:(t.zs.getD (i:Int).toNat default).rs.length=(t.zs.getD i default).rs.length:=rfl;iterate 11 refine ab ?_
         refine ⟨(i+1,cp m (eK (t.zs.getD i default).o) true),?_,Back.mk' (HasT.cons (HasT.cons HasT.nil (h1:=by exact ci (by rw [tX (by omega)];omega)) )) (HasH.cons HasH.nil (h2:=by exact cg (fun _=>rfl)) ),?_⟩
         ·
          try dsimp only
          exact ⟨by omega,hm.step (by omega),dh hc (by rw [nS,hcn,← hm.any hcn,h9_5];rfl)⟩
         ·
          try dsimp only
          first|omega|(simp;omega)
      ·
       iterate 7 refine ab ?_
       obtain rfl:i=t.zs.length:=by omega
       rw [List.take_length];refine ab ?_;refine am (fun h14_1=>?_) (fun h14_1=>?_)
       ·
        iterate 7 refine ab ?_
        refine ak (0) [_] [_] ?_;exact congrArg tf (AT h14_1).symm
       ·
        iterate 6 refine ab ?_
        refine ai rfl rfl (aj (0) (hc:=(qP t ht))) ?_;iterate 11 refine ab ?_
        refine AWp.loopR (α:=Nat) [2,9,10,67,68,69,70,71,72,73,74,75,76,77,78,79,80,81,82,83,84,85,86,87,88,89,90,91,92,93,94,95,96,97] (fun i=>[(67,i64 i)]) (fun i=>[]) (fun i=>i≤t.zs.length∧∀ j,j<i→mC t j=true) (fun i=>t.zs.length-i) 0 ?_ (Back.mk' (HasT.cons HasT.nil) HasH.nil) ?_
        ·
         exact ⟨Nat.zero_le _,fun j hj=>absurd hj (Nat.not_lt_zero j)⟩
        ·
         rintro i ⟨hi,hz⟩;iterate 2 refine ab ?_
         refine am (fun h18_0=>?_) (fun h18_0=>?_)
         ·
          iterate 8 refine ab ?_
          have hzi:=ht.2.1 _ (aq (l:=t.zs) (i:=i) (by omega));have hzl:=hzi.1;have hrl:(t.zs.getD i default).rs.length*64≤140737488351232:=hzi.2.1.1;iterate 3 refine ab ?_
          refine ai rfl rfl (ap 2003) ?_;iterate 8 refine ab ?_
          refine ai rfl rfl (ca [] [_]) ?_;refine AOps.bool rfl rfl (aj (0) (hc:=(cA (t.zs.getD i default).rs 0 0 1 [.fp 1 (zoC (t.zs.getD i default))] (fun r=>!inZ (t.zs.getD i default) r) (by omega) rfl (fun r hr=>tx r (t.zs.getD i default) 1 hzi (hzi.2.2 r hr) (hzi.2.1.2 r hr))))) (fun h20_3=>?_) (fun h20_3=>?_)
          ·
           iterate 7 refine ab ?_
           refine ak (0) [_] [_] ?_;have hall:(t.zs.getD i default).rs.all (inZ (t.zs.getD i default))=false:=by rw [xK] at h20_3;simpa using h20_3
           exact congrArg tf (my (j:=i) (by omega) (by rw [mC,hall];rfl)).symm
          ·
           iterate 5 refine ab ?_
           have hall:(t.zs.getD i default).rs.all (inZ (t.zs.getD i default))=true:=by rw [xK] at h20_3;simpa using h20_3
           iterate 3 refine ab ?_
           refine ai rfl rfl (aj (0) (hc:=(cQ (t.zs.getD i default) (t.zs.getD i default).o 6 hzi hzl))) ?_;refine ab ?_;refine am (fun h22_5=>?_) (fun h22_5=>?_)
           ·
            iterate 22 refine ab ?_
            refine ak (0) [_] [_] ?_;exact congrArg tf (my (j:=i) (by omega) (by rw [mC,decide_eq_false (p:=(atZ (t.zs.getD i default) (t.zs.getD i default).o 6).length=1) (by omega),Bool.and_false];rfl)).symm
           ·
            iterate 4 refine ab ?_
            refine cw rfl rfl rfl rfl rfl (aj (0) (hc:=(cQ (t.zs.getD i default) (t.zs.getD i default).o 2 hzi hzl))) ?_;refine ab ?_;refine am (fun h22_12=>?_) (fun h22_12=>?_)
            ·
             iterate 15 refine ab ?_
             refine ak (0) [_] [_] ?_;exact congrArg tf (my (j:=i) (by omega) (by rw [mC,decide_eq_false (p:=1≤(atZ (t.zs.getD i default) (t.zs.getD i default).o 2).length) (by omega),Bool.and_false];rfl)).symm
            ·
             iterate 5 refine ab ?_
             refine AOps.gbool rfl rfl rfl rfl rfl (aj (0) (hc:=(ro t (ka t) i 0 ht (zJ t) ⟨by omega,by omega⟩))) (fun h22_18=>?_) (fun h22_18=>?_)
             ·
              iterate 9 refine ab ?_
              refine ⟨i+1,?_,Back.mk' (HasT.cons HasT.nil) HasH.nil,?_⟩
              ·
               exact ⟨by omega,dh hz (by rw [mC,hall,decide_eq_true (by omega),decide_eq_true (by omega),h22_18];rfl)⟩
              ·
               first|omega|(simp;omega)
             ·
              iterate 9 refine ab ?_
              refine ak (0) [_] [_] ?_;exact congrArg tf (my (j:=i) (by omega) (by rw [mC,h22_18,Bool.and_false])).symm
         ·
          iterate 9 refine ab ?_
          refine ak (0) [_] [_] ?_;obtain rfl:i=t.zs.length:=by omega
          exact congrArg tf (uZ h1_3 h1_8 h1_16 h1_20 hc h14_1 hz).symm
    ·
     iterate 9 refine ab ?_
     refine ak (0) [_] [_] ?_;exact congrArg tf (AU h1_20).symm
def nw (a b:List UInt8):Bool:=bQ a b&&!bi a b
theorem D3 {n:List UInt8} {t:Int} {r:Rr} (h:bi r.nm n=false):atP n t r=false:=by rw [atP,h,Bool.and_false]
theorem D2 {n:List UInt8} {t:Int} {r:Rr} (h:¬ r.ty=t):atP n t r=false:=by rw [atP,decide_eq_false h,Bool.false_and]
theorem D1 {n:List UInt8} {t:Int} {r:Rr} (h:bi r.nm n=true) (h2:r.ty=t):atP n t r=true:=by rw [atP,h,decide_eq_true h2];rfl
theorem AM {z:Zo} {n:List UInt8} {r:Rr} (h:nw r.nm z.o=false):i9 z n r=false:=by
 unfold nw at h;unfold i9;cases hw:bQ r.nm z.o with
 | false=>simp
 | true=>rw [hw,Bool.true_and] at h;rw [h];simp
theorem yD {z:Zo} {n:List UInt8} {r:Rr} (h1:¬ ¬ r.ty=2) (h:nw r.nm z.o=true) (h4:bQ n r.nm=true):i9 z n r=true:=by
 unfold nw at h;simp only [Bool.and_eq_true] at h;rw [Decidable.not_not] at h1;rw [i9,decide_eq_true h1,h.1,h.2,h4];rfl
theorem dc {α:Type} [Inhabited α] {p:α→Bool} {l:List α} {i:Nat} (h:i<l.length):(l.take (i+1)).any p=((l.take i).any p || p (l.getD i default)):=by
 rw [bK h,List.any_append];simp [List.any_cons,List.any_nil]
theorem jD {α:Type} [Inhabited α] {p:α→Bool} {l:List α} {i:Nat} (h:i<l.length) (h1:(l.take i).any p=false) (h2:p (l.getD i default)=false):(l.take (i+1)).any p=false:=by rw [dc h,h1,h2];rfl
theorem jC {α:Type} [Inhabited α] {p:α→Bool} {l:List α} {i:Nat} (h:i<l.length) (h2:p (l.getD i default)=true):l.any p=true:=List.any_eq_true.2 ⟨_,aq h,h2⟩
theorem ea {α:Type} [Inhabited α] {p:α→Bool} {l:List α} {i:Nat} (h:i<l.length) (h1:(l.take i).all p=true) (h2:p (l.getD i default)=true):(l.take (i+1)).all p=true:=by
 rw [bK h,List.all_append,h1];simp only [List.all_cons,List.all_nil,h2,Bool.and_true]
theorem eu {α:Type} [Inhabited α] {p:α→Bool} {l:List α} {i:Nat} (h:i<l.length) (h2:p (l.getD i default)=false):l.all p=false:=by
 cases hx:l.all p with
 | false=>rfl
 | true=>rw [List.all_eq_true.1 hx _ (aq h)] at h2;cases h2
theorem Cz (n:List UInt8):0≤dt n:=by unfold dt;omega
theorem Gq (w:Bool) (a b:Prop) [Decidable a] [Decidable b]:w=false∨(w=true∧a)∨(w=true∧¬ a∧b)∨(w=true∧¬ a∧¬ b):=by
 cases w
 · exact .inl rfl
 · by_cases h1:a
   · exact .inr (.inl ⟨rfl,h1⟩)
   · by_cases h2:b
     · exact .inr (.inr (.inl ⟨rfl,h1,h2⟩))
     · exact .inr (.inr (.inr ⟨rfl,h1,h2⟩))
theorem yh {t:Tr} {b:Int} (h:b<0) (n:List UInt8):mU t b<dt n:=by
 have:=Cz n;rw [mU,if_pos h];omega
def uh (t:Tr) (z:Zo) (k:Nat):List Int:=(eO k).filter fun j=>nw z.o (zAt t j).o
theorem rQ {t:Tr} {z:Zo} {k:Nat}:uh t z (k+1)=uh t z k++(if nw z.o (zAt t k).o then [(k:Int)] else []):=by
 rw [uh,oR,List.filter_append];congr 1;cases h:nw z.o (zAt t k).o<;>simp [List.filter,h]
theorem kg {t:Tr} {p q:Zo→Bool}:∀ {w:List Int} {b:Int},(w.filter fun j=>q (zAt t j)&&p (zAt t j)).foldl (eZ t q) b=w.foldl (eZ t fun z=>q z&&p z) b
 | [],b=>rfl
 | i::w,b=>by
  rw [List.filter_cons,List.foldl_cons];cases h:(q (zAt t i)&&p (zAt t i)) with
  | false=>
   rw [if_neg (by simp)];have e:eZ t (fun z=>q z&&p z) b i=b:=qr (p:=fun z=>q z&&p z) h;rw [e];exact kg
  | true=>
   rw [if_pos rfl,List.foldl_cons];have hq:q (zAt t i)=true:=by simp only [Bool.and_eq_true] at h;exact h.1
   have e:eZ t (fun z=>q z&&p z) b i=eZ t q b i:=by
    show (if ((q (zAt t i)&&p (zAt t i))&&decide (mU t b<dt (zAt t i).o))=true then i else b)=_;rw [h,eZ,hq]
   rw [e];exact kg
theorem y8 (t:Tr) (z:Zo):fL t (uh t z t.zs.length) z.o=kd t z:=kg (p:=fun o=>!bi z.o o.o) (q:=fun o=>bQ z.o o.o)
theorem BR {t:Tr} {z:Zo} {k:Nat} (hk:k≤t.zs.length):∀ i∈uh t z k,0≤i∧i<t.zs.length:=fun i hi=>by
 have:=sa (List.mem_filter.1 hi).1;omega
theorem zL {t:Tr} {z:Zo} {k:Nat}:(uh t z k).length≤k:=by
 have h1:=List.length_filter_le (fun j=>nw z.o (zAt t j).o) (eO k);rw [fU] at h1;exact h1
theorem jy (r:Rr) (hd:r.da.length≤140737488351232):AC Tryz.prog 14 [.agg (rrc r)] emp (Ret (.agg (rrc r))):=by
 refine AC.intro te_ok (fn:=Tryz.f14) ⟨Tryz.func14,rfl,rfl⟩ (aE rfl) ?_;iterate 2 refine ab ?_
 refine ai rfl rfl (aS 100) ?_;refine ai rfl rfl (ap 101) ?_;iterate 3 refine ab ?_
 refine ai rfl rfl (bO 200 bc [] []) ?_;iterate 2 refine ab ?_
 refine ai rfl rfl (vS (l:=([]:List UInt8)) (m:=r.da)) ?_;iterate 9 refine ab ?_
 refine ak (0) [_] [_] ?_;rfl
theorem j1 (z:Zo) (n:List UInt8) (t:Int) (hz:eR z) (hn:n.length≤140737488351232):AC Tryz.prog 84 [.agg (zoC z),str n,i64 t] emp (Ret (.fz 0 (atZ z n t).length (cl rrc (atZ z n t)))):=by
 have hrl:z.rs.length*64≤140737488351232:=hz.2.1.1;have hol:=hz.1;refine AC.intro te_ok (fn:=Tryz.f84) ⟨Tryz.func84,rfl,rfl⟩ (aE rfl) ?_;iterate 2 refine ab ?_
 refine ai rfl rfl (aS 100) ?_;iterate 4 refine ab ?_
 refine ai rfl rfl (bD 200 5 rrc) ?_;iterate 10 refine ab ?_
 refine AWp.loopR (α:=Nat×List Rr×Nat) [7,9,13,14,15,16,17,18,19,20,21,22,23,24,25,26,27,28,29,30,31,32] (fun x_=>[(13,i64 (x_.1)),(7,.sl 200 (x_.2.2) 0 (x_.2.1).length 5)]) (fun x_=>[(200,.row (cl rrc (x_.2.1)) 5 (x_.2.2))]) (fun x_=>(x_.1)≤z.rs.length∧(x_.2.1)=(z.rs.take (x_.1)).filter (atP n t)) (fun x_=>z.rs.length-(x_.1)) (0,[],0) ?_ (Back.mk' (HasT.cons (HasT.cons HasT.nil)) (HasH.cons HasH.nil)) ?_
 ·
  exact ⟨Nat.zero_le _,rfl⟩
 ·
  rintro ⟨i,acc,v⟩ hI3;change i≤z.rs.length∧acc=(z.rs.take i).filter (atP n t) at hI3;obtain ⟨hi,ha⟩:=hI3;refine AWp.as (s':=AS.over _ [7,9,13,14,15,16,17,18,19,20,21,22,23,24,25,26,27,28,29,30,31,32] [(13,i64 i),(7,.sl 200 v 0 acc.length 5)] [(200,.row (cl rrc acc) 5 v)]) rfl ?_;have hal:=qY ha;iterate 2 refine ab ?_
  refine am (fun h3_0=>?_) (fun h3_0=>?_)
  ·
   iterate 8 refine ab ?_
   have hr:=hz.2.2 _ (aq (l:=z.rs) (i:=i) (by omega));have hrd:=hz.2.1.2 _ (aq (l:=z.rs) (i:=i) (by omega));iterate 2 refine ab ?_
   refine ai rfl rfl (ap 502) ?_;iterate 7 refine ab ?_
   refine AOps.bool rfl rfl (aj (0) (hc:=(az (z.rs.getD i default).nm n (by omega) (by omega)))) (fun h5_3=>?_) (fun h5_3=>?_)
   ·
    iterate 4 refine ab ?_
    refine am (fun h5_8=>?_) (fun h5_8=>?_)
    ·
     iterate 6 refine ab ?_
     refine ai rfl rfl (aj (0) (hc:=(jy (z.rs.getD i default) hrd))) ?_;refine ai rfl rfl (bO 703 rrc [_] [(_,_)]) ?_;iterate 7 refine ab ?_
     refine ⟨(i+1,acc++[z.rs.getD i default],v+1),?_,Back.mk' (HasT.cons (HasT.cons HasT.nil)) (HasH.cons HasH.nil),?_⟩
     ·
      try dsimp only
      exact ⟨by omega,by rw [qG (i:=i) (by omega) (D1 h5_3 h5_8),← ha]⟩
     ·
      try dsimp only
      first|omega|(simp;omega)
    ·
     iterate 8 refine ab ?_
     refine ⟨(i+1,acc,v),?_,Back.mk' (HasT.cons (HasT.cons HasT.nil)) (HasH.cons HasH.nil),?_⟩
     ·
      try dsimp only
      exact ⟨by omega,by rw [o9 (i:=i) (by omega) (D2 h5_8),← ha]⟩
     ·
      try dsimp only
      first|omega|(simp;omega)
   ·
    iterate 13 refine ab ?_
    refine ⟨(i+1,acc,v),?_,Back.mk' (HasT.cons (HasT.cons HasT.nil)) (HasH.cons HasH.nil),?_⟩
    ·
     try dsimp only
     exact ⟨by omega,by rw [o9 (by omega) (D3 h5_3),← ha]⟩
    ·
     try dsimp only
     first|omega|(simp;omega)
  ·
   iterate 10 refine ab ?_
   obtain rfl:i=z.rs.length:=by omega
   rw [List.take_length] at ha;obtain rfl:acc=atZ z n t:=ha;refine ak (0) [_] [_] ?_;rfl
theorem dW (a b:List UInt8) (ha:a.length≤140737488351232) (hb:b.length≤140737488351232):AC Tryz.prog 128 [str a,str b] emp (Ret (tf (nw a b))):=by
 refine AC.intro te_ok (fn:=Tryz.f128) ⟨Tryz.func128,rfl,rfl⟩ (aE rfl) ?_;iterate 8 refine ab ?_
 refine AOps.bool rfl rfl (aj (0) (hc:=(be a b (by omega) (by omega)))) (fun h1_2=>?_) (fun h1_2=>?_)
 ·
  iterate 3 refine ab ?_
  refine cw rfl rfl rfl rfl rfl (aj (0) (hc:=(az a b (by omega) (by omega)))) ?_;iterate 5 refine ab ?_
  refine ak (0) [_] [_] ?_;exact congrArg tf (by simp_all [nw])
 ·
  iterate 9 refine ab ?_
  refine ak (0) [_] [_] ?_;exact congrArg tf (by simp_all [nw])
theorem kK (z:Zo) (n:List UInt8) (hz:eR z) (hn:n.length≤140737488351232):AC Tryz.prog 83 [.agg (zoC z),str n] emp (Ret (str (bI z n))):=by
 have hrl:z.rs.length*64≤140737488351232:=hz.2.1.1;have hol:=hz.1;refine AC.intro te_ok (fn:=Tryz.f83) ⟨Tryz.func83,rfl,rfl⟩ (aE rfl) ?_;iterate 2 refine ab ?_
 refine ai rfl rfl (aS 100) ?_;iterate 15 refine ab ?_
 refine AWp.loopR (α:=Nat×List UInt8) [5,7,11,12,13,14,15,16,17,18,19,20,21,22,23,24,25,26,27,28,29,30,31,32,33,34,35,36,37,38,39,40,41,42,43,44,45] (fun x_=>[(11,i64 (x_.1)),(5,str (x_.2))]) (fun x_=>[]) (fun x_=>(x_.1)≤z.rs.length∧(z.rs.take (x_.1)).foldl (kG z n) []=(x_.2)) (fun x_=>z.rs.length-(x_.1)) (0,[]) ?_ (Back.mk' (HasT.cons (HasT.cons HasT.nil)) HasH.nil) ?_
 ·
  exact ⟨Nat.zero_le _,rfl⟩
 ·
  rintro ⟨i,b⟩ hI3;change i≤z.rs.length∧(z.rs.take i).foldl (kG z n) []=b at hI3;obtain ⟨hi,hb⟩:=hI3;refine AWp.as (s':=AS.over _ [5,7,11,12,13,14,15,16,17,18,19,20,21,22,23,24,25,26,27,28,29,30,31,32,33,34,35,36,37,38,39,40,41,42,43,44,45] [(11,i64 i),(5,str b)] []) rfl ?_;have hbl:=ni hz n i;rw [hb] at hbl;iterate 2 refine ab ?_
  refine am (fun h3_0=>?_) (fun h3_0=>?_)
  ·
   iterate 8 refine ab ?_
   have hr:=hz.2.2 _ (aq (l:=z.rs) (i:=i) (by omega));have hrd:=hz.2.1.2 _ (aq (l:=z.rs) (i:=i) (by omega));iterate 2 refine ab ?_
   refine ai rfl rfl (ap 502) ?_;iterate 7 refine ab ?_
   refine am (fun h5_2=>?_) (fun h5_2=>?_)
   ·
    iterate 22 refine ab ?_
    refine ⟨(i+1,b),?_,Back.mk' (HasT.cons (HasT.cons HasT.nil)) HasH.nil,?_⟩
    ·
     try dsimp only
     exact ⟨by omega,by rw [bG (by omega),hb];exact ju (uT h5_2)⟩
    ·
     try dsimp only
     first|omega|(simp;omega)
   ·
    iterate 5 refine ab ?_
    refine AOps.gbool rfl rfl rfl rfl rfl (aj (0) (hc:=(dW (z.rs.getD i default).nm z.o (by omega) (by omega)))) (fun h5_8=>?_) (fun h5_8=>?_)
    ·
     iterate 6 refine ab ?_
     refine AOps.gbool rfl rfl rfl rfl rfl (aj (0) (hc:=(be n (z.rs.getD i default).nm (by omega) (by omega)))) (fun h5_15=>?_) (fun h5_15=>?_)
     ·
      iterate 7 refine ab ?_
      have hP:i9 z n (z.rs.getD i default)=true:=yD h5_2 h5_8 h5_15;refine ab ?_;refine am (fun h6_1=>?_) (fun h6_1=>?_)
      ·
       iterate 19 refine ab ?_
       refine ⟨(i+1,(z.rs.getD i default).nm),?_,Back.mk' (HasT.cons (HasT.cons HasT.nil)) HasH.nil,?_⟩
       ·
        try dsimp only
        exact ⟨by omega,by rw [bG (by omega),hb];exact lD hP (.inl h6_1)⟩
       ·
        try dsimp only
        first|omega|(simp;omega)
      ·
       iterate 3 refine ab ?_
       refine cw rfl rfl rfl rfl rfl (aj (0) (hc:=(bA (z.rs.getD i default).nm (by omega)))) ?_;refine ab ?_;refine cw rfl rfl rfl rfl rfl (aj (0) (hc:=(bA b (by omega)))) ?_;refine am (fun h6_8=>?_) (fun h6_8=>?_)
       ·
        iterate 12 refine ab ?_
        refine ⟨(i+1,(z.rs.getD i default).nm),?_,Back.mk' (HasT.cons (HasT.cons HasT.nil)) HasH.nil,?_⟩
        ·
         try dsimp only
         exact ⟨by omega,by rw [bG (by omega),hb];exact lD hP (.inr h6_8)⟩
        ·
         try dsimp only
         first|omega|(simp;omega)
       ·
        iterate 8 refine ab ?_
        refine ⟨(i+1,b),?_,Back.mk' (HasT.cons (HasT.cons HasT.nil)) HasH.nil,?_⟩
        ·
         try dsimp only
         exact ⟨by omega,by rw [bG (by omega),hb];exact sf h6_1 h6_8⟩
        ·
         try dsimp only
         first|omega|(simp;omega)
     ·
      iterate 9 refine ab ?_
      refine ⟨(i+1,b),?_,Back.mk' (HasT.cons (HasT.cons HasT.nil)) HasH.nil,?_⟩
      ·
       try dsimp only
       exact ⟨by omega,by rw [bG (by omega),hb];exact ju (uS h5_15)⟩
      ·
       try dsimp only
       first|omega|(simp;omega)
    ·
     iterate 16 refine ab ?_
     refine ⟨(i+1,b),?_,Back.mk' (HasT.cons (HasT.cons HasT.nil)) HasH.nil,?_⟩
     ·
      try dsimp only
      exact ⟨by omega,by rw [bG (by omega),hb];exact ju (AM h5_8)⟩
     ·
      try dsimp only
      first|omega|(simp;omega)
  ·
   iterate 10 refine ab ?_
   obtain rfl:i=z.rs.length:=by omega
   rw [List.take_length] at hb;obtain rfl:b=bI z n:=hb.symm;refine ak (0) [_] [_] ?_;rfl
theorem ve (z:Zo) (n:List UInt8) (hz:eR z) (hn:n.length≤140737488351232):AC Tryz.prog 109 [.agg (zoC z),str n] emp (Ret (tf (nE z n))):=by
 have hrl:z.rs.length*64≤140737488351232:=hz.2.1.1;have hol:=hz.1;have hcl:=eC hz n;refine AC.intro te_ok (fn:=Tryz.f109) ⟨Tryz.func109,rfl,rfl⟩ (aE rfl) ?_;iterate 2 refine ab ?_
 refine ai rfl rfl (aS 100) ?_;iterate 6 refine ab ?_
 refine ai rfl rfl (aj (0) (hc:=(kK z n hz hn))) ?_;iterate 6 refine ab ?_
 refine am (fun h2_1=>?_) (fun h2_1=>?_)
 ·
  iterate 3 refine ab ?_
  refine AOps.gbool rfl rfl rfl rfl rfl (aj (0) (hc:=(az (bI z n) n (by omega) (by omega)))) (fun h2_5=>?_) (fun h2_5=>?_)
  ·
   iterate 8 refine ab ?_
   have hh:lM z n=false:=by rw [lM,h2_5,Bool.not_true,Bool.and_false]
   iterate 6 refine ab ?_
   refine AWp.loopR (α:=Nat) [4,7,8,23,24,25,26,27,28,29,30,31,32,33,34,35,36,37,38,39,40,41,42,43,44,45] (fun i=>[(23,i64 i)]) (fun i=>[]) (fun i=>i≤z.rs.length∧(z.rs.take i).any (thP z n)=false) (fun i=>z.rs.length-i) 0 ?_ (Back.mk' (HasT.cons HasT.nil) HasH.nil) ?_
   ·
    exact ⟨Nat.zero_le _,rfl⟩
   ·
    rintro i ⟨hi,ha⟩;iterate 2 refine ab ?_
    refine am (fun h5_0=>?_) (fun h5_0=>?_)
    ·
     iterate 8 refine ab ?_
     have hr:=hz.2.2 _ (aq (l:=z.rs) (i:=i) (by omega));have hrd:=hz.2.1.2 _ (aq (l:=z.rs) (i:=i) (by omega));have hcr:=eC hz (z.rs.getD i default).nm;iterate 2 refine ab ?_
     refine ai rfl rfl (ap 702) ?_;iterate 7 refine ab ?_
     refine ai rfl rfl (aj (0) (hc:=(kK z (z.rs.getD i default).nm hz hr))) ?_;iterate 7 refine ab ?_
     refine AOps.bool rfl rfl (aj (0) (hc:=(be (z.rs.getD i default).nm n (by omega) (by omega)))) (fun h8_3=>?_) (fun h8_3=>?_)
     ·
      iterate 2 refine ab ?_
      refine am (fun h8_6=>?_) (fun h8_6=>?_)
      ·
       iterate 14 refine ab ?_
       refine ak (0) [_] [_] ?_;exact congrArg tf (by rw [nE,hh,jC (i:=i) (by omega) (by rw [thP,h8_3,lM,decide_eq_false (not_not_intro h8_6)];rfl)];rfl)
      ·
       iterate 4 refine ab ?_
       refine AOps.gbool rfl rfl rfl rfl rfl (aj (0) (hc:=(az (bI z (z.rs.getD i default).nm) (z.rs.getD i default).nm (by omega) (by omega)))) (fun h8_11=>?_) (fun h8_11=>?_)
       ·
        iterate 9 refine ab ?_
        refine ak (0) [_] [_] ?_;exact congrArg tf (by rw [nE,hh,jC (i:=i) (by omega) (by rw [thP,h8_3,lM,h8_11,Bool.not_true,Bool.and_false];rfl)];rfl)
       ·
        iterate 9 refine ab ?_
        refine ⟨i+1,?_,Back.mk' (HasT.cons HasT.nil) HasH.nil,?_⟩
        ·
         exact ⟨by omega,jD (by omega) ha (by rw [thP,lM,decide_eq_true h8_6,h8_11,Bool.not_false,Bool.and_true,Bool.not_true,Bool.and_false])⟩
        ·
         first|omega|(simp;omega)
     ·
      iterate 4 refine ab ?_
      refine AOps.gskipu rfl rfl rfl rfl rfl rfl rfl ?_;refine AOps.gskipu rfl rfl rfl rfl rfl rfl rfl ?_;refine AOps.gskipu rfl rfl rfl rfl rfl rfl rfl ?_;refine AOps.gskipu rfl rfl rfl rfl rfl rfl rfl ?_;iterate 9 refine ab ?_
      refine ⟨i+1,?_,Back.mk' (HasT.cons HasT.nil) HasH.nil,?_⟩
      ·
       exact ⟨by omega,jD (by omega) ha (by rw [thP,h8_3,Bool.false_and])⟩
      ·
       first|omega|(simp;omega)
    ·
     iterate 9 refine ab ?_
     refine ak (0) [_] [_] ?_;obtain rfl:i=z.rs.length:=by omega
     rw [List.take_length] at ha;exact congrArg tf (by rw [nE,ha,Bool.and_false])
  ·
   iterate 9 refine ab ?_
   refine ak (0) [_] [_] ?_;exact congrArg tf (by rw [nE,lM,decide_eq_true h2_1,h2_5];rfl)
 ·
  iterate 12 refine ab ?_
  have hh:lM z n=false:=by rw [lM,decide_eq_false h2_1,Bool.false_and]
  iterate 6 refine ab ?_
  refine AWp.loopR (α:=Nat) [4,7,8,23,24,25,26,27,28,29,30,31,32,33,34,35,36,37,38,39,40,41,42,43,44,45] (fun i=>[(23,i64 i)]) (fun i=>[]) (fun i=>i≤z.rs.length∧(z.rs.take i).any (thP z n)=false) (fun i=>z.rs.length-i) 0 ?_ (Back.mk' (HasT.cons HasT.nil) HasH.nil) ?_
  ·
   exact ⟨Nat.zero_le _,rfl⟩
  ·
   rintro i ⟨hi,ha⟩;iterate 2 refine ab ?_
   refine am (fun h5_0=>?_) (fun h5_0=>?_)
   ·
    iterate 8 refine ab ?_
    have hr:=hz.2.2 _ (aq (l:=z.rs) (i:=i) (by omega));have hrd:=hz.2.1.2 _ (aq (l:=z.rs) (i:=i) (by omega));have hcr:=eC hz (z.rs.getD i default).nm;iterate 2 refine ab ?_
    refine ai rfl rfl (ap 702) ?_;iterate 7 refine ab ?_
    refine ai rfl rfl (aj (0) (hc:=(kK z (z.rs.getD i default).nm hz hr))) ?_;iterate 7 refine ab ?_
    refine AOps.bool rfl rfl (aj (0) (hc:=(be (z.rs.getD i default).nm n (by omega) (by omega)))) (fun h8_3=>?_) (fun h8_3=>?_)
    ·
     iterate 2 refine ab ?_
     refine am (fun h8_6=>?_) (fun h8_6=>?_)
     ·
      iterate 14 refine ab ?_
      refine ak (0) [_] [_] ?_;exact congrArg tf (by rw [nE,hh,jC (i:=i) (by omega) (by rw [thP,h8_3,lM,decide_eq_false (not_not_intro h8_6)];rfl)];rfl)
     ·
      iterate 4 refine ab ?_
      refine AOps.gbool rfl rfl rfl rfl rfl (aj (0) (hc:=(az (bI z (z.rs.getD i default).nm) (z.rs.getD i default).nm (by omega) (by omega)))) (fun h8_11=>?_) (fun h8_11=>?_)
      ·
       iterate 9 refine ab ?_
       refine ak (0) [_] [_] ?_;exact congrArg tf (by rw [nE,hh,jC (i:=i) (by omega) (by rw [thP,h8_3,lM,h8_11,Bool.not_true,Bool.and_false];rfl)];rfl)
      ·
       iterate 9 refine ab ?_
       refine ⟨i+1,?_,Back.mk' (HasT.cons HasT.nil) HasH.nil,?_⟩
       ·
        exact ⟨by omega,jD (by omega) ha (by rw [thP,lM,decide_eq_true h8_6,h8_11,Bool.not_false,Bool.and_true,Bool.not_true,Bool.and_false])⟩
       ·
        first|omega|(simp;omega)
    ·
     iterate 4 refine ab ?_
     refine AOps.gskipu rfl rfl rfl rfl rfl rfl rfl ?_;refine AOps.gskipu rfl rfl rfl rfl rfl rfl rfl ?_;refine AOps.gskipu rfl rfl rfl rfl rfl rfl rfl ?_;refine AOps.gskipu rfl rfl rfl rfl rfl rfl rfl ?_;iterate 9 refine ab ?_
     refine ⟨i+1,?_,Back.mk' (HasT.cons HasT.nil) HasH.nil,?_⟩
     ·
      exact ⟨by omega,jD (by omega) ha (by rw [thP,h8_3,Bool.false_and])⟩
     ·
      first|omega|(simp;omega)
   ·
    iterate 9 refine ab ?_
    refine ak (0) [_] [_] ?_;obtain rfl:i=z.rs.length:=by omega
    rw [List.take_length] at ha;exact congrArg tf (by rw [nE,ha,Bool.and_false])
theorem fe (t:Tr) (w:List Int) (lw:Nat) (n:List UInt8) (ht:cx t) (hw:w.length≤140737488351232) (hin:∀ i∈w,0≤i∧i<t.zs.length) (hn:n.length≤140737488351232):AC Tryz.prog 63 [.agg (trC t),.fz lw w.length (cl ic w),str n] emp (Ret (i64 (fL t w n))):=by
 have hb1:=ht.1;refine AC.intro te_ok (fn:=Tryz.f63) ⟨Tryz.func63,rfl,rfl⟩ (aE rfl) ?_;iterate 2 refine ab ?_
 refine ai rfl rfl (aS 100) ?_;iterate 14 refine ab ?_
 refine AWp.loopR (α:=Nat×Int) [7,9,12,13,14,15,16,17,18,19,20,21,22,23,24,25,26,27,28,29,30,31,32,33,34,35,36,37,38,39,40,41,42,43,44,45,46] (fun x_=>[(12,i64 (x_.1)),(7,i64 (x_.2))]) (fun x_=>[]) (fun x_=>(x_.1)≤w.length∧(w.take (x_.1)).foldl (eZ t fun z=>bQ n z.o) (-1)=(x_.2)∧-1≤(x_.2)∧(x_.2)<t.zs.length) (fun x_=>w.length-(x_.1)) (0,-1) ?_ (Back.mk' (HasT.cons (HasT.cons HasT.nil)) HasH.nil) ?_
 ·
  exact ⟨Nat.zero_le _,rfl,by omega,by omega⟩
 ·
  rintro ⟨i,b⟩ hI3;change i≤w.length∧(w.take i).foldl (eZ t fun z=>bQ n z.o) (-1)=b∧-1≤b∧b<t.zs.length at hI3;obtain ⟨hi,hb,hb1,hb2⟩:=hI3;refine AWp.as (s':=AS.over _ [7,9,12,13,14,15,16,17,18,19,20,21,22,23,24,25,26,27,28,29,30,31,32,33,34,35,36,37,38,39,40,41,42,43,44,45,46] [(12,i64 i),(7,i64 b)] []) rfl ?_;iterate 2 refine ab ?_
  refine am (fun h3_0=>?_) (fun h3_0=>?_)
  ·
   iterate 13 refine ab ?_
   have hj:=hin _ (aq (l:=w) (i:=i) (by omega));have hj2:0≤w[i]?.getD 0∧w[i]?.getD 0<t.zs.length:=by have h:=hj;rw [List.getD_eq_getElem?_getD] at h;exact h
   have hzo:=jT ht hj;have hol:=hzo.1;rcases Gq (bQ n (zAt t (w.getD i default)).o) (b<0) (dt (zAt t b).o<dt (zAt t (w.getD i default)).o) with h1|⟨h1,h2⟩|⟨h1,h2,h3⟩|⟨h1,h2,h3⟩
   rotate_right 2
   ·
    have hbo:=(jT ht (i:=b) ⟨by omega,hb2⟩).1;refine bj [ag,ag,ag,ag,ag,ag,ag,ag,ag,ag,ag,ag,ag,ag,ag,ag,ag,ag,ag,ag,ag,ag,ag,ag,ag,ag,ag,ag,ag] [af [2] [] 17,af [3] [100] 18,af [17] [100] 19,af [9] [] 20,af [18,19] [] 21,af [20] [] 22,af [21] [] 23,af [16,22] [] 24,af [23] [] 25,af [7,24] [] 26,af [24,25] [] 27,af [24,26] [] 28,af [3,27] [100] 29,af [27,28] [100] 30,af [9,27] [] 31,af [27,29,30] [] 32,af [27,31] [] 33,af [27,32] [] 34,af [27,33] [] 35,af [3,27] [100] 36,af [27,35] [100] 37,af [7,27] [] 38,af [27,36,37] [] 39,af [27,38] [] 40,af [27,39] [] 41,af [27,40] [] 42,af [27,34,41] [] 43,af [24,27,42] [] 44,af [24,43] [] 45] rfl ⟨ah,ah,ah,ah,ah,ah,ah,aC fun _=>aN rfl rfl ((OpOk.bool_is (c:=true) (aj (lw) (hc:=(be n (zAt t (w.getD i default)).o (by omega) (by omega)))) (h1))),ah,ah,aC fun _=>dV rfl rfl rfl rfl rfl ((OpOk.dec_f (e8) (h2))),ah,ah,ah,ah,ah,ah,ah,aC fun _=>dV rfl rfl rfl rfl rfl (aj (lw) (hc:=(bA (zAt t (w.getD i default)).o (by omega)))),ah,ah,ah,ah,ah,ah,aC fun _=>dV rfl rfl rfl rfl rfl (aj (lw) (hc:=(bA (zAt t b).o (by omega)))),aC fun _=>dV rfl rfl rfl rfl rfl ((OpOk.dec_t (gW) (h3))),ah,ah,trivial⟩ ?_;iterate 9 refine ab ?_
    refine ⟨(i+1,w.getD i default),?_,Back.mk' (HasT.cons (HasT.cons HasT.nil)) HasH.nil,?_⟩
    ·
     try dsimp only
     exact ⟨by omega,by rw [bG (by omega),hb];exact mq (p:=fun z=>bQ n z.o) h1 (by rw [qv (by omega)];exact h3),by omega,by omega⟩
    ·
     try dsimp only
     first|omega|(simp;omega)
   ·
    have hbo:=(jT ht (i:=b) ⟨by omega,hb2⟩).1;refine bj [ag,ag,ag,ag,ag,ag,ag,ag,ag,ag,ag,ag,ag,ag,ag,ag,ag,ag,ag,ag,ag,ag,ag,ag,ag,ag,ag,ag,ag] [af [2] [] 17,af [3] [100] 18,af [17] [100] 19,af [9] [] 20,af [18,19] [] 21,af [20] [] 22,af [21] [] 23,af [16,22] [] 24,af [23] [] 25,af [7,24] [] 26,af [24,25] [] 27,af [24,26] [] 28,af [3,27] [100] 29,af [27,28] [100] 30,af [9,27] [] 31,af [27,29,30] [] 32,af [27,31] [] 33,af [27,32] [] 34,af [27,33] [] 35,af [3,27] [100] 36,af [27,35] [100] 37,af [7,27] [] 38,af [27,36,37] [] 39,af [27,38] [] 40,af [27,39] [] 41,af [27,40] [] 42,af [27,34,41] [] 43,af [24,27,42] [] 44,af [24,43] [] 45] rfl ⟨ah,ah,ah,ah,ah,ah,ah,aC fun _=>aN rfl rfl ((OpOk.bool_is (c:=true) (aj (lw) (hc:=(be n (zAt t (w.getD i default)).o (by omega) (by omega)))) (h1))),ah,ah,aC fun _=>dV rfl rfl rfl rfl rfl ((OpOk.dec_f (e8) (h2))),ah,ah,ah,ah,ah,ah,ah,aC fun _=>dV rfl rfl rfl rfl rfl (aj (lw) (hc:=(bA (zAt t (w.getD i default)).o (by omega)))),ah,ah,ah,ah,ah,ah,aC fun _=>dV rfl rfl rfl rfl rfl (aj (lw) (hc:=(bA (zAt t b).o (by omega)))),aC fun _=>dV rfl rfl rfl rfl rfl ((OpOk.dec_f (gW) (h3))),ah,ah,trivial⟩ ?_;iterate 6 refine ab ?_
    refine ⟨(i+1,b),?_,Back.mk' (HasT.cons (HasT.cons HasT.nil)) HasH.nil,?_⟩
    ·
     try dsimp only
     exact ⟨by omega,by rw [bG (by omega),hb];exact qt (by rw [qv (by omega)];exact h3),hb1,hb2⟩
    ·
     try dsimp only
     first|omega|(simp;omega)
   ·
    refine bj [ag,ag,ag,ag,ag,ag,ag,ag,ag,ag,ag,ag,ag,ag,ag,ag,ag,ag,ag,ag,ag,ag,ag,ag,ag,ag,ag,ag,ag] [af [2] [] 17,af [3] [100] 18,af [17] [100] 19,af [9] [] 20,af [18,19] [] 21,af [20] [] 22,af [21] [] 23,af [16,22] [] 24,af [23] [] 25,af [24] [] 26,af [24] [] 27,af [24] [] 28,af [27] [] 29,af [27] [] 30,af [27] [] 31,af [27] [] 32,af [27] [] 33,af [27] [] 34,af [27] [] 35,af [27] [] 36,af [27] [] 37,af [27] [] 38,af [27] [] 39,af [27] [] 40,af [27] [] 41,af [27] [] 42,af [27] [] 43,af [24] [] 44,af [24,43] [] 45] rfl ⟨ah,ah,ah,ah,ah,ah,ah,aC fun _=>aN rfl rfl ((OpOk.bool_is (c:=false) (aj (lw) (hc:=(be n (zAt t (w.getD i default)).o (by omega) (by omega)))) (h1))),ah,ah,ah,ah,DS.ok_over fun s0=>OpAt.gskipu rfl rfl rfl rfl rfl rfl rfl,DS.ok_over fun s0=>OpAt.gskipu rfl rfl rfl rfl rfl rfl rfl,DS.ok_over fun s0=>OpAt.gskipu rfl rfl rfl rfl rfl rfl rfl,DS.ok_over fun s0=>OpAt.gskipu rfl rfl rfl rfl rfl rfl rfl,DS.ok_over fun s0=>OpAt.gskipu rfl rfl rfl rfl rfl rfl rfl,DS.ok_over fun s0=>OpAt.gskipu rfl rfl rfl rfl rfl rfl rfl,DS.ok_over fun s0=>OpAt.gskipu rfl rfl rfl rfl rfl rfl rfl,DS.ok_over fun s0=>OpAt.gskipu rfl rfl rfl rfl rfl rfl rfl,DS.ok_over fun s0=>OpAt.gskipu rfl rfl rfl rfl rfl rfl rfl,DS.ok_over fun s0=>OpAt.gskipu rfl rfl rfl rfl rfl rfl rfl,DS.ok_over fun s0=>OpAt.gskipu rfl rfl rfl rfl rfl rfl rfl,DS.ok_over fun s0=>OpAt.gskipu rfl rfl rfl rfl rfl rfl rfl,DS.ok_over fun s0=>OpAt.gskipu rfl rfl rfl rfl rfl rfl rfl,DS.ok_over fun s0=>OpAt.gskipu rfl rfl rfl rfl rfl rfl rfl,DS.ok_over fun s0=>OpAt.gskipu rfl rfl rfl rfl rfl rfl rfl,ah,ah,trivial⟩ ?_;iterate 6 refine ab ?_
    refine ⟨(i+1,b),?_,Back.mk' (HasT.cons (HasT.cons HasT.nil)) HasH.nil,?_⟩
    ·
     try dsimp only
     exact ⟨by omega,by rw [bG (by omega),hb];exact qr (p:=fun z=>bQ n z.o) h1,hb1,hb2⟩
    ·
     try dsimp only
     first|omega|(simp;omega)
   ·
    refine bj [ag,ag,ag,ag,ag,ag,ag,ag,ag,ag,ag,ag,ag,ag,ag,ag,ag,ag,ag,ag,ag,ag,ag,ag,ag,ag,ag,ag,ag] [af [2] [] 17,af [3] [100] 18,af [17] [100] 19,af [9] [] 20,af [18,19] [] 21,af [20] [] 22,af [21] [] 23,af [16,22] [] 24,af [23] [] 25,af [7,24] [] 26,af [24,25] [] 27,af [24,26] [] 28,af [27] [] 29,af [27] [] 30,af [27] [] 31,af [27] [] 32,af [27] [] 33,af [27] [] 34,af [27] [] 35,af [27] [] 36,af [27] [] 37,af [27] [] 38,af [27] [] 39,af [27] [] 40,af [27] [] 41,af [27] [] 42,af [27] [] 43,af [24,27,42] [] 44,af [24,43] [] 45] rfl ⟨ah,ah,ah,ah,ah,ah,ah,aC fun _=>aN rfl rfl ((OpOk.bool_is (c:=true) (aj (lw) (hc:=(be n (zAt t (w.getD i default)).o (by omega) (by omega)))) (h1))),ah,ah,aC fun _=>dV rfl rfl rfl rfl rfl ((OpOk.dec_t (e8) (h2))),ah,ah,ah,ah,ah,ah,ah,ah,ah,ah,ah,ah,ah,ah,ah,ah,ah,ah,trivial⟩ ?_;iterate 9 refine ab ?_
    refine ⟨(i+1,w.getD i default),?_,Back.mk' (HasT.cons (HasT.cons HasT.nil)) HasH.nil,?_⟩
    ·
     try dsimp only
     exact ⟨by omega,by rw [bG (by omega),hb];exact mq (p:=fun z=>bQ n z.o) h1 (yh h2 _),by omega,by omega⟩
    ·
     try dsimp only
     first|omega|(simp;omega)
  ·
   iterate 10 refine ab ?_
   obtain rfl:i=w.length:=by omega
   rw [List.take_length] at hb;obtain rfl:b=fL t w n:=hb.symm;refine ak (0) [_] [_] ?_;rfl
end Go.Proofs.YthnfcmgpedppaaaGreat.Fw
