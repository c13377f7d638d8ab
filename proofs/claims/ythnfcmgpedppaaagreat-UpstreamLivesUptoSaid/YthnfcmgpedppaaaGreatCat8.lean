/- The texts V04g, V04h, V04i, V04j, V04k, V04m, V04n, one behind the other: what the walks and plain laws need; conditions stand with each theorem. -/
import Derived.Test.YthnfcmgpedppaaaGreatCat7
set_option linter.unusedVariables false
set_option linter.unusedSimpArgs false
set_option linter.unusedSectionVars false
set_option maxRecDepth 20000
set_option maxHeartbeats 4000000
namespace Go.Proofs.YthnfcmgpedppaaaGreat.Fw
open Go.RowKit
section
attribute [local irreducible] AWp AOps
theorem qT (n:List UInt8) (w:Wr) (v:Nat) (hn:bm n=true) (hw:WOk w) (hb:w.b.length≤10000000000) (hml:w.m.length≤10000000000) :
 AC Tryz.prog 50 [.ptr 0 0 0,str n] (ao [(0,.box [.sl 1 v 0 w.b.length 1,.sl 2 w.m.length 0 w.m.length 2]),(1,.row (cl bc w.b) 1 v),(2,.row (cl plC w.m) 2 w.m.length)])
  (bZ (.tup []) [(0,.box [.sl 1 (v+nmC (aP n) w) 0 (aG (aP n) w).b.length 1,.sl 2 (aG (aP n) w).m.length 0 (aG (aP n) w).m.length 2]),(1,.row (cl bc (aG (aP n) w).b) 1 (v+nmC (aP n) w)),(2,.row (cl plC (aG (aP n) w).m) 2 (aG (aP n) w).m.length)]):=by
 have h:=CI (aP n) w v (cj hn).1 hw hb hml;rw [(cj hn).2] at h;exact h
theorem A4 (m:List (List UInt8×Int)) (k:List UInt8) (v:Int):(cp m k v).length≤m.length+1:=by
 induction m with
 | nil=>simp [cp]
 | cons p m ih=>obtain ⟨a,b⟩:=p;simp only [cp];split<;>simp<;>omega
theorem rC:∀ {ls:List (List UInt8)} {w:Wr},(aG ls w).m.length≤w.m.length+ls.length
 | [],w=>by simp [aG]
 | l::ls,w=>by
  cases hm:bg w.m (aw (l::ls)) with
  | some a=>rw [(dx hm).1];simp
  | none=>
   rw [(cP hm).1];have h1:=rC (ls:=ls) (w:=w.put l ls);have h2:(w.put l ls).m.length≤w.m.length+1:=by
    unfold Wr.put;dsimp only;split
    · exact A4 _ _ _
    · omega
   simp only [List.length_cons];omega
theorem uo {n:List UInt8} (h:bm n=true) (w:Wr):(aG (aP n) w).m.length≤w.m.length+255:=by
 have h1:=rC (ls:=aP n) (w:=w);have h2:=cK (aP n);have h3:=(cj h).1.2;omega
theorem pL:∀ {L:List (List UInt8)} {w:Wr},(∀ n∈L,bm n=true)→(ba L w).m.length≤w.m.length+255*L.length
 | [],w,_=>Nat.le_refl _
 | n::L,w,hn=>by
  have h1:=uo (hn n (by simp)) w;have h2:=pL (L:=L) (w:=aG (aP n) w) (fun x hx=>hn x (by simp [hx]));simp only [ba,List.length_cons];omega
theorem rK {r:Rr} (hr:rOk r=true):(((bm r.nm=true∧rb [r.ty,r.cs]=true)∧0≤r.ttl)∧r.ttl<4294967296)∧fA r.ty r.da=true:=by simpa [rOk] using hr
theorem xR {r:Rr} {w:Wr} (hr:rOk r=true) (hw:WOk w):w.b.length≤(bC r w).b.length∧(bC r w).m.length≤w.m.length+765:=by
 obtain ⟨⟨⟨⟨r1,r2⟩,r3⟩,r4⟩,r5⟩:=rK hr;obtain ⟨a,b,c⟩:=eb (cj r1).1 hw;have h0:(du r w).b.length=(aG (aP r.nm) w).b.length+10:=by rw [du,List.length_append,kw];rfl
 have ha:WOk (⟨(du r w).b++cB r.ty r.da,(du r w).m⟩:Wr):=a;obtain ⟨d,e,f⟩:=mg (js r5).2.2.1 ha;have g:=pL (w:=⟨(du r w).b++cB r.ty r.da,(du r w).m⟩) (js r5).2.2.1;have k:=uo r1 w;have l:=sU r.ty r.da;constructor
 · rw [bC]
   show _≤(lS _ _).length;rw [nI,lQ];show _≤(_++_:List UInt8).length;rw [List.length_append];have f2:((du r w).b++cB r.ty r.da).length≤_:=f;rw [List.length_append] at f2;omega
 · have g2:(bC r w).m.length≤(du r w).m.length+255*(bF r.ty r.da).length:=g
   have k2:(du r w).m.length≤w.m.length+255:=k;omega
theorem qJ:∀ (l:List Rr) (p:Wr×Bool),p.2=false→(cz l p).2=false
 | [],p,h=>h
 | r::l,p,h=>by
  show (cz l (mJ p r)).2=false;rw [mJ,if_neg (by simp [h])];exact qJ l p h
theorem wq (l:List Rr) (i:Nat) (p:Wr×Bool):cz l p=cz (l.drop i) (cz (l.take i) p):=by
 conv=>lhs;rw [← List.take_append_drop i l,cz,List.foldl_append]
 rfl
theorem Br (x:List UInt8) (a b:Int):x++two a++two b=x++[a,b].flatMap two:=by simp
theorem zT (x:List UInt8) (r:Rr):x++two r.ty++two r.cs++yy r.ttl++[0,0]=x++(jX r).flatMap two:=by
 have:two 0=[0,0]:=by decide
 simp [jX,yy,this]
theorem F5 (r:Rr) (w0:Wr) (v0:Nat) (hr:rOk r=true) (hw:WOk w0) (hb:w0.b.length≤1000000000) (hml:w0.m.length≤1000000000):AC Tryz.prog 53 [.ptr 0 0 0,.agg (rrc r)] (ao [(0,.box [.sl 1 (v0) 0 (w0.b).length 1,.sl 2 (w0.m.length) 0 (w0.m).length 2]),(1,.row (cl bc (w0.b)) 1 (v0)),(2,.row (cl plC (w0.m)) 2 (w0.m.length))]) (bZ (tf (i5 r w0)) [(0,.box [.sl 1 (v0+ua r w0) 0 ((bC r w0).b).length 1,.sl 2 ((bC r w0).m.length) 0 ((bC r w0).m).length 2]),(1,.row (cl bc ((bC r w0).b)) 1 (v0+ua r w0)),(2,.row (cl plC ((bC r w0).m)) 2 ((bC r w0).m.length))]):=by
 obtain ⟨⟨⟨⟨r1,r2⟩,r3⟩,r4⟩,r5⟩:=rK hr;obtain ⟨d1,d2,d3,d4⟩:=js r5;obtain ⟨c1,c2,c3⟩:=eb (cj r1).1 hw;have c4:=(cj r1).1.2;have c5:=uo r1 w0;have d5:=sU r.ty r.da;obtain ⟨w1,hw1⟩:∃ w,w=aG (aP r.nm) w0:=⟨_,rfl⟩;have hwn:du r w0=⟨w1.b++(jX r).flatMap two,w1.m⟩:=by rw [hw1];rfl
 rw [← hw1] at c1 c2 c3 c5;refine AC.intro te_ok (fn:=Tryz.f53) ⟨Tryz.func53,rfl,rfl⟩ (aE rfl) ?_;iterate 2 refine ab ?_
 refine ai rfl rfl (aS 100) ?_;iterate 7 refine ab ?_
 refine ai rfl rfl (ay (0) [(0,0),(1,1),(2,2)] [] [(_,_),(_,_),(_,_)] (hc:=(qT r.nm w0 v0 r1 hw (by omega) (by omega)))) ?_;iterate 2 refine ab ?_
 rw [← hw1];refine bj [ag,ag,ag,ag,ag,ag,ag,ag,bv [(1,_)],ag,ag,ag,bv [(1,_)],ag,ag,ag,bv [(1,_)],ag,ag,bv [(0,_)]] [af [0] [] 15,af [0] [] 16,af [15] [0] 17,af [16] [0] 18,af [17] [0] 19,af [3] [100] 20,af [19] [100] 21,af [20] [] 22,af [18,21] [1] 23 [1],af [3] [100] 24,af [23] [100] 25,af [24] [] 26,af [22,25] [1] 27 [1],af [3] [100] 28,af [27] [100] 29,af [28] [] 30,af [26,29] [1] 31 [1],af [14] [0] 32,af [31] [0] 33,af [30,32] [0,1] 0 [0]] rfl ⟨ah,ah,ah,ah,ah,ah,ah,aC fun _=>aN rfl rfl (aj (0) (hc:=(si r.ty))),aC fun _=>aN rfl rfl (gY (hb:=by rw [show ∀ n,(two n).length=2 from fun _=>rfl];simp;omega)),ah,ah,aC fun _=>aN rfl rfl (aj (0) (hc:=(si r.cs))),aC fun _=>aN rfl rfl (gY (hb:=by rw [List.length_append,show ∀ n,(two n).length=2 from fun _=>rfl,show ∀ n,(two n).length=2 from fun _=>rfl];simp;omega)),ah,ah,aC fun _=>aN rfl rfl (aj (0) (hc:=(kM r.ttl ⟨r3,by omega⟩))),aC fun _=>aN rfl rfl (gY (hb:=by rw [List.length_append,List.length_append,show ∀ n,(two n).length=2 from fun _=>rfl,show ∀ n,(two n).length=2 from fun _=>rfl,show ∀ n,(yy n).length=4 from fun _=>rfl];simp;omega)),ah,ah,ah,trivial⟩ ?_;iterate 2 refine ab ?_
 obtain ⟨B0,hB0⟩:∃ b,b=w1.b++two r.ty++two r.cs++yy r.ttl:=⟨_,rfl⟩;rw [← hB0];have hB0l:B0.length=w1.b.length+8:=by rw [hB0,List.length_append,List.length_append,List.length_append];rfl
 iterate 14 refine ab ?_
 refine ai rfl rfl (bO 505 bc [0,0] [(_,_),(_,_)]) ?_;iterate 7 refine ab ?_
 obtain ⟨B1,hB1⟩:∃ b,b=B0++[0,0]:=⟨_,rfl⟩;rw [← hB1];have hB1w:w1.b++(jX r).flatMap two=B1:=by rw [hB1,hB0,zT]
 rw [hB1w] at hwn;have hBl:B1.length=B0.length+2:=by rw [hB1,List.length_append];rfl
 have hp:r.ty=15→cB r.ty r.da=r.da.take 2∧(cB r.ty r.da).length=2:=fun e=>by rw [cB,if_pos e];exact ⟨rfl,by rw [List.length_take];have:=d2 e;omega⟩
 have hq:r.ty≠15→cB r.ty r.da=[]:=fun e=>by rw [cB,if_neg e]
 have hd4:(cB r.ty r.da).length+(bF r.ty r.da).flatten.length≤r.da.length:=by have:=d4.length_le;rw [List.length_append] at this;exact this
 iterate 4 refine ab ?_
 refine AWp.cutR (α:=List UInt8×List UInt8×Nat) [6,49,50,51,52,53,54,55,56,57,58,59,60,61,62,63] (fun x_=>[(6,.fz 0 (x_.2.1).length (cl bc (x_.2.1)))]) (fun x_=>[(0,.box [.sl 1 (x_.2.2) 0 (x_.1).length 1,.sl 2 w1.m.length 0 w1.m.length 2]),(1,.row (cl bc (x_.1)) 1 (x_.2.2))]) (fun x_=>(x_.1)=B1++cB r.ty r.da∧(x_.2.1)=r.da.drop (cB r.ty r.da).length∧(x_.2.2)=v0+nmC (aP r.nm) w0+4+(if r.ty=15 then 1 else 0)) ?_ ?_
 ·
  iterate 4 refine ab ?_
  refine am (fun h6_2=>?_) (fun h6_2=>?_)
  ·
   iterate 3 refine ab ?_
   refine bj [ag,ag,ag,ag,ag,ag,ag,bv [(1,_)],ag,ag,bv [(0,_)]] [af [0] [] 53,af [0] [] 54,af [53] [0] 55,af [54] [0] 56,af [55] [0] 57,af [6] [] 58,af [57] [] 59,af [56,58] [1] 60 [1],af [52] [0] 61,af [60] [0] 62,af [59,61] [0,1] 0 [0]] rfl ⟨ah,ah,ah,ah,ah,ah,ah,ah,ah,ah,ah,trivial⟩ ?_;iterate 5 refine ab ?_
   refine ⟨(B1++r.da.take 2,r.da.drop 2,v0+nmC (aP r.nm) w0+4+1),?_,Back.mk' (HasT.cons HasT.nil) (HasH.cons (HasH.cons HasH.nil))⟩;try dsimp only
   exact ⟨by rw [(hp h6_2).1],by rw [(hp h6_2).2],by rw [if_pos h6_2]⟩
  ·
   iterate 3 refine ab ?_
   refine ⟨(B1,r.da,v0+nmC (aP r.nm) w0+4),?_,Back.mk' (HasT.cons HasT.nil) (HasH.cons (HasH.cons HasH.nil))⟩;try dsimp only
   exact ⟨by rw [hq h6_2];simp,by rw [hq h6_2];simp,by rw [if_neg h6_2]⟩
 ·
  rintro ⟨b2,D,v2⟩ hC9;change b2=B1++cB r.ty r.da∧D=r.da.drop (cB r.ty r.da).length∧v2=v0+nmC (aP r.nm) w0+4+(if r.ty=15 then 1 else 0) at hC9;obtain ⟨hb2,hD2,hv2⟩:=hC9;refine AWp.as (s':=AS.over _ [6,49,50,51,52,53,54,55,56,57,58,59,60,61,62,63] [(6,.fz 0 D.length (cl bc D))] [(0,.box [.sl 1 v2 0 b2.length 1,.sl 2 w1.m.length 0 w1.m.length 2]),(1,.row (cl bc b2) 1 v2)]) rfl ?_;iterate 7 refine ab ?_
  refine ai rfl rfl (aj (0) (hc:=(jR r.ty r.da 0 (by omega)))) ?_;iterate 4 refine ab ?_
  refine AWp.loopR (α:=Nat×Wr×Nat×List UInt8) [6,8,70,71,72,73,74,75,76,77,78,79,80,81] (fun x_=>[(70,i64 (x_.1)),(6,.fz 0 (x_.2.2.2).length (cl bc (x_.2.2.2)))]) (fun x_=>[(0,.box [.sl 1 ((x_.2.2.1)) 0 ((x_.2.1).b).length 1,.sl 2 ((x_.2.1).m.length) 0 ((x_.2.1).m).length 2]),(1,.row (cl bc ((x_.2.1).b)) 1 ((x_.2.2.1))),(2,.row (cl plC ((x_.2.1).m)) 2 ((x_.2.1).m.length))]) (fun x_=>(x_.1)≤(bF r.ty r.da).length∧(x_.2.1)=ba ((bF r.ty r.da).take (x_.1)) ⟨b2,w1.m⟩∧(x_.2.2.1)=v2+lL ((bF r.ty r.da).take (x_.1)) ⟨b2,w1.m⟩∧(x_.2.2.2)=r.da.drop ((cB r.ty r.da).length+((bF r.ty r.da).take (x_.1)).flatten.length)∧WOk (x_.2.1)∧(x_.2.1).b.length≤b2.length+255*(x_.1)∧b2.length≤(x_.2.1).b.length∧(x_.2.1).m.length≤w1.m.length+255*(x_.1)) (fun x_=>(bF r.ty r.da).length-(x_.1)) (0,⟨b2,w1.m⟩,v2,D) ?_ (Back.mk' (HasT.cons (HasT.cons HasT.nil)) (HasH.cons (HasH.cons (HasH.cons HasH.nil)))) ?_
  ·
   exact ⟨Nat.zero_le _,rfl,rfl,hD2,c1,Nat.le_refl _,Nat.le_refl _,Nat.le_refl _⟩
  ·
   rintro ⟨i,w,v,D⟩ hI10;change i≤(bF r.ty r.da).length∧w=ba ((bF r.ty r.da).take i) ⟨b2,w1.m⟩∧v=v2+lL ((bF r.ty r.da).take i) ⟨b2,w1.m⟩∧D=r.da.drop ((cB r.ty r.da).length+((bF r.ty r.da).take i).flatten.length)∧WOk w∧w.b.length≤b2.length+255*i∧b2.length≤w.b.length∧w.m.length≤w1.m.length+255*i at hI10;obtain ⟨hi,hw,hv,hD,hW,hB,hB2,hM⟩:=hI10;refine AWp.as (s':=AS.over _ [6,8,70,71,72,73,74,75,76,77,78,79,80,81] [(70,i64 i),(6,.fz 0 D.length (cl bc D))] [(0,.box [.sl 1 (v) 0 (w.b).length 1,.sl 2 (w.m.length) 0 (w.m).length 2]),(1,.row (cl bc (w.b)) 1 (v)),(2,.row (cl plC (w.m)) 2 (w.m.length))]) rfl ?_;have hDl:=congrArg List.length hD;rw [List.length_drop] at hDl;have hbl:=congrArg List.length hb2;rw [List.length_append] at hbl;iterate 2 refine ab ?_
   refine am (fun h10_0=>?_) (fun h10_0=>?_)
   ·
    iterate 8 refine ab ?_
    have hmem:(bF r.ty r.da).getD i default∈bF r.ty r.da:=dT (by omega);have hst:=mD (L:=bF r.ty r.da) (i:=i) (by omega) ⟨b2,w1.m⟩;have hfs:=s7 (L:=bF r.ty r.da) (i:=i) (by omega);obtain ⟨k1,k2,k3⟩:=eb (cj (d3 _ hmem)).1 hW;have k4:=(cj (d3 _ hmem)).1.2;have k6:=uo (d3 _ hmem) w;have k5:=d0 (bF r.ty r.da) (i+1);have hgl:((bF r.ty r.da)[i]?.getD default).length=((bF r.ty r.da).getD i default).length:=by rw [← List.getD_eq_getElem?_getD]
    have hgt:((bF r.ty r.da).getD (i:Int).toNat default).length=((bF r.ty r.da).getD i default).length:=rfl;iterate 8 refine ab ?_
    refine ai rfl rfl (ay (0) [(0,0),(1,1),(2,2)] [] [(_,_),(_,_),(_,_)] (hc:=(qT ((bF r.ty r.da).getD i default) w v (d3 _ hmem) hW (by omega) (by omega)))) ?_;iterate 12 refine ab ?_
    refine ⟨(i+1,aG (aP ((bF r.ty r.da).getD i default)) w,v+nmC (aP ((bF r.ty r.da).getD i default)) w,D.drop ((bF r.ty r.da).getD i default).length),?_,Back.mk' (HasT.cons (HasT.cons HasT.nil)) (HasH.cons (HasH.cons (HasH.cons HasH.nil))),?_⟩
    ·
     try dsimp only
     exact ⟨by omega,by rw [hst.1,hw],by rw [hst.2,hv,hw];omega,by rw [hfs,hD,List.drop_drop];congr 1;omega,k1,by omega,by omega,by omega⟩
    ·
     try dsimp only
     first|omega|(simp;omega)
   ·
    iterate 6 refine ab ?_
    obtain rfl:i=(bF r.ty r.da).length:=by omega
    rw [List.take_length] at hv hD hw hDl;have hwd:lQ r (du r w0)=⟨w.b++D,w.m⟩:=by
     rw [hwn,lQ];show Wr.mk ((ba (bF r.ty r.da) ⟨B1++cB r.ty r.da,w1.m⟩).b++r.da.drop (dN r)) (ba (bF r.ty r.da) ⟨B1++cB r.ty r.da,w1.m⟩).m=_;rw [← hb2,← hw,hD];rfl
    have hr1:(bC r w0).b=lS (w.b++D) B1.length:=by rw [bC,hwd,hwn]
    have hr2:(bC r w0).m=w.m:=by rw [bC,hwd]
    have hr3:(bC r w0).b.length=(w.b++D).length:=by rw [hr1,nI]
    have hr4:v0+ua r w0=v+1:=by
     rw [ua,hwn,hv,hv2];show v0+(_+4+_+lL (bF r.ty r.da) ⟨B1++cB r.ty r.da,w1.m⟩+1)=_;rw [← hb2];omega
    have hr5:i5 r w0=decide (((w.b++D).length:Int)-B0.length-2≤65535):=by rw [i5,hwd,hwn];exact decide_eq_decide.2 (by show ((w.b++D).length:Int)-(B1.length:Int)<65536↔_;omega)
    iterate 24 refine ab ?_
    refine bj [ag,ag,ag,ag,ag,ag,ag,ag,ag,ag,ag,ag,ag,ag,ag,ag,ag,bv [(1,_)],ag,bv [(1,_)]] [af [0] [] 100,af [99] [0] 101,af [100] [0] 102,af [101] [0] 103,af [5] [] 104,af [0] [] 105,af [104] [0] 106,af [105] [0] 107,af [106] [0] 108,af [5] [] 109,af [108] [] 110,af [9] [] 111,af [110] [] 112,af [111] [] 113,af [9] [] 114,af [113] [] 115,af [102,103] [1] 116,af [112,115] [1] 0 [1],af [107,109] [1] 117,af [114,116] [1] 0 [1]] rfl ⟨ah,ah,ah,ah,ah,ah,ah,ah,ah,ah,ah,ah,aC fun _=>aN rfl rfl (ge 8),ah,ah,ah,ah,ah,ah,ah,trivial⟩ ?_;iterate 3 refine ab ?_
    refine ai rfl rfl (iN) ?_;iterate 3 refine ab ?_
    rw [zr hBl,hr3,hr1,hr2,hr4,hr5];refine aQ (0) [] [_] [_] [(_,_),(_,_),(_,_)] ?_;rfl
theorem t8 {m:Msg} {i:Nat} (h:jO m=true) (hb:(cz (m.rrs.take i) (cC m.qs (hdW m),decide (((cC m.qs (hdW m)).b.length:Int)≤65535))).2=false):dI m=[]∧gr m=42:=by
 have:(kF m).2=false:=by rw [kF,wq _ i];exact qJ _ _ hb
 rw [dI,gr,if_pos h,if_pos h,if_neg (by simp [this]),if_neg (by simp [this])];exact ⟨rfl,rfl⟩
theorem u4 {m:Msg} {i:Nat} {w:Wr} (hI:(i=0∧w=cC m.qs (hdW m))∨(cz (m.rrs.take i) (cC m.qs (hdW m),decide (((cC m.qs (hdW m)).b.length:Int)≤65535))=(w,true)∧w.b.length≤65535)) (hi:i<m.rrs.length)
 (hb:i5 (m.rrs.getD i default) w=false∨65535<((bC (m.rrs.getD i default) w).b.length:Int)):(cz (m.rrs.take (i+1)) (cC m.qs (hdW m),decide (((cC m.qs (hdW m)).b.length:Int)≤65535))).2=false:=by
 have h1:(cz (m.rrs.take i) (cC m.qs (hdW m),decide (((cC m.qs (hdW m)).b.length:Int)≤65535))).1=w:=by
  rcases hI with ⟨rfl,rfl⟩|⟨e,_⟩
  · rfl
  · rw [e]
 rw [od hi,mJ];split
 · show (i5 _ _&&decide _)=false
   rw [h1];rcases hb with h|h
   · rw [h];rfl
   · rw [decide_eq_false (by omega),Bool.and_false]
 · rename_i h;simpa using h
theorem AE {m:Msg} {w:Wr} (h:jO m=true) (hb:cz m.rrs (cC m.qs (hdW m),decide (((cC m.qs (hdW m)).b.length:Int)≤65535))=(w,true)):dI m=w.b∧gr m=0:=by
 have:kF m=(w,true):=hb;rw [dI,gr,if_pos h,if_pos h,this];exact ⟨rfl,rfl⟩
theorem dO (m:Msg) (h:gp m) (hn:oB m):AC Tryz.prog 22 [.agg (dn m)] emp (Ret (.tup [.fz 0 (dI m).length (cl bc (dI m)),i64 (gr m)])):=by
 refine AC.intro te_ok (fn:=Tryz.f22) ⟨Tryz.func22,rfl,rfl⟩ (aE rfl) ?_;iterate 2 refine ab ?_
 refine ai rfl rfl (aS 100) ?_;refine ai rfl rfl (aR (0) bc) ?_;iterate 6 refine ab ?_
 refine AOps.bool rfl rfl (aj (0) (hc:=(lN m h hn))) (fun h1_1=>?_) (fun h1_1=>?_)
 ·
  iterate 6 refine ab ?_
  obtain ⟨p1,p2,p3⟩:=jw (m:=m) h1_1;have hW0:WOk (hdW m):=fun k a h=>by cases h
  have hz:=t6.2 p1;have hbl:(hdW m).b.length=12:=by
   show (hB (nD m.h) m.qs.length m.an.length m.au.length m.ad.length).length=12;rw [qE p1,Hd.bytes_length]
  obtain ⟨k1,k2,k3,k4⟩:=eM p1;have hrl:m.rrs.length≤196605:=by simp only [Msg.rrs,List.length_append];omega
  refine ai rfl rfl (aL []) ?_;refine ai rfl rfl (aS 401) ?_;iterate 3 refine ab ?_
  refine bj [ag,ag,ag,ag,ag,bv [(5058,_)],ag,ag,ag,ag,ag,bv [(401,_)]] [af [4] [] 16,af [1] [100] 17,af [16] [100] 18,af [1] [100] 19,af [18] [] 20,af [17,19] [5058] 21 [5058],af [20] [] 15,af [14] [5058] 22,af [14] [5058] 23,af [15] [401] 24,af [23] [401] 25,af [21,24] [401] 0 [401]] rfl ⟨ah,ah,ah,ah,aC fun _=>aN rfl rfl (aj (0) (hc:=(dM m))),aC fun _=>aN rfl rfl (ay (0) [] [(8,5058)] [(_,_)] (hc:=(pa (nD m.h) m.qs.length m.an.length m.au.length m.ad.length))),ah,ah,ah,ah,ah,ah,trivial⟩ ?_;iterate 3 refine ab ?_
  refine AOps.weak (Weak.nilcell 401 9000 1 2 plC) ?_;iterate 6 refine ab ?_
  refine AWp.loopR (α:=Nat×Wr×Nat×Nat) [6,28,29,30,31,32,33,34,35,36,37,38,39,40,41,42,43,44,45,46,47,48,49,50,51] (fun x_=>[(28,i64 (x_.1))]) (fun x_=>[(401,.box [.sl 5058 ((x_.2.2.1)) 0 ((x_.2.1).b).length 1,.sl 9000 ((x_.2.2.2)) 0 ((x_.2.1).m).length 2]),(5058,.row (cl bc ((x_.2.1).b)) 1 ((x_.2.2.1))),(9000,.row (cl plC ((x_.2.1).m)) 2 ((x_.2.2.2)))]) (fun x_=>(x_.1)≤m.qs.length∧(x_.2.1)=cC (m.qs.take (x_.1)) (hdW m)∧WOk (x_.2.1)∧(x_.2.1).b.length≤12+259*(x_.1)∧(x_.2.1).m.length≤255*(x_.1)∧(x_.2.2.2)=(x_.2.1).m.length) (fun x_=>m.qs.length-(x_.1)) (0,hdW m,0,0) ?_ (Back.mk' (HasT.cons HasT.nil) (HasH.cons (HasH.cons (HasH.cons HasH.nil)))) ?_
  ·
   exact ⟨Nat.zero_le _,rfl,hW0,by show (hdW m).b.length≤_;omega,Nat.le_refl _,rfl⟩
  ·
   rintro ⟨i,w,v,u⟩ hI6;change i≤m.qs.length∧w=cC (m.qs.take i) (hdW m)∧WOk w∧w.b.length≤12+259*i∧w.m.length≤255*i∧u=w.m.length at hI6;obtain ⟨hi,hw,hW,hB,hM,hu⟩:=hI6;refine AWp.as (s':=AS.over _ [6,28,29,30,31,32,33,34,35,36,37,38,39,40,41,42,43,44,45,46,47,48,49,50,51] [(28,i64 i)] [(401,.box [.sl 5058 (v) 0 (w.b).length 1,.sl 9000 (u) 0 (w.m).length 2]),(5058,.row (cl bc (w.b)) 1 (v)),(9000,.row (cl plC (w.m)) 2 (u))]) rfl ?_;subst hu;iterate 2 refine ab ?_
   refine am (fun h6_0=>?_) (fun h6_0=>?_)
   ·
    iterate 8 refine ab ?_
    have hq:=yZ (p2 _ (dT (i:=i) (by omega))) hW;have hqm:=uo hq.1 w;have hst:=sd (l:=m.qs) (i:=i) (by omega) (hdW m);iterate 2 refine ab ?_
    refine ai rfl rfl (ap 802) ?_;iterate 7 refine ab ?_
    refine ai rfl rfl (ay (0) [(0,401),(1,5058),(2,9000)] [] [(_,_),(_,_),(_,_)] (hc:=(qT (m.qs.getD i default).nm w v hq.1 hW (by omega) (by omega)))) ?_;refine ab ?_;refine bj [ag,ag,ag,ag,ag,ag,ag,ag,bv [(5058,_)],ag,ag,ag,bv [(5058,_)],ag,ag,bv [(401,_)]] [af [4] [] 37,af [4] [] 38,af [37] [401] 39,af [38] [401] 40,af [39] [401] 41,af [6] [802] 42,af [41] [802] 43,af [42] [] 44,af [40,43] [5058] 45 [5058],af [6] [802] 46,af [45] [802] 47,af [46] [] 48,af [44,47] [5058] 49 [5058],af [36] [401] 50,af [49] [401] 51,af [48,50] [401,5058] 0 [401]] rfl ⟨ah,ah,ah,ah,ah,ah,ah,aC fun _=>aN rfl rfl (aj (0) (hc:=(si (m.qs.getD i default).ty))),aC fun _=>aN rfl rfl (gY (hb:=by rw [show ∀ n,(two n).length=2 from fun _=>rfl];simp only [Nat.mul_one];omega)),ah,ah,aC fun _=>aN rfl rfl (aj (0) (hc:=(si (m.qs.getD i default).cs))),aC fun _=>aN rfl rfl (gY (hb:=by rw [List.length_append,show ∀ n,(two n).length=2 from fun _=>rfl,show ∀ n,(two n).length=2 from fun _=>rfl];simp only [Nat.mul_one];omega)),ah,ah,ah,trivial⟩ ?_;iterate 4 refine ab ?_
    rw [Br];refine ⟨(i+1,wrQ (m.qs.getD i default) w,v+nmC (aP (m.qs.getD i default).nm) w+2,(wrQ (m.qs.getD i default) w).m.length),?_,Back.mk' (HasT.cons HasT.nil) (HasH.cons (HasH.cons (HasH.cons HasH.nil))),?_⟩
    ·
     try dsimp only
     exact ⟨by omega,by rw [hst,hw],hq.2.2.1,by have:=hq.2.2.2.2;omega,by have:(wrQ (m.qs.getD i default) w).m.length≤w.m.length+255:=hqm;omega,rfl⟩
    ·
     try dsimp only
     first|omega|(simp;omega)
   ·
    iterate 7 refine ab ?_
    obtain rfl:i=m.qs.length:=by omega
    rw [List.take_length] at hw;refine ab ?_;refine ai rfl rfl (aj (0) (hc:=(gz m h p1))) ?_;iterate 4 refine ab ?_
    refine AWp.loopR (α:=Nat×Wr×Nat×Nat) [2,3,8,55,56,57,58,59,60,61,62,63,64,65,66,67,68,69,70,71] (fun x_=>[(55,i64 (x_.1))]) (fun x_=>[(401,.box [.sl 5058 ((x_.2.2.1)) 0 ((x_.2.1).b).length 1,.sl 9000 ((x_.2.2.2)) 0 ((x_.2.1).m).length 2]),(5058,.row (cl bc ((x_.2.1).b)) 1 ((x_.2.2.1))),(9000,.row (cl plC ((x_.2.1).m)) 2 ((x_.2.2.2)))]) (fun x_=>(x_.1)≤m.rrs.length∧WOk (x_.2.1)∧(x_.2.1).m.length≤255*m.qs.length+765*(x_.1)∧(x_.2.2.2)=(x_.2.1).m.length∧(x_.2.1).b.length≤20000000∧(((x_.1)=0∧(x_.2.1)=cC m.qs (hdW m))∨(cz (m.rrs.take (x_.1)) (cC m.qs (hdW m),decide (((cC m.qs (hdW m)).b.length:Int)≤65535))=((x_.2.1),true)∧(x_.2.1).b.length≤65535))) (fun x_=>m.rrs.length-(x_.1)) (0,w,v,w.m.length) ?_ (Back.mk' (HasT.cons HasT.nil) (HasH.cons (HasH.cons (HasH.cons HasH.nil)))) ?_
    ·
     exact ⟨Nat.zero_le _,hW,by show w.m.length≤_;omega,rfl,by show w.b.length≤_;omega,.inl ⟨rfl,hw⟩⟩
    ·
     rintro ⟨i,w,v,u⟩ hI12;change i≤m.rrs.length∧WOk w∧w.m.length≤255*m.qs.length+765*i∧u=w.m.length∧w.b.length≤20000000∧((i=0∧w=cC m.qs (hdW m))∨(cz (m.rrs.take i) (cC m.qs (hdW m),decide (((cC m.qs (hdW m)).b.length:Int)≤65535))=(w,true)∧w.b.length≤65535)) at hI12;obtain ⟨hi,hW,hM,hu,hB,hI⟩:=hI12;refine AWp.as (s':=AS.over _ [2,3,8,55,56,57,58,59,60,61,62,63,64,65,66,67,68,69,70,71] [(55,i64 i)] [(401,.box [.sl 5058 (v) 0 (w.b).length 1,.sl 9000 (u) 0 (w.m).length 2]),(5058,.row (cl bc (w.b)) 1 (v)),(9000,.row (cl plC (w.m)) 2 (u))]) rfl ?_;subst hu;iterate 2 refine ab ?_
     refine am (fun h12_0=>?_) (fun h12_0=>?_)
     ·
      iterate 8 refine ab ?_
      have hr:=p3 _ (dT (l:=m.rrs) (i:=i) (by omega));have hst:=od (l:=m.rrs) (i:=i) (by omega) (cC m.qs (hdW m),decide (((cC m.qs (hdW m)).b.length:Int)≤65535));rw [mJ] at hst;obtain ⟨l1,l2⟩:=xR hr hW;iterate 2 refine ab ?_
      refine ai rfl rfl (ap 1402) ?_;iterate 6 refine ab ?_
      refine ai rfl rfl (ay (0) [(0,401),(1,5058),(2,9000)] [] [(_,_),(_,_),(_,_)] (hc:=(F5 (m.rrs.getD i default) w v hr hW (by omega) (by omega)))) ?_;refine ab ?_;refine AOps.bool rfl rfl (aA) (fun h14_4=>?_) (fun h14_4=>?_)
      ·
       iterate 11 refine ab ?_
       refine ai rfl rfl (aR (0) bc) ?_;iterate 3 refine ab ?_
       refine ak (0) [_,_] [_,_] ?_;obtain ⟨e1,e2⟩:=t8 h1_1 (u4 hI (by omega) (.inl (by simpa using h14_4)));rw [e1,e2];rfl
      ·
       iterate 5 refine ab ?_
       refine am (fun h14_10=>?_) (fun h14_10=>?_)
       ·
        iterate 5 refine ab ?_
        refine ai rfl rfl (aR (0) bc) ?_;iterate 3 refine ab ?_
        refine ak (0) [_,_] [_,_] ?_;obtain ⟨e1,e2⟩:=t8 h1_1 (u4 hI (by omega) (.inr (by omega)));rw [e1,e2];rfl
       ·
        iterate 8 refine ab ?_
        refine ⟨(i+1,bC (m.rrs.getD i default) w,v+ua (m.rrs.getD i default) w,(bC (m.rrs.getD i default) w).m.length),?_,Back.mk' (HasT.cons HasT.nil) (HasH.cons (HasH.cons (HasH.cons HasH.nil))),?_⟩
        ·
         try dsimp only
         have hok:i5 (m.rrs.getD i default) w=true:=by simpa using h14_4
         refine ⟨by omega,pK hr hW,by omega,rfl,by omega,.inr ⟨?_,by omega⟩⟩;have hs:cz (m.rrs.take i) (cC m.qs (hdW m),decide (((cC m.qs (hdW m)).b.length:Int)≤65535))=(w,true):=by
          rcases hI with ⟨e1,e2⟩|e1
          · subst e1;rw [← e2];show (w,_)=_;rw [decide_eq_true (by omega)]
          · exact e1.1
         rw [hst,hs];show (if true=true then (bC (m.rrs.getD i default) w,i5 (m.rrs.getD i default) w&&decide (((bC (m.rrs.getD i default) w).b.length:Int)≤65535)) else (w,true))=_;rw [if_pos rfl,hok,Bool.true_and,decide_eq_true (by omega)]
        ·
         try dsimp only
         first|omega|(simp;omega)
     ·
      iterate 7 refine ab ?_
      obtain rfl:i=m.rrs.length:=by omega
      rw [List.take_length] at hI;iterate 5 refine ab ?_
      refine am (fun h17_5=>?_) (fun h17_5=>?_)
      ·
       iterate 4 refine ab ?_
       refine ai rfl rfl (aR (0) bc) ?_;iterate 3 refine ab ?_
       refine ak (0) [_,_] [_,_] ?_;rcases hI with ⟨g1,g2⟩|⟨g1,g2⟩
       · obtain ⟨e1,e2⟩:=t8 (i:=0) h1_1 (by show decide _=false;rw [← g2,decide_eq_false (by omega)])
         rw [e1,e2];rfl
       · omega
      ·
       iterate 13 refine ab ?_
       refine ak (0) [_,_] [_,_] ?_;have hg:cz m.rrs (cC m.qs (hdW m),decide (((cC m.qs (hdW m)).b.length:Int)≤65535))=(w,true):=by
        rcases hI with ⟨g1,g2⟩|⟨g1,g2⟩
        · rw [List.length_eq_zero_iff.1 g1,← g2];show (w,_)=_;rw [decide_eq_true (by omega)]
        · exact g1
       obtain ⟨e1,e2⟩:=AE h1_1 hg;rw [e1,e2];rfl
 ·
  iterate 5 refine ab ?_
  refine ai rfl rfl (aR (0) bc) ?_;iterate 3 refine ab ?_
  refine ak (0) [_,_] [_,_] ?_;rw [dI,gr,h1_1];rfl
end
section
attribute [local irreducible] AWp AOps
def pE (e:Int):Value:=.iface 29 (.int .i64 e)
def pNo (c:Bool) (e:Int):Option Value:=if c then none else some (pE e)
theorem cf {c:Bool} {e:Int} {x:Value} (h:pNo c e=some x):c=false∧pE e=x:=by
 cases c with
 | true=>cases h
 | false=>exact ⟨rfl,by simpa [pNo] using h⟩
theorem d6 {c:Bool} {e:Int} (h:pNo c e=none):c=true:=by
 cases c with
 | true=>rfl
 | false=>simp [pNo] at h
def nP {α:Type}:Except Int α→Option Value
 | .error e=>some (pE e)
 | .ok _=>none
def jL {α:Type} [Inhabited α]:Except Int α→α
 | .error _=>default
 | .ok a=>a
def kB (b:List UInt8) (i:Nat):Nat:=(b.getD i default).toNat
def toI (b:List UInt8) (i:Nat):Nat:=kB b i%64*256+kB b (i+1)
theorem DB (b:List UInt8) (i:Nat):kB b i<256:=(b.getD i default).toNat_lt
def rdN (b:List UInt8) (sh:Int) (p fi li:Nat) (bh:Option Nat) (n:List UInt8):Except Int (List UInt8×Nat):=
 if h0:li≤p then .error sh
 else if kB b p=0 then (if n.length<255 then .ok (n++[0],bh.getD (p+1)) else .error 11)
 else if 192≤kB b p then
  (if li≤p+1 then .error sh
  else if h:toI b p<fi then rdN b sh (toI b p) (toI b p) b.length (some (bh.getD (p+2))) n
  else .error 40)
 else if 64≤kB b p then .error 10
 else if li<p+1+kB b p then .error sh
 else if (n++(b.take (p+1+kB b p)).drop p).length<255 then rdN b sh (p+1+kB b p) fi li bh (n++(b.take (p+1+kB b p)).drop p)
 else .error 11
termination_by (fi,li-p)
decreasing_by
 · exact Prod.Lex.left _ _ h
 · exact Prod.Lex.right _ (by omega)
section rdN
variable {b:List UInt8} {sh:Int} {p fi li:Nat} {bh:Option Nat} {n:List UInt8}
theorem ec (h:li≤p):rdN b sh p fi li bh n=.error sh:=by rw [rdN,dif_pos h]
theorem eg (h:¬ li≤p) (h1:kB b p=0) (h2:n.length<255):rdN b sh p fi li bh n=.ok (n++[0],bh.getD (p+1)):=by rw [rdN,dif_neg h,if_pos h1,if_pos h2]
theorem dk (h:¬ li≤p) (h1:kB b p=0) (h2:¬ n.length<255):rdN b sh p fi li bh n=.error 11:=by rw [rdN,dif_neg h,if_pos h1,if_neg h2]
theorem dA (h:¬ li≤p) (h1:192≤kB b p) (h2:li≤p+1):rdN b sh p fi li bh n=.error sh:=by rw [rdN,dif_neg h,if_neg (by omega),if_pos h1,if_pos h2]
theorem fk (h:¬ li≤p) (h1:192≤kB b p) (h2:¬ li≤p+1) (h3:¬ toI b p<fi):rdN b sh p fi li bh n=.error 40:=by rw [rdN,dif_neg h,if_neg (by omega),if_pos h1,if_neg h2,dif_neg h3]
theorem ed (h:¬ li≤p) (h1:192≤kB b p) (h2:¬ li≤p+1) (h3:toI b p<fi):rdN b sh p fi li bh n=rdN b sh (toI b p) (toI b p) b.length (some (bh.getD (p+2))) n:=by rw [rdN,dif_neg h,if_neg (by omega),if_pos h1,if_neg h2,dif_pos h3]
theorem ef (h:¬ li≤p) (h1:64≤kB b p) (h2:¬ 192≤kB b p):rdN b sh p fi li bh n=.error 10:=by rw [rdN,dif_neg h,if_neg (by omega),if_neg h2,if_pos h1]
theorem dD (h:¬ li≤p) (h1:kB b p≠0) (h2:¬ 64≤kB b p) (h3:li<p+1+kB b p):rdN b sh p fi li bh n=.error sh:=by rw [rdN,dif_neg h,if_neg h1,if_neg (by omega),if_neg h2,if_pos h3]
theorem ee (h:¬ li≤p) (h1:kB b p≠0) (h2:¬ 64≤kB b p) (h3:¬ li<p+1+kB b p) (h4:¬ (n++(b.take (p+1+kB b p)).drop p).length<255):rdN b sh p fi li bh n=.error 11:=by rw [rdN,dif_neg h,if_neg h1,if_neg (by omega),if_neg h2,if_neg h3,if_neg h4]
theorem fV (h:¬ li≤p) (h1:kB b p≠0) (h2:¬ 64≤kB b p) (h3:¬ li<p+1+kB b p) (h4:(n++(b.take (p+1+kB b p)).drop p).length<255):rdN b sh p fi li bh n=rdN b sh (p+1+kB b p) fi li bh (n++(b.take (p+1+kB b p)).drop p):=by rw [rdN,dif_neg h,if_neg h1,if_neg (by omega),if_neg h2,if_neg h3,if_pos h4]
end rdN
def bhI:Option Nat→Int
 | none=>-1
 | some a=>a
theorem xK {o:Option Nat} (h:bhI o<0):o=none:=by
 cases o with
 | none=>rfl
 | some a=>simp only [bhI] at h;omega
theorem xJ {o:Option Nat} (h:¬ bhI o<0):∃ a,o=some a:=by
 cases o with
 | none=>exact absurd (by decide) h
 | some a=>exact ⟨a,rfl⟩
theorem GI (k:Nat):(((k:Int).toNat &&& (63:Int).toNat:Nat):Int)=((k%64:Nat):Int):=by
 rw [Int.toNat_natCast,show (63:Int).toNat=2 ^ 6-1 by decide,Nat.and_two_pow_sub_one_eq_mod]
theorem Et (k:Nat) (q:UInt8):((((k%64:Nat):Int)*2 ^ 8).toNat ||| ((q.toNat:Int)).toNat:Nat)=k%64*256+q.toNat:=by
 have hq:=q.toNat_lt;have e:(((k%64:Nat):Int)*2 ^ 8).toNat=2 ^ 8*(k%64):=by omega
 rw [e,Int.toNat_natCast,← Nat.two_pow_add_eq_or_of_lt (by omega:q.toNat<2 ^ 8) (k%64)];omega
theorem BQ {n:Nat} {s:AS} {o:Oper} {d:Option Tmp} {t u:TypeId} {x y:Operand} {k:Nat} (ho:o.op=.binOp .and t x y u:=by exact rfl) (hx:s.ev x=i64 k:=by exact rfl) (hy:s.ev y=i64 63:=by exact rfl) (hk:k<256)
 (hdd:o.dst=d:=by conv=>lhs;whnf) (hd:d.all (Nat.blt · n)=true:=by exact rfl):OpOk Tryz.prog n o s (s.put d (i64 ((k%64:Nat):Int))):=by
 rw [← GI];exact fo ho hx hy (by omega) (by omega) hdd hd
theorem Gl {n:Nat} {s:AS} {o:Oper} {d:Option Tmp} {t u:TypeId} {x y:Operand} {k:Nat} {q:UInt8} (ho:o.op=.binOp .or t x y u:=by exact rfl) (hx:s.ev x=i64 (((k%64:Nat):Int)*2 ^ 8):=by exact rfl) (hy:s.ev y=i64 q.toNat:=by exact rfl)
 (hdd:o.dst=d:=by conv=>lhs;whnf) (hd:d.all (Nat.blt · n)=true:=by exact rfl):OpOk Tryz.prog n o s (s.put d (i64 ((k%64*256+q.toNat:Nat):Int))):=by
 have hq:=q.toNat_lt;rw [← Et];exact vP ho hx hy (by omega) (by omega) hdd hd
theorem co (c:Bool) (e:Int):AC Tryz.prog 130 [tf c,i64 e] (ao []) (oA (pNo c e) (.tup []) [] (fun k=>[])):=by
 refine AC.intro te_ok (fn:=Tryz.f130) ⟨Tryz.func130,rfl,rfl⟩ (aE rfl) ?_;iterate 2 refine ab ?_
 refine AOps.bool rfl rfl (aA) (fun h0_0=>?_) (fun h0_0=>?_)
 ·
  iterate 4 refine ab ?_
  show Fin te Tryz.f130 _ _;obtain rfl:c=true:=by simpa using h0_0
  refine Fin.retP (by rfl) ?_;refine aQ (0) [] [] [] [] ?_;rfl
 ·
  iterate 5 refine ab ?_
  refine ai rfl rfl (zF) ?_;refine AOps.panic ?_;show Post te Tryz.f130 _ (.panic _) _;refine Post.panicH (0) (0) ?_ (by repeat' (first|exact trivial|exact aK rfl|exact bd rfl rfl|exact aV rfl rfl|exact bw rfl rfl|exact aF (fun _=>rfl)|refine ar ?_|refine ⟨rfl,⟨_,rfl,?_⟩,?_⟩|refine ⟨?_,?_⟩)) rfl;rw [show c=false by simpa using h0_0];rfl
theorem qU (b:List UInt8) (sh:Int) (p0 en:Nat) (hb:b.length≤65535) (he:en≤b.length) (hp:p0≤100000):AC Tryz.prog 132 [.ptr 0 0 0,i64 en,i64 sh] (ao [(0,.box [.fz 1 b.length (cl bc b),i64 p0])]) (oA (nP (rdN b sh p0 p0 en none [])) (str (jL (rdN b sh p0 p0 en none [])).1) [(0,.box [.fz 1 b.length (cl bc b),i64 (jL (rdN b sh p0 p0 en none [])).2])] (fun k=>[(0,.box [.fz 1 b.length (cl bc b),i64 k])])):=by
 refine AC.intro te_ok (fn:=Tryz.f132) ⟨Tryz.func132,rfl,rfl⟩ (aE rfl) ?_;iterate 4 refine ab ?_
 refine AWp.jumpsR (α:=Nat×Nat×Nat×Option Nat×List UInt8×Nat) 0 [6,7,8,9,10,11,12,13,14,15,16,17,18,19,20,21,22,23,24,25,26,27,28,29,30,31,32,33,34,35,36,37,38,39,40,41,42,43,44,45,46,47,48,49,50,51,52,53,54,55,56,57,58,59,60,61,62,63,64,65,66,67,68,69,70,71,72,73,74,75,76,77,78,79,80,81,82,83,84,85,86,87,88,89,90,91,92,93,94,95,96,97,98,99,100,101,102,103,104,105,106,107,108,109,110,111,112,113,114,115,116,117,118,119,120,121,122,123] (fun x_=>[(8,i64 (x_.1)),(9,i64 (x_.2.1)),(10,i64 (x_.2.2.1)),(11,i64 (bhI (x_.2.2.2.1))),(7,.sl 200 (x_.2.2.2.2.2) 0 (x_.2.2.2.2.1).length 1)]) (fun x_=>[(200,.row (cl bc (x_.2.2.2.2.1)) 1 (x_.2.2.2.2.2))]) (fun x_=>rdN b sh (x_.1) (x_.2.1) (x_.2.2.1) (x_.2.2.2.1) (x_.2.2.2.2.1)=rdN b sh p0 p0 en none []∧(x_.2.2.1)≤b.length∧(x_.2.2.2.2.1).length<255∧(x_.1)≤200000∧(x_.2.1)≤100000) (fun x_=>(x_.2.1)*(b.length+1)+((x_.2.2.1)-(x_.1))) rfl (fun hj=>?_) ?_
 ·
  iterate 2 refine ab ?_
  refine ai rfl rfl (bD 200 1 bc) ?_;iterate 2 refine ab ?_
  refine bj [ag,ag,ag,ag,ag,ag,ag,ag,ag,ag,ag,ag,ag] [af [0] [] 15,af [14] [0] 16,af [15] [0] 17,af [16] [0] 18,af [0] [] 19,af [18] [0] 20,af [19] [0] 21,af [20] [0] 22,af [1] [] 23,af [17] [] 9,af [21] [] 10,af [22] [] 11,af [] [] 12] rfl ⟨ah,ah,ah,ah,ah,ah,ah,ah,ah,ah,ah,ah,ah,trivial⟩ ?_;refine hj _ ⟨(p0,p0,en,none,[],0),?_,Back.mk' (HasT.cons (HasT.cons (HasT.cons (HasT.cons (HasT.cons HasT.nil))))) (HasH.cons HasH.nil)⟩;exact ⟨rfl,he,by show 0<255;decide,by show p0≤_;omega,hp⟩
 ·
  rintro ⟨p,fi,li,bh,n,v⟩ hI;change rdN b sh p fi li bh n=rdN b sh p0 p0 en none []∧li≤b.length∧n.length<255∧p≤200000∧fi≤100000 at hI;obtain ⟨hE,hL,hN,hP,hF⟩:=hI;refine AWp.as (s':=AS.over _ [6,7,8,9,10,11,12,13,14,15,16,17,18,19,20,21,22,23,24,25,26,27,28,29,30,31,32,33,34,35,36,37,38,39,40,41,42,43,44,45,46,47,48,49,50,51,52,53,54,55,56,57,58,59,60,61,62,63,64,65,66,67,68,69,70,71,72,73,74,75,76,77,78,79,80,81,82,83,84,85,86,87,88,89,90,91,92,93,94,95,96,97,98,99,100,101,102,103,104,105,106,107,108,109,110,111,112,113,114,115,116,117,118,119,120,121,122,123] [(8,i64 p),(9,i64 fi),(10,i64 li),(11,i64 (bhI bh)),(7,.sl 200 v 0 n.length 1)] [(200,.row (cl bc n) 1 v)]) rfl ?_;have hk256:=DB b p;iterate 4 refine ab ?_
  refine ai rfl rfl (e8) ?_;refine ab ?_;refine AOps.callP (hp':=fun k=>[]) (1) [] [] [] (co (decide ((p:Int)<(li:Int))) sh) (fun h3_4=>?_) (fun x k h3_4=>?_)
  ·
   iterate 3 refine ab ?_
   have g1:¬ li≤p:=by have:=d6 h3_4;simp at this;omega
   iterate 14 refine ab ?_
   rw [show (b.getD ((p:Nat):Int).toNat default).toNat=kB b p from rfl];refine ab ?_;refine am (fun h5_1=>?_) (fun h5_1=>?_)
   ·
    iterate 7 refine ab ?_
    refine ai rfl rfl (e8) ?_;refine AOps.callP (hp':=fun k=>[]) (1) [] [] [] (co (decide ((n.length:Int)<255)) 11) (fun h6_3=>?_) (fun x k h6_3=>?_)
    ·
     iterate 4 refine ab ?_
     have g2:n.length<255:=hN;have hk0:kB b p=0:=by omega
     refine ab ?_;refine am (fun h7_1=>?_) (fun h7_1=>?_)
     ·
      iterate 3 refine ab ?_
      obtain rfl:=xK h7_1;iterate 15 refine ab ?_
      refine ai rfl rfl (bO 1101 bc [0] [(_,_)]) ?_;refine ab ?_;refine ai rfl rfl (aU) ?_;iterate 3 refine ab ?_
      rw [← hE,eg g1 hk0 g2];refine Fin.retP (by rfl) ?_;refine im (1) (0) [] [_] [_] [(_,_)] ?_;rfl
     ·
      iterate 5 refine ab ?_
      obtain ⟨a,rfl⟩:=xJ h7_1;iterate 9 refine ab ?_
      refine ai rfl rfl (bO 1101 bc [0] [(_,_)]) ?_;refine ab ?_;refine ai rfl rfl (aU) ?_;iterate 3 refine ab ?_
      rw [← hE,eg g1 hk0 g2];refine Fin.retP (by rfl) ?_;refine im (1) (0) [] [_] [_] [(_,_)] ?_;rfl
    ·
     show Post te Tryz.f132 _ (.panic _) _;refine Post.panicH (1) (p0) ?_ (by repeat' (first|exact trivial|exact aK rfl|exact bd rfl rfl|exact aV rfl rfl|exact bw rfl rfl|exact aF (fun _=>rfl)|refine ar ?_|refine ⟨rfl,⟨_,rfl,?_⟩,?_⟩|refine ⟨?_,?_⟩)) rfl;obtain ⟨c1,rfl⟩:=cf h6_3;rw [← hE,dk g1 (by omega) (by simp at c1;omega)];rfl
   ·
    iterate 6 refine ab ?_
    refine am (fun h11_1=>?_) (fun h11_1=>?_)
    ·
     iterate 8 refine ab ?_
     refine ai rfl rfl (e8) ?_;refine ab ?_;refine AOps.callP (hp':=fun k=>[]) (1) [] [] [] (co (decide ((p:Int)+1<(li:Int))) sh) (fun h12_5=>?_) (fun x k h12_5=>?_)
     ·
      iterate 3 refine ab ?_
      have g2:¬ li≤p+1:=by have:=d6 h12_5;simp at this;omega
      have hk:192≤kB b p:=by omega
      refine ab ?_;refine ai rfl rfl (BQ (k:=kB b p) (hk:=hk256)) ?_;refine ai rfl rfl (ik 8) ?_;iterate 9 refine ab ?_
      refine ai rfl rfl (Gl (k:=kB b p)) ?_;iterate 4 refine ab ?_
      rw [show (kB b p%64*256+(b.getD ((p:Int)+1).toNat default).toNat:Nat)=toI b p from rfl];iterate 2 refine ab ?_
      refine ai rfl rfl (e8) ?_;refine AOps.callP (hp':=fun k=>[]) (1) [] [] [] (co (decide ((toI b p:Int)<(fi:Int))) 40) (fun h14_3=>?_) (fun x k h14_3=>?_)
      ·
       iterate 4 refine ab ?_
       have g3:toI b p<fi:=by have:=d6 h14_3;simp at this;omega
       refine ab ?_;refine am (fun h15_1=>?_) (fun h15_1=>?_)
       ·
        iterate 3 refine ab ?_
        obtain rfl:=xK h15_1;iterate 5 refine ab ?_
        refine bj [ag,ag,ag,ag,ag,ag,ag,ag,ag,ag] [af [13] [] 86,af [13] [] 87,af [0] [] 88,af [87] [0] 89,af [88] [0] 90,af [89] [0] 91,af [90] [] 92,af [85] [] 9,af [86] [] 10,af [91] [] 11] rfl ⟨ah,ah,ah,ah,ah,ah,ah,ah,ah,ah,trivial⟩ ?_;refine AWp.goto ?_;refine ⟨rfl,(toI b p,toI b p,b.length,some (p+2),n,v),?_,Back.mk' (HasT.cons (HasT.cons (HasT.cons (HasT.cons (HasT.cons HasT.nil))))) (HasH.cons HasH.nil),?_⟩
        ·
         try dsimp only
         exact ⟨by rw [← hE,ed g1 hk g2 g3];rfl,Nat.le_refl _,hN,by omega,by omega⟩
        ·
         try dsimp only
         have:=Nat.mul_le_mul_right (b.length+1) (show toI b p+1≤fi by omega);rw [Nat.succ_mul] at this;omega
       ·
        iterate 4 refine ab ?_
        obtain ⟨a,rfl⟩:=xJ h15_1;refine bj [ag,ag,ag,ag,ag,ag,ag,ag,ag,ag] [af [13] [] 86,af [13] [] 87,af [0] [] 88,af [87] [0] 89,af [88] [0] 90,af [89] [0] 91,af [90] [] 92,af [85] [] 9,af [86] [] 10,af [91] [] 11] rfl ⟨ah,ah,ah,ah,ah,ah,ah,ah,ah,ah,trivial⟩ ?_;refine AWp.goto ?_;refine ⟨rfl,(toI b p,toI b p,b.length,some a,n,v),?_,Back.mk' (HasT.cons (HasT.cons (HasT.cons (HasT.cons (HasT.cons HasT.nil))))) (HasH.cons HasH.nil),?_⟩
        ·
         try dsimp only
         exact ⟨by rw [← hE,ed g1 hk g2 g3];rfl,Nat.le_refl _,hN,by omega,by omega⟩
        ·
         try dsimp only
         have:=Nat.mul_le_mul_right (b.length+1) (show toI b p+1≤fi by omega);rw [Nat.succ_mul] at this;omega
      ·
       show Post te Tryz.f132 _ (.panic _) _;refine Post.panicH (1) (p0) ?_ (by repeat' (first|exact trivial|exact aK rfl|exact bd rfl rfl|exact aV rfl rfl|exact bw rfl rfl|exact aF (fun _=>rfl)|refine ar ?_|refine ⟨rfl,⟨_,rfl,?_⟩,?_⟩|refine ⟨?_,?_⟩)) rfl;obtain ⟨c1,rfl⟩:=cf h14_3;rw [← hE,fk g1 hk g2 (by simp at c1;omega)];rfl
     ·
      show Post te Tryz.f132 _ (.panic _) _;refine Post.panicH (1) (p0) ?_ (by repeat' (first|exact trivial|exact aK rfl|exact bd rfl rfl|exact aV rfl rfl|exact bw rfl rfl|exact aF (fun _=>rfl)|refine ar ?_|refine ⟨rfl,⟨_,rfl,?_⟩,?_⟩|refine ⟨?_,?_⟩)) rfl;obtain ⟨c1,rfl⟩:=cf h12_5;rw [← hE,dA g1 (by omega) (by simp at c1;omega)];rfl
    ·
     iterate 6 refine ab ?_
     refine am (fun h18_1=>?_) (fun h18_1=>?_)
     ·
      iterate 4 refine ab ?_
      refine ai rfl rfl (zF) ?_;refine AOps.panic ?_;show Post te Tryz.f132 _ (.panic _) _;refine Post.panicH (1) (p0) ?_ (by repeat' (first|exact trivial|exact aK rfl|exact bd rfl rfl|exact aV rfl rfl|exact bw rfl rfl|exact aF (fun _=>rfl)|refine ar ?_|refine ⟨rfl,⟨_,rfl,?_⟩,?_⟩|refine ⟨?_,?_⟩)) rfl;rw [← hE,ef g1 (by omega) (by omega)];rfl
     ·
      iterate 6 refine ab ?_
      have hk0:kB b p≠0:=by omega
      have hk1:¬ 64≤kB b p:=by omega
      iterate 5 refine ab ?_
      refine ai rfl rfl (iN) ?_;refine ab ?_;refine AOps.callP (hp':=fun k=>[]) (1) [] [] [] (co (decide ((p:Int)+1+(kB b p:Int)≤(li:Int))) sh) (fun h20_7=>?_) (fun x k h20_7=>?_)
      ·
       iterate 3 refine ab ?_
       have g2:¬ li<p+1+kB b p:=by have:=d6 h20_7;simp at this;omega
       iterate 16 refine ab ?_
       rw [show ((p:Int)+1+(kB b p:Int)).toNat=p+1+kB b p by omega,show ((p:Nat):Int).toNat=p by omega];obtain ⟨N,hNN⟩:∃ N,N=n++(b.take (p+1+kB b p)).drop p:=⟨_,rfl⟩;rw [← hNN];have hNl:N.length=n.length+(1+kB b p):=by rw [hNN,List.length_append,List.length_drop,List.length_take];omega
       iterate 2 refine ab ?_
       refine ai rfl rfl (e8) ?_;refine AOps.callP (hp':=fun k=>[]) (1) [] [] [] (co (decide ((N.length:Int)<255)) 11) (fun h22_3=>?_) (fun x k h22_3=>?_)
       ·
        iterate 3 refine ab ?_
        have g3:N.length<255:=by have:=d6 h22_3;simp at this;omega
        iterate 6 refine ab ?_
        refine AWp.goto ?_;refine ⟨rfl,(p+1+kB b p,fi,li,bh,N,v+1),?_,Back.mk' (HasT.cons (HasT.cons (HasT.cons (HasT.cons (HasT.cons HasT.nil)))) (h1:=by exact ci (by omega)) ) (HasH.cons HasH.nil),?_⟩
        ·
         try dsimp only
         exact ⟨by rw [← hE,fV g1 hk0 hk1 g2 (by rw [← hNN];omega),← hNN],hL,by omega,by omega,hF⟩
        ·
         try dsimp only
         omega
       ·
        show Post te Tryz.f132 _ (.panic _) _;refine Post.panicH (1) (p0) ?_ (by repeat' (first|exact trivial|exact aK rfl|exact bd rfl rfl|exact aV rfl rfl|exact bw rfl rfl|exact aF (fun _=>rfl)|refine ar ?_|refine ⟨rfl,⟨_,rfl,?_⟩,?_⟩|refine ⟨?_,?_⟩)) rfl;obtain ⟨c1,rfl⟩:=cf h22_3;rw [← hE,ee g1 hk0 hk1 g2 (by rw [← hNN];simp at c1;omega)];rfl
      ·
       show Post te Tryz.f132 _ (.panic _) _;refine Post.panicH (1) (p0) ?_ (by repeat' (first|exact trivial|exact aK rfl|exact bd rfl rfl|exact aV rfl rfl|exact bw rfl rfl|exact aF (fun _=>rfl)|refine ar ?_|refine ⟨rfl,⟨_,rfl,?_⟩,?_⟩|refine ⟨?_,?_⟩)) rfl;obtain ⟨c1,rfl⟩:=cf h20_7;rw [← hE,dD g1 hk0 hk1 (by simp at c1;omega)];rfl
  ·
   show Post te Tryz.f132 _ (.panic _) _;refine Post.panicH (1) (p0) ?_ (by repeat' (first|exact trivial|exact aK rfl|exact bd rfl rfl|exact aV rfl rfl|exact bw rfl rfl|exact aF (fun _=>rfl)|refine ar ?_|refine ⟨rfl,⟨_,rfl,?_⟩,?_⟩|refine ⟨?_,?_⟩)) rfl;obtain ⟨c1,rfl⟩:=cf h3_4;rw [← hE,ec (by simp at c1;omega)];rfl
end
section
attribute [local irreducible] AWp AOps
theorem eW {α:Type} {r:Except Int α} (h:nP r=none):∃ a,r=.ok a:=by
 cases r with
 | error e=>simp [nP] at h
 | ok a=>exact ⟨a,rfl⟩
theorem eV {α:Type} {r:Except Int α} {x:Value} (h:nP r=some x):∃ e,r=.error e∧pE e=x:=by
 cases r with
 | error e=>exact ⟨e,rfl,by simpa [nP] using h⟩
 | ok a=>simp [nP] at h
theorem Ej {b:List UInt8} {sh:Int}:∀ (p fi li:Nat) (bh:Option Nat) (n:List UInt8),∀ {N:List UInt8} {P:Nat},rdN b sh p fi li bh n=.ok (N,P)→N.length≤255∧(bh=none→p<P∧P≤li)∧(∀ a,bh=some a→P=a):=by
 intro p fi li bh n;induction p,fi,li,bh,n using rdN.induct b with
 | case1 p fi li bh n h=>intro N P e;rw [ec h] at e;cases e
 | case2 p fi li bh n h h1 h2=>
  intro N P e;rw [eg h h1 h2] at e;cases e;refine ⟨by simp;omega,fun hb=>by subst hb;simp;omega,fun a ha=>by subst ha;rfl⟩
 | case3 p fi li bh n h h1 h2=>intro N P e;rw [dk h h1 h2] at e;cases e
 | case4 p fi li bh n h h1 h2 h3=>intro N P e;rw [dA h h2 h3] at e;cases e
 | case5 p fi li bh n h h1 h2 h3 h4 ih=>
  intro N P e;rw [ed h h2 h3 h4] at e;obtain ⟨a,b1,c⟩:=ih e;have hP:=c _ rfl;refine ⟨a,fun hb=>?_,fun x hx=>?_⟩
  · subst hb;rw [hP];show p<p+2∧p+2≤li;omega
  · subst hx;rw [hP];rfl
 | case6 p fi li bh n h h1 h2 h3 h4=>intro N P e;rw [fk h h2 h3 h4] at e;cases e
 | case7 p fi li bh n h h1 h2 h3=>intro N P e;rw [ef h h3 h2] at e;cases e
 | case8 p fi li bh n h h1 h2 h3 h4=>intro N P e;rw [dD h h1 h3 h4] at e;cases e
 | case9 p fi li bh n h h1 h2 h3 h4 h5 ih=>
  intro N P e;rw [fV h h1 h3 h4 h5] at e;obtain ⟨a,b1,c⟩:=ih e;exact ⟨a,fun hb=>by have:=b1 hb;omega,c⟩
 | case10 p fi li bh n h h1 h2 h3 h4 h5=>intro N P e;rw [ee h h1 h3 h4 h5] at e;cases e
def nV (l:List UInt8):Nat:=l.foldl (fun a x=>a*256+x.toNat) 0
theorem x5 (l:List UInt8) (x:UInt8):nV (l++[x])=nV l*256+x.toNat:=by simp [nV,List.foldl_append]
theorem EE (l:List UInt8) (a:Nat):l.foldl (fun a x=>a*256+x.toNat) a<(a+1)*256 ^ l.length:=by
 induction l generalizing a with
 | nil=>simp
 | cons x l ih=>
  have h1:=ih (a*256+x.toNat);have h2:=x.toNat_lt;have h3:(a*256+x.toNat+1)*256 ^ l.length≤((a+1)*256)*256 ^ l.length:=Nat.mul_le_mul_right _ (by omega);rw [List.foldl_cons,List.length_cons,Nat.pow_succ,Nat.mul_comm (256 ^ l.length) 256,← Nat.mul_assoc];omega
theorem Dz (l:List UInt8):nV l<256 ^ l.length:=by have:=EE l 0;simpa [nV] using this
theorem wa {l:List UInt8} (h:l.length≤4):nV l<4294967296:=
 Nat.lt_of_lt_of_le (Dz l) (Nat.le_trans (Nat.pow_le_pow_right (by decide) h) (by decide))
def bN (b:List UInt8) (i w:Nat):Nat:=nV ((b.take (i+w)).drop i)
theorem Ev (a:Nat) (q:UInt8):(((a:Int)*2 ^ 8).toNat ||| ((q.toNat:Int)).toNat:Nat)=a*256+q.toNat:=by
 have hq:=q.toNat_lt;have e:((a:Int)*2 ^ 8).toNat=2 ^ 8*a:=by omega
 rw [e,Int.toNat_natCast,← Nat.two_pow_add_eq_or_of_lt (by omega:q.toNat<2 ^ 8) a];omega
theorem Gn {n:Nat} {s:AS} {o:Oper} {d:Option Tmp} {t u:TypeId} {x y:Operand} {a:Nat} {q:UInt8} (ho:o.op=.binOp .or t x y u:=by exact rfl) (hx:s.ev x=i64 ((a:Int)*2 ^ 8):=by exact rfl) (hy:s.ev y=i64 q.toNat:=by exact rfl) (ha:a<4294967296)
 (hdd:o.dst=d:=by conv=>lhs;whnf) (hd:d.all (Nat.blt · n)=true:=by exact rfl):OpOk Tryz.prog n o s (s.put d (i64 ((a*256+q.toNat:Nat):Int))):=by
 have hq:=q.toNat_lt;rw [← Ev];exact vP ho hx hy (by omega) (by omega) hdd hd
def cR (t:Int):Nat:=if t=6 then 2 else if t=2∨t=5∨t=12∨t=15 then 1 else 0
def EG:List (Int×Int):=cp (cp (cp (cp (cp [] 2 1) 5 1) 12 1) 15 1) 6 2
theorem C7 (t:Int):(bg EG t).getD 0=(cR t:Int):=by
 have e:EG=[(2,1),(5,1),(12,1),(15,1),(6,2)]:=rfl;rw [e];unfold cR;by_cases h6:t=6
 · subst h6;rfl
 · by_cases h:t=2∨t=5∨t=12∨t=15
   · rw [if_neg h6,if_pos h]
     rcases h with rfl|rfl|rfl|rfl<;>rfl
   · rw [if_neg h6,if_neg h]
     simp only [not_or] at h;simp [bg,Ne.symm h.1,Ne.symm h.2.1,Ne.symm h.2.2.1,Ne.symm h.2.2.2,Ne.symm h6]
def fS (b:List UInt8) (en:Nat):Nat→List UInt8→Nat→Except Int (List UInt8×Nat)
 | 0,acc,p=>.ok (acc,p)
 | k+1,acc,p=>match rdN b 30 p p en none [] with
  | .error e=>.error e
  | .ok a=>fS b en k (acc++a.1) a.2
def rdO (b:List UInt8) (t:Int) (en:Nat):Except Int (List UInt8×Nat)→Except Int (List UInt8)
 | .error e=>.error e
 | .ok a=>if fA t (a.1++(b.take en).drop a.2) then .ok (a.1++(b.take en).drop a.2) else .error 30
def rdD (b:List UInt8) (t:Int) (p en:Nat):Except Int (List UInt8):=
 if t=15∧en<p+2 then .error 30
 else rdO b t en (fS b en (cR t) (if t=15 then (b.take (p+2)).drop p else []) (if t=15 then p+2 else p))
theorem jV {b:List UInt8} {en k:Nat} {acc:List UInt8} {p:Nat} {e:Int} (h:rdN b 30 p p en none []=.error e):fS b en (k+1) acc p=.error e:=by simp only [fS,h]
theorem mP {b:List UInt8} {en k:Nat} {acc:List UInt8} {p:Nat} {a:List UInt8×Nat} (h:rdN b 30 p p en none []=.ok a):fS b en (k+1) acc p=fS b en k (acc++a.1) a.2:=by simp only [fS,h]
theorem jW {b:List UInt8} {t:Int} {p en:Nat} (h:¬ (t=15∧en<p+2)):rdD b t p en=rdO b t en (fS b en (cR t) (if t=15 then (b.take (p+2)).drop p else []) (if t=15 then p+2 else p)):=if_neg h
theorem lG (b:List UInt8) (p0 w:Nat) (hb:b.length≤65535) (hp:p0≤200000) (hw:w≤4):AC Tryz.prog 133 [.ptr 0 0 0,i64 w] (ao [(0,.box [.fz 1 b.length (cl bc b),i64 p0])]) (oA (pNo (decide (p0+w≤b.length)) 20) (i64 (bN b p0 w)) [(0,.box [.fz 1 b.length (cl bc b),i64 ((p0+w:Nat):Int)])] (fun k=>[(0,.box [.fz 1 b.length (cl bc b),i64 k])])):=by
 refine AC.intro te_ok (fn:=Tryz.f133) ⟨Tryz.func133,rfl,rfl⟩ (aE rfl) ?_;iterate 5 refine ab ?_
 rcases hpo:pNo (decide ((w:Int)≤(b.length:Int)-(p0:Int))) 20 with _|xx
 ·
  refine AWp.drawsX _ [⟨0,[0],[],some 8,_,[]⟩,
   ⟨1,[8],[0],some 9,_,[]⟩,
   ⟨2,[9],[0],some 10,_,[]⟩,
   ⟨3,[10],[0],some 11,_,[]⟩,
   ⟨4,[11],[],some 12,_,[]⟩,
   ⟨5,[0],[],some 13,_,[]⟩,
   ⟨6,[13],[0],some 14,_,[]⟩,
   ⟨7,[14],[0],some 15,_,[]⟩,
   ⟨8,[15],[0],some 16,_,[]⟩,
   ⟨9,[12,16],[],some 17,_,[]⟩,
   ⟨10,[1],[],some 18,_,[]⟩,
   ⟨11,[17,18],[],some 19,_,[]⟩,
   ⟨12,[19],[0,1,2,3,4,5,6,7],some 20,_,[]⟩]
   [⟨0,[0],[],some 8,.any,[]⟩,
    ⟨1,[8],[0],some 9,.any,[]⟩,
    ⟨2,[9],[0],some 10,.any,[]⟩,
    ⟨3,[10],[0],some 11,.any,[]⟩,
    ⟨4,[11],[],some 12,.any,[]⟩,
    ⟨5,[0],[],some 13,.any,[]⟩,
    ⟨6,[13],[0],some 14,.any,[]⟩,
    ⟨7,[14],[0],some 15,.any,[]⟩,
    ⟨8,[15],[0],some 16,.any,[]⟩,
    ⟨9,[12,16],[],some 17,.any,[]⟩,
    ⟨10,[1],[],some 18,.any,[]⟩,
    ⟨11,[17,18],[],some 19,.any,[]⟩,
    ⟨12,[19],[0,1,2,3,4,5,6,7],some 20,.any,[]⟩]
   cE rfl (by kernel_rfl) ⟨DS.okX_over fun s0=>(OpAt.go rfl rfl (aA)).x,
    DS.okX_over fun s0=>(OpAt.go rfl rfl (cW)).x,
    DS.okX_over fun s0=>(OpAt.go rfl rfl (fJ)).x,
    DS.okX_over fun s0=>(OpAt.go rfl rfl (bb)).x,
    DS.okX_over fun s0=>(OpAt.go rfl rfl (jE)).x,
    DS.okX_over fun s0=>(OpAt.go rfl rfl (aA)).x,
    DS.okX_over fun s0=>(OpAt.go rfl rfl (cW)).x,
    DS.okX_over fun s0=>(OpAt.go rfl rfl (fJ)).x,
    DS.okX_over fun s0=>(OpAt.go rfl rfl (bb)).x,
    DS.okX_over fun s0=>(OpAt.go rfl rfl (oG)).x,
    DS.okX_over fun s0=>(OpAt.go rfl rfl (aA)).x,
    DS.okX_over fun s0=>(OpAt.go rfl rfl (gX)).x,
    DS.okX_over fun s0=>db (hp':=fun k=>[]) (1) [] [] [] (co (decide ((w:Int)≤(b.length:Int)-(p0:Int))) 20) (fun x k h1_12=>?_),trivial⟩ ?_ (fun _ _ h=>h)
  ·
   exact absurd (hpo.symm.trans h1_12) (by simp)
  dsimp only [cS,DS.upd,AS.seto];iterate 2 refine ab ?_
  have g1:p0+w≤b.length:=by have:=d6 hpo;simp at this;omega
  iterate 4 refine ab ?_
  refine bj [ag,ag,ag,ag,ag,ag,ag,ag,ag,ag,ag,ag,ag,ag,ag,ag,ag] [af [0] [] 22,af [21] [0] 23,af [22] [0] 24,af [23] [0] 25,af [0] [] 26,af [25] [0] 27,af [26] [0] 28,af [27] [0] 29,af [0] [] 30,af [29] [0] 31,af [30] [0] 32,af [31] [0] 33,af [1] [] 34,af [32,33] [] 35,af [24,28,34] [] 36,af [35] [] 37,af [] [] 38] rfl ⟨ah,ah,ah,ah,ah,ah,ah,ah,ah,ah,ah,ah,ah,ah,ah,ah,ah,trivial⟩ ?_;rw [show ((p0:Int)+(w:Int)).toNat=p0+w by omega,show ((p0:Nat):Int).toNat=p0 by omega];refine ab ?_;refine AWp.loopR (α:=Nat) [5,7,37,38,39,40,41,42,43,44,45,46] (fun i=>[(37,i64 i),(5,i64 (nV (((b.take (p0+w)).drop p0).take i)))]) (fun i=>[]) (fun i=>i≤w) (fun i=>w-i) 0 ?_ (Back.mk' (HasT.cons (HasT.cons HasT.nil)) HasH.nil) ?_
  ·
   exact Nat.zero_le _
  ·
   rintro i hi;have hSl:((b.take (p0+w)).drop p0).length=w:=by rw [List.length_drop,List.length_take];omega
   have hv:nV (((b.take (p0+w)).drop p0).take i)<4294967296:=wa (by rw [List.length_take];omega);iterate 2 refine ab ?_
   refine am (fun h4_0=>?_) (fun h4_0=>?_)
   ·
    iterate 14 refine ab ?_
    refine ai rfl rfl (ik 8) ?_;iterate 2 refine ab ?_
    refine ai rfl rfl (Gn (ha:=hv)) ?_;iterate 6 refine ab ?_
    refine ⟨i+1,?_,Back.mk' (HasT.cons (HasT.cons HasT.nil (h1:=by exact ci (by rw [bK (by omega),x5];rfl)) )) HasH.nil,?_⟩
    ·
     first|assumption|omega|decide|(simp;omega)|(simp [*];done)
    ·
     first|omega|(simp;omega)
   ·
    iterate 22 refine ab ?_
    obtain rfl:i=w:=by omega
    rw [decide_eq_true g1];have hSi:((b.take (p0+i)).drop p0).take i=(b.take (p0+i)).drop p0:=List.take_of_length_le (by omega);rw [hSi];refine Fin.retP (by rfl) ?_;refine im (1) (0) [] [_] [_] [(_,_)] ?_;rfl
 ·
  refine AWp.drawsX _ [⟨0,[0],[],some 8,_,[]⟩,
   ⟨1,[8],[0],some 9,_,[]⟩,
   ⟨2,[9],[0],some 10,_,[]⟩,
   ⟨3,[10],[0],some 11,_,[]⟩,
   ⟨4,[11],[],some 12,_,[]⟩,
   ⟨5,[0],[],some 13,_,[]⟩,
   ⟨6,[13],[0],some 14,_,[]⟩,
   ⟨7,[14],[0],some 15,_,[]⟩,
   ⟨8,[15],[0],some 16,_,[]⟩,
   ⟨9,[12,16],[],some 17,_,[]⟩,
   ⟨10,[1],[],some 18,_,[]⟩,
   ⟨11,[17,18],[],some 19,_,[]⟩,
   ⟨12,[19],[0,1,2,3,4,5,6,7],some 20,_,[]⟩]
   [⟨0,[0],[],some 8,.any,[]⟩,
    ⟨1,[8],[0],some 9,.any,[]⟩,
    ⟨2,[9],[0],some 10,.any,[]⟩,
    ⟨3,[10],[0],some 11,.any,[]⟩,
    ⟨4,[11],[],some 12,.any,[]⟩,
    ⟨5,[0],[],some 13,.any,[]⟩,
    ⟨6,[13],[0],some 14,.any,[]⟩,
    ⟨7,[14],[0],some 15,.any,[]⟩,
    ⟨8,[15],[0],some 16,.any,[]⟩,
    ⟨9,[12,16],[],some 17,.any,[]⟩,
    ⟨10,[1],[],some 18,.any,[]⟩,
    ⟨11,[17,18],[],some 19,.any,[]⟩,
    ⟨12,[19],[0,1,2,3,4,5,6,7],some 20,.any,[]⟩]
   cE rfl (by kernel_rfl) ⟨DS.okX_over fun s0=>(OpAt.go rfl rfl (aA)).x,
    DS.okX_over fun s0=>(OpAt.go rfl rfl (cW)).x,
    DS.okX_over fun s0=>(OpAt.go rfl rfl (fJ)).x,
    DS.okX_over fun s0=>(OpAt.go rfl rfl (bb)).x,
    DS.okX_over fun s0=>(OpAt.go rfl rfl (jE)).x,
    DS.okX_over fun s0=>(OpAt.go rfl rfl (aA)).x,
    DS.okX_over fun s0=>(OpAt.go rfl rfl (cW)).x,
    DS.okX_over fun s0=>(OpAt.go rfl rfl (fJ)).x,
    DS.okX_over fun s0=>(OpAt.go rfl rfl (bb)).x,
    DS.okX_over fun s0=>(OpAt.go rfl rfl (oG)).x,
    DS.okX_over fun s0=>(OpAt.go rfl rfl (aA)).x,
    DS.okX_over fun s0=>(OpAt.go rfl rfl (gX)).x,
    DS.okX_over fun s0=>db (hp':=fun k=>[]) (1) [] [] [] (AC.bad hpo (co (decide ((w:Int)≤(b.length:Int)-(p0:Int))) 20)) (fun x k h1_12=>?_),trivial⟩ ?_ (fun _ _ h=>h)
  ·
   show Post te Tryz.f133 _ (.panic _) _;refine Post.panicH (1) (p0) ?_ (by repeat' (first|exact trivial|exact aK rfl|exact bd rfl rfl|exact aV rfl rfl|exact bw rfl rfl|exact aF (fun _=>rfl)|refine ar ?_|refine ⟨rfl,⟨_,rfl,?_⟩,?_⟩|refine ⟨?_,?_⟩)) rfl;obtain ⟨c1,rfl⟩:=cf h1_12;rw [decide_eq_false (by simp at c1;omega)];rfl
  dsimp only [cS,DS.upd,AS.seto];exact AWp.bot (d:=20) rfl
end
section
attribute [local irreducible] AWp AOps
theorem jf {b:List UInt8} {sh:Int} {p li:Nat} {a:List UInt8×Nat} (h:rdN b sh p p li none []=.ok a):a.1.length≤255∧p<a.2∧a.2≤li:=by
 obtain ⟨N,P⟩:=a;obtain ⟨h1,h2,_⟩:=Ej _ _ _ _ _ h;exact ⟨h1,(h2 rfl).1,(h2 rfl).2⟩
theorem x6 (t:Int):cR t≤2:=by unfold cR;split<;>(try split)<;>omega
def zz (b:List UInt8) (n:List UInt8) (q:Nat):Except Int (List UInt8)→Except Int (Rr×Nat)
 | .error e=>.error e
 | .ok d=>.ok (⟨n,bN b q 2,bN b (q+2) 2,bN b (q+4) 4,d⟩,q+10+bN b (q+8) 2)
def vN (b:List UInt8):Except Int (List UInt8×Nat)→Except Int (Rr×Nat)
 | .error e=>.error e
 | .ok a=>if b.length<a.2+10∨b.length<a.2+10+bN b (a.2+8) 2 then .error 20 else zz b a.1 a.2 (rdD b (bN b a.2 2) (a.2+10) (a.2+10+bN b (a.2+8) 2))
def rdR (b:List UInt8) (p:Nat):Except Int (Rr×Nat):=vN b (rdN b 20 p p b.length none [])
theorem eF {b:List UInt8} {p:Nat} {a:List UInt8×Nat} (h:rdN b 20 p p b.length none []=.ok a) (h1:b.length<a.2+10∨b.length<a.2+10+bN b (a.2+8) 2):rdR b p=.error 20:=by rw [rdR,h,vN,if_pos h1]
theorem nN {b:List UInt8} {p:Nat} {a:List UInt8×Nat} (h:rdN b 20 p p b.length none []=.ok a) (h1:¬ b.length<a.2+10) (h2:¬ b.length<a.2+10+bN b (a.2+8) 2):rdR b p=zz b a.1 a.2 (rdD b (bN b a.2 2) (a.2+10) (a.2+10+bN b (a.2+8) 2)):=by rw [rdR,h,vN,if_neg (by omega)]
theorem GF {b:List UInt8} {i w:Nat} (h:w≤4):bN b i w<4294967296:=wa (by rw [List.length_drop,List.length_take];omega)
theorem ox {b:List UInt8} {i:Nat}:bN b i 2<65536:=by
 have h:=Dz ((b.take (i+2)).drop i);have h2:((b.take (i+2)).drop i).length≤2:=by rw [List.length_drop,List.length_take];omega
 have h3:256 ^ ((b.take (i+2)).drop i).length≤256 ^ 2:=Nat.pow_le_pow_right (by decide) h2;exact Nat.lt_of_lt_of_le h h3
theorem vn (b:List UInt8) (t:Int) (p0 en:Nat) (hb:b.length≤65535) (he:en≤b.length) (hp:p0≤en):AC Tryz.prog 152 [.ptr 0 0 0,i64 t,i64 en] (ao [(0,.box [.fz 1 b.length (cl bc b),i64 p0])]) (oA (nP (rdD b t p0 en)) (.fz 0 (jL (rdD b t p0 en)).length (cl bc (jL (rdD b t p0 en)))) [(0,.box [.fz 1 b.length (cl bc b),i64 en])] (fun k=>[(0,.box [.fz 1 b.length (cl bc b),i64 k])])):=by
 have hc2:=x6 t;refine AC.intro te_ok (fn:=Tryz.f152) ⟨Tryz.func152,rfl,rfl⟩ (aE rfl) ?_;iterate 2 refine ab ?_
 refine ai rfl rfl (aR (0) bc) ?_;iterate 3 refine ab ?_
 refine ai rfl rfl (bD 200 1 bc) ?_;iterate 3 refine ab ?_
 refine ai rfl rfl (gQ 300 cm (fun b:Int=>i64 b)) ?_;refine ai rfl rfl (jY cm (f:=fun b:Int=>i64 b) (m:=([]:List (Int×Int))) 1) ?_;refine ai rfl rfl (jY cm (f:=fun b:Int=>i64 b) (m:=cp [] 2 1) 1) ?_;refine ai rfl rfl (jY cm (f:=fun b:Int=>i64 b) (m:=cp (cp [] 2 1) 5 1) 1) ?_;refine ai rfl rfl (jY cm (f:=fun b:Int=>i64 b) (m:=cp (cp (cp [] 2 1) 5 1) 12 1) 1) ?_;refine ai rfl rfl (jY cm (f:=fun b:Int=>i64 b) (m:=cp (cp (cp (cp [] 2 1) 5 1) 12 1) 15 1) 2) ?_;iterate 3 refine ab ?_
 refine AWp.cutR (α:=List UInt8×Nat×Nat) [7,11,12,13,14,15,16,17,18,19,20,21,22,23,24,25,26,27,28,29,30,31,32,33,34,35,36,37,38,39,40,41,42,43] (fun x_=>[(7,.sl 200 (x_.2.2) 0 (x_.1).length 1)]) (fun x_=>[(0,.box [.fz 1 b.length (cl bc b),i64 (x_.2.1)]),(200,.row (cl bc (x_.1)) 1 (x_.2.2))]) (fun x_=>(x_.1)=(if t=15 then (b.take (p0+2)).drop p0 else [])∧(x_.2.1)=(if t=15 then p0+2 else p0)∧¬ (t=15∧en<p0+2)∧(x_.1).length≤2∧(x_.2.1)≤en) ?_ ?_
 ·
  iterate 3 refine ab ?_
  refine am (fun h3_1=>?_) (fun h3_1=>?_)
  ·
   iterate 10 refine ab ?_
   refine ai rfl rfl (gX) ?_;refine AOps.callP (hp':=fun k=>[]) (1) [] [] [] (co (decide (2≤(en:Int)-(p0:Int))) 30) (fun h4_7=>?_) (fun x k h4_7=>?_)
   ·
    iterate 2 refine ab ?_
    have g1:¬ en<p0+2:=by have:=d6 h4_7;simp at this;omega
    refine bj [ag,ag,ag,ag,ag,ag,ag,ag,ag,ag,ag,ag,ag,ag,ag,bv [(200,_)],ag] [af [7] [] 22,af [0] [] 23,af [22] [0] 24,af [23] [0] 25,af [24] [0] 26,af [0] [] 27,af [26] [0] 28,af [27] [0] 29,af [28] [0] 30,af [0] [] 31,af [30] [0] 32,af [31] [0] 33,af [32] [0] 34,af [33] [] 35,af [25,29,34] [] 36,af [21,35] [200] 37 [200],af [36] [] 8] rfl ⟨ah,ah,ah,ah,ah,ah,ah,ah,ah,ah,ah,ah,ah,ah,ah,ah,ah,trivial⟩ ?_;iterate 10 refine ab ?_
    rw [show ((p0:Int)+2).toNat=p0+2 by omega,show ((p0:Nat):Int).toNat=p0 by omega];refine ⟨((b.take (p0+2)).drop p0,p0+2,1),?_,Back.mk' (HasT.cons HasT.nil) (HasH.cons (HasH.cons HasH.nil))⟩;try dsimp only
    exact ⟨by rw [if_pos h3_1],by rw [if_pos h3_1],by omega,by rw [List.length_drop,List.length_take];omega,by omega⟩
   ·
    show Post te Tryz.f152 _ (.panic _) _;refine Post.panicH (1) (p0) ?_ (by repeat' (first|exact trivial|exact aK rfl|exact bd rfl rfl|exact aV rfl rfl|exact bw rfl rfl|exact aF (fun _=>rfl)|refine ar ?_|refine ⟨rfl,⟨_,rfl,?_⟩,?_⟩|refine ⟨?_,?_⟩)) rfl;obtain ⟨c1,rfl⟩:=cf h4_7;rw [rdD,if_pos ⟨h3_1,by simp at c1;omega⟩];rfl
  ·
   iterate 3 refine ab ?_
   refine ⟨([],p0,0),?_,Back.mk' (HasT.cons HasT.nil) (HasH.cons (HasH.cons HasH.nil))⟩;try dsimp only
   exact ⟨by rw [if_neg h3_1],by rw [if_neg h3_1],by omega,by simp,hp⟩
 ·
  rintro ⟨acc,p,v⟩ hC7;change acc=(if t=15 then (b.take (p0+2)).drop p0 else [])∧p=(if t=15 then p0+2 else p0)∧¬ (t=15∧en<p0+2)∧acc.length≤2∧p≤en at hC7;obtain ⟨ha0,hp1,hg,hal,hpe⟩:=hC7;refine AWp.as (s':=AS.over _ [7,11,12,13,14,15,16,17,18,19,20,21,22,23,24,25,26,27,28,29,30,31,32,33,34,35,36,37,38,39,40,41,42,43] [(7,.sl 200 v 0 acc.length 1)] [(0,.box [.fz 1 b.length (cl bc b),i64 p]),(200,.row (cl bc acc) 1 v)]) rfl ?_;iterate 5 refine ab ?_
  refine ai rfl rfl (ey cm (f:=fun b:Int=>i64 b) (m:=EG)) ?_;rw [C7];iterate 3 refine ab ?_
  refine AWp.loopR (α:=Nat×List UInt8×Nat×Nat) [7,47,48,49,50,51,52,53,54] (fun x_=>[(47,i64 (x_.1)),(7,.sl 200 (x_.2.2.2) 0 (x_.2.1).length 1)]) (fun x_=>[(0,.box [.fz 1 b.length (cl bc b),i64 (x_.2.2.1)]),(200,.row (cl bc (x_.2.1)) 1 (x_.2.2.2))]) (fun x_=>(x_.1)≤cR t∧fS b en (cR t-(x_.1)) (x_.2.1) (x_.2.2.1)=fS b en (cR t) (if t=15 then (b.take (p0+2)).drop p0 else []) (if t=15 then p0+2 else p0)∧(x_.2.1).length≤2+255*(x_.1)∧(x_.2.2.1)≤en) (fun x_=>cR t-(x_.1)) (0,acc,p,v) ?_ (Back.mk' (HasT.cons (HasT.cons HasT.nil)) (HasH.cons (HasH.cons HasH.nil))) ?_
  ·
   exact ⟨Nat.zero_le _,by show fS b en (cR t-0) acc p=_;rw [ha0,hp1];rfl,hal,hpe⟩
  ·
   rintro ⟨i,ac,p,v⟩ hI8;change i≤cR t∧fS b en (cR t-i) ac p=fS b en (cR t) (if t=15 then (b.take (p0+2)).drop p0 else []) (if t=15 then p0+2 else p0)∧ac.length≤2+255*i∧p≤en at hI8;obtain ⟨hi,hE,hal,hpe⟩:=hI8;refine AWp.as (s':=AS.over _ [7,47,48,49,50,51,52,53,54] [(47,i64 i),(7,.sl 200 v 0 ac.length 1)] [(0,.box [.fz 1 b.length (cl bc b),i64 p]),(200,.row (cl bc ac) 1 v)]) rfl ?_;iterate 2 refine ab ?_
   refine am (fun h8_0=>?_) (fun h8_0=>?_)
   ·
    iterate 10 refine ab ?_
    refine AOps.callP (hp':=fun k=>[(0,.box [_,i64 k])]) (1) [(0,0)] [] [(_,_)] (qU b 30 p en hb he (by omega)) (fun h9_3=>?_) (fun x k h9_3=>?_)
    ·
     obtain ⟨a,ha⟩:=eW h9_3;obtain ⟨n1,n2,n3⟩:=jf ha;rw [ha];dsimp only [jL];iterate 7 refine ab ?_
     refine ⟨(i+1,ac++a.1,a.2,v+1),?_,Back.mk' (HasT.cons (HasT.cons HasT.nil)) (HasH.cons (HasH.cons HasH.nil)),?_⟩
     ·
      try dsimp only
      refine ⟨by omega,?_,by rw [List.length_append];omega,n3⟩;rw [← hE,show cR t-i=(cR t-(i+1))+1 by omega,mP ha]
     ·
      try dsimp only
      first|omega|(simp;omega)
    ·
     show Post te Tryz.f152 _ (.panic _) _;refine Post.panicH (1) (k) ?_ (by repeat' (first|exact trivial|exact aK rfl|exact bd rfl rfl|exact aV rfl rfl|exact bw rfl rfl|exact aF (fun _=>rfl)|refine ar ?_|refine ⟨rfl,⟨_,rfl,?_⟩,?_⟩|refine ⟨?_,?_⟩)) rfl;obtain ⟨e,he1,rfl⟩:=eV h9_3;rw [jW hg,← hE,show cR t-i=(cR t-(i+1))+1 by omega,jV he1];rfl
   ·
    iterate 5 refine ab ?_
    obtain rfl:i=cR t:=by omega
    rw [Nat.sub_self] at hE;have hE2:=hE.symm;rw [fS] at hE2;refine bj [ag,ag,ag,ag,ag,ag,ag,ag,ag,ag,ag,bv [(200,_)],ag] [af [7] [] 56,af [0] [] 57,af [56] [0] 58,af [57] [0] 59,af [58] [0] 60,af [0] [] 61,af [60] [0] 62,af [61] [0] 63,af [62] [0] 64,af [2] [] 65,af [59,63,64] [] 66,af [55,65] [200] 67 [200],af [66] [] 8] rfl ⟨ah,ah,ah,ah,ah,ah,ah,ah,ah,ah,ah,ah,ah,trivial⟩ ?_;rw [show ((en:Nat):Int).toNat=en by omega,show ((p:Nat):Int).toNat=p by omega];iterate 12 refine ab ?_
    refine ai rfl rfl (aj (1) (hc:=(wz t (ac++(b.take en).drop p) 2 (by rw [List.length_append,List.length_drop,List.length_take];omega)))) ?_;refine AOps.callP (hp':=fun k=>[]) (1) [] [] [] (co (fA t (ac++(b.take en).drop p)) 30) (fun h13_3=>?_) (fun x k h13_3=>?_)
    ·
     iterate 3 refine ab ?_
     have g4:fA t (ac++(b.take en).drop p)=true:=d6 h13_3;iterate 4 refine ab ?_
     rw [jW hg,hE2,rdO,if_pos g4];refine Fin.retP (by rfl) ?_;refine im (1) (0) [] [_] [_] [(_,_)] ?_;rfl
    ·
     show Post te Tryz.f152 _ (.panic _) _;refine Post.panicH (1) (en) ?_ (by repeat' (first|exact trivial|exact aK rfl|exact bd rfl rfl|exact aV rfl rfl|exact bw rfl rfl|exact aF (fun _=>rfl)|refine ar ?_|refine ⟨rfl,⟨_,rfl,?_⟩,?_⟩|refine ⟨?_,?_⟩)) rfl;obtain ⟨c1,rfl⟩:=cf h13_3;rw [jW hg,hE2,rdO,if_neg (by rw [c1];simp)];rfl
theorem lE (b:List UInt8) (p0:Nat) (hb:b.length≤65535) (hp:p0≤100000):AC Tryz.prog 134 [.ptr 0 0 0] (ao [(0,.box [.fz 1 b.length (cl bc b),i64 p0])]) (oA (nP (rdR b p0)) (.agg (rrc (jL (rdR b p0)).1)) [(0,.box [.fz 1 b.length (cl bc b),i64 (jL (rdR b p0)).2])] (fun k=>[(0,.box [.fz 1 b.length (cl bc b),i64 k])])):=by
 refine AC.intro te_ok (fn:=Tryz.f134) ⟨Tryz.func134,rfl,rfl⟩ (aE rfl) ?_;iterate 2 refine ab ?_
 refine ai rfl rfl (ap 100) ?_;iterate 9 refine ab ?_
 refine AOps.callP (hp':=fun k=>[(0,.box [_,i64 k])]) (1) [(0,0)] [] [(_,_)] (qU b 20 p0 b.length hb (Nat.le_refl _) hp) (fun h1_6=>?_) (fun x k h1_6=>?_)
 ·
  obtain ⟨a,ha⟩:=eW h1_6;obtain ⟨n1,n2,n3⟩:=jf ha;rw [ha];dsimp only [jL];have hsz:=ox (b:=b) (i:=a.2+8);refine ai rfl rfl (aL [(_,_)]) ?_;refine ai rfl rfl (ap 208) ?_;iterate 5 refine ab ?_
  refine AOps.callP (hp':=fun k=>[(0,.box [_,i64 k])]) (1) [(0,0)] [] [(_,_)] (lG b a.2 2 hb (by omega) (by omega)) (fun h2_1=>?_) (fun x k h2_1=>?_)
  ·
   refine ab ?_;refine AOps.callP (hp':=fun k=>[(0,.box [_,i64 k])]) (1) [(0,0)] [] [(_,_)] (lG b (a.2+2) 2 hb (by omega) (by omega)) (fun h2_3=>?_) (fun x k h2_3=>?_)
   ·
    refine ab ?_;refine AOps.callP (hp':=fun k=>[(0,.box [_,i64 k])]) (1) [(0,0)] [] [(_,_)] (lG b (a.2+4) 4 hb (by omega) (by omega)) (fun h2_5=>?_) (fun x k h2_5=>?_)
    ·
     iterate 10 refine ab ?_
     refine AOps.callP (hp':=fun k=>[(0,.box [_,i64 k])]) (1) [(0,0)] [] [(_,_)] (lG b (a.2+8) 2 hb (by omega) (by omega)) (fun h3_1=>?_) (fun x k h3_1=>?_)
     ·
      have g1:¬ b.length<a.2+10:=by have:=d6 h3_1;simp at this;omega
      iterate 3 refine ab ?_
      rcases hpo:pNo (decide (((bN b (a.2+8) 2:Nat):Int)≤(b.length:Int)-((a.2+10:Nat):Int))) 20 with _|xx
      ·
       refine AWp.drawsX _ [⟨0,[0],[],some 24,_,[]⟩,
        ⟨1,[24],[0],some 25,_,[]⟩,
        ⟨2,[25],[0],some 26,_,[]⟩,
        ⟨3,[26],[0],some 27,_,[]⟩,
        ⟨4,[27],[],some 28,_,[]⟩,
        ⟨5,[0],[],some 29,_,[]⟩,
        ⟨6,[29],[0],some 30,_,[]⟩,
        ⟨7,[30],[0],some 31,_,[]⟩,
        ⟨8,[31],[0],some 32,_,[]⟩,
        ⟨9,[28,32],[],some 33,_,[]⟩,
        ⟨10,[4],[],some 34,_,[]⟩,
        ⟨11,[33,34],[],some 35,_,[]⟩,
        ⟨12,[35],[0,1,2,3,4,5,6,7],some 36,_,[]⟩]
        [⟨0,[0],[],some 24,.any,[]⟩,
         ⟨1,[24],[0],some 25,.any,[]⟩,
         ⟨2,[25],[0],some 26,.any,[]⟩,
         ⟨3,[26],[0],some 27,.any,[]⟩,
         ⟨4,[27],[],some 28,.any,[]⟩,
         ⟨5,[0],[],some 29,.any,[]⟩,
         ⟨6,[29],[0],some 30,.any,[]⟩,
         ⟨7,[30],[0],some 31,.any,[]⟩,
         ⟨8,[31],[0],some 32,.any,[]⟩,
         ⟨9,[28,32],[],some 33,.any,[]⟩,
         ⟨10,[4],[],some 34,.any,[]⟩,
         ⟨11,[33,34],[],some 35,.any,[]⟩,
         ⟨12,[35],[0,1,2,3,4,5,6,7],some 36,.any,[]⟩]
        cE rfl (by kernel_rfl) ⟨DS.okX_over fun s0=>(OpAt.go rfl rfl (aA)).x,
         DS.okX_over fun s0=>(OpAt.go rfl rfl (cW)).x,
         DS.okX_over fun s0=>(OpAt.go rfl rfl (fJ)).x,
         DS.okX_over fun s0=>(OpAt.go rfl rfl (bb)).x,
         DS.okX_over fun s0=>(OpAt.go rfl rfl (jE)).x,
         DS.okX_over fun s0=>(OpAt.go rfl rfl (aA)).x,
         DS.okX_over fun s0=>(OpAt.go rfl rfl (cW)).x,
         DS.okX_over fun s0=>(OpAt.go rfl rfl (fJ)).x,
         DS.okX_over fun s0=>(OpAt.go rfl rfl (bb)).x,
         DS.okX_over fun s0=>(OpAt.go rfl rfl (oG)).x,
         DS.okX_over fun s0=>(OpAt.go rfl rfl (aA)).x,
         DS.okX_over fun s0=>(OpAt.go rfl rfl (gX)).x,
         DS.okX_over fun s0=>db (hp':=fun k=>[]) (1) [] [] [] (co (decide (((bN b (a.2+8) 2:Nat):Int)≤(b.length:Int)-((a.2+10:Nat):Int))) 20) (fun x k h4_12=>?_),trivial⟩ ?_ (fun _ _ h=>h)
       ·
        exact absurd (hpo.symm.trans h4_12) (by simp)
       dsimp only [cS,DS.upd,AS.seto];refine ab ?_;have g2:¬ b.length<a.2+10+bN b (a.2+8) 2:=by have:=d6 hpo;simp at this;omega
       rcases hpo:nP (rdD b (bN b a.2 2) (a.2+10) (a.2+10+bN b (a.2+8) 2)) with _|xx
       ·
        refine AWp.drawsX _ [⟨0,[0],[],some 37,_,[]⟩,
         ⟨1,[3],[208],some 38,_,[]⟩,
         ⟨2,[38],[208],some 39,_,[]⟩,
         ⟨3,[0],[],some 40,_,[]⟩,
         ⟨4,[40],[0],some 41,_,[]⟩,
         ⟨5,[41],[0],some 42,_,[]⟩,
         ⟨6,[42],[0],some 43,_,[]⟩,
         ⟨7,[4],[],some 44,_,[]⟩,
         ⟨8,[43,44],[],some 45,_,[]⟩,
         ⟨9,[37,39,45],[0,1,2,3,4,5,6,7],some 46,_,[(0,_)]⟩,
         ⟨10,[3],[208],some 47,_,[]⟩,
         ⟨11,[46,47],[208],none,_,[(208,_)]⟩]
         [⟨0,[0],[],some 37,.any,[]⟩,
          ⟨1,[3],[208],some 38,.any,[]⟩,
          ⟨2,[38],[208],some 39,.any,[]⟩,
          ⟨3,[0],[],some 40,.any,[]⟩,
          ⟨4,[40],[0],some 41,.any,[]⟩,
          ⟨5,[41],[0],some 42,.any,[]⟩,
          ⟨6,[42],[0],some 43,.any,[]⟩,
          ⟨7,[4],[],some 44,.any,[]⟩,
          ⟨8,[43,44],[],some 45,.any,[]⟩,
          ⟨9,[37,39,45],[0,1,2,3,4,5,6,7],some 46,.any,[(0,.box [])]⟩,
          ⟨10,[3],[208],some 47,.any,[]⟩,
          ⟨11,[46,47],[208],none,.any,[(208,.box [])]⟩]
         cE rfl (by kernel_rfl) ⟨DS.okX_over fun s0=>(OpAt.go rfl rfl (aA)).x,
          DS.okX_over fun s0=>(OpAt.go rfl rfl (fJ)).x,
          DS.okX_over fun s0=>(OpAt.go rfl rfl (bb)).x,
          DS.okX_over fun s0=>(OpAt.go rfl rfl (aA)).x,
          DS.okX_over fun s0=>(OpAt.go rfl rfl (cW)).x,
          DS.okX_over fun s0=>(OpAt.go rfl rfl (fJ)).x,
          DS.okX_over fun s0=>(OpAt.go rfl rfl (bb)).x,
          DS.okX_over fun s0=>(OpAt.go rfl rfl (aA)).x,
          DS.okX_over fun s0=>(OpAt.go rfl rfl (lW)).x,
          DS.okX_over fun s0=>db (hp':=fun k=>[(0,.box [_,i64 k])]) (1) [(0,0)] [] [(_,_)] (vn b (bN b a.2 2) (a.2+10) (a.2+10+bN b (a.2+8) 2) hb (by omega) (by omega)) (fun x k h5_9=>?_),
          DS.okX_over fun s0=>(OpAt.go rfl rfl (fJ)).x,
          DS.okX_over fun s0=>(OpAt.go rfl rfl (cI)).x,trivial⟩ ?_ (fun _ _ h=>h)
        ·
         exact absurd (hpo.symm.trans h5_9) (by simp)
        dsimp only [cS,DS.upd,AS.seto];iterate 2 refine ab ?_
        obtain ⟨dd,hd⟩:=eW hpo;rw [hd];dsimp only [jL];iterate 4 refine ab ?_
        rw [nN ha g1 g2,hd];refine Fin.retP (by rfl) ?_;refine im (1) (0) [] [_] [_] [(_,_)] ?_;rfl
       ·
        refine AWp.drawsX _ [⟨0,[0],[],some 37,_,[]⟩,
         ⟨1,[3],[208],some 38,_,[]⟩,
         ⟨2,[38],[208],some 39,_,[]⟩,
         ⟨3,[0],[],some 40,_,[]⟩,
         ⟨4,[40],[0],some 41,_,[]⟩,
         ⟨5,[41],[0],some 42,_,[]⟩,
         ⟨6,[42],[0],some 43,_,[]⟩,
         ⟨7,[4],[],some 44,_,[]⟩,
         ⟨8,[43,44],[],some 45,_,[]⟩,
         ⟨9,[37,39,45],[0,1,2,3,4,5,6,7],some 46,_,[(0,_)]⟩,
         ⟨10,[3],[208],some 47,_,[]⟩,
         ⟨11,[46,47],[208],none,.fz 0 1 [],[(208,.box [])]⟩]
         [⟨0,[0],[],some 37,.any,[]⟩,
          ⟨1,[3],[208],some 38,.any,[]⟩,
          ⟨2,[38],[208],some 39,.any,[]⟩,
          ⟨3,[0],[],some 40,.any,[]⟩,
          ⟨4,[40],[0],some 41,.any,[]⟩,
          ⟨5,[41],[0],some 42,.any,[]⟩,
          ⟨6,[42],[0],some 43,.any,[]⟩,
          ⟨7,[4],[],some 44,.any,[]⟩,
          ⟨8,[43,44],[],some 45,.any,[]⟩,
          ⟨9,[37,39,45],[0,1,2,3,4,5,6,7],some 46,.any,[(0,.box [])]⟩,
          ⟨10,[3],[208],some 47,.any,[]⟩,
          ⟨11,[46,47],[208],none,.any,[(208,.box [])]⟩]
         cE rfl (by kernel_rfl) ⟨DS.okX_over fun s0=>(OpAt.go rfl rfl (aA)).x,
          DS.okX_over fun s0=>(OpAt.go rfl rfl (fJ)).x,
          DS.okX_over fun s0=>(OpAt.go rfl rfl (bb)).x,
          DS.okX_over fun s0=>(OpAt.go rfl rfl (aA)).x,
          DS.okX_over fun s0=>(OpAt.go rfl rfl (cW)).x,
          DS.okX_over fun s0=>(OpAt.go rfl rfl (fJ)).x,
          DS.okX_over fun s0=>(OpAt.go rfl rfl (bb)).x,
          DS.okX_over fun s0=>(OpAt.go rfl rfl (aA)).x,
          DS.okX_over fun s0=>(OpAt.go rfl rfl (lW)).x,
          DS.okX_over fun s0=>db (hp':=fun k=>[(0,.box [_,i64 k])]) (1) [(0,0)] [] [(_,_)] (AC.bad hpo (vn b (bN b a.2 2) (a.2+10) (a.2+10+bN b (a.2+8) 2) hb (by omega) (by omega))) (fun x k h5_9=>?_),
          DS.okX_over fun s0=>(OpAt.go rfl rfl (fJ)).x,
          DS.okX_over fun s0=>OpAtX.bot (d:=46) rfl,trivial⟩ ?_ (fun _ _ h=>h)
        ·
         show Post te Tryz.f134 _ (.panic _) _;refine Post.panicH (1) (k) ?_ (by repeat' (first|exact trivial|exact aK rfl|exact bd rfl rfl|exact aV rfl rfl|exact bw rfl rfl|exact aF (fun _=>rfl)|refine ar ?_|refine ⟨rfl,⟨_,rfl,?_⟩,?_⟩|refine ⟨?_,?_⟩)) rfl;obtain ⟨e,he1,rfl⟩:=eV h5_9;rw [nN ha g1 g2,he1];rfl
        dsimp only [cS,DS.upd,AS.seto];exact AWp.bot (d:=46) rfl
      ·
       refine AWp.drawsX _ [⟨0,[0],[],some 24,_,[]⟩,
        ⟨1,[24],[0],some 25,_,[]⟩,
        ⟨2,[25],[0],some 26,_,[]⟩,
        ⟨3,[26],[0],some 27,_,[]⟩,
        ⟨4,[27],[],some 28,_,[]⟩,
        ⟨5,[0],[],some 29,_,[]⟩,
        ⟨6,[29],[0],some 30,_,[]⟩,
        ⟨7,[30],[0],some 31,_,[]⟩,
        ⟨8,[31],[0],some 32,_,[]⟩,
        ⟨9,[28,32],[],some 33,_,[]⟩,
        ⟨10,[4],[],some 34,_,[]⟩,
        ⟨11,[33,34],[],some 35,_,[]⟩,
        ⟨12,[35],[0,1,2,3,4,5,6,7],some 36,_,[]⟩]
        [⟨0,[0],[],some 24,.any,[]⟩,
         ⟨1,[24],[0],some 25,.any,[]⟩,
         ⟨2,[25],[0],some 26,.any,[]⟩,
         ⟨3,[26],[0],some 27,.any,[]⟩,
         ⟨4,[27],[],some 28,.any,[]⟩,
         ⟨5,[0],[],some 29,.any,[]⟩,
         ⟨6,[29],[0],some 30,.any,[]⟩,
         ⟨7,[30],[0],some 31,.any,[]⟩,
         ⟨8,[31],[0],some 32,.any,[]⟩,
         ⟨9,[28,32],[],some 33,.any,[]⟩,
         ⟨10,[4],[],some 34,.any,[]⟩,
         ⟨11,[33,34],[],some 35,.any,[]⟩,
         ⟨12,[35],[0,1,2,3,4,5,6,7],some 36,.any,[]⟩]
        cE rfl (by kernel_rfl) ⟨DS.okX_over fun s0=>(OpAt.go rfl rfl (aA)).x,
         DS.okX_over fun s0=>(OpAt.go rfl rfl (cW)).x,
         DS.okX_over fun s0=>(OpAt.go rfl rfl (fJ)).x,
         DS.okX_over fun s0=>(OpAt.go rfl rfl (bb)).x,
         DS.okX_over fun s0=>(OpAt.go rfl rfl (jE)).x,
         DS.okX_over fun s0=>(OpAt.go rfl rfl (aA)).x,
         DS.okX_over fun s0=>(OpAt.go rfl rfl (cW)).x,
         DS.okX_over fun s0=>(OpAt.go rfl rfl (fJ)).x,
         DS.okX_over fun s0=>(OpAt.go rfl rfl (bb)).x,
         DS.okX_over fun s0=>(OpAt.go rfl rfl (oG)).x,
         DS.okX_over fun s0=>(OpAt.go rfl rfl (aA)).x,
         DS.okX_over fun s0=>(OpAt.go rfl rfl (gX)).x,
         DS.okX_over fun s0=>db (hp':=fun k=>[]) (1) [] [] [] (AC.bad hpo (co (decide (((bN b (a.2+8) 2:Nat):Int)≤(b.length:Int)-((a.2+10:Nat):Int))) 20)) (fun x k h4_12=>?_),trivial⟩ ?_ (fun _ _ h=>h)
       ·
        show Post te Tryz.f134 _ (.panic _) _;refine Post.panicH (1) (((a.2+10:Nat):Int)) ?_ (by repeat' (first|exact trivial|exact aK rfl|exact bd rfl rfl|exact aV rfl rfl|exact bw rfl rfl|exact aF (fun _=>rfl)|refine ar ?_|refine ⟨rfl,⟨_,rfl,?_⟩,?_⟩|refine ⟨?_,?_⟩)) rfl;obtain ⟨c1,rfl⟩:=cf h4_12;rw [eF ha (by simp at c1;omega)];rfl
       dsimp only [cS,DS.upd,AS.seto];exact AWp.bot (d:=36) rfl
     ·
      show Post te Tryz.f134 _ (.panic _) _;refine Post.panicH (1) (k) ?_ (by repeat' (first|exact trivial|exact aK rfl|exact bd rfl rfl|exact aV rfl rfl|exact bw rfl rfl|exact aF (fun _=>rfl)|refine ar ?_|refine ⟨rfl,⟨_,rfl,?_⟩,?_⟩|refine ⟨?_,?_⟩)) rfl;obtain ⟨c1,rfl⟩:=cf h3_1;rw [eF ha (by simp at c1;omega)];rfl
    ·
     show Post te Tryz.f134 _ (.panic _) _;refine Post.panicH (1) (k) ?_ (by repeat' (first|exact trivial|exact aK rfl|exact bd rfl rfl|exact aV rfl rfl|exact bw rfl rfl|exact aF (fun _=>rfl)|refine ar ?_|refine ⟨rfl,⟨_,rfl,?_⟩,?_⟩|refine ⟨?_,?_⟩)) rfl;obtain ⟨c1,rfl⟩:=cf h2_5;rw [eF ha (by simp at c1;omega)];rfl
   ·
    show Post te Tryz.f134 _ (.panic _) _;refine Post.panicH (1) (k) ?_ (by repeat' (first|exact trivial|exact aK rfl|exact bd rfl rfl|exact aV rfl rfl|exact bw rfl rfl|exact aF (fun _=>rfl)|refine ar ?_|refine ⟨rfl,⟨_,rfl,?_⟩,?_⟩|refine ⟨?_,?_⟩)) rfl;obtain ⟨c1,rfl⟩:=cf h2_3;rw [eF ha (by simp at c1;omega)];rfl
  ·
   show Post te Tryz.f134 _ (.panic _) _;refine Post.panicH (1) (k) ?_ (by repeat' (first|exact trivial|exact aK rfl|exact bd rfl rfl|exact aV rfl rfl|exact bw rfl rfl|exact aF (fun _=>rfl)|refine ar ?_|refine ⟨rfl,⟨_,rfl,?_⟩,?_⟩|refine ⟨?_,?_⟩)) rfl;obtain ⟨c1,rfl⟩:=cf h2_1;rw [eF ha (by simp at c1;omega)];rfl
 ·
  show Post te Tryz.f134 _ (.panic _) _;refine Post.panicH (1) (k) ?_ (by repeat' (first|exact trivial|exact aK rfl|exact bd rfl rfl|exact aV rfl rfl|exact bw rfl rfl|exact aF (fun _=>rfl)|refine ar ?_|refine ⟨rfl,⟨_,rfl,?_⟩,?_⟩|refine ⟨?_,?_⟩)) rfl;obtain ⟨e,he1,rfl⟩:=eV h1_6;rw [rdR,he1];rfl
end
section
attribute [local irreducible] AWp AOps
def cN (b:List UInt8) (j:Nat):Nat:=(dC b j).toNat
theorem jJ (b:List UInt8) (j:Nat):dC b j=(cN b j:Int)∧cN b j≤65535:=by
 have h:0≤dC b j∧dC b j≤65535:=by
  unfold dC;split
  · have:=jk b j;omega
  · omega
 unfold cN;omega
theorem uP {b:List UInt8} (h:dE b=0):¬ b.length<12:=fun k=>by rw [qK k] at h;cases h
def dz (b:List UInt8):Nat→List Qu→Nat→Except Int (List Qu×Nat)
 | 0,acc,p=>.ok (acc,p)
 | k+1,acc,p=>match rdN b 20 p p b.length none [] with
  | .error e=>.error e
  | .ok a=>if b.length<a.2+4 then .error 20 else dz b k (acc++[⟨a.1,bN b a.2 2,bN b (a.2+2) 2⟩]) (a.2+4)
def bL (b:List UInt8):Nat→List Rr→Nat→Except Int (List Rr×Nat)
 | 0,acc,p=>.ok (acc,p)
 | k+1,acc,p=>match rdR b p with
  | .error e=>.error e
  | .ok a=>bL b k (acc++[a.1]) a.2
def mc {α β:Type}:Except Int α→(α→Except Int β)→Except Int β
 | .error e,_=>.error e
 | .ok a,f=>f a
def hdM (b:List UInt8):Hdr:=⟨(dH b).id,(dH b).resp,(dH b).op,(dH b).aa,(dH b).tc,(dH b).rd,(dH b).ra,(dH b).code⟩
def rdM (b:List UInt8):Except Int Msg:=
 if 65535<b.length then .error 42 else if dE b≠0 then .error (dE b) else
 mc (dz b (cN b 2) [] 12) fun q=>mc (bL b (cN b 3) [] q.2) fun x=>mc (bL b (cN b 4) [] x.2) fun y=>mc (bL b (cN b 5) [] y.2) fun z=>
  if z.2=b.length then .ok ⟨hdM b,q.1,x.1,y.1,z.1⟩ else .error 41
theorem qc {b:List UInt8} {p:Nat} {a:Rr×Nat} (h:rdR b p=.ok a):p<a.2∧a.2≤b.length:=by
 unfold rdR at h;cases h1:rdN b 20 p p b.length none [] with
 | error e=>rw [h1] at h;cases h
 | ok c=>
  obtain ⟨_,h2,h3⟩:=jf h1;rw [h1,vN] at h;split at h
  · cases h
  · cases h4:rdD b (bN b c.2 2) (c.2+10) (c.2+10+bN b (c.2+8) 2) with
    | error e=>rw [h4] at h;cases h
    | ok d=>rw [h4,zz] at h;cases h;simp only;omega
theorem iM {b:List UInt8} {k:Nat} {acc:List Qu} {p:Nat} {e:Int} (h:rdN b 20 p p b.length none []=.error e):dz b (k+1) acc p=.error e:=by simp only [dz,h]
theorem gb {b:List UInt8} {k:Nat} {acc:List Qu} {p:Nat} {a:List UInt8×Nat} (h:rdN b 20 p p b.length none []=.ok a) (h1:b.length<a.2+4):dz b (k+1) acc p=.error 20:=by simp only [dz,h,if_pos h1]
theorem je {b:List UInt8} {k:Nat} {acc:List Qu} {p:Nat} {a:List UInt8×Nat} (h:rdN b 20 p p b.length none []=.ok a) (h1:¬ b.length<a.2+4):dz b (k+1) acc p=dz b k (acc++[⟨a.1,bN b a.2 2,bN b (a.2+2) 2⟩]) (a.2+4):=by simp only [dz,h,if_neg h1]
theorem ga {b:List UInt8} {k:Nat} {acc:List Rr} {p:Nat} {e:Int} (h:rdR b p=.error e):bL b (k+1) acc p=.error e:=by simp only [bL,h]
theorem gK {b:List UInt8} {k:Nat} {acc:List Rr} {p:Nat} {a:Rr×Nat} (h:rdR b p=.ok a):bL b (k+1) acc p=bL b k (acc++[a.1]) a.2:=by simp only [bL,h]
section rdM
variable {b:List UInt8}
theorem gc (h:¬ 65535<b.length) (h0:dE b=0):rdM b=mc (dz b (cN b 2) [] 12) fun q=>mc (bL b (cN b 3) [] q.2) fun x=>mc (bL b (cN b 4) [] x.2) fun y=>mc (bL b (cN b 5) [] y.2) fun z=>if z.2=b.length then .ok ⟨hdM b,q.1,x.1,y.1,z.1⟩ else .error 41:=by rw [rdM,if_neg h,if_neg (by simp [h0])]
theorem bW {α β:Type} {r:Except Int α} {e:Int} {f:α→Except Int β} (h:r=.error e):mc r f=.error e:=by rw [h];rfl
theorem aY {α β:Type} {r:Except Int α} {a:α} {f:α→Except Int β} (h:r=.ok a):mc r f=f a:=by rw [h];rfl
end rdM
theorem CK (b:List UInt8) (hb:b.length≤140737488351232):AC Tryz.prog 93 [.ptr 0 0 0] (ao [(0,.box [.fz 1 b.length (cl bc b),i64 0])]) (oA (nP (rdM b)) (.agg (dn (jL (rdM b)))) [(0,.box [.fz 1 b.length (cl bc b),i64 (b.length:Int)])] (fun k=>[(0,.box [.fz 1 b.length (cl bc b),i64 k])])):=by
 refine AC.intro te_ok (fn:=Tryz.f93) ⟨Tryz.func93,rfl,rfl⟩ (aE rfl) ?_;iterate 2 refine ab ?_
 refine ai rfl rfl (ap 100) ?_;iterate 8 refine ab ?_
 refine ai rfl rfl (iN) ?_;refine AOps.callP (hp':=fun k=>[]) (1) [] [] [] (co (decide ((b.length:Int)≤65535)) 42) (fun h1_6=>?_) (fun x k h1_6=>?_)
 ·
  iterate 3 refine ab ?_
  have g1:¬ 65535<b.length:=by have:=d6 h1_6;simp at this;omega
  have hb2:b.length≤65535:=by omega
  iterate 4 refine ab ?_
  refine ai rfl rfl (aj (1) (hc:=(pj b 1 (by omega)))) ?_;iterate 4 refine ab ?_
  refine ai rfl rfl (ap 309) ?_;refine ai rfl rfl (ap 310) ?_;iterate 7 refine ab ?_
  refine ai rfl rfl (dm) ?_;refine ab ?_;refine AOps.callP (hp':=fun k=>[]) (1) [] [] [] (co (decide (dE b=0)) (dE b)) (fun h3_3=>?_) (fun x k h3_3=>?_)
  ·
   iterate 3 refine ab ?_
   have hz:dE b=0:=by have:=d6 h3_3;simpa using this
   have hz1:=uP hz;obtain ⟨e2,l2⟩:=jJ b 2;obtain ⟨e3,l3⟩:=jJ b 3;obtain ⟨e4,l4⟩:=jJ b 4;obtain ⟨e5,l5⟩:=jJ b 5;iterate 8 refine ab ?_
   refine ai rfl rfl (aL [(_,_)]) ?_;refine ai rfl rfl (ap 602) ?_;iterate 5 refine ab ?_
   refine AOps.weak (Weak.nilcell 602 9008 8 3 quc) ?_;refine AOps.weak (Weak.nilcell 602 9009 9 5 rrc) ?_;refine AOps.weak (Weak.nilcell 602 9010 10 5 rrc) ?_;refine AOps.weak (Weak.nilcell 602 9011 11 5 rrc) ?_;iterate 5 refine ab ?_
   refine AWp.loopR (α:=Nat×List Qu×Nat×Nat) [7,37,38,39,40,41,42,43,44,45,46,47,48,49,50,51,52,53,54,55,56,57,58,59] (fun x_=>[(37,i64 (x_.1))]) (fun x_=>[(0,.box [.fz 1 b.length (cl bc b),i64 (x_.2.2.1)]),(602,.box [i64 (dH b).id,tf (dH b).resp,i64 (dH b).op,tf (dH b).aa,tf (dH b).tc,tf (dH b).rd,tf (dH b).ra,i64 (dH b).code,.sl 9008 ((x_.2.2.2)) 0 ((x_.2.1)).length 3,.sl 9009 (0) 0 (([]:List Rr)).length 5,.sl 9010 (0) 0 (([]:List Rr)).length 5,.sl 9011 (0) 0 (([]:List Rr)).length 5]),(9008,.row (cl quc (x_.2.1)) 3 (x_.2.2.2))]) (fun x_=>(x_.1)≤cN b 2∧dz b (cN b 2-(x_.1)) (x_.2.1) (x_.2.2.1)=dz b (cN b 2) [] 12∧(x_.2.1).length=(x_.1)∧(x_.2.2.1)≤b.length) (fun x_=>cN b 2-(x_.1)) (0,[],12,0) ?_ (Back.mk' (HasT.cons HasT.nil) (HasH.cons (HasH.cons (HasH.cons HasH.nil)))) ?_
   ·
    exact ⟨Nat.zero_le _,rfl,rfl,by show 12≤_;omega⟩
   ·
    rintro ⟨i,qs,p,v⟩ hI7;change i≤cN b 2∧dz b (cN b 2-i) qs p=dz b (cN b 2) [] 12∧qs.length=i∧p≤b.length at hI7;obtain ⟨hi,hE,hql,hp⟩:=hI7;refine AWp.as (s':=AS.over _ [7,37,38,39,40,41,42,43,44,45,46,47,48,49,50,51,52,53,54,55,56,57,58,59] [(37,i64 i)] [(0,.box [.fz 1 b.length (cl bc b),i64 p]),(602,.box [i64 (dH b).id,tf (dH b).resp,i64 (dH b).op,tf (dH b).aa,tf (dH b).tc,tf (dH b).rd,tf (dH b).ra,i64 (dH b).code,.sl 9008 (v) 0 (qs).length 3,.sl 9009 (0) 0 (([]:List Rr)).length 5,.sl 9010 (0) 0 (([]:List Rr)).length 5,.sl 9011 (0) 0 (([]:List Rr)).length 5]),(9008,.row (cl quc qs) 3 v)]) rfl ?_;iterate 2 refine ab ?_
    refine am (fun h7_0=>?_) (fun h7_0=>?_)
    ·
     iterate 14 refine ab ?_
     refine AOps.callP (hp':=fun k=>[(0,.box [_,i64 k])]) (1) [(0,0)] [] [(_,_)] (qU b 20 p b.length hb2 (Nat.le_refl _) (by omega)) (fun h8_6=>?_) (fun x k h8_6=>?_)
     ·
      obtain ⟨a,ha⟩:=eW h8_6;obtain ⟨n1,n2,n3⟩:=jf ha;rw [ha];dsimp only [jL];refine ai rfl rfl (aL [(_,_)]) ?_;refine ai rfl rfl (ap 908) ?_;iterate 5 refine ab ?_
      refine AOps.callP (hp':=fun k=>[(0,.box [_,i64 k])]) (1) [(0,0)] [] [(_,_)] (lG b a.2 2 hb2 (by omega) (by omega)) (fun h9_1=>?_) (fun x k h9_1=>?_)
      ·
       refine ab ?_;refine AOps.callP (hp':=fun k=>[(0,.box [_,i64 k])]) (1) [(0,0)] [] [(_,_)] (lG b (a.2+2) 2 hb2 (by omega) (by omega)) (fun h9_3=>?_) (fun x k h9_3=>?_)
       ·
        iterate 6 refine ab ?_
        have g2:¬ b.length<a.2+4:=by have:=d6 h9_3;simp at this;omega
        iterate 3 refine ab ?_
        refine ai rfl rfl (bO 1103 quc [⟨a.1,bN b a.2 2,bN b (a.2+2) 2⟩] [(_,_)]) ?_;iterate 8 refine ab ?_
        refine ⟨(i+1,qs++[⟨a.1,bN b a.2 2,bN b (a.2+2) 2⟩],a.2+4,v+1),?_,Back.mk' (HasT.cons HasT.nil) (HasH.cons (HasH.cons (HasH.cons HasH.nil))),?_⟩
        ·
         try dsimp only
         refine ⟨by omega,?_,by rw [List.length_append,hql];rfl,by omega⟩;rw [← hE,show cN b 2-i=(cN b 2-(i+1))+1 by omega,je ha g2]
        ·
         try dsimp only
         first|omega|(simp;omega)
       ·
        show Post te Tryz.f93 _ (.panic _) _;refine Post.panicH (1) (k) ?_ (by repeat' (first|exact trivial|exact aK rfl|exact bd rfl rfl|exact aV rfl rfl|exact bw rfl rfl|exact aF (fun _=>rfl)|refine ar ?_|refine ⟨rfl,⟨_,rfl,?_⟩,?_⟩|refine ⟨?_,?_⟩)) rfl;obtain ⟨c1,rfl⟩:=cf h9_3;rw [gc g1 hz,bW (e:=20) (by rw [← hE,show cN b 2-i=(cN b 2-(i+1))+1 by omega,gb ha (by simp at c1;omega)])];rfl
      ·
       show Post te Tryz.f93 _ (.panic _) _;refine Post.panicH (1) (k) ?_ (by repeat' (first|exact trivial|exact aK rfl|exact bd rfl rfl|exact aV rfl rfl|exact bw rfl rfl|exact aF (fun _=>rfl)|refine ar ?_|refine ⟨rfl,⟨_,rfl,?_⟩,?_⟩|refine ⟨?_,?_⟩)) rfl;obtain ⟨c1,rfl⟩:=cf h9_1;rw [gc g1 hz,bW (e:=20) (by rw [← hE,show cN b 2-i=(cN b 2-(i+1))+1 by omega,gb ha (by simp at c1;omega)])];rfl
     ·
      show Post te Tryz.f93 _ (.panic _) _;refine Post.panicH (1) (k) ?_ (by repeat' (first|exact trivial|exact aK rfl|exact bd rfl rfl|exact aV rfl rfl|exact bw rfl rfl|exact aF (fun _=>rfl)|refine ar ?_|refine ⟨rfl,⟨_,rfl,?_⟩,?_⟩|refine ⟨?_,?_⟩)) rfl;obtain ⟨e,he1,rfl⟩:=eV h8_6;rw [gc g1 hz,bW (e:=e) (by rw [← hE,show cN b 2-i=(cN b 2-(i+1))+1 by omega,iM he1])];rfl
    ·
     iterate 7 refine ab ?_
     obtain rfl:i=cN b 2:=by omega
     rw [Nat.sub_self,dz] at hE;have hQ:=hE.symm;obtain ⟨p1,hp1⟩:∃ x,x=p:=⟨_,rfl⟩;rw [← hp1] at hQ;iterate 3 refine ab ?_
     refine ai rfl rfl (bO 1303 (fun k=>[AV.ptr 602 0 k]) [9,10,11] [(_,_),(_,_),(_,_)]) ?_;iterate 4 refine ab ?_
     refine AWp.loopR (α:=Nat×List Rr×List Rr×List Rr×Nat×Nat×Nat×Nat) [8,9,65,66,67,68,69,70,71,72,73,74,75,76,77,78,79,80,81,82,83,84,85,86] (fun x_=>[(65,i64 (x_.1))]) (fun x_=>[(0,.box [.fz 1 b.length (cl bc b),i64 (x_.2.2.2.2.1)]),(602,.box [i64 (dH b).id,tf (dH b).resp,i64 (dH b).op,tf (dH b).aa,tf (dH b).tc,tf (dH b).rd,tf (dH b).ra,i64 (dH b).code,.sl 9008 (v) 0 (qs).length 3,.sl 9009 ((x_.2.2.2.2.2.1)) 0 ((x_.2.1)).length 5,.sl 9010 ((x_.2.2.2.2.2.2.1)) 0 ((x_.2.2.1)).length 5,.sl 9011 ((x_.2.2.2.2.2.2.2)) 0 ((x_.2.2.2.1)).length 5]),(9009,.row (cl rrc ((x_.2.1))) 5 ((x_.2.2.2.2.2.1))),(9010,.row (cl rrc ((x_.2.2.1))) 5 ((x_.2.2.2.2.2.2.1))),(9011,.row (cl rrc ((x_.2.2.2.1))) 5 ((x_.2.2.2.2.2.2.2)))]) (fun x_=>(x_.1)≤3∧(x_.2.2.2.2.1)≤b.length∧(((x_.1)=0∧(x_.2.1)=[]∧(x_.2.2.1)=[]∧(x_.2.2.2.1)=[]∧(x_.2.2.2.2.1)=p1)∨((x_.1)=1∧bL b (cN b 3) [] p1=.ok ((x_.2.1),(x_.2.2.2.2.1))∧(x_.2.2.1)=[]∧(x_.2.2.2.1)=[])∨((x_.1)=2∧(∃ p2,bL b (cN b 3) [] p1=.ok ((x_.2.1),p2)∧bL b (cN b 4) [] p2=.ok ((x_.2.2.1),(x_.2.2.2.2.1)))∧(x_.2.2.2.1)=[])∨((x_.1)=3∧∃ p2 p3,bL b (cN b 3) [] p1=.ok ((x_.2.1),p2)∧bL b (cN b 4) [] p2=.ok ((x_.2.2.1),p3)∧bL b (cN b 5) [] p3=.ok ((x_.2.2.2.1),(x_.2.2.2.2.1))))) (fun x_=>3-(x_.1)) (0,[],[],[],p,0,0,0) ?_ (Back.mk' (HasT.cons HasT.nil) (HasH.cons (HasH.cons (HasH.cons (HasH.cons (HasH.cons HasH.nil)))))) ?_
     ·
      exact ⟨Nat.zero_le _,hp,.inl ⟨rfl,rfl,rfl,rfl,hp1.symm⟩⟩
     ·
      rintro ⟨i,A,U,D,p,va,vu,vd⟩ hI13;change i≤3∧p≤b.length∧((i=0∧A=[]∧U=[]∧D=[]∧p=p1)∨(i=1∧bL b (cN b 3) [] p1=.ok (A,p)∧U=[]∧D=[])∨(i=2∧(∃ p2,bL b (cN b 3) [] p1=.ok (A,p2)∧bL b (cN b 4) [] p2=.ok (U,p))∧D=[])∨(i=3∧∃ p2 p3,bL b (cN b 3) [] p1=.ok (A,p2)∧bL b (cN b 4) [] p2=.ok (U,p3)∧bL b (cN b 5) [] p3=.ok (D,p))) at hI13;obtain ⟨hi,hp,hI⟩:=hI13;refine AWp.as (s':=AS.over _ [8,9,65,66,67,68,69,70,71,72,73,74,75,76,77,78,79,80,81,82,83,84,85,86] [(65,i64 i)] [(0,.box [.fz 1 b.length (cl bc b),i64 p]),(602,.box [i64 (dH b).id,tf (dH b).resp,i64 (dH b).op,tf (dH b).aa,tf (dH b).tc,tf (dH b).rd,tf (dH b).ra,i64 (dH b).code,.sl 9008 (v) 0 (qs).length 3,.sl 9009 (va) 0 (A).length 5,.sl 9010 (vu) 0 (U).length 5,.sl 9011 (vd) 0 (D).length 5]),(9009,.row (cl rrc (A)) 5 (va)),(9010,.row (cl rrc (U)) 5 (vu)),(9011,.row (cl rrc (D)) 5 (vd))]) rfl ?_;iterate 2 refine ab ?_
      refine am (fun h13_0=>?_) (fun h13_0=>?_)
      ·
       iterate 8 refine ab ?_
       rcases hI with ⟨rfl,rfl,rfl,rfl,hp1⟩|⟨rfl,hA1,rfl,rfl⟩|⟨rfl,⟨p2,hA1,hU1⟩,rfl⟩|⟨h3,_⟩
       rotate_left 3
       · exfalso;simp at h13_0;omega
       ·
        iterate 2 refine ab ?_
        refine ai rfl rfl (bb (z:=.ptr 602 0 9) (hy:=rfl)) ?_;iterate 12 refine ab ?_
        refine AWp.loopR (α:=Nat×List Rr×Nat×Nat) [74,75,76,77,78,79,80,81,82,83,84,85] (fun x_=>[(74,i64 (x_.1))]) (fun x_=>[(0,.box [.fz 1 b.length (cl bc b),i64 (x_.2.2.1)]),(602,.box [i64 (dH b).id,tf (dH b).resp,i64 (dH b).op,tf (dH b).aa,tf (dH b).tc,tf (dH b).rd,tf (dH b).ra,i64 (dH b).code,.sl 9008 (v) 0 (qs).length 3,.sl 9009 ((x_.2.2.2)) 0 ((x_.2.1)).length 5,.sl 9010 (vu) 0 (([]:List Rr)).length 5,.sl 9011 (vd) 0 (([]:List Rr)).length 5]),(9009,.row (cl rrc ((x_.2.1))) 5 ((x_.2.2.2)))]) (fun x_=>(x_.1)≤cN b 3∧bL b (cN b 3-(x_.1)) (x_.2.1) (x_.2.2.1)=bL b (cN b 3) [] p∧(x_.2.1).length=(x_.1)∧(x_.2.2.1)≤b.length) (fun x_=>cN b 3-(x_.1)) (0,[],p,va) ?_ (Back.mk' (HasT.cons HasT.nil) (HasH.cons (HasH.cons (HasH.cons HasH.nil)))) ?_
        ·
         exact ⟨Nat.zero_le _,rfl,rfl,hp⟩
        ·
         rintro ⟨j,l,q,w⟩ hI16;change j≤cN b 3∧bL b (cN b 3-j) l q=bL b (cN b 3) [] p∧l.length=j∧q≤b.length at hI16;obtain ⟨hj,hE,hll,hq⟩:=hI16;refine AWp.as (s':=AS.over _ [74,75,76,77,78,79,80,81,82,83,84,85] [(74,i64 j)] [(0,.box [.fz 1 b.length (cl bc b),i64 q]),(602,.box [i64 (dH b).id,tf (dH b).resp,i64 (dH b).op,tf (dH b).aa,tf (dH b).tc,tf (dH b).rd,tf (dH b).ra,i64 (dH b).code,.sl 9008 (v) 0 (qs).length 3,.sl 9009 (w) 0 (l).length 5,.sl 9010 (vu) 0 (([]:List Rr)).length 5,.sl 9011 (vd) 0 (([]:List Rr)).length 5]),(9009,.row (cl rrc (l)) 5 (w))]) rfl ?_;iterate 2 refine ab ?_
         refine am (fun h16_0=>?_) (fun h16_0=>?_)
         ·
          iterate 6 refine ab ?_
          rcases hpo:nP (rdR b q) with _|xx
          ·
           refine AWp.drawsX _ [⟨0,[9],[],some 76,_,[]⟩,
            ⟨1,[9],[],some 77,_,[]⟩,
            ⟨2,[77],[602],some 78,_,[]⟩,
            ⟨3,[78],[602],some 79,_,[]⟩,
            ⟨4,[0],[],some 80,_,[]⟩,
            ⟨5,[80],[0,1,2,3,4,5,6,7],some 81,_,[(0,_)]⟩,
            ⟨6,[81],[1806],some 82,_,[(1806,_)]⟩,
            ⟨7,[79,82],[1806,9009],some 83,_,[(9009,_)]⟩,
            ⟨8,[76],[602],some 84,_,[]⟩,
            ⟨9,[83,84],[602,9009],none,_,[(602,_)]⟩]
            [⟨0,[9],[],some 76,.any,[]⟩,
             ⟨1,[9],[],some 77,.any,[]⟩,
             ⟨2,[77],[602],some 78,.any,[]⟩,
             ⟨3,[78],[602],some 79,.any,[]⟩,
             ⟨4,[0],[],some 80,.any,[]⟩,
             ⟨5,[80],[0,1,2,3,4,5,6,7],some 81,.any,[(0,.box [])]⟩,
             ⟨6,[81],[1806],some 82,.any,[(1806,.box [])]⟩,
             ⟨7,[79,82],[1806,9009],some 83,.any,[(9009,.box [])]⟩,
             ⟨8,[76],[602],some 84,.any,[]⟩,
             ⟨9,[83,84],[602,9009],none,.any,[(602,.box [])]⟩]
            cE rfl (by kernel_rfl) ⟨DS.okX_over fun s0=>(OpAt.go rfl rfl (aA)).x,
             DS.okX_over fun s0=>(OpAt.go rfl rfl (aA)).x,
             DS.okX_over fun s0=>(OpAt.go rfl rfl (cW)).x,
             DS.okX_over fun s0=>(OpAt.go rfl rfl (bb)).x,
             DS.okX_over fun s0=>(OpAt.go rfl rfl (aA)).x,
             DS.okX_over fun s0=>db (hp':=fun k=>[(0,.box [_,i64 k])]) (1) [(0,0)] [] [(_,_)] (lE b q hb2 (by omega)) (fun x k h17_5=>?_),
             DS.okX_over fun s0=>(OpAt.go rfl rfl (bO 1806 rrc [(jL (rdR b q)).1] [(_,_)])).x,
             DS.okX_over fun s0=>(OpAt.go rfl rfl (gY)).x,
             DS.okX_over fun s0=>(OpAt.go rfl rfl (cW)).x,
             DS.okX_over fun s0=>(OpAt.go rfl rfl (cI)).x,trivial⟩ ?_ (fun _ _ h=>h)
           ·
            exact absurd (hpo.symm.trans h17_5) (by simp)
           dsimp only [cS,DS.upd,AS.seto];refine ab ?_;obtain ⟨a,ha⟩:=eW hpo;have hr:=qc ha;rw [ha];dsimp only [jL];iterate 3 refine ab ?_
           refine ⟨(j+1,l++[a.1],a.2,w+1),?_,Back.mk' (HasT.cons HasT.nil) (HasH.cons (HasH.cons (HasH.cons HasH.nil))),?_⟩
           ·
            try dsimp only
            refine ⟨by omega,?_,by rw [List.length_append,hll];rfl,hr.2⟩;rw [← hE,show cN b 3-j=(cN b 3-(j+1))+1 by omega,gK ha]
           ·
            try dsimp only
            first|omega|(simp;omega)
          ·
           refine AWp.drawsX _ [⟨0,[9],[],some 76,_,[]⟩,
            ⟨1,[9],[],some 77,_,[]⟩,
            ⟨2,[77],[602],some 78,_,[]⟩,
            ⟨3,[78],[602],some 79,_,[]⟩,
            ⟨4,[0],[],some 80,_,[]⟩,
            ⟨5,[80],[0,1,2,3,4,5,6,7],some 81,_,[(0,_)]⟩,
            ⟨6,[81],[1806],some 82,.fz 0 1 [],[(1806,.box [])]⟩,
            ⟨7,[79,82],[1806,9009],some 83,.fz 0 1 [],[(9009,.box [])]⟩,
            ⟨8,[76],[602],some 84,_,[]⟩,
            ⟨9,[83,84],[602,9009],none,.fz 0 1 [],[(602,.box [])]⟩]
            [⟨0,[9],[],some 76,.any,[]⟩,
             ⟨1,[9],[],some 77,.any,[]⟩,
             ⟨2,[77],[602],some 78,.any,[]⟩,
             ⟨3,[78],[602],some 79,.any,[]⟩,
             ⟨4,[0],[],some 80,.any,[]⟩,
             ⟨5,[80],[0,1,2,3,4,5,6,7],some 81,.any,[(0,.box [])]⟩,
             ⟨6,[81],[1806],some 82,.any,[(1806,.box [])]⟩,
             ⟨7,[79,82],[1806,9009],some 83,.any,[(9009,.box [])]⟩,
             ⟨8,[76],[602],some 84,.any,[]⟩,
             ⟨9,[83,84],[602,9009],none,.any,[(602,.box [])]⟩]
            cE rfl (by kernel_rfl) ⟨DS.okX_over fun s0=>(OpAt.go rfl rfl (aA)).x,
             DS.okX_over fun s0=>(OpAt.go rfl rfl (aA)).x,
             DS.okX_over fun s0=>(OpAt.go rfl rfl (cW)).x,
             DS.okX_over fun s0=>(OpAt.go rfl rfl (bb)).x,
             DS.okX_over fun s0=>(OpAt.go rfl rfl (aA)).x,
             DS.okX_over fun s0=>db (hp':=fun k=>[(0,.box [_,i64 k])]) (1) [(0,0)] [] [(_,_)] (AC.bad hpo (lE b q hb2 (by omega))) (fun x k h17_5=>?_),
             DS.okX_over fun s0=>OpAtX.bot (d:=81) rfl,
             DS.okX_over fun s0=>OpAtX.bot (d:=82) rfl,
             DS.okX_over fun s0=>(OpAt.go rfl rfl (cW)).x,
             DS.okX_over fun s0=>OpAtX.bot (d:=83) rfl,trivial⟩ ?_ (fun _ _ h=>h)
           ·
            show Post te Tryz.f93 _ (.panic _) _;refine Post.panicH (1) (k) ?_ (by repeat' (first|exact trivial|exact aK rfl|exact bd rfl rfl|exact aV rfl rfl|exact bw rfl rfl|exact aF (fun _=>rfl)|refine ar ?_|refine ⟨rfl,⟨_,rfl,?_⟩,?_⟩|refine ⟨?_,?_⟩)) rfl;obtain ⟨e,he1,rfl⟩:=eV h17_5;have hX:bL b (cN b 3) [] p=.error e:=by rw [← hE,show cN b 3-j=(cN b 3-(j+1))+1 by omega,ga he1]
            rw [hp1] at hX;rw [gc g1 hz,aY hQ];dsimp only;rw [bW hX];rfl
           dsimp only [cS,DS.upd,AS.seto];exact AWp.bot (d:=81) rfl
         ·
          iterate 5 refine ab ?_
          obtain rfl:j=cN b 3:=by omega
          rw [Nat.sub_self,bL] at hE;have hA:=hE.symm;iterate 3 refine ab ?_
          refine ⟨(1,l,([]:List Rr),([]:List Rr),q,w,vu,vd),?_,Back.mk' (HasT.cons HasT.nil) (HasH.cons (HasH.cons (HasH.cons (HasH.cons (HasH.cons HasH.nil))))),?_⟩
          ·
           try dsimp only
           exact ⟨by omega,hq,.inr (.inl ⟨rfl,hp1▸hA,rfl,rfl⟩)⟩
          ·
           try dsimp only
           first|omega|(simp;omega)
       ·
        iterate 2 refine ab ?_
        refine ai rfl rfl (bb (z:=.ptr 602 0 10) (hy:=rfl)) ?_;iterate 12 refine ab ?_
        refine AWp.loopR (α:=Nat×List Rr×Nat×Nat) [74,75,76,77,78,79,80,81,82,83,84,85] (fun x_=>[(74,i64 (x_.1))]) (fun x_=>[(0,.box [.fz 1 b.length (cl bc b),i64 (x_.2.2.1)]),(602,.box [i64 (dH b).id,tf (dH b).resp,i64 (dH b).op,tf (dH b).aa,tf (dH b).tc,tf (dH b).rd,tf (dH b).ra,i64 (dH b).code,.sl 9008 (v) 0 (qs).length 3,.sl 9009 (va) 0 (A).length 5,.sl 9010 ((x_.2.2.2)) 0 ((x_.2.1)).length 5,.sl 9011 (vd) 0 (([]:List Rr)).length 5]),(9010,.row (cl rrc ((x_.2.1))) 5 ((x_.2.2.2)))]) (fun x_=>(x_.1)≤cN b 4∧bL b (cN b 4-(x_.1)) (x_.2.1) (x_.2.2.1)=bL b (cN b 4) [] p∧(x_.2.1).length=(x_.1)∧(x_.2.2.1)≤b.length) (fun x_=>cN b 4-(x_.1)) (0,[],p,vu) ?_ (Back.mk' (HasT.cons HasT.nil) (HasH.cons (HasH.cons (HasH.cons HasH.nil)))) ?_
        ·
         exact ⟨Nat.zero_le _,rfl,rfl,hp⟩
        ·
         rintro ⟨j,l,q,w⟩ hI16;change j≤cN b 4∧bL b (cN b 4-j) l q=bL b (cN b 4) [] p∧l.length=j∧q≤b.length at hI16;obtain ⟨hj,hE,hll,hq⟩:=hI16;refine AWp.as (s':=AS.over _ [74,75,76,77,78,79,80,81,82,83,84,85] [(74,i64 j)] [(0,.box [.fz 1 b.length (cl bc b),i64 q]),(602,.box [i64 (dH b).id,tf (dH b).resp,i64 (dH b).op,tf (dH b).aa,tf (dH b).tc,tf (dH b).rd,tf (dH b).ra,i64 (dH b).code,.sl 9008 (v) 0 (qs).length 3,.sl 9009 (va) 0 (A).length 5,.sl 9010 (w) 0 (l).length 5,.sl 9011 (vd) 0 (([]:List Rr)).length 5]),(9010,.row (cl rrc (l)) 5 (w))]) rfl ?_;iterate 2 refine ab ?_
         refine am (fun h16_0=>?_) (fun h16_0=>?_)
         ·
          iterate 6 refine ab ?_
          rcases hpo:nP (rdR b q) with _|xx
          ·
           refine AWp.drawsX _ [⟨0,[9],[],some 76,_,[]⟩,
            ⟨1,[9],[],some 77,_,[]⟩,
            ⟨2,[77],[602],some 78,_,[]⟩,
            ⟨3,[78],[602],some 79,_,[]⟩,
            ⟨4,[0],[],some 80,_,[]⟩,
            ⟨5,[80],[0,1,2,3,4,5,6,7],some 81,_,[(0,_)]⟩,
            ⟨6,[81],[1806],some 82,_,[(1806,_)]⟩,
            ⟨7,[79,82],[1806,9010],some 83,_,[(9010,_)]⟩,
            ⟨8,[76],[602],some 84,_,[]⟩,
            ⟨9,[83,84],[602,9010],none,_,[(602,_)]⟩]
            [⟨0,[9],[],some 76,.any,[]⟩,
             ⟨1,[9],[],some 77,.any,[]⟩,
             ⟨2,[77],[602],some 78,.any,[]⟩,
             ⟨3,[78],[602],some 79,.any,[]⟩,
             ⟨4,[0],[],some 80,.any,[]⟩,
             ⟨5,[80],[0,1,2,3,4,5,6,7],some 81,.any,[(0,.box [])]⟩,
             ⟨6,[81],[1806],some 82,.any,[(1806,.box [])]⟩,
             ⟨7,[79,82],[1806,9010],some 83,.any,[(9010,.box [])]⟩,
             ⟨8,[76],[602],some 84,.any,[]⟩,
             ⟨9,[83,84],[602,9010],none,.any,[(602,.box [])]⟩]
            cE rfl (by kernel_rfl) ⟨DS.okX_over fun s0=>(OpAt.go rfl rfl (aA)).x,
             DS.okX_over fun s0=>(OpAt.go rfl rfl (aA)).x,
             DS.okX_over fun s0=>(OpAt.go rfl rfl (cW)).x,
             DS.okX_over fun s0=>(OpAt.go rfl rfl (bb)).x,
             DS.okX_over fun s0=>(OpAt.go rfl rfl (aA)).x,
             DS.okX_over fun s0=>db (hp':=fun k=>[(0,.box [_,i64 k])]) (1) [(0,0)] [] [(_,_)] (lE b q hb2 (by omega)) (fun x k h17_5=>?_),
             DS.okX_over fun s0=>(OpAt.go rfl rfl (bO 1806 rrc [(jL (rdR b q)).1] [(_,_)])).x,
             DS.okX_over fun s0=>(OpAt.go rfl rfl (gY)).x,
             DS.okX_over fun s0=>(OpAt.go rfl rfl (cW)).x,
             DS.okX_over fun s0=>(OpAt.go rfl rfl (cI)).x,trivial⟩ ?_ (fun _ _ h=>h)
           ·
            exact absurd (hpo.symm.trans h17_5) (by simp)
           dsimp only [cS,DS.upd,AS.seto];refine ab ?_;obtain ⟨a,ha⟩:=eW hpo;have hr:=qc ha;rw [ha];dsimp only [jL];iterate 3 refine ab ?_
           refine ⟨(j+1,l++[a.1],a.2,w+1),?_,Back.mk' (HasT.cons HasT.nil) (HasH.cons (HasH.cons (HasH.cons HasH.nil))),?_⟩
           ·
            try dsimp only
            refine ⟨by omega,?_,by rw [List.length_append,hll];rfl,hr.2⟩;rw [← hE,show cN b 4-j=(cN b 4-(j+1))+1 by omega,gK ha]
           ·
            try dsimp only
            first|omega|(simp;omega)
          ·
           refine AWp.drawsX _ [⟨0,[9],[],some 76,_,[]⟩,
            ⟨1,[9],[],some 77,_,[]⟩,
            ⟨2,[77],[602],some 78,_,[]⟩,
            ⟨3,[78],[602],some 79,_,[]⟩,
            ⟨4,[0],[],some 80,_,[]⟩,
            ⟨5,[80],[0,1,2,3,4,5,6,7],some 81,_,[(0,_)]⟩,
            ⟨6,[81],[1806],some 82,.fz 0 1 [],[(1806,.box [])]⟩,
            ⟨7,[79,82],[1806,9010],some 83,.fz 0 1 [],[(9010,.box [])]⟩,
            ⟨8,[76],[602],some 84,_,[]⟩,
            ⟨9,[83,84],[602,9010],none,.fz 0 1 [],[(602,.box [])]⟩]
            [⟨0,[9],[],some 76,.any,[]⟩,
             ⟨1,[9],[],some 77,.any,[]⟩,
             ⟨2,[77],[602],some 78,.any,[]⟩,
             ⟨3,[78],[602],some 79,.any,[]⟩,
             ⟨4,[0],[],some 80,.any,[]⟩,
             ⟨5,[80],[0,1,2,3,4,5,6,7],some 81,.any,[(0,.box [])]⟩,
             ⟨6,[81],[1806],some 82,.any,[(1806,.box [])]⟩,
             ⟨7,[79,82],[1806,9010],some 83,.any,[(9010,.box [])]⟩,
             ⟨8,[76],[602],some 84,.any,[]⟩,
             ⟨9,[83,84],[602,9010],none,.any,[(602,.box [])]⟩]
            cE rfl (by kernel_rfl) ⟨DS.okX_over fun s0=>(OpAt.go rfl rfl (aA)).x,
             DS.okX_over fun s0=>(OpAt.go rfl rfl (aA)).x,
             DS.okX_over fun s0=>(OpAt.go rfl rfl (cW)).x,
             DS.okX_over fun s0=>(OpAt.go rfl rfl (bb)).x,
             DS.okX_over fun s0=>(OpAt.go rfl rfl (aA)).x,
             DS.okX_over fun s0=>db (hp':=fun k=>[(0,.box [_,i64 k])]) (1) [(0,0)] [] [(_,_)] (AC.bad hpo (lE b q hb2 (by omega))) (fun x k h17_5=>?_),
             DS.okX_over fun s0=>OpAtX.bot (d:=81) rfl,
             DS.okX_over fun s0=>OpAtX.bot (d:=82) rfl,
             DS.okX_over fun s0=>(OpAt.go rfl rfl (cW)).x,
             DS.okX_over fun s0=>OpAtX.bot (d:=83) rfl,trivial⟩ ?_ (fun _ _ h=>h)
           ·
            show Post te Tryz.f93 _ (.panic _) _;refine Post.panicH (1) (k) ?_ (by repeat' (first|exact trivial|exact aK rfl|exact bd rfl rfl|exact aV rfl rfl|exact bw rfl rfl|exact aF (fun _=>rfl)|refine ar ?_|refine ⟨rfl,⟨_,rfl,?_⟩,?_⟩|refine ⟨?_,?_⟩)) rfl;obtain ⟨e,he1,rfl⟩:=eV h17_5;have hX:bL b (cN b 4) [] p=.error e:=by rw [← hE,show cN b 4-j=(cN b 4-(j+1))+1 by omega,ga he1]
            rw [gc g1 hz,aY hQ];dsimp only;rw [aY hA1];dsimp only;rw [bW hX];rfl
           dsimp only [cS,DS.upd,AS.seto];exact AWp.bot (d:=81) rfl
         ·
          iterate 5 refine ab ?_
          obtain rfl:j=cN b 4:=by omega
          rw [Nat.sub_self,bL] at hE;have hA:=hE.symm;iterate 3 refine ab ?_
          refine ⟨(2,A,l,([]:List Rr),q,va,w,vd),?_,Back.mk' (HasT.cons HasT.nil) (HasH.cons (HasH.cons (HasH.cons (HasH.cons (HasH.cons HasH.nil))))),?_⟩
          ·
           try dsimp only
           exact ⟨by omega,hq,.inr (.inr (.inl ⟨rfl,⟨_,hA1,hA⟩,rfl⟩))⟩
          ·
           try dsimp only
           first|omega|(simp;omega)
       ·
        iterate 2 refine ab ?_
        refine ai rfl rfl (bb (z:=.ptr 602 0 11) (hy:=rfl)) ?_;iterate 12 refine ab ?_
        refine AWp.loopR (α:=Nat×List Rr×Nat×Nat) [74,75,76,77,78,79,80,81,82,83,84,85] (fun x_=>[(74,i64 (x_.1))]) (fun x_=>[(0,.box [.fz 1 b.length (cl bc b),i64 (x_.2.2.1)]),(602,.box [i64 (dH b).id,tf (dH b).resp,i64 (dH b).op,tf (dH b).aa,tf (dH b).tc,tf (dH b).rd,tf (dH b).ra,i64 (dH b).code,.sl 9008 (v) 0 (qs).length 3,.sl 9009 (va) 0 (A).length 5,.sl 9010 (vu) 0 (U).length 5,.sl 9011 ((x_.2.2.2)) 0 ((x_.2.1)).length 5]),(9011,.row (cl rrc ((x_.2.1))) 5 ((x_.2.2.2)))]) (fun x_=>(x_.1)≤cN b 5∧bL b (cN b 5-(x_.1)) (x_.2.1) (x_.2.2.1)=bL b (cN b 5) [] p∧(x_.2.1).length=(x_.1)∧(x_.2.2.1)≤b.length) (fun x_=>cN b 5-(x_.1)) (0,[],p,vd) ?_ (Back.mk' (HasT.cons HasT.nil) (HasH.cons (HasH.cons (HasH.cons HasH.nil)))) ?_
        ·
         exact ⟨Nat.zero_le _,rfl,rfl,hp⟩
        ·
         rintro ⟨j,l,q,w⟩ hI16;change j≤cN b 5∧bL b (cN b 5-j) l q=bL b (cN b 5) [] p∧l.length=j∧q≤b.length at hI16;obtain ⟨hj,hE,hll,hq⟩:=hI16;refine AWp.as (s':=AS.over _ [74,75,76,77,78,79,80,81,82,83,84,85] [(74,i64 j)] [(0,.box [.fz 1 b.length (cl bc b),i64 q]),(602,.box [i64 (dH b).id,tf (dH b).resp,i64 (dH b).op,tf (dH b).aa,tf (dH b).tc,tf (dH b).rd,tf (dH b).ra,i64 (dH b).code,.sl 9008 (v) 0 (qs).length 3,.sl 9009 (va) 0 (A).length 5,.sl 9010 (vu) 0 (U).length 5,.sl 9011 (w) 0 (l).length 5]),(9011,.row (cl rrc (l)) 5 (w))]) rfl ?_;iterate 2 refine ab ?_
         refine am (fun h16_0=>?_) (fun h16_0=>?_)
         ·
          iterate 6 refine ab ?_
          rcases hpo:nP (rdR b q) with _|xx
          ·
           refine AWp.drawsX _ [⟨0,[9],[],some 76,_,[]⟩,
            ⟨1,[9],[],some 77,_,[]⟩,
            ⟨2,[77],[602],some 78,_,[]⟩,
            ⟨3,[78],[602],some 79,_,[]⟩,
            ⟨4,[0],[],some 80,_,[]⟩,
            ⟨5,[80],[0,1,2,3,4,5,6,7],some 81,_,[(0,_)]⟩,
            ⟨6,[81],[1806],some 82,_,[(1806,_)]⟩,
            ⟨7,[79,82],[1806,9011],some 83,_,[(9011,_)]⟩,
            ⟨8,[76],[602],some 84,_,[]⟩,
            ⟨9,[83,84],[602,9011],none,_,[(602,_)]⟩]
            [⟨0,[9],[],some 76,.any,[]⟩,
             ⟨1,[9],[],some 77,.any,[]⟩,
             ⟨2,[77],[602],some 78,.any,[]⟩,
             ⟨3,[78],[602],some 79,.any,[]⟩,
             ⟨4,[0],[],some 80,.any,[]⟩,
             ⟨5,[80],[0,1,2,3,4,5,6,7],some 81,.any,[(0,.box [])]⟩,
             ⟨6,[81],[1806],some 82,.any,[(1806,.box [])]⟩,
             ⟨7,[79,82],[1806,9011],some 83,.any,[(9011,.box [])]⟩,
             ⟨8,[76],[602],some 84,.any,[]⟩,
             ⟨9,[83,84],[602,9011],none,.any,[(602,.box [])]⟩]
            cE rfl (by kernel_rfl) ⟨DS.okX_over fun s0=>(OpAt.go rfl rfl (aA)).x,
             DS.okX_over fun s0=>(OpAt.go rfl rfl (aA)).x,
             DS.okX_over fun s0=>(OpAt.go rfl rfl (cW)).x,
             DS.okX_over fun s0=>(OpAt.go rfl rfl (bb)).x,
             DS.okX_over fun s0=>(OpAt.go rfl rfl (aA)).x,
             DS.okX_over fun s0=>db (hp':=fun k=>[(0,.box [_,i64 k])]) (1) [(0,0)] [] [(_,_)] (lE b q hb2 (by omega)) (fun x k h17_5=>?_),
             DS.okX_over fun s0=>(OpAt.go rfl rfl (bO 1806 rrc [(jL (rdR b q)).1] [(_,_)])).x,
             DS.okX_over fun s0=>(OpAt.go rfl rfl (gY)).x,
             DS.okX_over fun s0=>(OpAt.go rfl rfl (cW)).x,
             DS.okX_over fun s0=>(OpAt.go rfl rfl (cI)).x,trivial⟩ ?_ (fun _ _ h=>h)
           ·
            exact absurd (hpo.symm.trans h17_5) (by simp)
           dsimp only [cS,DS.upd,AS.seto];refine ab ?_;obtain ⟨a,ha⟩:=eW hpo;have hr:=qc ha;rw [ha];dsimp only [jL];iterate 3 refine ab ?_
           refine ⟨(j+1,l++[a.1],a.2,w+1),?_,Back.mk' (HasT.cons HasT.nil) (HasH.cons (HasH.cons (HasH.cons HasH.nil))),?_⟩
           ·
            try dsimp only
            refine ⟨by omega,?_,by rw [List.length_append,hll];rfl,hr.2⟩;rw [← hE,show cN b 5-j=(cN b 5-(j+1))+1 by omega,gK ha]
           ·
            try dsimp only
            first|omega|(simp;omega)
          ·
           refine AWp.drawsX _ [⟨0,[9],[],some 76,_,[]⟩,
            ⟨1,[9],[],some 77,_,[]⟩,
            ⟨2,[77],[602],some 78,_,[]⟩,
            ⟨3,[78],[602],some 79,_,[]⟩,
            ⟨4,[0],[],some 80,_,[]⟩,
            ⟨5,[80],[0,1,2,3,4,5,6,7],some 81,_,[(0,_)]⟩,
            ⟨6,[81],[1806],some 82,.fz 0 1 [],[(1806,.box [])]⟩,
            ⟨7,[79,82],[1806,9011],some 83,.fz 0 1 [],[(9011,.box [])]⟩,
            ⟨8,[76],[602],some 84,_,[]⟩,
            ⟨9,[83,84],[602,9011],none,.fz 0 1 [],[(602,.box [])]⟩]
            [⟨0,[9],[],some 76,.any,[]⟩,
             ⟨1,[9],[],some 77,.any,[]⟩,
             ⟨2,[77],[602],some 78,.any,[]⟩,
             ⟨3,[78],[602],some 79,.any,[]⟩,
             ⟨4,[0],[],some 80,.any,[]⟩,
             ⟨5,[80],[0,1,2,3,4,5,6,7],some 81,.any,[(0,.box [])]⟩,
             ⟨6,[81],[1806],some 82,.any,[(1806,.box [])]⟩,
             ⟨7,[79,82],[1806,9011],some 83,.any,[(9011,.box [])]⟩,
             ⟨8,[76],[602],some 84,.any,[]⟩,
             ⟨9,[83,84],[602,9011],none,.any,[(602,.box [])]⟩]
            cE rfl (by kernel_rfl) ⟨DS.okX_over fun s0=>(OpAt.go rfl rfl (aA)).x,
             DS.okX_over fun s0=>(OpAt.go rfl rfl (aA)).x,
             DS.okX_over fun s0=>(OpAt.go rfl rfl (cW)).x,
             DS.okX_over fun s0=>(OpAt.go rfl rfl (bb)).x,
             DS.okX_over fun s0=>(OpAt.go rfl rfl (aA)).x,
             DS.okX_over fun s0=>db (hp':=fun k=>[(0,.box [_,i64 k])]) (1) [(0,0)] [] [(_,_)] (AC.bad hpo (lE b q hb2 (by omega))) (fun x k h17_5=>?_),
             DS.okX_over fun s0=>OpAtX.bot (d:=81) rfl,
             DS.okX_over fun s0=>OpAtX.bot (d:=82) rfl,
             DS.okX_over fun s0=>(OpAt.go rfl rfl (cW)).x,
             DS.okX_over fun s0=>OpAtX.bot (d:=83) rfl,trivial⟩ ?_ (fun _ _ h=>h)
           ·
            show Post te Tryz.f93 _ (.panic _) _;refine Post.panicH (1) (k) ?_ (by repeat' (first|exact trivial|exact aK rfl|exact bd rfl rfl|exact aV rfl rfl|exact bw rfl rfl|exact aF (fun _=>rfl)|refine ar ?_|refine ⟨rfl,⟨_,rfl,?_⟩,?_⟩|refine ⟨?_,?_⟩)) rfl;obtain ⟨e,he1,rfl⟩:=eV h17_5;have hX:bL b (cN b 5) [] p=.error e:=by rw [← hE,show cN b 5-j=(cN b 5-(j+1))+1 by omega,ga he1]
            rw [gc g1 hz,aY hQ];dsimp only;rw [aY hA1];dsimp only;rw [aY hU1];dsimp only;rw [bW hX];rfl
           dsimp only [cS,DS.upd,AS.seto];exact AWp.bot (d:=81) rfl
         ·
          iterate 5 refine ab ?_
          obtain rfl:j=cN b 5:=by omega
          rw [Nat.sub_self,bL] at hE;have hA:=hE.symm;iterate 3 refine ab ?_
          refine ⟨(3,A,U,l,q,va,vu,w),?_,Back.mk' (HasT.cons HasT.nil) (HasH.cons (HasH.cons (HasH.cons (HasH.cons (HasH.cons HasH.nil))))),?_⟩
          ·
           try dsimp only
           exact ⟨by omega,hq,.inr (.inr (.inr ⟨rfl,_,_,hA1,hU1,hA⟩))⟩
          ·
           try dsimp only
           first|omega|(simp;omega)
      ·
       iterate 5 refine ab ?_
       rcases hpo:pNo (decide ((p:Int)=(b.length:Int))) 41 with _|xx
       ·
        obtain ⟨p2,p3,hA,hU,hD⟩:∃ p2 p3,bL b (cN b 3) [] p1=.ok (A,p2)∧bL b (cN b 4) [] p2=.ok (U,p3)∧bL b (cN b 5) [] p3=.ok (D,p):=by
         simp at h13_0;rcases hI with ⟨h,_⟩|⟨h,_⟩|⟨h,_⟩|⟨_,h⟩
         · omega
         · omega
         · omega
         · exact h
        have hM:rdM b=if p=b.length then .ok ⟨hdM b,qs,A,U,D⟩ else .error 41:=by
         rw [gc g1 hz,aY hQ];dsimp only;rw [aY hA];dsimp only;rw [aY hU];dsimp only;rw [aY hD]
        refine AWp.drawsX _ [⟨0,[0],[],some 87,_,[]⟩,
         ⟨1,[87],[0],some 88,_,[]⟩,
         ⟨2,[88],[0],some 89,_,[]⟩,
         ⟨3,[89],[0],some 90,_,[]⟩,
         ⟨4,[0],[],some 91,_,[]⟩,
         ⟨5,[91],[0],some 92,_,[]⟩,
         ⟨6,[92],[0],some 93,_,[]⟩,
         ⟨7,[93],[0],some 94,_,[]⟩,
         ⟨8,[94],[],some 95,_,[]⟩,
         ⟨9,[90,95],[],some 96,_,[]⟩,
         ⟨10,[96],[0,1,2,3,4,5,6,7],some 97,_,[]⟩]
         [⟨0,[0],[],some 87,.any,[]⟩,
          ⟨1,[87],[0],some 88,.any,[]⟩,
          ⟨2,[88],[0],some 89,.any,[]⟩,
          ⟨3,[89],[0],some 90,.any,[]⟩,
          ⟨4,[0],[],some 91,.any,[]⟩,
          ⟨5,[91],[0],some 92,.any,[]⟩,
          ⟨6,[92],[0],some 93,.any,[]⟩,
          ⟨7,[93],[0],some 94,.any,[]⟩,
          ⟨8,[94],[],some 95,.any,[]⟩,
          ⟨9,[90,95],[],some 96,.any,[]⟩,
          ⟨10,[96],[0,1,2,3,4,5,6,7],some 97,.any,[]⟩]
         cE rfl (by kernel_rfl) ⟨DS.okX_over fun s0=>(OpAt.go rfl rfl (aA)).x,
          DS.okX_over fun s0=>(OpAt.go rfl rfl (cW)).x,
          DS.okX_over fun s0=>(OpAt.go rfl rfl (fJ)).x,
          DS.okX_over fun s0=>(OpAt.go rfl rfl (bb)).x,
          DS.okX_over fun s0=>(OpAt.go rfl rfl (aA)).x,
          DS.okX_over fun s0=>(OpAt.go rfl rfl (cW)).x,
          DS.okX_over fun s0=>(OpAt.go rfl rfl (fJ)).x,
          DS.okX_over fun s0=>(OpAt.go rfl rfl (bb)).x,
          DS.okX_over fun s0=>(OpAt.go rfl rfl (jE)).x,
          DS.okX_over fun s0=>(OpAt.go rfl rfl (dm)).x,
          DS.okX_over fun s0=>db (hp':=fun k=>[]) (1) [] [] [] (co (decide ((p:Int)=(b.length:Int))) 41) (fun x k h20_10=>?_),trivial⟩ ?_ (fun _ _ h=>h)
        ·
         exact absurd (hpo.symm.trans h20_10) (by simp)
        dsimp only [cS,DS.upd,AS.seto];iterate 2 refine ab ?_
        obtain rfl:p=b.length:=by have:=d6 hpo;simp at this;omega
        rw [if_pos rfl] at hM;refine AOps.weak (Weak.fullD 1 0 [] (t:=[(2,.ptr 100 0 0),(6,.ptr 602 0 0)]) (hl:=[(0,.box [.fz 1 b.length (cl bc b),i64 b.length]),(602,.box [i64 (dH b).id,tf (dH b).resp,i64 (dH b).op,tf (dH b).aa,tf (dH b).tc,tf (dH b).rd,tf (dH b).ra,i64 (dH b).code,.fz 0 qs.length (cl quc qs),.fz 0 A.length (cl rrc A),.fz 0 U.length (cl rrc U),.fz 0 D.length (cl rrc D)]),(100,.box [i64 0,tf false,i64 0,tf false,tf false,tf false,tf false,i64 0,.v (.slice none 0 0),.v (.slice none 0 0),.v (.slice none 0 0),.v (.slice none 0 0)])])) ?_;iterate 4 refine ab ?_
        rw [hM];refine Fin.retP (by rfl) ?_;refine im (1) (0) [] [_] [_] [(_,_)] ?_;rfl
       ·
        obtain ⟨p2,p3,hA,hU,hD⟩:∃ p2 p3,bL b (cN b 3) [] p1=.ok (A,p2)∧bL b (cN b 4) [] p2=.ok (U,p3)∧bL b (cN b 5) [] p3=.ok (D,p):=by
         simp at h13_0;rcases hI with ⟨h,_⟩|⟨h,_⟩|⟨h,_⟩|⟨_,h⟩
         · omega
         · omega
         · omega
         · exact h
        have hM:rdM b=if p=b.length then .ok ⟨hdM b,qs,A,U,D⟩ else .error 41:=by
         rw [gc g1 hz,aY hQ];dsimp only;rw [aY hA];dsimp only;rw [aY hU];dsimp only;rw [aY hD]
        refine AWp.drawsX _ [⟨0,[0],[],some 87,_,[]⟩,
         ⟨1,[87],[0],some 88,_,[]⟩,
         ⟨2,[88],[0],some 89,_,[]⟩,
         ⟨3,[89],[0],some 90,_,[]⟩,
         ⟨4,[0],[],some 91,_,[]⟩,
         ⟨5,[91],[0],some 92,_,[]⟩,
         ⟨6,[92],[0],some 93,_,[]⟩,
         ⟨7,[93],[0],some 94,_,[]⟩,
         ⟨8,[94],[],some 95,_,[]⟩,
         ⟨9,[90,95],[],some 96,_,[]⟩,
         ⟨10,[96],[0,1,2,3,4,5,6,7],some 97,_,[]⟩]
         [⟨0,[0],[],some 87,.any,[]⟩,
          ⟨1,[87],[0],some 88,.any,[]⟩,
          ⟨2,[88],[0],some 89,.any,[]⟩,
          ⟨3,[89],[0],some 90,.any,[]⟩,
          ⟨4,[0],[],some 91,.any,[]⟩,
          ⟨5,[91],[0],some 92,.any,[]⟩,
          ⟨6,[92],[0],some 93,.any,[]⟩,
          ⟨7,[93],[0],some 94,.any,[]⟩,
          ⟨8,[94],[],some 95,.any,[]⟩,
          ⟨9,[90,95],[],some 96,.any,[]⟩,
          ⟨10,[96],[0,1,2,3,4,5,6,7],some 97,.any,[]⟩]
         cE rfl (by kernel_rfl) ⟨DS.okX_over fun s0=>(OpAt.go rfl rfl (aA)).x,
          DS.okX_over fun s0=>(OpAt.go rfl rfl (cW)).x,
          DS.okX_over fun s0=>(OpAt.go rfl rfl (fJ)).x,
          DS.okX_over fun s0=>(OpAt.go rfl rfl (bb)).x,
          DS.okX_over fun s0=>(OpAt.go rfl rfl (aA)).x,
          DS.okX_over fun s0=>(OpAt.go rfl rfl (cW)).x,
          DS.okX_over fun s0=>(OpAt.go rfl rfl (fJ)).x,
          DS.okX_over fun s0=>(OpAt.go rfl rfl (bb)).x,
          DS.okX_over fun s0=>(OpAt.go rfl rfl (jE)).x,
          DS.okX_over fun s0=>(OpAt.go rfl rfl (dm)).x,
          DS.okX_over fun s0=>db (hp':=fun k=>[]) (1) [] [] [] (AC.bad hpo (co (decide ((p:Int)=(b.length:Int))) 41)) (fun x k h20_10=>?_),trivial⟩ ?_ (fun _ _ h=>h)
        ·
         show Post te Tryz.f93 _ (.panic _) _;refine Post.panicH (1) (p) ?_ (by repeat' (first|exact trivial|exact aK rfl|exact bd rfl rfl|exact aV rfl rfl|exact bw rfl rfl|exact aF (fun _=>rfl)|refine ar ?_|refine ⟨rfl,⟨_,rfl,?_⟩,?_⟩|refine ⟨?_,?_⟩)) rfl;obtain ⟨c1,rfl⟩:=cf h20_10;rw [hM,if_neg (by simp at c1;omega)];rfl
        dsimp only [cS,DS.upd,AS.seto];exact AWp.bot (d:=97) rfl
  ·
   show Post te Tryz.f93 _ (.panic _) _;refine Post.panicH (1) (0) ?_ (by repeat' (first|exact trivial|exact aK rfl|exact bd rfl rfl|exact aV rfl rfl|exact bw rfl rfl|exact aF (fun _=>rfl)|refine ar ?_|refine ⟨rfl,⟨_,rfl,?_⟩,?_⟩|refine ⟨?_,?_⟩)) rfl;obtain ⟨c1,rfl⟩:=cf h3_3;rw [rdM,if_neg g1,if_pos (by simpa using c1)];rfl
 ·
  show Post te Tryz.f93 _ (.panic _) _;refine Post.panicH (1) (0) ?_ (by repeat' (first|exact trivial|exact aK rfl|exact bd rfl rfl|exact aV rfl rfl|exact bw rfl rfl|exact aF (fun _=>rfl)|refine ar ?_|refine ⟨rfl,⟨_,rfl,?_⟩,?_⟩|refine ⟨?_,?_⟩)) rfl;obtain ⟨c1,rfl⟩:=cf h1_6;rw [rdM,if_pos (by simp at c1;omega)];rfl
end
def zM:Msg:=⟨⟨0,false,0,false,false,false,false,0⟩,[],[],[],[]⟩
def cG (b:List UInt8):Msg:=match rdM b with
 | .ok m=>m
 | .error _=>zM
def jN (b:List UInt8):Int:=match rdM b with
 | .ok _=>0
 | .error e=>e
theorem rF:Tryz.prog.underlying 29=some (.int .i64):=by kernel_rfl
theorem E0 (e:Int) (w:World):(Instr.typeAssert (pE e) 20 29 true).run Tryz.prog w=.ok (.tuple #[.int .i64 e,.bool true]) w:=by
 simp [Instr.typeAssert,run_underlying rF,pE]
theorem DZ (w:World):(Instr.typeAssert .nilIface 20 29 true).run Tryz.prog w=.ok (.tuple #[.int .i64 0,.bool false]) w:=by
 simp [Instr.typeAssert,run_underlying rF]
theorem gi {a:Act} {d:Option Tmp} {v:Value} {t:Nat} (h:d≠some t):(a.put d v).tmps.getD t undef=a.tmps.getD t undef:=by
 cases d with
 | none=>rfl
 | some d=>
  have h2:d≠t:=fun e=>h (by rw [e])
  simp [Act.put,Array.getD_eq_getD_getElem?,Array.getElem?_setIfInBounds,h2]
def kpt (T:List Nat) (o:Oper):Bool:=match o.dst with
 | some d=>T.all fun t=>!Nat.beq d t
 | none=>true
theorem o5 {T:List Nat} {ops:Array Oper} (h:ops.toList.all (kpt T)=true) {i:Nat} {o:Oper} (ho:ops[i]?=some o):∀ t∈T,o.dst≠some t:=by
 intro t ht e;have hm:o∈ops.toList:=by simpa using Array.mem_of_getElem? ho
 have h1:=List.all_eq_true.1 h o hm;unfold kpt at h1;rw [e] at h1;have h2:=List.all_eq_true.1 h1 t ht;simp at h2
theorem xp:Tryz.f92.results=#[]:=rfl
theorem AG (p q:Value) (w:World):CallsD Tryz.prog 92 #[p,q] .returning w fun e u' w'=>e=.returned (.tuple #[])∧u'=.returning∧w'=w:=by
 refine callsD_of_wpS (fn:=Tryz.f92) Tryz.func92 rfl fun c₀ cs hu=>?_
 apply wpS_seq
 apply wpS_region
 simp [wpOpsS,go_sem,recoverD,hu,Tryz.ntmps92,Exit.thenS,DZ]
 apply wpS_seq
 apply wpS_region
 simp [wpOpsS,go_sem,Exit.thenS];refine wpS_cond (t:=false) (by simp [Act.eval,Array.replicate]) ?_;simp only [Bool.false_eq_true,if_false];refine wpS_of_wp (wp_skip ?_);cases c₀
 simp_all [bodyPostS,results,xp]
def Z12:List AV:=[i64 0,tf false,i64 0,tf false,tf false,tf false,tf false,i64 0,.v (.slice none 0 0),.v (.slice none 0 0),.v (.slice none 0 0),.v (.slice none 0 0)]
noncomputable def og:Array Oper:=match ew (ew (Tryz.f92.body.getD .skip)) with
 | .cond _ x _=>hY x
 | _=>#[]
theorem Cy (e:Int):AOps Tryz.prog 12 og (fun x s=>x=.normal∧Weak s (mkS [(0,.ptr 100 0 0),(1,.ptr 101 0 0)] [(100,.box Z12),(101,.box [i64 e])])) (List.range og.size)
 (mkS [(0,.ptr 100 0 0),(1,.ptr 101 0 0),(2,i64 e)] [(100,.box Z12),(101,.box [i64 0])]):=by
 refine ai rfl rfl (aL []) ?_;refine AOps.cons rfl rfl aA ?_;refine AOps.cons rfl rfl cI ?_;refine AOps.cons rfl rfl cI ?_;refine AOps.nil ⟨rfl,?_⟩;exact Weak.full 0 []
theorem yC {e:Int} {w:World} {φ:aD} {Λ:aW} {pm pe:Value} (hs:HSim w φ Λ (ao [(100,.box Z12),(101,.box [i64 0])])) (r1:Rep w φ Λ (.ptr 100 0 0) pm) (r2:Rep w φ Λ (.ptr 101 0 0) pe) :
 CallsD Tryz.prog 92 #[pm,pe] (.panicking [{ v:=pE e,recovered:=false }]) w fun en u' w'=>en=.returned (.tuple #[])∧u'=.panicking [{ v:=pE e,recovered:=true }]∧
  ∃ φ',HSim w' φ' Λ (ao [(100,.box Z12),(101,.box [i64 e])])∧Goes w φ w' φ'∧Rep w' φ' Λ (.ptr 100 0 0) pm∧Rep w' φ' Λ (.ptr 101 0 0) pe:=by
 refine callsD_of_wpS (fn:=Tryz.f92) Tryz.func92 rfl fun c₀ cs hu=>?_
 apply wpS_seq
 apply wpS_region
 simp [wpOpsS,go_sem,recoverD,hu,Tryz.ntmps92,Exit.thenS,E0]
 apply wpS_seq
 apply wpS_region
 simp [wpOpsS,go_sem,Exit.thenS];refine wpS_cond (t:=true) (by simp [Act.eval,Array.replicate]) ?_;simp only [if_true];refine wpS_of_wp ?_;generalize hT:(#[pm,pe]++_:Array Value)=T;have h0:T.getD 0 undef=pm:=by rw [← hT];simp [Array.replicate]
 have h1:T.getD 1 undef=pe:=by rw [← hT];simp [Array.replicate]
 have h2:T.getD 2 undef=.int .i64 e:=by rw [← hT];simp [Array.replicate]
 have hsz:T.size=12:=by rw [← hT];simp [Array.replicate]
 have hsim:Sim 12 w φ Λ (mkS [(0,.ptr 100 0 0),(1,.ptr 101 0 0),(2,i64 e)] [(100,.box Z12),(101,.box [i64 0])]) ⟨T,[]⟩:=by
  refine ⟨rfl,hsz,fun i=>?_,hs⟩
  match i with
  | 0=>show Rep w φ Λ (.ptr 100 0 0) (T.getD 0 undef);rw [h0];exact r1
  | 1=>show Rep w φ Λ (.ptr 101 0 0) (T.getD 1 undef);rw [h1];exact r2
  | 2=>show Rep w φ Λ (i64 e) (T.getD 2 undef);rw [h2];exact .v
  | i+3=>exact .any
 apply wp_region
 change wpOps Tryz.prog og _ (List.range og.size) (⟨T,[]⟩:Act) w;refine AOps.framed (I:=fun a=>a.tmps.getD 0 undef=pm∧a.tmps.getD 1 undef=pe) (ops:=og) (fun i o ho a v hI=>?_) (fun a ds hI=>hI) (Cy e) [] (a:=⟨T,[]⟩) hsim ⟨h0,h1⟩ ?_
 · have hd:=o5 (T:=[0,1]) (ops:=og) (by kernel_rfl) ho
   exact ⟨by rw [gi (hd 0 (by simp))];exact hI.1,by rw [gi (hd 1 (by simp))];exact hI.2⟩
 · rintro ae s' w' φ' a' ⟨rfl,hw⟩ hs' g ⟨k0,k1⟩
   obtain ⟨φ2,hs2,g2⟩:=hw 12 Λ w' φ' a' hs';refine ⟨rfl,_,rfl,.tuple #[],by simp [results,xp],rfl,rfl,φ2,hs2.hs,g.trans g2,?_,?_⟩
   · have:=hs2.tmps 0;rwa [k0] at this
   · have:=hs2.tmps 1;rwa [k1] at this
end Go.Proofs.YthnfcmgpedppaaaGreat.Fw
