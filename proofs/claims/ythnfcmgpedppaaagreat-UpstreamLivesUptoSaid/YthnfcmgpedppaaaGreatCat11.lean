/- The texts R18b, R18c, R18d, R18e, W18g, W18s, W18h, R18h, M18, W18i, W18j, R18j, one behind the other: what the walks and plain laws need; conditions stand with each theorem. -/
import Derived.Test.YthnfcmgpedppaaaGreatCat10
set_option linter.unusedVariables false
set_option linter.unusedSimpArgs false
set_option linter.unusedSectionVars false
set_option maxRecDepth 20000
set_option maxHeartbeats 4000000
namespace Go.Proofs.YthnfcmgpedppaaaGreat.Fw
open Go.RowKit
section
attribute [local irreducible] AWp AOps
def prC (p:List Rr×List Rr):List AV:=[.fz 0 p.1.length (cl rrc p.1),.fz 0 p.2.length (cl rrc p.2)]
theorem pP {b:List Rr} {r:Rr} {j:Nat} (h:j<b.length):(b.take (j+1)).any (rc r)=((b.take j).any (rc r) || rc r (b.getD j default)):=dc h
theorem tZ {a b:List Rr}:jK a b=a.all fun r=>b.any (rc r):=by
 induction a with
 | nil=>rfl
 | cons x a ih=>
  have h:jK (x::a) b=(b.any (rc x)&&jK a b):=by
   simp only [jK,List.any_cons,Bx,Bool.not_or,Bool.not_not]
  rw [h,ih];rfl
def vz (p:List Rr×List Rr):Bool:=jK p.1 p.2
theorem wH {a b:List Rr}:[(a,b),(b,a)].all vz=(jK a b&&jK b a):=by simp [vz]
theorem BU {a b:List Rr} (ha:RrsOk a) (hb:RrsOk b) {p:Nat} (hp:p<2):RrsOk ([(a,b),(b,a)].getD p default).1∧RrsOk ([(a,b),(b,a)].getD p default).2:=by
 match p,hp with
 | 0,_=>exact ⟨ha,hb⟩
 | 1,_=>exact ⟨hb,ha⟩
theorem E7 {t:Tr} {i:Nat} (h:4294967296≤(t.ss.getD i default).ad):svO t i=false:=Di (by omega)
theorem E6 {t:Tr} {i:Nat} (h:(t.ss.getD i default).ad∈(t.ss.take i).map Sv.ad):svO t i=false:=by rw [svO,decide_eq_true (p:=_∈_) h,Bool.not_true,Bool.and_false];rfl
theorem Bv {t:Tr} {i:Nat} (h1:¬ (t.ss.getD i default).ad<0) (h2:¬ 4294967296≤(t.ss.getD i default).ad) (h3:¬ (t.ss.getD i default).ad∈(t.ss.take i).map Sv.ad) (h4:(t.ss.getD i default).zs.any (lO t)=false):svO t i=true:=by
 rw [svO,decide_eq_false (p:=_∈_) h3,h4,decide_eq_true (by omega),decide_eq_true (by omega)];rfl
theorem zj {t:Tr} (h:40<(t.ss.length:Int)):nH t=false:=by rw [nH,decide_eq_false (by omega)];rfl
theorem sW {l:List Sv} {i j:Nat} (hi:i≤l.length) (hj:j<i):(l.getD j default).ad∈(l.take i).map Sv.ad:=by
 refine List.mem_map.2 ⟨l.getD j default,?_,rfl⟩;rw [List.getD_eq_getElem?_getD,List.getElem?_eq_getElem (by omega)];exact List.mem_take_iff_getElem.2 ⟨j,by omega,rfl⟩
theorem Bi {t:Tr} {x:Int} (h:x<0):lO t x=true:=by rw [lO,decide_eq_true h];rfl
theorem Bj {t:Tr} {x:Int} (h:(t.zs.length:Int)≤x):lO t x=true:=by rw [lO,decide_eq_true h,Bool.or_true]
theorem D1 {t:Tr} {x:Int} (h:¬ x<0) (h2:¬ (t.zs.length:Int)≤x):lO t x=false:=by rw [lO,decide_eq_false h,decide_eq_false h2];rfl
def eU (z:Zo):Bool:=z.rs.all (i7 z)&&decide ((atZ z z.o 6).length=1)&&decide (1≤(atZ z z.o 2).length)
def mA (z:Zo) (i k:Nat):Bool:=decide (i≠k)&&decide ((z.rs.getD i default).ty=5)&&bi (z.rs.getD i default).nm (z.rs.getD k default).nm
def ry (z:Zo):Bool:=(List.range z.rs.length).all fun i=>!((List.range z.rs.length).any (mA z i))
theorem wA {z:Zo} {r:Rr} (a:bQ r.nm z.o=true) (b:¬ ¬ r.cs=1) (c:¬ r.ttl<0) (d:¬ 2147483648≤r.ttl) (e:¬ r.ty<1) (f:¬ 65535<r.ty) (g:fA r.ty r.da=true):cO z r=true:=sm a b c (by omega) e f g
theorem cn {z:Zo} {r:Rr} (h:cO z r=true):i7 z r=cq z r:=by rw [i7,h,Bool.true_and]
theorem jd {z:Zo} {r:Rr} (h:cO z r=false):i7 z r=false:=by rw [i7,h,Bool.false_and]
section
variable {z:Zo} {r:Rr}
theorem D0 (h:bQ r.nm z.o=false):cO z r=false:=by rw [cO,h];rfl
theorem CZ (h:¬ r.cs=1):cO z r=false:=by rw [cO,decide_eq_false h,Bool.and_false];rfl
theorem CY (h:r.ttl<0):cO z r=false:=by rw [cO,decide_eq_false (p:=0≤r.ttl) (by omega),Bool.and_false];rfl
theorem CX (h:2147483648≤r.ttl):cO z r=false:=by rw [cO,decide_eq_false (p:=r.ttl≤2147483647) (by omega),Bool.and_false];rfl
theorem CW (h:r.ty<1):cO z r=false:=by rw [cO,decide_eq_false (p:=1≤r.ty) (by omega),Bool.and_false];rfl
theorem CV (h:65535<r.ty):cO z r=false:=by rw [cO,decide_eq_false (p:=r.ty≤65535) (by omega),Bool.and_false];rfl
theorem CU (h:fA r.ty r.da=false):cO z r=false:=by rw [cO,h,Bool.and_false]
theorem xY (h1:r.ty=6) (h2:bi r.nm z.o=false):cq z r=false:=by rw [cq,if_pos h1,h2];rfl
theorem nM (h1:¬ bI z r.nm=[]) (h2:¬ r.ty=1) (h3:¬ r.ty=2):cq z r=false:=by
 rw [cq,if_neg h3,if_neg h2,decide_eq_false h1,Bool.and_false];split<;>rfl
theorem pZ (h1:¬ bI z r.nm=[]) (h3:r.ty=2) (h4:bi (bI z r.nm) r.nm=false):cq z r=false:=by
 rw [cq,if_neg (by omega),if_pos h3,decide_eq_false h1,h4];rfl
theorem nK (h1:bI z r.nm=[]) (h2:r.ty=6→bi r.nm z.o=true):cq z r=true:=by
 rw [cq,decide_eq_true h1,Bool.and_true,Bool.true_or];split
 · rename_i h;exact h2 h
 · split
   · rfl
   · split<;>rfl
theorem sA (h:r.ty=1):cq z r=true:=by rw [cq,if_neg (by omega),if_neg (by omega),if_pos h]
theorem nL (h3:r.ty=2) (h4:bi (bI z r.nm) r.nm=true):cq z r=true:=by rw [cq,if_neg (by omega),if_pos h3,h4,Bool.or_true]
end
theorem Gy (f:Bool) (a:Prop) [Decidable a] (s:Bool) (b:Prop) [Decidable b]:f=true∨(f=false∧¬ a)∨(f=false∧a∧s=false)∨(f=false∧a∧s=true∧¬ b)∨(f=false∧a∧s=true∧b):=by
 cases f
 · by_cases h1:a
   · cases s
     · exact .inr (.inr (.inl ⟨rfl,h1,rfl⟩))
     · by_cases h2:b
       · exact .inr (.inr (.inr (.inr ⟨rfl,h1,rfl,h2⟩)))
       · exact .inr (.inr (.inr (.inl ⟨rfl,h1,rfl,h2⟩)))
   · exact .inr (.inl ⟨rfl,h1⟩)
 · exact .inl rfl
theorem dl {p:Nat→Bool} {j:Nat}:(List.range (j+1)).any p=((List.range j).any p || p j):=by simp [List.range_succ]
theorem em2b (a b:Bool):a=false∨(a=true∧b=false)∨(a=true∧b=true):=by cases a<;>cases b<;>simp
theorem j2 (t:Tr) (ht:cx t):AC Tryz.prog 41 [.agg (trC t)] emp (Ret (tf (nH t))):=by
 have hb1:=ht.1;have hb2:=ht.2.2.1;refine AC.intro te_ok (fn:=Tryz.f41) ⟨Tryz.func41,rfl,rfl⟩ (aE rfl) ?_;iterate 2 refine ab ?_
 refine ai rfl rfl (aS 100) ?_;iterate 8 refine ab ?_
 refine am (fun h1_3=>?_) (fun h1_3=>?_)
 ·
  iterate 7 refine ab ?_
  refine ak (0) [_] [_] ?_;exact congrArg tf (zj h1_3).symm
 ·
  iterate 12 refine ab ?_
  refine AWp.loopR (α:=Nat) [2,3,4,6,8,16,17,18,19,20,21,22,23,24,25,26,27,28,29,30,31,32,33,34,35,36,37,38,39,40,41,42,43,44,45,46,47,48,49,50,51,52,53,54,55,56,57,58,59,60,61] (fun i=>[(16,i64 i)]) (fun i=>[]) (fun i=>i≤t.ss.length∧∀ j,j<i→svO t j=true) (fun i=>t.ss.length-i) 0 ?_ (Back.mk' (HasT.cons HasT.nil) HasH.nil) ?_
  ·
   exact ⟨Nat.zero_le _,fun j hj=>absurd hj (Nat.not_lt_zero j)⟩
  ·
   rintro i ⟨hi,hc⟩;iterate 2 refine ab ?_
   refine am (fun h4_0=>?_) (fun h4_0=>?_)
   ·
    iterate 8 refine ab ?_
    have hsz:=ht.2.2.2 _ (aq (l:=t.ss) (i:=i) (by omega));iterate 3 refine ab ?_
    refine ai rfl rfl (ap 603) ?_;iterate 8 refine ab ?_
    refine am (fun h6_2=>?_) (fun h6_2=>?_)
    ·
     iterate 12 refine ab ?_
     refine ak (0) [_] [_] ?_;exact congrArg tf (gD (j:=i) (by omega) (Dj h6_2)).symm
    ·
     iterate 3 refine ab ?_
     refine am (fun h6_6=>?_) (fun h6_6=>?_)
     ·
      iterate 8 refine ab ?_
      refine ak (0) [_] [_] ?_;exact congrArg tf (gD (j:=i) (by omega) (E7 h6_6)).symm
     ·
      iterate 15 refine ab ?_
      refine AWp.loopR (α:=Nat) [2,6,34,35,36,37,38,39,40,41,42,43] (fun j=>[(34,i64 j)]) (fun j=>[]) (fun j=>j≤i∧¬ (t.ss.getD i default).ad∈(t.ss.take j).map Sv.ad) (fun j=>i-j) 0 ?_ (Back.mk' (HasT.cons HasT.nil) HasH.nil) ?_
      ·
       exact ⟨Nat.zero_le _,by simp⟩
      ·
       rintro j ⟨hji,hj⟩;iterate 2 refine ab ?_
       refine am (fun h9_0=>?_) (fun h9_0=>?_)
       ·
        iterate 8 refine ab ?_
        have hji2:j<i:=by have:=h9_0;simp at this;omega
        have hgj:(t.ss.take i).getD j default=t.ss.getD j default:=by rw [List.getD_eq_getElem?_getD,List.getD_eq_getElem?_getD,List.getElem?_take_of_lt hji2]
        iterate 2 refine ab ?_
        refine ai rfl rfl (ap 1102) ?_;iterate 8 refine ab ?_
        refine am (fun h11_4=>?_) (fun h11_4=>?_)
        ·
         iterate 7 refine ab ?_
         refine ak (0) [_] [_] ?_;exact congrArg tf (gD (j:=i) (by omega) (E6 (by rw [← show (t.ss.getD j default).ad=(t.ss.getD i default).ad from (congrArg Sv.ad hgj).symm.trans h11_4];exact sW (by omega) hji2))).symm
        ·
         iterate 7 refine ab ?_
         refine ⟨j+1,?_,Back.mk' (HasT.cons HasT.nil) HasH.nil,?_⟩
         ·
          refine ⟨by omega,fun hm=>?_⟩;rw [iS (by omega)] at hm;rcases List.mem_append.1 hm with hm|hm
          · exact hj hm
          · rw [List.mem_singleton] at hm;exact h11_4 ((congrArg Sv.ad hgj).trans hm.symm)
         ·
          first|omega|(simp;omega)
       ·
        iterate 12 refine ab ?_
        refine AWp.loopR (α:=Nat) [2,8,47,48,49,50,51,52,53,54,55,56,57,58,59,60] (fun k=>[(47,i64 k)]) (fun k=>[]) (fun k=>k≤(t.ss.getD i default).zs.length∧((t.ss.getD i default).zs.take k).any (lO t)=false) (fun k=>(t.ss.getD i default).zs.length-k) 0 ?_ (Back.mk' (HasT.cons HasT.nil) HasH.nil) ?_
        ·
         exact ⟨Nat.zero_le _,rfl⟩
        ·
         rintro k ⟨hki,hk⟩;iterate 2 refine ab ?_
         refine am (fun h15_0=>?_) (fun h15_0=>?_)
         ·
          iterate 8 refine ab ?_
          have hk2:k<(t.ss.getD i default).zs.length:=Int.ofNat_lt.1 h15_0;iterate 7 refine ab ?_
          refine am (fun h17_1=>?_) (fun h17_1=>?_)
          ·
           iterate 14 refine ab ?_
           refine ak (0) [_] [_] ?_;exact congrArg tf (gD (j:=i) (by omega) (zg (jC (i:=k) hk2 (Bi h17_1)))).symm
          ·
           iterate 5 refine ab ?_
           refine am (fun h17_7=>?_) (fun h17_7=>?_)
           ·
            iterate 8 refine ab ?_
            refine ak (0) [_] [_] ?_;exact congrArg tf (gD (j:=i) (by omega) (zg (jC (i:=k) hk2 (Bj h17_7)))).symm
           ·
            iterate 8 refine ab ?_
            refine ⟨k+1,?_,Back.mk' (HasT.cons HasT.nil) HasH.nil,?_⟩
            ·
             exact ⟨by omega,jD (i:=k) hk2 hk (D1 h17_1 h17_7)⟩
            ·
             first|omega|(simp;omega)
         ·
          iterate 8 refine ab ?_
          obtain rfl:k=(t.ss.getD i default).zs.length:=by have h:=h15_0;have h2:¬ k<(t.ss.getD i default).zs.length:=fun q=>h (Int.ofNat_lt.2 q);omega
          rw [List.take_length] at hk;obtain rfl:i=j:=by have:=h9_0;simp at this;omega
          refine ⟨i+1,?_,Back.mk' (HasT.cons HasT.nil) HasH.nil,?_⟩
          ·
           exact ⟨by omega,dh hc (Bv h6_2 h6_6 hj hk)⟩
          ·
           first|omega|(simp;omega)
   ·
    iterate 9 refine ab ?_
    refine ak (0) [_] [_] ?_;obtain rfl:i=t.ss.length:=by omega
    exact congrArg tf (by rw [u5 hc,decide_eq_true (by omega)])
theorem j3 (z:Zo) (hz:eR z):AC Tryz.prog 44 [.agg (zoC z)] emp (Ret (tf (eU z))):=by
 have hrl:z.rs.length*64≤140737488351232:=hz.2.1.1;have hol:=hz.1;refine AC.intro te_ok (fn:=Tryz.f44) ⟨Tryz.func44,rfl,rfl⟩ (aE rfl) ?_;iterate 2 refine ab ?_
 refine ai rfl rfl (aS 100) ?_;iterate 11 refine ab ?_
 refine AWp.loopR (α:=Nat) [2,4,5,6,10,11,12,13,14,15,16,17,18,19,20,21,22,23,24,25,26,27,28,29,30,31,32,33,34,35,36,37,38,39,40,41,42,43,44,45,46,47,48,49,50,51,52,53,54,55,56,57,58,59,60,61,62,63,64,65,66,67,68,69,70,71,72,73,74,75,76,77,78,79,80,81,82,83,84,85,86,87,88] (fun i=>[(10,i64 i)]) (fun i=>[]) (fun i=>i≤z.rs.length∧(z.rs.take i).all (i7 z)=true) (fun i=>z.rs.length-i) 0 ?_ (Back.mk' (HasT.cons HasT.nil) HasH.nil) ?_
 ·
  exact ⟨Nat.zero_le _,rfl⟩
 ·
  rintro i ⟨hi,ha⟩;iterate 2 refine ab ?_
  refine am (fun h2_0=>?_) (fun h2_0=>?_)
  ·
   iterate 8 refine ab ?_
   have hr:=hz.2.2 _ (aq (l:=z.rs) (i:=i) (by omega));have hrd:=hz.2.1.2 _ (aq (l:=z.rs) (i:=i) (by omega));iterate 2 refine ab ?_
   refine ai rfl rfl (ap 402) ?_;iterate 9 refine ab ?_
   refine AOps.bool rfl rfl (aj (0) (hc:=(be (z.rs.getD i default).nm z.o (by omega) (by omega)))) (fun h4_4=>?_) (fun h4_4=>?_)
   ·
    iterate 4 refine ab ?_
    refine am (fun h4_9=>?_) (fun h4_9=>?_)
    ·
     iterate 36 refine ab ?_
     refine ak (0) [_] [_] ?_;exact congrArg tf (by rw [eU,eu (i:=i) (by omega) (jd (CZ h4_9))];rfl)
    ·
     iterate 4 refine ab ?_
     refine am (fun h4_14=>?_) (fun h4_14=>?_)
     ·
      iterate 31 refine ab ?_
      refine ak (0) [_] [_] ?_;exact congrArg tf (by rw [eU,eu (i:=i) (by omega) (jd (CY h4_14))];rfl)
     ·
      iterate 4 refine ab ?_
      refine am (fun h4_19=>?_) (fun h4_19=>?_)
      ·
       iterate 26 refine ab ?_
       refine ak (0) [_] [_] ?_;exact congrArg tf (by rw [eU,eu (i:=i) (by omega) (jd (CX h4_19))];rfl)
      ·
       iterate 4 refine ab ?_
       refine am (fun h4_24=>?_) (fun h4_24=>?_)
       ·
        iterate 21 refine ab ?_
        refine ak (0) [_] [_] ?_;exact congrArg tf (by rw [eU,eu (i:=i) (by omega) (jd (CW h4_24))];rfl)
       ·
        iterate 4 refine ab ?_
        refine am (fun h4_29=>?_) (fun h4_29=>?_)
        ·
         iterate 16 refine ab ?_
         refine ak (0) [_] [_] ?_;exact congrArg tf (by rw [eU,eu (i:=i) (by omega) (jd (CV h4_29))];rfl)
        ·
         iterate 6 refine ab ?_
         refine AOps.gbool rfl rfl rfl rfl rfl (aj (0) (hc:=(di (z.rs.getD i default).ty (z.rs.getD i default).da 0 (by omega)))) (fun h4_36=>?_) (fun h4_36=>?_)
         ·
          iterate 7 refine ab ?_
          have hbase:=wA h4_4 h4_9 h4_14 h4_19 h4_24 h4_29 h4_36;have hcl:=eC hz (z.rs.getD i default).nm;iterate 4 refine ab ?_
          refine AOps.bool rfl rfl (aj (0) (hc:=(az (z.rs.getD i default).nm z.o (by omega) (by omega)))) (fun h6_4=>?_) (fun h6_4=>?_)
          ·
           iterate 7 refine ab ?_
           refine am (fun h7_2=>?_) (fun h7_2=>?_)
           ·
            iterate 12 refine ab ?_
            refine ai rfl rfl (aj (0) (hc:=(kK z (z.rs.getD i default).nm hz hr))) ?_;iterate 5 refine ab ?_
            refine am (fun h10_1=>?_) (fun h10_1=>?_)
            ·
             iterate 3 refine ab ?_
             refine am (fun h10_5=>?_) (fun h10_5=>?_)
             ·
              iterate 4 refine ab ?_
              refine am (fun h10_10=>?_) (fun h10_10=>?_)
              ·
               iterate 15 refine ab ?_
               refine ak (0) [_] [_] ?_;exact congrArg tf (by rw [eU,eu (i:=i) (by omega) ((cn hbase).trans (nM h10_1 h10_5 h10_10))];rfl)
              ·
               iterate 4 refine ab ?_
               refine AOps.gbool rfl rfl rfl rfl rfl (aj (0) (hc:=(az (bI z (z.rs.getD i default).nm) (z.rs.getD i default).nm (by omega) (by omega)))) (fun h10_15=>?_) (fun h10_15=>?_)
               ·
                iterate 10 refine ab ?_
                refine ⟨i+1,?_,Back.mk' (HasT.cons HasT.nil) HasH.nil,?_⟩
                ·
                 exact ⟨by omega,ea (i:=i) (by omega) ha ((cn hbase).trans (nL (Decidable.not_not.1 h10_10) h10_15))⟩
                ·
                 first|omega|(simp;omega)
               ·
                iterate 10 refine ab ?_
                refine ak (0) [_] [_] ?_;exact congrArg tf (by rw [eU,eu (i:=i) (by omega) ((cn hbase).trans (pZ h10_1 (Decidable.not_not.1 h10_10) h10_15))];rfl)
             ·
              iterate 6 refine ab ?_
              refine AOps.gskipu rfl rfl rfl rfl rfl rfl rfl ?_;refine AOps.gskipu rfl rfl rfl rfl rfl rfl rfl ?_;refine AOps.gskipu rfl rfl rfl rfl rfl rfl rfl ?_;refine AOps.gskipu rfl rfl rfl rfl rfl rfl rfl ?_;refine AOps.gskipu rfl rfl rfl rfl rfl rfl rfl ?_;iterate 9 refine ab ?_
              refine ⟨i+1,?_,Back.mk' (HasT.cons HasT.nil) HasH.nil,?_⟩
              ·
               exact ⟨by omega,ea (i:=i) (by omega) ha ((cn hbase).trans (sA (Decidable.not_not.1 h10_5)))⟩
              ·
               first|omega|(simp;omega)
            ·
             iterate 10 refine ab ?_
             refine AOps.gskipu rfl rfl rfl rfl rfl rfl rfl ?_;refine AOps.gskipu rfl rfl rfl rfl rfl rfl rfl ?_;refine AOps.gskipu rfl rfl rfl rfl rfl rfl rfl ?_;refine AOps.gskipu rfl rfl rfl rfl rfl rfl rfl ?_;refine AOps.gskipu rfl rfl rfl rfl rfl rfl rfl ?_;iterate 9 refine ab ?_
             refine ⟨i+1,?_,Back.mk' (HasT.cons HasT.nil) HasH.nil,?_⟩
             ·
              exact ⟨by omega,ea (i:=i) (by omega) ha ((cn hbase).trans (nK (Decidable.not_not.1 h10_1) (fun e=>h6_4)))⟩
             ·
              first|omega|(simp;omega)
           ·
            iterate 12 refine ab ?_
            refine ai rfl rfl (aj (0) (hc:=(kK z (z.rs.getD i default).nm hz hr))) ?_;iterate 5 refine ab ?_
            refine am (fun h10_1=>?_) (fun h10_1=>?_)
            ·
             iterate 3 refine ab ?_
             refine am (fun h10_5=>?_) (fun h10_5=>?_)
             ·
              iterate 4 refine ab ?_
              refine am (fun h10_10=>?_) (fun h10_10=>?_)
              ·
               iterate 15 refine ab ?_
               refine ak (0) [_] [_] ?_;exact congrArg tf (by rw [eU,eu (i:=i) (by omega) ((cn hbase).trans (nM h10_1 h10_5 h10_10))];rfl)
              ·
               iterate 4 refine ab ?_
               refine AOps.gbool rfl rfl rfl rfl rfl (aj (0) (hc:=(az (bI z (z.rs.getD i default).nm) (z.rs.getD i default).nm (by omega) (by omega)))) (fun h10_15=>?_) (fun h10_15=>?_)
               ·
                iterate 10 refine ab ?_
                refine ⟨i+1,?_,Back.mk' (HasT.cons HasT.nil) HasH.nil,?_⟩
                ·
                 exact ⟨by omega,ea (i:=i) (by omega) ha ((cn hbase).trans (nL (Decidable.not_not.1 h10_10) h10_15))⟩
                ·
                 first|omega|(simp;omega)
               ·
                iterate 10 refine ab ?_
                refine ak (0) [_] [_] ?_;exact congrArg tf (by rw [eU,eu (i:=i) (by omega) ((cn hbase).trans (pZ h10_1 (Decidable.not_not.1 h10_10) h10_15))];rfl)
             ·
              iterate 6 refine ab ?_
              refine AOps.gskipu rfl rfl rfl rfl rfl rfl rfl ?_;refine AOps.gskipu rfl rfl rfl rfl rfl rfl rfl ?_;refine AOps.gskipu rfl rfl rfl rfl rfl rfl rfl ?_;refine AOps.gskipu rfl rfl rfl rfl rfl rfl rfl ?_;refine AOps.gskipu rfl rfl rfl rfl rfl rfl rfl ?_;iterate 9 refine ab ?_
              refine ⟨i+1,?_,Back.mk' (HasT.cons HasT.nil) HasH.nil,?_⟩
              ·
               exact ⟨by omega,ea (i:=i) (by omega) ha ((cn hbase).trans (sA (Decidable.not_not.1 h10_5)))⟩
              ·
               first|omega|(simp;omega)
            ·
             iterate 10 refine ab ?_
             refine AOps.gskipu rfl rfl rfl rfl rfl rfl rfl ?_;refine AOps.gskipu rfl rfl rfl rfl rfl rfl rfl ?_;refine AOps.gskipu rfl rfl rfl rfl rfl rfl rfl ?_;refine AOps.gskipu rfl rfl rfl rfl rfl rfl rfl ?_;refine AOps.gskipu rfl rfl rfl rfl rfl rfl rfl ?_;iterate 9 refine ab ?_
             refine ⟨i+1,?_,Back.mk' (HasT.cons HasT.nil) HasH.nil,?_⟩
             ·
              exact ⟨by omega,ea (i:=i) (by omega) ha ((cn hbase).trans (nK (Decidable.not_not.1 h10_1) (fun e=>absurd e h7_2)))⟩
             ·
              first|omega|(simp;omega)
          ·
           iterate 7 refine ab ?_
           refine am (fun h7_2=>?_) (fun h7_2=>?_)
           ·
            iterate 11 refine ab ?_
            refine ak (0) [_] [_] ?_;exact congrArg tf (by rw [eU,eu (i:=i) (by omega) ((cn hbase).trans (xY h7_2 h6_4))];rfl)
           ·
            iterate 12 refine ab ?_
            refine ai rfl rfl (aj (0) (hc:=(kK z (z.rs.getD i default).nm hz hr))) ?_;iterate 5 refine ab ?_
            refine am (fun h10_1=>?_) (fun h10_1=>?_)
            ·
             iterate 3 refine ab ?_
             refine am (fun h10_5=>?_) (fun h10_5=>?_)
             ·
              iterate 4 refine ab ?_
              refine am (fun h10_10=>?_) (fun h10_10=>?_)
              ·
               iterate 15 refine ab ?_
               refine ak (0) [_] [_] ?_;exact congrArg tf (by rw [eU,eu (i:=i) (by omega) ((cn hbase).trans (nM h10_1 h10_5 h10_10))];rfl)
              ·
               iterate 4 refine ab ?_
               refine AOps.gbool rfl rfl rfl rfl rfl (aj (0) (hc:=(az (bI z (z.rs.getD i default).nm) (z.rs.getD i default).nm (by omega) (by omega)))) (fun h10_15=>?_) (fun h10_15=>?_)
               ·
                iterate 10 refine ab ?_
                refine ⟨i+1,?_,Back.mk' (HasT.cons HasT.nil) HasH.nil,?_⟩
                ·
                 exact ⟨by omega,ea (i:=i) (by omega) ha ((cn hbase).trans (nL (Decidable.not_not.1 h10_10) h10_15))⟩
                ·
                 first|omega|(simp;omega)
               ·
                iterate 10 refine ab ?_
                refine ak (0) [_] [_] ?_;exact congrArg tf (by rw [eU,eu (i:=i) (by omega) ((cn hbase).trans (pZ h10_1 (Decidable.not_not.1 h10_10) h10_15))];rfl)
             ·
              iterate 6 refine ab ?_
              refine AOps.gskipu rfl rfl rfl rfl rfl rfl rfl ?_;refine AOps.gskipu rfl rfl rfl rfl rfl rfl rfl ?_;refine AOps.gskipu rfl rfl rfl rfl rfl rfl rfl ?_;refine AOps.gskipu rfl rfl rfl rfl rfl rfl rfl ?_;refine AOps.gskipu rfl rfl rfl rfl rfl rfl rfl ?_;iterate 9 refine ab ?_
              refine ⟨i+1,?_,Back.mk' (HasT.cons HasT.nil) HasH.nil,?_⟩
              ·
               exact ⟨by omega,ea (i:=i) (by omega) ha ((cn hbase).trans (sA (Decidable.not_not.1 h10_5)))⟩
              ·
               first|omega|(simp;omega)
            ·
             iterate 10 refine ab ?_
             refine AOps.gskipu rfl rfl rfl rfl rfl rfl rfl ?_;refine AOps.gskipu rfl rfl rfl rfl rfl rfl rfl ?_;refine AOps.gskipu rfl rfl rfl rfl rfl rfl rfl ?_;refine AOps.gskipu rfl rfl rfl rfl rfl rfl rfl ?_;refine AOps.gskipu rfl rfl rfl rfl rfl rfl rfl ?_;iterate 9 refine ab ?_
             refine ⟨i+1,?_,Back.mk' (HasT.cons HasT.nil) HasH.nil,?_⟩
             ·
              exact ⟨by omega,ea (i:=i) (by omega) ha ((cn hbase).trans (nK (Decidable.not_not.1 h10_1) (fun e=>absurd e h7_2)))⟩
             ·
              first|omega|(simp;omega)
         ·
          iterate 9 refine ab ?_
          refine ak (0) [_] [_] ?_;exact congrArg tf (by rw [eU,eu (i:=i) (by omega) (jd (CU h4_36))];rfl)
   ·
    iterate 41 refine ab ?_
    refine ak (0) [_] [_] ?_;exact congrArg tf (by rw [eU,eu (i:=i) (by omega) (jd (D0 h4_4))];rfl)
  ·
   iterate 6 refine ab ?_
   obtain rfl:i=z.rs.length:=by omega
   rw [List.take_length] at ha;iterate 3 refine ab ?_
   refine ai rfl rfl (aj (0) (hc:=(j1 z z.o 6 hz hol))) ?_;refine ab ?_;refine am (fun h13_5=>?_) (fun h13_5=>?_)
   ·
    iterate 4 refine ab ?_
    refine cw rfl rfl rfl rfl rfl (aj (0) (hc:=(j1 z z.o 2 hz hol))) ?_;refine ab ?_;refine cw rfl rfl rfl rfl rfl (gX) ?_;iterate 4 refine ab ?_
    refine ak (0) [_] [_] ?_;exact congrArg tf (by rw [eU,ha,decide_eq_true (p:=(atZ z z.o 6).length=1) (by omega)];exact decide_eq_decide.2 (by omega))
   ·
    iterate 11 refine ab ?_
    refine ak (0) [_] [_] ?_;exact congrArg tf (by rw [eU,decide_eq_false (p:=(atZ z z.o 6).length=1) (by omega),Bool.and_false];rfl)
end
section
attribute [local irreducible] AWp AOps
theorem FG {z:Zo} {i k:Nat} (h:¬ ¬ (i:Int)=k):mA z i k=false:=by rw [mA,decide_eq_false (p:=i≠k) (by omega)];rfl
theorem FF {z:Zo} {i k:Nat} (h:¬ (z.rs.getD i default).ty=5):mA z i k=false:=by rw [mA,decide_eq_false h,Bool.and_false];rfl
theorem FE {z:Zo} {i k:Nat} (h:bi (z.rs.getD i default).nm (z.rs.getD k default).nm=false):mA z i k=false:=by rw [mA,h,Bool.and_false]
theorem Bl {z:Zo} {i k:Nat} (h:¬ (i:Int)=k) (h2:(z.rs.getD i default).ty=5) (h3:bi (z.rs.getD i default).nm (z.rs.getD k default).nm=true):mA z i k=true:=by
 rw [mA,decide_eq_true (p:=i≠k) (by omega),decide_eq_true h2,h3];rfl
theorem iD {p:Nat→Bool} {j:Nat} (h:(List.range j).any p=false) (h2:p j=false):(List.range (j+1)).any p=false:=by rw [dl,h,h2];rfl
theorem Dc {z:Zo} {i:Nat} (hi:i<z.rs.length) (h:(List.range z.rs.length).any (mA z i)=true):ry z=false:=by
 rw [ry,fm hi (by rw [h];rfl)]
theorem Bk {z:Zo} (h:∀ j,j<z.rs.length→(List.range z.rs.length).any (mA z j)=false):ry z=true:=by
 rw [ry,cd.2 fun j hj=>by rw [h j hj];rfl]
theorem jP (z:Zo) (hz:eR z):AC Tryz.prog 45 [.agg (zoC z)] emp (Ret (tf (ry z))):=by
 have hrl:z.rs.length*64≤140737488351232:=hz.2.1.1;have hol:=hz.1;refine AC.intro te_ok (fn:=Tryz.f45) ⟨Tryz.func45,rfl,rfl⟩ (aE rfl) ?_;iterate 2 refine ab ?_
 refine ai rfl rfl (aS 100) ?_;iterate 11 refine ab ?_
 refine AWp.loopR (α:=Nat) [2,3,4,5,6,10,11,12,13,14,15,16,17,18,19,20,21,22,23,24,25,26,27,28,29,30,31,32,33,34,35,36,37,38,39] (fun i=>[(10,i64 i)]) (fun i=>[]) (fun i=>i≤z.rs.length∧∀ j,j<i→(List.range z.rs.length).any (mA z j)=false) (fun i=>z.rs.length-i) 0 ?_ (Back.mk' (HasT.cons HasT.nil) HasH.nil) ?_
 ·
  exact ⟨Nat.zero_le _,fun j hj=>absurd hj (Nat.not_lt_zero j)⟩
 ·
  rintro i ⟨hi,hc⟩;iterate 2 refine ab ?_
  refine am (fun h2_0=>?_) (fun h2_0=>?_)
  ·
   iterate 11 refine ab ?_
   refine ai rfl rfl (ap 403) ?_;iterate 5 refine ab ?_
   have hr:=hz.2.2 _ (aq (l:=z.rs) (i:=i) (by omega));have hrd:=hz.2.1.2 _ (aq (l:=z.rs) (i:=i) (by omega));iterate 6 refine ab ?_
   refine AWp.loopR (α:=Nat) [2,5,6,18,19,20,21,22,23,24,25,26,27,28,29,30,31,32,33,34,35,36,37,38] (fun k=>[(18,i64 k)]) (fun k=>[]) (fun k=>k≤z.rs.length∧(List.range k).any (mA z i)=false) (fun k=>z.rs.length-k) 0 ?_ (Back.mk' (HasT.cons HasT.nil) HasH.nil) ?_
   ·
    exact ⟨Nat.zero_le _,rfl⟩
   ·
    rintro k ⟨hki,hk⟩;iterate 2 refine ab ?_
    refine am (fun h5_0=>?_) (fun h5_0=>?_)
    ·
     iterate 11 refine ab ?_
     refine ai rfl rfl (ap 703) ?_;iterate 5 refine ab ?_
     have hrk:=hz.2.2 _ (aq (l:=z.rs) (i:=k) (by omega));iterate 2 refine ab ?_
     refine am (fun h7_2=>?_) (fun h7_2=>?_)
     ·
      iterate 3 refine ab ?_
      refine am (fun h7_6=>?_) (fun h7_6=>?_)
      ·
       iterate 6 refine ab ?_
       refine AOps.gbool rfl rfl rfl rfl rfl (aj (0) (hc:=(az (z.rs.getD i default).nm (z.rs.getD k default).nm (by omega) (by omega)))) (fun h7_13=>?_) (fun h7_13=>?_)
       ·
        iterate 8 refine ab ?_
        refine ak (0) [_] [_] ?_;exact congrArg tf (Dc (i:=i) (by omega) (lU (j:=k) (by omega) (Bl h7_2 h7_6 h7_13))).symm
       ·
        iterate 8 refine ab ?_
        refine ⟨k+1,?_,Back.mk' (HasT.cons HasT.nil) HasH.nil,?_⟩
        ·
         exact ⟨by omega,iD hk (FE h7_13)⟩
        ·
         first|omega|(simp;omega)
      ·
       iterate 15 refine ab ?_
       refine ⟨k+1,?_,Back.mk' (HasT.cons HasT.nil) HasH.nil,?_⟩
       ·
        exact ⟨by omega,iD hk (FF h7_6)⟩
       ·
        first|omega|(simp;omega)
     ·
      iterate 19 refine ab ?_
      refine ⟨k+1,?_,Back.mk' (HasT.cons HasT.nil) HasH.nil,?_⟩
      ·
       exact ⟨by omega,iD hk (FG h7_2)⟩
      ·
       first|omega|(simp;omega)
    ·
     iterate 8 refine ab ?_
     refine ⟨i+1,?_,Back.mk' (HasT.cons HasT.nil) HasH.nil,?_⟩
     ·
      obtain rfl:k=z.rs.length:=by omega
      exact ⟨by omega,dh hc hk⟩
     ·
      first|omega|(simp;omega)
  ·
   iterate 9 refine ab ?_
   refine ak (0) [_] [_] ?_;obtain rfl:i=z.rs.length:=by omega
   exact congrArg tf (Bk hc).symm
theorem ej (a b:List Rr) (ha:RrsOk a) (hb:RrsOk b):AC Tryz.prog 86 [.fz 0 a.length (cl rrc a),.fz 0 b.length (cl rrc b)] emp (Ret (tf (jK a b&&jK b a))):=by
 have hal:=ha.1;have hbl:=hb.1;have hL2:[(a,b),(b,a)].length=2:=rfl;refine AC.intro te_ok (fn:=Tryz.f86) ⟨Tryz.func86,rfl,rfl⟩ (aE rfl) ?_;iterate 9 refine ab ?_
 refine ai rfl rfl (cb (lc 0 rrc) [a,b] [(_,_),(_,_)]) ?_;iterate 2 refine ab ?_
 refine ai rfl rfl (cb (lc 0 rrc) [b,a] [(_,_),(_,_)]) ?_;refine ai rfl rfl (bO 206 prC [(a,b),(b,a)] [(_,_),(_,_)]) ?_;refine AOps.weak (Weak.full 0 [] (t:=[(18,.fz 0 [(a,b),(b,a)].length (cl prC [(a,b),(b,a)]))]) (hl:=[])) ?_;iterate 4 refine ab ?_
 refine AWp.loopR (α:=Nat) [4,6,8,9,11,20,21,22,23,24,25,26,27,28,29,30,31,32,33,34,35,36,37,38,39,40,41,42,43,44,45,46,47,48,49,50,51,52] (fun p=>[(20,i64 p)]) (fun p=>[]) (fun p=>p≤2∧([(a,b),(b,a)].take p).all vz=true) (fun p=>2-p) 0 ?_ (Back.mk' (HasT.cons HasT.nil) HasH.nil) ?_
 ·
  exact ⟨Nat.zero_le _,rfl⟩
 ·
  rintro p ⟨hp,hA⟩;iterate 2 refine ab ?_
  refine am (fun h2_0=>?_) (fun h2_0=>?_)
  ·
   iterate 10 refine ab ?_
   refine ai rfl rfl (ap 402) ?_;iterate 4 refine ab ?_
   obtain ⟨hx1,hx2⟩:=BU ha hb (p:=p) (by omega);have hx1l:=hx1.1;have hx2l:=hx2.1;have hn1:([(a,b),(b,a)].getD (p:Int).toNat default).1.length=([(a,b),(b,a)].getD p default).1.length:=rfl;have hn2:([(a,b),(b,a)].getD (p:Int).toNat default).2.length=([(a,b),(b,a)].getD p default).2.length:=rfl;iterate 6 refine ab ?_
   refine AWp.loopR (α:=Nat) [4,8,9,11,27,28,29,30,31,32,33,34,35,36,37,38,39,40,41,42,43,44,45,46,47,48,49,50,51] (fun i=>[(27,i64 i)]) (fun i=>[]) (fun i=>i≤([(a,b),(b,a)].getD p default).1.length∧(([(a,b),(b,a)].getD p default).1.take i).all (fun r=>([(a,b),(b,a)].getD p default).2.any (rc r))=true) (fun i=>([(a,b),(b,a)].getD p default).1.length-i) 0 ?_ (Back.mk' (HasT.cons HasT.nil) HasH.nil) ?_
   ·
    exact ⟨Nat.zero_le _,rfl⟩
   ·
    rintro i ⟨hi,hB⟩;iterate 2 refine ab ?_
    refine am (fun h5_0=>?_) (fun h5_0=>?_)
    ·
     iterate 8 refine ab ?_
     have hri:=hx1.2 _ (aq (l:=([(a,b),(b,a)].getD p default).1) (i:=i) (by omega));iterate 2 refine ab ?_
     refine ai rfl rfl (ap 702) ?_;iterate 15 refine ab ?_
     refine AWp.loopR (α:=Nat) [9,11,34,35,36,37,38,39,40,41,42,43,44,45,46,47,48] (fun j=>[(34,i64 j),(9,tf ((([(a,b),(b,a)].getD p default).2.take j).any (rc (([(a,b),(b,a)].getD p default).1.getD i default))))]) (fun j=>[]) (fun j=>j≤([(a,b),(b,a)].getD p default).2.length) (fun j=>([(a,b),(b,a)].getD p default).2.length-j) 0 ?_ (Back.mk' (HasT.cons (HasT.cons HasT.nil)) HasH.nil) ?_
     ·
      exact Nat.zero_le _
     ·
      rintro j hj;iterate 2 refine ab ?_
      refine am (fun h9_0=>?_) (fun h9_0=>?_)
      ·
       iterate 8 refine ab ?_
       have hrj:=hx2.2 _ (aq (l:=([(a,b),(b,a)].getD p default).2) (i:=j) (by omega));iterate 2 refine ab ?_
       refine ai rfl rfl (ap 1102) ?_;iterate 3 refine ab ?_
       refine AOps.bool rfl rfl (aA) (fun h11_0=>?_) (fun h11_0=>?_)
       ·
        iterate 15 refine ab ?_
        refine ⟨j+1,?_,Back.mk' (HasT.cons (HasT.cons HasT.nil (h1:=by exact congrArg tf (by rw [pP (by omega),h11_0];rfl)) )) HasH.nil,?_⟩
        ·
         first|assumption|omega|decide|(simp;omega)|(simp [*];done)
        ·
         first|omega|(simp;omega)
       ·
        iterate 3 refine ab ?_
        refine AOps.gcons rfl rfl rfl rfl rfl (by first|exact b9|exact aU) ?_;iterate 2 refine ab ?_
        refine AOps.gcons rfl rfl rfl rfl rfl (by first|exact b9|exact aU) ?_;refine AOps.gbool rfl rfl rfl rfl rfl (aj (0) (hc:=(az (([(a,b),(b,a)].getD p default).1.getD i default).da (([(a,b),(b,a)].getD p default).2.getD j default).da (by omega) (by omega)))) (fun h11_8=>?_) (fun h11_8=>?_)
        ·
         iterate 7 refine ab ?_
         refine ⟨j+1,?_,Back.mk' (HasT.cons (HasT.cons HasT.nil (h1:=by exact congrArg tf (by rw [pP (by omega),h11_0,Bool.false_or];exact h11_8.symm)) )) HasH.nil,?_⟩
         ·
          first|assumption|omega|decide|(simp;omega)|(simp [*];done)
         ·
          first|omega|(simp;omega)
        ·
         iterate 7 refine ab ?_
         refine ⟨j+1,?_,Back.mk' (HasT.cons (HasT.cons HasT.nil (h1:=by exact congrArg tf (by rw [pP (by omega),h11_0,Bool.false_or];exact h11_8.symm)) )) HasH.nil,?_⟩
         ·
          first|assumption|omega|decide|(simp;omega)|(simp [*];done)
         ·
          first|omega|(simp;omega)
      ·
       iterate 6 refine ab ?_
       refine AOps.bool rfl rfl (aA) (fun h13_0=>?_) (fun h13_0=>?_)
       ·
        iterate 8 refine ab ?_
        refine ⟨i+1,?_,Back.mk' (HasT.cons HasT.nil) HasH.nil,?_⟩
        ·
         have hj2:j=(([(a,b),(b,a)].getD p default).2).length:=by omega
         rw [hj2,List.take_length] at h13_0;exact ⟨by omega,ea (i:=i) (by omega) hB h13_0⟩
        ·
         first|omega|(simp;omega)
       ·
        iterate 8 refine ab ?_
        refine ak (0) [_] [_] ?_;have hj2:j=(([(a,b),(b,a)].getD p default).2).length:=by omega
        rw [hj2,List.take_length] at h13_0;exact congrArg tf ((wH (a:=a) (b:=b)).symm.trans (eu (i:=p) (by omega) (by rw [vz,tZ];exact eu (i:=i) (by omega) h13_0))).symm
    ·
     iterate 8 refine ab ?_
     refine ⟨p+1,?_,Back.mk' (HasT.cons HasT.nil) HasH.nil,?_⟩
     ·
      obtain rfl:i=([(a,b),(b,a)].getD p default).1.length:=by omega
      rw [List.take_length] at hB;exact ⟨by omega,ea (i:=p) (by simp;omega) hA (by rw [vz,tZ];exact hB)⟩
     ·
      first|omega|(simp;omega)
  ·
   iterate 9 refine ab ?_
   refine ak (0) [_] [_] ?_;obtain rfl:p=2:=by omega
   exact congrArg tf ((wH (a:=a) (b:=b)).symm.trans hA).symm
end
section
attribute [local irreducible] AWp AOps
theorem GD {t:Tr} {up:List Int} {k:Int} {n:List UInt8} {j:Nat} (h:¬ (0:Int)<j):dJ t up k n j=false:=by rw [dJ,decide_eq_false (p:=0<j) (by omega)];rfl
theorem GC {t:Tr} {up:List Int} {k:Int} {n:List UInt8} {j:Nat} (h:bi (t.zs.getD j default).o n=false):dJ t up k n j=false:=by rw [dJ,h,Bool.and_false]
theorem GA {t:Tr} {k:Int} {n:List UInt8} {j:Nat} (hj:j<t.zs.length) (h:¬ kd t (t.zs.getD j default)=k):dJ t (ka t) k n j=false:=by rw [dJ,k8 hj,decide_eq_false h,Bool.and_false];rfl
theorem CF {t:Tr} {k:Int} {n:List UInt8} {j:Nat} (hj:j<t.zs.length) (h0:(0:Int)<j) (h2:bi (t.zs.getD j default).o n=true) (h:kd t (t.zs.getD j default)=k):dJ t (ka t) k n j=true:=by
 rw [dJ,k8 hj,decide_eq_true h,h2,decide_eq_true (p:=0<j) (by omega)];rfl
theorem Cl {t:Tr} {up:List Int} {k:Int} {z:Zo} {r:Rr} (h:¬ r.ty=2):fK t up k z r=false:=by rw [fK,decide_eq_false h];rfl
theorem Ck {t:Tr} {up:List Int} {k:Int} {z:Zo} {r:Rr} (h:bi r.nm z.o=true):fK t up k z r=false:=by rw [fK,h,Bool.not_true,Bool.and_false];rfl
theorem Cj {t:Tr} {up:List Int} {k:Int} {z:Zo} {r:Rr} (h:(List.range t.zs.length).any (dJ t up k r.nm)=true):fK t up k z r=false:=by rw [fK,h,Bool.not_true,Bool.and_false]
theorem yp {t:Tr} {up:List Int} {k:Int} {z:Zo} {r:Rr} (h1:¬ ¬ r.ty=2) (h2:bi r.nm z.o=false) (h:(List.range t.zs.length).any (dJ t up k r.nm)=false):fK t up k z r=true:=by
 rw [fK,decide_eq_true (Decidable.not_not.1 h1),h2,h];rfl
theorem yn {t:Tr} {up:List Int} {k:Int} (h:∀ j,j<t.zs.length→nZ t up k j=true) (h2:(zAt t k).rs.any (fK t up k (zAt t k))=false):ki t up k=true:=by rw [ki,cd.2 h,h2];rfl
theorem yo {t:Tr} {up:List Int} {k:Int} (h2:(zAt t k).rs.any (fK t up k (zAt t k))=true):ki t up k=false:=by rw [ki,h2,Bool.not_true,Bool.and_false]
theorem dK (t:Tr) (k:Int) (ht:cx t) (hk:0≤k∧k<t.zs.length):AC Tryz.prog 85 [.agg (trC t),i64 k] emp (Ret (i64 (kd t (zAt t k)))):=by
 have hb1:=ht.1;have hzk:=jT ht hk;have hkl:=hzk.1;refine AC.intro te_ok (fn:=Tryz.f85) ⟨Tryz.func85,rfl,rfl⟩ (aE rfl) ?_;iterate 2 refine ab ?_
 refine ai rfl rfl (aS 100) ?_;iterate 4 refine ab ?_
 refine ai rfl rfl (bD 200 1 ic) ?_;iterate 10 refine ab ?_
 refine AWp.loopR (α:=Nat×List Int×Nat) [5,6,10,11,12,13,14,15,16,17,18,19,20,21,22,23,24,25,26,27,28,29,30] (fun x_=>[(10,i64 (x_.1)),(5,.sl 200 (x_.2.2) 0 (x_.2.1).length 1)]) (fun x_=>[(200,.row (cl ic (x_.2.1)) 1 (x_.2.2))]) (fun x_=>(x_.1)≤t.zs.length∧(x_.2.1)=uh t (zAt t k) (x_.1)) (fun x_=>t.zs.length-(x_.1)) (0,[],0) ?_ (Back.mk' (HasT.cons (HasT.cons HasT.nil)) (HasH.cons HasH.nil)) ?_
 ·
  exact ⟨Nat.zero_le _,rfl⟩
 ·
  rintro ⟨i,acc,v⟩ hI3;change i≤t.zs.length∧acc=uh t (zAt t k) i at hI3;obtain ⟨hi,ha⟩:=hI3;refine AWp.as (s':=AS.over _ [5,6,10,11,12,13,14,15,16,17,18,19,20,21,22,23,24,25,26,27,28,29,30] [(10,i64 i),(5,.sl 200 v 0 acc.length 1)] [(200,.row (cl ic acc) 1 v)]) rfl ?_;have hal:acc.length≤i:=by rw [ha];exact zN
  iterate 2 refine ab ?_
  refine am (fun h3_0=>?_) (fun h3_0=>?_)
  ·
   iterate 12 refine ab ?_
   have hzi:=ht.2.1 _ (aq (l:=t.zs) (i:=i) (by omega));have hzl:=hzi.1;cases hbel:nw (zAt t k).o (t.zs.getD i default).o
   ·
    refine bj [ag,ag,ag,ag,ag,ag,ag,ag,ag,ag,ag,ag,ag] [af [2] [100] 14,af [13] [100] 15,af [1] [] 16,af [14,15] [] 17,af [16] [] 18,af [17] [] 19,af [2] [100] 20,af [19] [100] 21,af [6] [] 22,af [20,21] [] 23,af [22] [] 24,af [23] [] 25,af [18,24] [] 26] rfl ⟨ah,ah,ah,ah,ah,ah,ah,ah,ah,ah,ah,ah,aC fun _=>aN rfl rfl ((OpOk.bool_is (c:=false) (aj (0) (hc:=(dW (zAt t k).o (t.zs.getD i default).o (by omega) (by omega)))) (hbel))),trivial⟩ ?_;iterate 6 refine ab ?_
    refine ⟨(i+1,acc,v),?_,Back.mk' (HasT.cons (HasT.cons HasT.nil)) (HasH.cons HasH.nil),?_⟩
    ·
     try dsimp only
     exact ⟨by omega,by rw [rQ,ha,if_neg (by rw [show nw (zAt t k).o (zAt t (i:Int)).o=false from hbel];decide),List.append_nil]⟩
    ·
     try dsimp only
     first|omega|(simp;omega)
   ·
    refine bj [ag,ag,ag,ag,ag,ag,ag,ag,ag,ag,ag,ag,ag] [af [2] [100] 14,af [13] [100] 15,af [1] [] 16,af [14,15] [] 17,af [16] [] 18,af [17] [] 19,af [2] [100] 20,af [19] [100] 21,af [6] [] 22,af [20,21] [] 23,af [22] [] 24,af [23] [] 25,af [18,24] [] 26] rfl ⟨ah,ah,ah,ah,ah,ah,ah,ah,ah,ah,ah,ah,aC fun _=>aN rfl rfl ((OpOk.bool_is (c:=true) (aj (0) (hc:=(dW (zAt t k).o (t.zs.getD i default).o (by omega) (by omega)))) (hbel))),trivial⟩ ?_;iterate 4 refine ab ?_
    refine ai rfl rfl (bO 702 ic [_] [(_,_)]) ?_;iterate 7 refine ab ?_
    refine ⟨(i+1,acc++[(i:Int)],v+1),?_,Back.mk' (HasT.cons (HasT.cons HasT.nil)) (HasH.cons HasH.nil),?_⟩
    ·
     try dsimp only
     exact ⟨by omega,by rw [rQ,ha,if_pos (show nw (zAt t k).o (zAt t (i:Int)).o=true from hbel)]⟩
    ·
     try dsimp only
     first|omega|(simp;omega)
  ·
   iterate 5 refine ab ?_
   obtain rfl:i=t.zs.length:=by omega
   have hin:=BT (t:=t) (z:=zAt t k) (Nat.le_refl t.zs.length);rw [← ha] at hin;have hnear:=y9 t (zAt t k);rw [← ha] at hnear;refine bj [ag,ag,ag,ag,ag,ag,ag,ag,ag,ag] [af [2] [100] 32,af [5] [] 33,af [2] [100] 34,af [33] [100] 35,af [1] [] 36,af [34,35] [] 37,af [36] [] 38,af [37] [] 39,af [31,32,38] [200] 40,af [39] [] 5] rfl ⟨ah,ah,ah,ah,ah,ah,ah,ah,aC fun _=>aN rfl rfl (aj (0) (hc:=(fe t acc 1 (zAt t k).o ht (by omega) hin (by omega)))),ah,trivial⟩ ?_;refine ab ?_;refine ak (0) [_] [_] ?_;exact congrArg i64 hnear
theorem ia (t:Tr) (k:Int) (ht:cx t) (hk:0≤k∧k<t.zs.length):AC Tryz.prog 46 [.agg (trC t),i64 k] emp (Ret (tf (ki t (ka t) k))):=by
 have hb1:=ht.1;have hzk:=jT ht hk;have hkl:=hzk.1;have hkr:(zAt t k).rs.length*64≤140737488351232:=hzk.2.1.1;refine AC.intro te_ok (fn:=Tryz.f46) ⟨Tryz.func46,rfl,rfl⟩ (aE rfl) ?_;iterate 2 refine ab ?_
 refine ai rfl rfl (aS 100) ?_;iterate 9 refine ab ?_
 refine ai rfl rfl (ap 205) ?_;iterate 11 refine ab ?_
 refine AWp.loopR (α:=Nat) [4,6,7,8,21,22,23,24,25,26,27,28,29,30,31,32,33,34,35,36,37,38,39,40,41,42,43,44,45,46,47,48,49,50,51,52,53,54,55,56,57,58,59] (fun i=>[(21,i64 i)]) (fun i=>[]) (fun i=>i≤t.zs.length∧∀ j,j<i→nZ t (ka t) k j=true) (fun i=>t.zs.length-i) 0 ?_ (Back.mk' (HasT.cons HasT.nil) HasH.nil) ?_
 ·
  exact ⟨Nat.zero_le _,fun j hj=>absurd hj (Nat.not_lt_zero j)⟩
 ·
  rintro i ⟨hi,hc⟩;iterate 2 refine ab ?_
  refine am (fun h3_0=>?_) (fun h3_0=>?_)
  ·
   iterate 8 refine ab ?_
   have hzi:=ht.2.1 _ (aq (l:=t.zs) (i:=i) (by omega));have hzl:=hzi.1;iterate 7 refine ab ?_
   refine am (fun h5_1=>?_) (fun h5_1=>?_)
   ·
    iterate 14 refine ab ?_
    refine ⟨i+1,?_,Back.mk' (HasT.cons HasT.nil) HasH.nil,?_⟩
    ·
     exact ⟨by omega,dh hc (by rw [nZ,decide_eq_true (p:=i=0) (by omega)];rfl)⟩
    ·
     first|omega|(simp;omega)
   ·
    iterate 3 refine ab ?_
    refine cw rfl rfl rfl rfl rfl (aj (0) (hc:=(dK t i ht ⟨by omega,by omega⟩))) ?_;refine ab ?_;refine am (fun h5_7=>?_) (fun h5_7=>?_)
    ·
     iterate 8 refine ab ?_
     refine ⟨i+1,?_,Back.mk' (HasT.cons HasT.nil) HasH.nil,?_⟩
     ·
      exact ⟨by omega,dh hc (by rw [nZ,k8 (by omega),decide_eq_true (p:=kd t (t.zs.getD i default)≠k) h5_7,Bool.or_true];rfl)⟩
     ·
      first|omega|(simp;omega)
    ·
     iterate 11 refine ab ?_
     refine ai rfl rfl (ap 705) ?_;iterate 4 refine ab ?_
     have hcl:=eC hzk (t.zs.getD i default).o;iterate 3 refine ab ?_
     refine ai rfl rfl (aj (0) (hc:=(kK (zAt t k) (t.zs.getD i default).o hzk hzl))) ?_;iterate 3 refine ab ?_
     rcases em2b (bi (bI (zAt t k) (t.zs.getD i default).o) (t.zs.getD i default).o) (jK (atZ (zAt t k) (t.zs.getD i default).o 2) (atZ (t.zs.getD i default) (t.zs.getD i default).o 2)&&jK (atZ (t.zs.getD i default) (t.zs.getD i default).o 2) (atZ (zAt t k) (t.zs.getD i default).o 2)) with h1|⟨h1,h2⟩|⟨h1,h2⟩
     ·
      refine bj [ag,ag,ag,ag,ag,ag,ag,ag,ag,ag,ag,ag,ag,ag,ag,ag,ag] [af [8] [] 43,af [7] [705] 44,af [43] [705] 45,af [42,44] [] 46,af [45] [] 47,af [46] [] 48,af [47] [] 49,af [47] [] 50,af [47] [] 51,af [47] [] 52,af [47] [] 53,af [47] [] 54,af [47] [] 55,af [47] [] 56,af [47] [] 57,af [47] [] 58,af [47,57] [] 59] rfl ⟨ah,ah,ah,aC fun _=>aN rfl rfl ((OpOk.bool_is (c:=false) (aj (0) (hc:=(az (bI (zAt t k) (t.zs.getD i default).o) (t.zs.getD i default).o (by omega) (by omega)))) (h1))),aC fun _=>aN rfl rfl ((OpOk.bool_is (c:=true) (mR) (rfl))),ah,ah,ah,ah,ah,ah,ah,ah,ah,ah,ah,ah,trivial⟩ ?_;iterate 6 refine ab ?_
      refine ak (0) [_] [_] ?_;exact congrArg tf (iX (j:=i) (by omega) (lq h5_1 ((k8 (by omega)).trans (Decidable.not_not.1 h5_7)) (by rw [h1];rfl))).symm
     ·
      refine bj [ag,ag,ag,ag,ag,ag,ag,ag,ag,ag,ag,ag,ag,ag,ag,ag,ag] [af [8] [] 43,af [7] [705] 44,af [43] [705] 45,af [42,44] [] 46,af [45] [] 47,af [46] [] 48,af [5,47] [205] 49,af [7,47] [705] 50,af [47,49] [705] 51,af [47,48,50] [] 52,af [7,47] [705] 53,af [7,47] [705] 54,af [47,53] [705] 55,af [47,52,54] [] 56,af [47,51,55] [] 57,af [47,56] [] 58,af [47,57] [] 59] rfl ⟨ah,ah,ah,aC fun _=>aN rfl rfl ((OpOk.bool_is (c:=true) (aj (0) (hc:=(az (bI (zAt t k) (t.zs.getD i default).o) (t.zs.getD i default).o (by omega) (by omega)))) (h1))),aC fun _=>aN rfl rfl ((OpOk.bool_is (c:=false) (mR) (rfl))),ah,ah,ah,ah,aC fun _=>dV rfl rfl rfl rfl rfl (aj (0) (hc:=(j1 (zAt t k) (t.zs.getD i default).o 2 hzk hzl))),ah,ah,ah,aC fun _=>dV rfl rfl rfl rfl rfl (aj (0) (hc:=(j1 (t.zs.getD i default) (t.zs.getD i default).o 2 hzi hzl))),aC fun _=>dV rfl rfl rfl rfl rfl ((OpOk.bool_is (c:=false) (aj (0) (hc:=(ej (atZ (zAt t k) (t.zs.getD i default).o 2) (atZ (t.zs.getD i default) (t.zs.getD i default).o 2) (jB hzk _ _) (jB hzi _ _)))) (h2))),aC fun _=>dV rfl rfl rfl rfl rfl ((OpOk.bool_is (c:=true) (mR) (rfl))),ah,trivial⟩ ?_;iterate 6 refine ab ?_
      refine ak (0) [_] [_] ?_;exact congrArg tf (iX (j:=i) (by omega) (lq h5_1 ((k8 (by omega)).trans (Decidable.not_not.1 h5_7)) (by rw [Bool.and_assoc,h2,Bool.and_false]))).symm
     ·
      refine bj [ag,ag,ag,ag,ag,ag,ag,ag,ag,ag,ag,ag,ag,ag,ag,ag,ag] [af [8] [] 43,af [7] [705] 44,af [43] [705] 45,af [42,44] [] 46,af [45] [] 47,af [46] [] 48,af [5,47] [205] 49,af [7,47] [705] 50,af [47,49] [705] 51,af [47,48,50] [] 52,af [7,47] [705] 53,af [7,47] [705] 54,af [47,53] [705] 55,af [47,52,54] [] 56,af [47,51,55] [] 57,af [47,56] [] 58,af [47,57] [] 59] rfl ⟨ah,ah,ah,aC fun _=>aN rfl rfl ((OpOk.bool_is (c:=true) (aj (0) (hc:=(az (bI (zAt t k) (t.zs.getD i default).o) (t.zs.getD i default).o (by omega) (by omega)))) (h1))),aC fun _=>aN rfl rfl ((OpOk.bool_is (c:=false) (mR) (rfl))),ah,ah,ah,ah,aC fun _=>dV rfl rfl rfl rfl rfl (aj (0) (hc:=(j1 (zAt t k) (t.zs.getD i default).o 2 hzk hzl))),ah,ah,ah,aC fun _=>dV rfl rfl rfl rfl rfl (aj (0) (hc:=(j1 (t.zs.getD i default) (t.zs.getD i default).o 2 hzi hzl))),aC fun _=>dV rfl rfl rfl rfl rfl ((OpOk.bool_is (c:=true) (aj (0) (hc:=(ej (atZ (zAt t k) (t.zs.getD i default).o 2) (atZ (t.zs.getD i default) (t.zs.getD i default).o 2) (jB hzk _ _) (jB hzi _ _)))) (h2))),aC fun _=>dV rfl rfl rfl rfl rfl ((OpOk.bool_is (c:=false) (mR) (rfl))),ah,trivial⟩ ?_;iterate 6 refine ab ?_
      refine ⟨i+1,?_,Back.mk' (HasT.cons HasT.nil) HasH.nil,?_⟩
      ·
       exact ⟨by omega,dh hc (uE h1 (by simp only [Bool.and_eq_true] at h2;exact h2.1) (by simp only [Bool.and_eq_true] at h2;exact h2.2))⟩
      ·
       first|omega|(simp;omega)
  ·
   iterate 7 refine ab ?_
   obtain rfl:i=t.zs.length:=by omega
   iterate 6 refine ab ?_
   refine AWp.loopR (α:=Nat) [4,10,11,12,63,64,65,66,67,68,69,70,71,72,73,74,75,76,77,78,79,80,81,82,83,84,85,86,87,88,89,90,91,92,93,94,95,96,97,98,99,100,101,102,103,104,105,106,107,108,109] (fun e=>[(63,i64 e)]) (fun e=>[]) (fun e=>e≤(zAt t k).rs.length∧((zAt t k).rs.take e).any (fK t (ka t) k (zAt t k))=false) (fun e=>(zAt t k).rs.length-e) 0 ?_ (Back.mk' (HasT.cons HasT.nil) HasH.nil) ?_
   ·
    exact ⟨Nat.zero_le _,rfl⟩
   ·
    rintro e ⟨he,hq⟩;have hkr2:(zAt t k).rs.length=(t.zs.getD k.toNat default).rs.length:=rfl;iterate 2 refine ab ?_
    refine am (fun h12_0=>?_) (fun h12_0=>?_)
    ·
     iterate 10 refine ab ?_
     refine ai rfl rfl (ap 1402) ?_;iterate 5 refine ab ?_
     have hri:=hzk.2.2 _ (aq (l:=(zAt t k).rs) (i:=e) (by omega));iterate 2 refine ab ?_
     refine am (fun h14_2=>?_) (fun h14_2=>?_)
     ·
      iterate 14 refine ab ?_
      refine ⟨e+1,?_,Back.mk' (HasT.cons HasT.nil) HasH.nil,?_⟩
      ·
       exact ⟨by omega,jD (i:=e) (by omega) hq (Cl h14_2)⟩
      ·
       first|omega|(simp;omega)
     ·
      iterate 5 refine ab ?_
      refine AOps.gbool rfl rfl rfl rfl rfl (aj (0) (hc:=(az ((zAt t k).rs.getD e default).nm (zAt t k).o (by omega) (by omega)))) (fun h14_8=>?_) (fun h14_8=>?_)
      ·
       iterate 8 refine ab ?_
       refine ⟨e+1,?_,Back.mk' (HasT.cons HasT.nil) HasH.nil,?_⟩
       ·
        exact ⟨by omega,jD (i:=e) (by omega) hq (Ck h14_8)⟩
       ·
        first|omega|(simp;omega)
      ·
       iterate 17 refine ab ?_
       refine AWp.loopR (α:=Nat) [11,12,80,81,82,83,84,85,86,87,88,89,90,91,92,93,94,95,96,97,98,99,100,101,102,103,104,105,106] (fun j=>[(80,i64 j),(11,tf ((List.range j).any (dJ t (ka t) k ((zAt t k).rs.getD e default).nm)))]) (fun j=>[]) (fun j=>j≤t.zs.length) (fun j=>t.zs.length-j) 0 ?_ (Back.mk' (HasT.cons (HasT.cons HasT.nil)) HasH.nil) ?_
       ·
        exact Nat.zero_le _
       ·
        rintro j hj;iterate 2 refine ab ?_
        refine am (fun h17_0=>?_) (fun h17_0=>?_)
        ·
         iterate 8 refine ab ?_
         have hzj:=ht.2.1 _ (aq (l:=t.zs) (i:=j) (by omega));have hzjl:=hzj.1;iterate 3 refine ab ?_
         rcases Gy ((List.range j).any (dJ t (ka t) k ((zAt t k).rs.getD e default).nm)) (0<(j:Int)) (bi (t.zs.getD j default).o ((zAt t k).rs.getD e default).nm) (kd t (t.zs.getD j default)=k) with h1|⟨h1,h2⟩|⟨h1,h2,h3⟩|⟨h1,h2,h3,h4⟩|⟨h1,h2,h3,h4⟩
         ·
          refine bj [ag,ag,ag,ag,ag,ag,ag,ag,ag,ag,ag,ag,ag,ag,ag,ag,ag,ag,ag,ag,ag,ag,ag,ag] [af [11] [] 84,af [83] [] 85,af [84] [] 86,af [84] [] 87,af [84] [] 88,af [87] [] 89,af [87] [] 90,af [87] [] 91,af [87] [] 92,af [87] [] 93,af [87] [] 94,af [87] [] 95,af [87] [] 96,af [87] [] 97,af [84] [] 98,af [84] [] 99,af [98] [] 100,af [98] [] 101,af [98] [] 102,af [98] [] 103,af [98] [] 104,af [84] [] 105,af [84,104] [] 106,af [105] [] 12] rfl ⟨aC fun _=>aN rfl rfl ((OpOk.bool_is (c:=true) (aA) (h1))),ah,ah,ah,ah,DS.ok_over fun s0=>OpAt.gskipu rfl rfl rfl rfl rfl rfl rfl,DS.ok_over fun s0=>OpAt.gskipu rfl rfl rfl rfl rfl rfl rfl,DS.ok_over fun s0=>OpAt.gskipu rfl rfl rfl rfl rfl rfl rfl,DS.ok_over fun s0=>OpAt.gskipu rfl rfl rfl rfl rfl rfl rfl,DS.ok_over fun s0=>OpAt.gskipu rfl rfl rfl rfl rfl rfl rfl,DS.ok_over fun s0=>OpAt.gskipu rfl rfl rfl rfl rfl rfl rfl,DS.ok_over fun s0=>OpAt.gskipu rfl rfl rfl rfl rfl rfl rfl,DS.ok_over fun s0=>OpAt.gskipu rfl rfl rfl rfl rfl rfl rfl,DS.ok_over fun s0=>OpAt.gskipu rfl rfl rfl rfl rfl rfl rfl,ah,ah,DS.ok_over fun s0=>OpAt.gskipu rfl rfl rfl rfl rfl rfl rfl,DS.ok_over fun s0=>OpAt.gskipu rfl rfl rfl rfl rfl rfl rfl,DS.ok_over fun s0=>OpAt.gskipu rfl rfl rfl rfl rfl rfl rfl,DS.ok_over fun s0=>OpAt.gskipu rfl rfl rfl rfl rfl rfl rfl,DS.ok_over fun s0=>OpAt.gskipu rfl rfl rfl rfl rfl rfl rfl,ah,ah,ah,trivial⟩ ?_;iterate 4 refine ab ?_
          refine ⟨j+1,?_,Back.mk' (HasT.cons (HasT.cons HasT.nil (h1:=by exact congrArg tf (by rw [dl,h1];rfl)) )) HasH.nil,?_⟩
          ·
           first|assumption|omega|decide|(simp;omega)|(simp [*];done)
          ·
           first|omega|(simp;omega)
         ·
          refine bj [ag,ag,ag,ag,ag,ag,ag,ag,ag,ag,ag,ag,ag,ag,ag,ag,ag,ag,ag,ag,ag,ag,ag,ag] [af [11] [] 84,af [83] [] 85,af [12,84] [] 86,af [84,85] [] 87,af [84,86] [] 88,af [87] [] 89,af [87] [] 90,af [87] [] 91,af [87] [] 92,af [87] [] 93,af [87] [] 94,af [87] [] 95,af [87] [] 96,af [87] [] 97,af [84,87,96] [] 98,af [84,97] [] 99,af [98] [] 100,af [98] [] 101,af [98] [] 102,af [98] [] 103,af [98] [] 104,af [84,98,103] [] 105,af [84,104] [] 106,af [105] [] 12] rfl ⟨aC fun _=>aN rfl rfl ((OpOk.bool_is (c:=false) (aA) (h1))),ah,ah,aC fun _=>dV rfl rfl rfl rfl rfl ((OpOk.dec_f (gW) (h2))),ah,ah,ah,ah,ah,ah,ah,ah,ah,ah,ah,ah,ah,ah,ah,ah,ah,ah,ah,ah,trivial⟩ ?_;iterate 4 refine ab ?_
          refine ⟨j+1,?_,Back.mk' (HasT.cons (HasT.cons HasT.nil (h1:=by exact congrArg tf (by rw [dl,h1,GD h2];rfl)) )) HasH.nil,?_⟩
          ·
           first|assumption|omega|decide|(simp;omega)|(simp [*];done)
          ·
           first|omega|(simp;omega)
         ·
          refine bj [ag,ag,ag,ag,ag,ag,ag,ag,ag,ag,ag,ag,ag,ag,ag,ag,ag,ag,ag,ag,ag,ag,ag,ag] [af [11] [] 84,af [83] [] 85,af [12,84] [] 86,af [84,85] [] 87,af [84,86] [] 88,af [2,87] [100] 89,af [87,88] [100] 90,af [12,87] [] 91,af [87,89,90] [] 92,af [87,91] [] 93,af [87,92] [] 94,af [10,87] [1402] 95,af [87,94] [1402] 96,af [87,93,95] [] 97,af [84,87,96] [] 98,af [84,97] [] 99,af [98] [] 100,af [98] [] 101,af [98] [] 102,af [98] [] 103,af [98] [] 104,af [84,98,103] [] 105,af [84,104] [] 106,af [105] [] 12] rfl ⟨aC fun _=>aN rfl rfl ((OpOk.bool_is (c:=false) (aA) (h1))),ah,ah,aC fun _=>dV rfl rfl rfl rfl rfl ((OpOk.dec_t (gW) (h2))),ah,ah,ah,ah,ah,ah,ah,ah,ah,aC fun _=>dV rfl rfl rfl rfl rfl ((OpOk.bool_is (c:=false) (aj (0) (hc:=(az (t.zs.getD j default).o ((zAt t k).rs.getD e default).nm (by omega) (by omega)))) (h3))),ah,ah,ah,ah,ah,ah,ah,ah,ah,ah,trivial⟩ ?_;iterate 4 refine ab ?_
          refine ⟨j+1,?_,Back.mk' (HasT.cons (HasT.cons HasT.nil (h1:=by exact congrArg tf (by rw [dl,h1,GC h3];rfl)) )) HasH.nil,?_⟩
          ·
           first|assumption|omega|decide|(simp;omega)|(simp [*];done)
          ·
           first|omega|(simp;omega)
         ·
          refine bj [ag,ag,ag,ag,ag,ag,ag,ag,ag,ag,ag,ag,ag,ag,ag,ag,ag,ag,ag,ag,ag,ag,ag,ag] [af [11] [] 84,af [83] [] 85,af [12,84] [] 86,af [84,85] [] 87,af [84,86] [] 88,af [2,87] [100] 89,af [87,88] [100] 90,af [12,87] [] 91,af [87,89,90] [] 92,af [87,91] [] 93,af [87,92] [] 94,af [10,87] [1402] 95,af [87,94] [1402] 96,af [87,93,95] [] 97,af [84,87,96] [] 98,af [84,97] [] 99,af [2,98] [100] 100,af [12,98] [] 101,af [98,99,100] [] 102,af [1,98] [] 103,af [98,101,102] [] 104,af [84,98,103] [] 105,af [84,104] [] 106,af [105] [] 12] rfl ⟨aC fun _=>aN rfl rfl ((OpOk.bool_is (c:=false) (aA) (h1))),ah,ah,aC fun _=>dV rfl rfl rfl rfl rfl ((OpOk.dec_t (gW) (h2))),ah,ah,ah,ah,ah,ah,ah,ah,ah,aC fun _=>dV rfl rfl rfl rfl rfl ((OpOk.bool_is (c:=true) (aj (0) (hc:=(az (t.zs.getD j default).o ((zAt t k).rs.getD e default).nm (by omega) (by omega)))) (h3))),ah,ah,ah,ah,aC fun _=>dV rfl rfl rfl rfl rfl (aj (0) (hc:=(dK t j ht ⟨by omega,by omega⟩))),ah,aC fun _=>dV rfl rfl rfl rfl rfl ((OpOk.dec_f (dm) (h4))),ah,ah,ah,trivial⟩ ?_;iterate 4 refine ab ?_
          refine ⟨j+1,?_,Back.mk' (HasT.cons (HasT.cons HasT.nil (h1:=by exact congrArg tf (by rw [dl,h1,GA (by omega) h4];rfl)) )) HasH.nil,?_⟩
          ·
           first|assumption|omega|decide|(simp;omega)|(simp [*];done)
          ·
           first|omega|(simp;omega)
         ·
          refine bj [ag,ag,ag,ag,ag,ag,ag,ag,ag,ag,ag,ag,ag,ag,ag,ag,ag,ag,ag,ag,ag,ag,ag,ag] [af [11] [] 84,af [83] [] 85,af [12,84] [] 86,af [84,85] [] 87,af [84,86] [] 88,af [2,87] [100] 89,af [87,88] [100] 90,af [12,87] [] 91,af [87,89,90] [] 92,af [87,91] [] 93,af [87,92] [] 94,af [10,87] [1402] 95,af [87,94] [1402] 96,af [87,93,95] [] 97,af [84,87,96] [] 98,af [84,97] [] 99,af [2,98] [100] 100,af [12,98] [] 101,af [98,99,100] [] 102,af [1,98] [] 103,af [98,101,102] [] 104,af [84,98,103] [] 105,af [84,104] [] 106,af [105] [] 12] rfl ⟨aC fun _=>aN rfl rfl ((OpOk.bool_is (c:=false) (aA) (h1))),ah,ah,aC fun _=>dV rfl rfl rfl rfl rfl ((OpOk.dec_t (gW) (h2))),ah,ah,ah,ah,ah,ah,ah,ah,ah,aC fun _=>dV rfl rfl rfl rfl rfl ((OpOk.bool_is (c:=true) (aj (0) (hc:=(az (t.zs.getD j default).o ((zAt t k).rs.getD e default).nm (by omega) (by omega)))) (h3))),ah,ah,ah,ah,aC fun _=>dV rfl rfl rfl rfl rfl (aj (0) (hc:=(dK t j ht ⟨by omega,by omega⟩))),ah,aC fun _=>dV rfl rfl rfl rfl rfl ((OpOk.dec_t (dm) (h4))),ah,ah,ah,trivial⟩ ?_;iterate 4 refine ab ?_
          refine ⟨j+1,?_,Back.mk' (HasT.cons (HasT.cons HasT.nil (h1:=by exact congrArg tf (by rw [dl,h1,CF (by omega) h2 h3 h4];rfl)) )) HasH.nil,?_⟩
          ·
           first|assumption|omega|decide|(simp;omega)|(simp [*];done)
          ·
           first|omega|(simp;omega)
        ·
         iterate 6 refine ab ?_
         refine AOps.bool rfl rfl (aA) (fun h21_0=>?_) (fun h21_0=>?_)
         ·
          iterate 8 refine ab ?_
          refine ⟨e+1,?_,Back.mk' (HasT.cons HasT.nil) HasH.nil,?_⟩
          ·
           obtain rfl:j=t.zs.length:=by omega
           exact ⟨by omega,jD (i:=e) (by omega) hq (Cj h21_0)⟩
          ·
           first|omega|(simp;omega)
         ·
          iterate 8 refine ab ?_
          refine ak (0) [_] [_] ?_;obtain rfl:j=t.zs.length:=by omega
          exact congrArg tf (yo (jC (i:=e) (by omega) (yp h14_2 h14_8 h21_0))).symm
    ·
     iterate 9 refine ab ?_
     refine ak (0) [_] [_] ?_;obtain rfl:e=(zAt t k).rs.length:=by omega
     rw [List.take_length] at hq;exact congrArg tf (yn hc hq).symm
end
section
attribute [local irreducible] AWp AOps
theorem oP {α:Type} [Inhabited α] {l:List α} {k:Nat} (h:k<l.length):l.getD k default=l[k]:=by rw [List.getD_eq_getElem?_getD,List.getElem?_eq_getElem h];rfl
theorem wW {α:Type} [Inhabited α] {p:α→Bool} {l:List α} {i:Nat} (hi:i<l.length) (hp:p (l.getD i default)=true):(l.filter p).length=1↔∀ k,k<l.length→k≠i→p (l.getD k default)=false:=by
 have e:l=l.take i++l.getD i default::l.drop (i+1):=by
  rw [oP hi,← List.drop_eq_getElem_cons hi,List.take_append_drop]
 have hlen:(l.filter p).length=((l.take i).filter p).length+(1+((l.drop (i+1)).filter p).length):=by
  conv=>lhs;rw [e]
  rw [List.filter_append,List.filter_cons_of_pos hp,List.length_append,List.length_cons];omega
 constructor
 · intro h k hk hki
   have h1:(l.take i).filter p=[]:=List.eq_nil_of_length_eq_zero (by omega);have h2:(l.drop (i+1)).filter p=[]:=List.eq_nil_of_length_eq_zero (by omega);rw [List.filter_eq_nil_iff] at h1 h2;cases hq:p (l.getD k default) with
   | false=>rfl
   | true=>
    exfalso;rw [oP hk] at hq;rcases Nat.lt_or_gt_of_ne hki with h3|h3
    · exact h1 l[k] (List.mem_take_iff_getElem.2 ⟨k,by omega,rfl⟩) hq
    · exact h2 l[k] (List.mem_drop_iff_getElem.2 ⟨k-(i+1),by omega,by congr 1;omega⟩) hq
 · intro h
   have h1:(l.take i).filter p=[]:=List.filter_eq_nil_iff.2 fun x hx=>by
    obtain ⟨k,hk,rfl⟩:=List.mem_take_iff_getElem.1 hx;have:=h k (by omega) (by omega);rw [oP (by omega)] at this;rw [this];decide
   have h2:(l.drop (i+1)).filter p=[]:=List.filter_eq_nil_iff.2 fun x hx=>by
    obtain ⟨k,hk,rfl⟩:=List.mem_drop_iff_getElem.1 hx;have:=h (i+1+k) (by omega) (by omega);rw [oP (by omega)] at this;rw [this];decide
   rw [hlen,h1,h2];rfl
theorem pT (a b:List UInt8):bi a b=bi b a:=by
 unfold bi;rw [Bool.and_comm (bm a),show decide (eK a=eK b)=decide (eK b=eK a) from decide_eq_decide.2 ⟨Eq.symm,Eq.symm⟩]
theorem pS {a:List UInt8} (h:bm a=true):bi a a=true:=by simp [bi,h]
theorem zy {z:Zo} {r:Rr} (h:i7 z r=true):bm r.nm=true:=by
 unfold i7 cO at h;simp only [Bool.and_eq_true] at h;exact (nz h.1.1.1.1.1.1.1).1
theorem xQ (z:Zo):(eU z&&ry z)=(z.rs.all (inZ z)&&decide ((atZ z z.o 6).length=1)&&decide (1≤(atZ z z.o 2).length)):=by
 have key:(z.rs.all (i7 z)&&ry z)=z.rs.all (inZ z):=by
  cases hr:z.rs.all (i7 z) with
  | false=>
   rw [Bool.false_and];obtain ⟨r,h1,h2⟩:∃ r∈z.rs,i7 z r=false:=by simpa using hr
   cases hx:z.rs.all (inZ z) with
   | false=>rfl
   | true=>
    have:=List.all_eq_true.1 hx r h1;rw [inZ,h2] at this;cases this
  | true=>
   rw [Bool.true_and];have hrec:=List.all_eq_true.1 hr;have hc:∀ i,i<z.rs.length→bm (z.rs.getD i default).nm=true:=fun i hi=>zy (hrec _ (aq hi))
   rw [Bool.eq_iff_iff,ry,cd,List.all_eq_true];constructor
   · intro h r hr
     obtain ⟨i,hi,rfl⟩:=List.getElem_of_mem hr;have h1:=h i hi;rw [Bool.not_eq_true',List.any_eq_false] at h1;rw [inZ,hrec _ hr,Bool.true_and];by_cases h5:z.rs[i].ty=5
     · rw [decide_eq_true h5,Bool.not_true,Bool.false_or,decide_eq_true_eq,gt]
       rw [← oP hi] at h5 ⊢;refine (wW (p:=fun o=>bi o.nm (z.rs.getD i default).nm) hi (pS (hc i hi))).2 fun k hk hki=>?_
       have h2:=h1 k (List.mem_range.2 hk);rw [mA,decide_eq_true (p:=i≠k) (fun e=>hki e.symm),decide_eq_true h5,Bool.true_and,Bool.true_and,pT] at h2;exact Bool.eq_false_iff.2 h2
     · rw [decide_eq_false h5];rfl
   · intro h i hi
     rw [Bool.not_eq_true',List.any_eq_false];intro k hk;rw [List.mem_range] at hk;have h1:=h _ (aq hi);rw [mA];by_cases hki:i=k
     · rw [decide_eq_false (p:=i≠k) (not_not_intro hki)];simp
     by_cases h5:(z.rs.getD i default).ty=5
     · rw [inZ,decide_eq_true h5,Bool.not_true,Bool.false_or,Bool.and_eq_true,decide_eq_true_eq,gt] at h1
       have h2:=(wW (p:=fun o=>bi o.nm (z.rs.getD i default).nm) hi (pS (hc i hi))).1 h1.2 k hk (fun e=>hki e.symm);rw [pT (z.rs.getD i default).nm,h2,Bool.and_false];decide
     · rw [decide_eq_false h5,Bool.and_false];simp
 rw [eU,← key];cases z.rs.all (i7 z)<;>cases ry z<;>cases decide ((atZ z z.o 6).length=1)<;>cases decide (1≤(atZ z z.o 2).length)<;>rfl
theorem pl (t:Tr) (k:Nat):mC t k=((eU (t.zs.getD k default)&&ry (t.zs.getD k default))&&ki t (ka t) k):=by
 rw [mC,xQ]
theorem wx (t:Tr) (ht:cx t):AC Tryz.prog 21 [.agg (trC t)] emp (Ret (tf (dZ t))):=by
 have hb1:=ht.1;have hsum:=tW ht;refine AC.intro te_ok (fn:=Tryz.f21) ⟨Tryz.func21,rfl,rfl⟩ (aE rfl) ?_;iterate 2 refine ab ?_
 refine ai rfl rfl (aS 100) ?_;iterate 8 refine ab ?_
 refine am (fun h1_3=>?_) (fun h1_3=>?_)
 ·
  iterate 26 refine ab ?_
  refine ak (0) [_] [_] ?_;exact congrArg tf (B3 h1_3).symm
 ·
  iterate 4 refine ab ?_
  refine am (fun h1_8=>?_) (fun h1_8=>?_)
  ·
   iterate 21 refine ab ?_
   refine ak (0) [_] [_] ?_;exact congrArg tf (AZ h1_8).symm
  ·
   iterate 7 refine ab ?_
   refine am (fun h1_16=>?_) (fun h1_16=>?_)
   ·
    iterate 13 refine ab ?_
    refine ak (0) [_] [_] ?_;exact congrArg tf (AY h1_16).symm
   ·
    iterate 3 refine ab ?_
    refine AOps.gbool rfl rfl rfl rfl rfl (aj (0) (hc:=(j2 t ht))) (fun h1_20=>?_) (fun h1_20=>?_)
    ·
     iterate 18 refine ab ?_
     refine AWp.loopR (α:=Nat) [2,3,4,5,7,36,37,38,39,40,41,42,43,44,45,46,47,48,49,50,51,52,53,54,55,56,57,58,59,60,61,62,63,64,65] (fun i=>[(36,i64 i),(3,i64 (i6 (t.zs.take i)))]) (fun i=>[]) (fun i=>i≤t.zs.length∧∀ j,j<i→nS t j=true) (fun i=>t.zs.length-i) 0 ?_ (Back.mk' (HasT.cons (HasT.cons HasT.nil)) HasH.nil) ?_
     ·
      exact ⟨Nat.zero_le _,fun j hj=>absurd hj (Nat.not_lt_zero j)⟩
     ·
      rintro i ⟨hi,hc⟩;have hsi:=hsum i;iterate 2 refine ab ?_
      refine am (fun h5_0=>?_) (fun h5_0=>?_)
      ·
       iterate 8 refine ab ?_
       have hzi:=ht.2.1 _ (aq (l:=t.zs) (i:=i) (by omega));have hzl:=hzi.1;have hrl:(t.zs.getD i default).rs.length*64≤140737488351232:=hzi.2.1.1;have hrl2:(t.zs[i]?.getD default).rs.length*64≤140737488351232:=by rw [← List.getD_eq_getElem?_getD];exact hrl
       have hrl3:(t.zs.getD (i:Int).toNat default).rs.length=(t.zs.getD i default).rs.length:=rfl;iterate 3 refine ab ?_
       refine ai rfl rfl (ap 703) ?_;iterate 23 refine ab ?_
       refine AWp.loopR (α:=Nat) [2,7,51,52,53,54,55,56,57,58,59,60] (fun j=>[(51,i64 j)]) (fun j=>[]) (fun j=>j≤i∧((t.zs.take j).any fun o=>bi o.o (t.zs.getD i default).o)=false) (fun j=>i-j) 0 ?_ (Back.mk' (HasT.cons HasT.nil) HasH.nil) ?_
       ·
        exact ⟨Nat.zero_le _,rfl⟩
       ·
        rintro j ⟨hji,hj⟩;iterate 2 refine ab ?_
        refine am (fun h9_0=>?_) (fun h9_0=>?_)
        ·
         iterate 8 refine ab ?_
         have hji2:j<i:=by have:=h9_0;simp at this;omega
         have hgj:(t.zs.take i).getD j default=t.zs.getD j default:=by rw [List.getD_eq_getElem?_getD,List.getD_eq_getElem?_getD,List.getElem?_take_of_lt hji2]
         have hzj:=ht.2.1 _ (aq (l:=t.zs) (i:=j) (by omega));have hzjl:=hzj.1;rw [← hgj] at hzjl;iterate 2 refine ab ?_
         refine ai rfl rfl (ap 1102) ?_;iterate 8 refine ab ?_
         refine AOps.bool rfl rfl (aj (0) (hc:=(az ((t.zs.take i).getD j default).o (t.zs.getD i default).o (by omega) (by omega)))) (fun h11_4=>?_) (fun h11_4=>?_)
         ·
          iterate 7 refine ab ?_
          refine ak (0) [_] [_] ?_;rw [hgj] at h11_4;exact congrArg tf (tp (j:=i) (by omega) (by rw [nS,List.any_eq_true.2 ⟨t.zs.getD j default,List.mem_take_iff_getElem.2 ⟨j,by omega,(oP (by omega)).symm⟩,h11_4⟩,Bool.not_true,Bool.and_false])).symm
         ·
          iterate 7 refine ab ?_
          refine ⟨j+1,?_,Back.mk' (HasT.cons HasT.nil) HasH.nil,?_⟩
          ·
           exact ⟨by omega,jD (i:=j) (by omega) hj (by rw [hgj] at h11_4;exact h11_4)⟩
          ·
           first|omega|(simp;omega)
        ·
         iterate 8 refine ab ?_
         refine AOps.bool rfl rfl (aj (0) (hc:=(aM (t.zs.getD i default).o (by omega)))) (fun h14_2=>?_) (fun h14_2=>?_)
         ·
          iterate 8 refine ab ?_
          obtain rfl:i=j:=by have:=h9_0;simp at this;omega
          refine ⟨i+1,?_,Back.mk' (HasT.cons (HasT.cons HasT.nil (h1:=by exact ci (by rw [tX (by omega)];omega)) )) HasH.nil,?_⟩
          ·
           exact ⟨by omega,dh hc (by rw [nS,h14_2,hj];rfl)⟩
          ·
           first|omega|(simp;omega)
         ·
          iterate 8 refine ab ?_
          refine ak (0) [_] [_] ?_;exact congrArg tf (tp (j:=i) (by omega) (by rw [nS,h14_2];rfl)).symm
      ·
       iterate 7 refine ab ?_
       obtain rfl:i=t.zs.length:=by omega
       rw [List.take_length];refine ab ?_;refine am (fun h17_1=>?_) (fun h17_1=>?_)
       ·
        iterate 7 refine ab ?_
        refine ak (0) [_] [_] ?_;exact congrArg tf (AW h17_1).symm
       ·
        iterate 12 refine ab ?_
        refine AWp.loopR (α:=Nat) [2,8,9,71,72,73,74,75,76,77,78,79,80,81,82,83,84,85,86,87,88,89,90] (fun i=>[(71,i64 i)]) (fun i=>[]) (fun i=>i≤t.zs.length∧∀ j,j<i→mC t j=true) (fun i=>t.zs.length-i) 0 ?_ (Back.mk' (HasT.cons HasT.nil) HasH.nil) ?_
        ·
         exact ⟨Nat.zero_le _,fun j hj=>absurd hj (Nat.not_lt_zero j)⟩
        ·
         rintro i ⟨hi,hz⟩;iterate 2 refine ab ?_
         refine am (fun h20_0=>?_) (fun h20_0=>?_)
         ·
          iterate 8 refine ab ?_
          have hzi:=ht.2.1 _ (aq (l:=t.zs) (i:=i) (by omega));have hzl:=hzi.1;iterate 3 refine ab ?_
          refine ai rfl rfl (ap 2203) ?_;iterate 6 refine ab ?_
          refine AOps.bool rfl rfl (aj (0) (hc:=(j3 (t.zs.getD i default) hzi))) (fun h22_1=>?_) (fun h22_1=>?_)
          ·
           iterate 3 refine ab ?_
           refine AOps.gbool rfl rfl rfl rfl rfl (aj (0) (hc:=(jP (t.zs.getD i default) hzi))) (fun h22_5=>?_) (fun h22_5=>?_)
           ·
            iterate 5 refine ab ?_
            refine AOps.gbool rfl rfl rfl rfl rfl (aj (0) (hc:=(ia t i ht ⟨by omega,by omega⟩))) (fun h22_11=>?_) (fun h22_11=>?_)
            ·
             iterate 9 refine ab ?_
             refine ⟨i+1,?_,Back.mk' (HasT.cons HasT.nil) HasH.nil,?_⟩
             ·
              exact ⟨by omega,dh hz (by rw [pl,h22_1,h22_5,h22_11];rfl)⟩
             ·
              first|omega|(simp;omega)
            ·
             iterate 9 refine ab ?_
             refine ak (0) [_] [_] ?_;exact congrArg tf (my (j:=i) (by omega) (by rw [pl,h22_11,Bool.and_false])).symm
           ·
            iterate 15 refine ab ?_
            refine ak (0) [_] [_] ?_;exact congrArg tf (my (j:=i) (by omega) (by rw [pl,h22_5,Bool.and_false];rfl)).symm
          ·
           iterate 19 refine ab ?_
           refine ak (0) [_] [_] ?_;exact congrArg tf (my (j:=i) (by omega) (by rw [pl,h22_1];rfl)).symm
         ·
          iterate 9 refine ab ?_
          refine ak (0) [_] [_] ?_;obtain rfl:i=t.zs.length:=by omega
          exact congrArg tf (uZ h1_3 h1_8 h1_16 h1_20 hc h17_1 hz).symm
    ·
     iterate 9 refine ab ?_
     refine ak (0) [_] [_] ?_;exact congrArg tf (AX h1_20).symm
end
section
variable {t:Tr}
theorem mw (h:dZ t=true):1≤t.zs.length∧t.zs.length≤20∧(t.zs.getD 0 default).o=[0]∧nH t=true∧(∀ j,j<t.zs.length→nS t j=true)∧i6 t.zs≤400∧∀ j,j<t.zs.length→mC t j=true:=by
 unfold dZ at h;simp only [Bool.and_eq_true,decide_eq_true_eq,cd] at h;obtain ⟨⟨⟨⟨⟨⟨h1,h2⟩,h3⟩,h4⟩,h5⟩,h6⟩,h7⟩:=h;exact ⟨h1,h2,h3,h4,h5,h6,h7⟩
theorem CG (h:dZ t=true) {z:Zo} (hz:z∈t.zs) {r:Rr} (hr:r∈z.rs):inZ z r=true:=by
 obtain ⟨_,_,_,_,_,_,h7⟩:=mw h;obtain ⟨i,hi,rfl⟩:=List.getElem_of_mem hz;have h1:=h7 i hi;unfold mC at h1;simp only [Bool.and_eq_true] at h1;rw [oP hi] at h1;exact List.all_eq_true.1 h1.1.1.1 r hr
theorem yr {z:Zo} {r:Rr} (h:inZ z r=true):cO z r=true∧cq z r=true:=by
 unfold inZ i7 at h;simp only [Bool.and_eq_true] at h;exact h.1
theorem Bg {z:Zo} {r:Rr} (h:cO z r=true):bm r.nm=true∧bQ r.nm z.o=true∧fA r.ty r.da=true:=by
 unfold cO at h;simp only [Bool.and_eq_true] at h;exact ⟨(nz h.1.1.1.1.1.1).1,h.1.1.1.1.1.1,h.2⟩
theorem AH {z:Zo} {r:Rr} (h:inZ z r=true) (ht:r.ty=2∨r.ty=5):bm r.da=true:=by
 have h1:=(Bg (yr h).1).2.2;have hl:r.da.length≤65535:=by
  rw [c7 (by omega)] at h1;unfold dU at h1;split at h1
  · cases h1
  · omega
 rw [c7 (by omega),oi (by omega) hl] at h1;exact h1
theorem iJ {z:Zo} {n:List UInt8} {ty:Int} {r:Rr} (h:r∈atZ z n ty):r∈z.rs∧r.ty=ty∧bi r.nm n=true:=by
 obtain ⟨h1,h2⟩:=List.mem_filter.1 h;unfold atP at h2;simp only [Bool.and_eq_true,decide_eq_true_eq] at h2;exact ⟨h1,h2.1,h2.2⟩
theorem Bw {l:List Zo} {z:Zo} (h:z∈l):z.rs.length≤i6 l:=by
 induction l with
 | nil=>cases h
 | cons a l ih=>
  have e:i6 (a::l)=a.rs.length+i6 l:=by simp [i6]
  rw [e];rcases List.mem_cons.1 h with rfl|h
  · omega
  · have:=ih h;omega
end
section
variable {t:Tr} {q:Qu}
end
theorem eD {n:List UInt8} (h:bm n=true):n.length≤255:=by
 obtain ⟨ls,a,rfl⟩:=AU h;exact a.2

def na (l:List Rr) (i:Nat):Bool:=!((l.take i).any fun o=>decide (eK o.da=eK (l.getD i default).da))
def nmF (g:List UInt8→List Rr) (l:List Rr) (k:Nat):List Rr:=((List.range k).filter (na l)).flatMap fun i=>g (l.getD i default).da
def nmK (l:List Rr) (k:Nat):Nat:=((List.range k).filter (na l)).length
theorem qq {g:List UInt8→List Rr} {l:List Rr} {k:Nat}:nmF g l (k+1)=nmF g l k++(if na l k then g (l.getD k default).da else []):=by
 rw [nmF,List.range_succ,List.filter_append,List.flatMap_append];congr 1;cases h:na l k<;>simp [List.filter,h]
theorem wY {g:List UInt8→List Rr} {l:List Rr} {k:Nat} (h:na l k=true):nmF g l (k+1)=nmF g l k++g (l.getD k default).da:=by rw [qq,if_pos h]
theorem zY {g:List UInt8→List Rr} {l:List Rr} {k:Nat} (h:na l k=false):nmF g l (k+1)=nmF g l k:=by rw [qq,if_neg (by rw [h];decide),List.append_nil]
theorem C2 {l:List Rr} {k:Nat} (h:na l k=true):nmK l (k+1)=nmK l k+1:=by
 rw [nmK,List.range_succ,List.filter_append,List.length_append];simp [List.filter,h,nmK]
theorem ED {l:List Rr} {k:Nat} (h:na l k=false):nmK l (k+1)=nmK l k:=by
 rw [nmK,List.range_succ,List.filter_append,List.length_append];simp [List.filter,h,nmK]
def MetD (l:List Rr) (i:Nat) (m:List (List UInt8×Bool)):Prop:=∀ a,(bg m a).getD false=decide (a∈(l.take i).map fun r=>eK r.da)
theorem MetD.start (l:List Rr):MetD l 0 []:=fun a=>by simp [bg]
theorem MetD.step {l:List Rr} {i:Nat} {m:List (List UInt8×Bool)} (h:MetD l i m) (hi:i<l.length):MetD l (i+1) (cp m (eK (l.getD i default).da) true):=fun a=>by
 rw [iR,iS hi];obtain ⟨x,hx⟩:∃ x,x=eK (l.getD i default).da:=⟨_,rfl⟩;rw [← hx];by_cases e:x=a
 · rw [if_pos e];simp [e]
 · rw [if_neg e,h a]
   have e2:¬ a=x:=fun k=>e k.symm
   simp [e2]
theorem MetD.same {l:List Rr} {i:Nat} {m:List (List UInt8×Bool)} (h:MetD l i m) (hi:i<l.length) (hm:(bg m (eK (l.getD i default).da)).getD false=true):MetD l (i+1) m:=fun a=>by
 rw [iS hi,h a];rw [h] at hm;have hm2:=of_decide_eq_true hm;refine decide_eq_decide.2 ⟨fun q=>List.mem_append.2 (.inl q),fun q=>?_⟩;rcases List.mem_append.1 q with q|q
 · exact q
 · rw [List.mem_singleton] at q;rw [q];exact hm2
theorem MetD.fst {l:List Rr} {i:Nat} {m:List (List UInt8×Bool)} (h:MetD l i m):na l i=!(bg m (eK (l.getD i default).da)).getD false:=by
 rw [h,na];congr 1;rw [Bool.eq_iff_iff,List.any_eq_true,decide_eq_true_iff,List.mem_map];constructor
 · rintro ⟨x,h1,h2⟩;exact ⟨x,h1,of_decide_eq_true h2⟩
 · rintro ⟨x,h1,h2⟩;exact ⟨x,h1,decide_eq_true h2⟩
theorem Ax {l:List Rr} (hc:∀ r∈l,bm r.da=true) {i:Nat} (hi:i<l.length):na l i=!((l.take i).any fun o=>bi o.da (l.getD i default).da):=by
 rw [na];congr 1;rw [Bool.eq_iff_iff,List.any_eq_true,List.any_eq_true];have h1:=hc _ (aq hi);constructor
 · rintro ⟨x,h2,h3⟩;exact ⟨x,h2,by rw [bi,hc x (List.mem_of_mem_take h2),h1];exact h3⟩
 · rintro ⟨x,h2,h3⟩;refine ⟨x,h2,?_⟩;rw [bi,hc x (List.mem_of_mem_take h2),h1] at h3;exact h3
theorem ll {g:List UInt8→List Rr} {l:List Rr} {c:Nat} (hg:∀ r∈l,(g r.da).length≤c):∀ {k:Nat},k≤l.length→(nmF g l k).length≤c*k
 | 0,_=>by simp [nmF]
 | k+1,hk=>by
  have ih:=ll hg (k:=k) (by omega);have h1:=hg _ (aq (l:=l) (i:=k) (by omega));rw [qq,List.length_append,Nat.mul_succ];split
  · omega
  · simp;omega

section
variable {d:Nat} {s n b u:TypeId} {is in' ib iu:TI}
end
section
variable {d:Nat} {s n u:TypeId} {is in' iu:TI}
theorem EP {t rl r y:TypeId} {it irl ir iy:TI} {cs:List AV} (h:Has te (d+4) t cs) (ht:te.get t=some it) (kt:it.k=.struct [(0,s),(1,rl)]) (hrl:te.get rl=some irl) (krl:irl.k=.slice r) (hr:te.get r=some ir) (kr:ir.k=.struct [(0,s),(1,n),(2,n),(3,n),(4,y)]) (br:ir.bytes=64)
 (hs:te.get s=some is) (ks:is.k=.str) (hn:te.get n=some in') (kn:in'.k=.int .i64) (hy:te.get y=some iy) (ky:iy.k=.slice u) (hu:te.get u=some iu) (ku:iu.k=.int .u8) (bu:iu.bytes=1):∃ z:Zo,cs=zoC z∧eR z:=by
 obtain ⟨_,w,rfl,q,hh⟩:=has_struct h ht kt;obtain ⟨a1,rfl,b1⟩:=t5 q hs ks;obtain ⟨_,w,rfl,q,hh⟩:=hh;obtain ⟨l,rfl,b2,b3⟩:=n9 q hrl krl hr kr br hs ks hn kn hy ky hu ku bu;cases hh;exact ⟨⟨a1,l⟩,rfl,b1,b2,b3⟩
theorem EQ {t il:TypeId} {it iil:TI} {cs:List AV} (h:Has te (d+4) t cs) (ht:te.get t=some it) (kt:it.k=.struct [(0,n),(1,il)]) (hil:te.get il=some iil) (kil:iil.k=.slice n) (hn:te.get n=some in') (kn:in'.k=.int .i64) (bn:in'.bytes=8):∃ x:Sv,cs=svC x∧x.zs.length*8≤140737488351232:=by
 obtain ⟨_,w,rfl,q,hh⟩:=has_struct h ht kt;obtain ⟨a1,rfl,_⟩:=has_int q hn kn;obtain ⟨_,w,rfl,q,hh⟩:=hh;obtain ⟨l,rfl,b2,_⟩:=yu q hil kil hn kn bn;cases hh;exact ⟨⟨a1,l⟩,rfl,b2⟩
theorem has_tr {t zl z rl r y sl sv il:TypeId} {it izl iz irl ir iy isl isv iil:TI} {cs:List AV} (h:Has te (d+6) t cs) (ht:te.get t=some it) (kt:it.k=.struct [(0,zl),(1,sl)]) (hzl:te.get zl=some izl) (kzl:izl.k=.slice z) (hz:te.get z=some iz) (kz:iz.k=.struct [(0,s),(1,rl)]) (bz:iz.bytes=40)
 (hsl:te.get sl=some isl) (ksl:isl.k=.slice sv) (hsv:te.get sv=some isv) (ksv:isv.k=.struct [(0,n),(1,il)]) (bsv:isv.bytes=32) (hil:te.get il=some iil) (kil:iil.k=.slice n)
 (hrl:te.get rl=some irl) (krl:irl.k=.slice r) (hr:te.get r=some ir) (kr:ir.k=.struct [(0,s),(1,n),(2,n),(3,n),(4,y)]) (br:ir.bytes=64)
 (hs:te.get s=some is) (ks:is.k=.str) (hn:te.get n=some in') (kn:in'.k=.int .i64) (bn:in'.bytes=8) (hy:te.get y=some iy) (ky:iy.k=.slice u) (hu:te.get u=some iu) (ku:iu.k=.int .u8) (bu:iu.bytes=1):∃ T:Tr,cs=trC T∧cx T:=by
 obtain ⟨_,w,rfl,q,hh⟩:=has_struct h ht kt;obtain ⟨a,rfl,a1,a2⟩:=has_sl (f:=zoC) (q:=eR) q hzl kzl hz fun c hc=>EP hc hz kz hrl krl hr kr br hs ks hn kn hy ky hu ku bu
 obtain ⟨_,w,rfl,q,hh⟩:=hh;obtain ⟨b,rfl,b1,b2⟩:=has_sl (f:=svC) (q:=fun x=>x.zs.length*8≤140737488351232) q hsl ksl hsv fun c hc=>EQ hc hsv ksv hil kil hn kn bn
 cases hh;exact ⟨⟨a,b⟩,rfl,by rw [bz] at a1;exact a1,a2,by rw [bsv] at b1;exact b1,b2⟩
end
section
attribute [local irreducible] AWp AOps
structure Fl where
 aa:Bool
 code:Int
 an:List Rr
 au:List Rr
 ad:List Rr
 va:Nat
 vd:Nat
def uK (z:Zo) (l:List Rr):List Rr:=nmF (fun n=>atZ z n 1) l l.length
def fil (z:Zo) (ty:Int) (aa:Bool) (an:List Rr) (n:List UInt8) (v:Nat):Fl:=
 if bI z n≠[] then
  if an.length=0 then ⟨aa,0,an,atZ z (bI z n) 2,uK z (atZ z (bI z n) 2),v,nmK (atZ z (bI z n) 2) (atZ z (bI z n) 2).length⟩
  else ⟨aa,0,an,[],[],v,0⟩
 else if h:0<(atZ z n 5).length∧ty≠5 then
  if h2:bQ ((atZ z n 5).getD 0 default).da z.o=true∧(an++atZ z n 5).length<8 then fil z ty true (an++atZ z n 5) ((atZ z n 5).getD 0 default).da (v+1)
  else ⟨true,0,an++atZ z n 5,[],[],v+1,0⟩
 else if 0<(atZ z n ty).length then ⟨true,0,an++atZ z n ty,[],[],v+1,0⟩
 else ⟨true,if nE z n then 0 else 3,an,atZ z z.o 6,[],v,0⟩
termination_by 8-an.length
decreasing_by rw [List.length_append] at h2 ⊢;omega
section
variable {z:Zo} {ty:Int} {aa:Bool} {an:List Rr} {n:List UInt8} {v:Nat}
theorem qH (h:bI z n≠[]) (h2:an.length=0):fil z ty aa an n v=⟨aa,0,an,atZ z (bI z n) 2,uK z (atZ z (bI z n) 2),v,nmK (atZ z (bI z n) 2) (atZ z (bI z n) 2).length⟩:=by rw [fil,if_pos h,if_pos h2]
theorem nf (h:bI z n≠[]) (h2:¬ an.length=0):fil z ty aa an n v=⟨aa,0,an,[],[],v,0⟩:=by rw [fil,if_pos h,if_neg h2]
theorem wo (h:¬ bI z n≠[]) (h1:0<(atZ z n 5).length∧ty≠5) (h2:bQ ((atZ z n 5).getD 0 default).da z.o=true∧(an++atZ z n 5).length<8):fil z ty aa an n v=fil z ty true (an++atZ z n 5) ((atZ z n 5).getD 0 default).da (v+1):=by rw [fil,if_neg h,dif_pos h1,dif_pos h2]
theorem iY (h:¬ bI z n≠[]) (h1:0<(atZ z n 5).length∧ty≠5) (h2:¬ (bQ ((atZ z n 5).getD 0 default).da z.o=true∧(an++atZ z n 5).length<8)):fil z ty aa an n v=⟨true,0,an++atZ z n 5,[],[],v+1,0⟩:=by rw [fil,if_neg h,dif_pos h1,dif_neg h2]
theorem lz (h:¬ bI z n≠[]) (h1:¬ (0<(atZ z n 5).length∧ty≠5)) (h2:0<(atZ z n ty).length):fil z ty aa an n v=⟨true,0,an++atZ z n ty,[],[],v+1,0⟩:=by rw [fil,if_neg h,dif_neg h1,if_pos h2]
theorem eB (h:¬ bI z n≠[]) (h1:¬ (0<(atZ z n 5).length∧ty≠5)) (h2:¬ 0<(atZ z n ty).length):fil z ty aa an n v=⟨true,if nE z n then 0 else 3,an,atZ z z.o 6,[],v,0⟩:=by rw [fil,if_neg h,dif_neg h1,if_neg h2]
end
theorem jA {z:Zo} (h:z.rs.length≤400) (n:List UInt8) (t:Int):(atZ z n t).length≤400:=by
 have:=List.length_filter_le (atP n t) z.rs;unfold atZ;omega
theorem CL (h:Hdr) (qs:List Qu) (aa:Bool) (code:Int) (an au:List Rr) (va:Nat) (z:Zo) (n:List UInt8) (acc:List Rr) (v:Nat) (hz:eR z) (hs:z.rs.length≤400) (hn:n.length≤255) (hacc:acc.length≤1000000):AC Tryz.prog 137 [str n,.ptr 3 0 0,.ptr 4 0 0] (ao [(0,.box [i64 h.id,tf h.resp,i64 h.op,tf (aa),tf h.tc,tf h.rd,tf h.ra,i64 (code),.fz 0 qs.length (cl quc qs),.sl 1 (va) 0 (an).length 5,.fz 0 (au).length (cl rrc (au)),.sl 2 (v) 0 (acc).length 5]),(1,.row (cl rrc an) 5 va),(2,.row (cl rrc (acc)) 5 (v)),(3,.box [.ptr 0 0 0]),(4,.box (zoC z))]) (bZ (.tup []) [(0,.box [i64 h.id,tf h.resp,i64 h.op,tf (aa),tf h.tc,tf h.rd,tf h.ra,i64 (code),.fz 0 qs.length (cl quc qs),.sl 1 (va) 0 (an).length 5,.fz 0 (au).length (cl rrc (au)),.sl 2 (v+1) 0 (acc++atZ z n 1).length 5]),(1,.row (cl rrc an) 5 va),(2,.row (cl rrc (acc++atZ z n 1)) 5 (v+1)),(3,.box [.ptr 0 0 0]),(4,.box (zoC z))]):=by
 have hal:=jA hs n 1;refine AC.intro te_ok (fn:=Tryz.f137) ⟨Tryz.func137,rfl,rfl⟩ (aE rfl) ?_;refine bj [ag,ag,ag,ag,ag,ag,ag,ag,bv [(2,_)],ag,ag,bv [(0,_)]] [af [1] [3] 5,af [1] [3] 6,af [5] [0] 7,af [6] [0] 8,af [7] [0] 9,af [2] [4] 10,af [0] [] 11,af [9,10] [] 12,af [8,11] [2] 13 [2],af [4] [0] 14,af [13] [0] 15,af [12,14] [0,2] 0 [0]] rfl ⟨ah,ah,ah,ah,ah,ah,ah,aC fun _=>aN rfl rfl (aj (0) (hc:=(cQ z n 1 hz (by omega)))),ah,ah,ah,ah,trivial⟩ ?_;show Fin te Tryz.f137 _ _;refine aQ (0) [] [] [] [(_,_),(_,_),(_,_),(_,_),(_,_)] ?_;rfl
theorem yQ (h:Hdr) (qs:List Qu) (aa:Bool) (code:Int) (an au:List Rr) (va:Nat) (z:Zo) (l:List Rr) (hz:eR z) (hs:z.rs.length≤400) (hl:l.length≤400) (hc:∀ r∈l,bm r.da=true):AC Tryz.prog 136 [.fz 0 l.length (cl rrc l),.fn (.func 137) [] [.ptr 3 0 0,.ptr 4 0 0]] (ao [(0,.box [i64 h.id,tf h.resp,i64 h.op,tf (aa),tf h.tc,tf h.rd,tf h.ra,i64 (code),.fz 0 qs.length (cl quc qs),.sl 1 (va) 0 (an).length 5,.fz 0 (au).length (cl rrc (au)),.sl 2 (0) 0 (([]:List Rr)).length 5]),(1,.row (cl rrc an) 5 va),(2,.row (cl rrc (([]:List Rr))) 5 (0)),(3,.box [.ptr 0 0 0]),(4,.box (zoC z))]) (bZ (.tup []) [(0,.box [i64 h.id,tf h.resp,i64 h.op,tf (aa),tf h.tc,tf h.rd,tf h.ra,i64 (code),.fz 0 qs.length (cl quc qs),.sl 1 (va) 0 (an).length 5,.fz 0 (au).length (cl rrc (au)),.sl 2 (nmK l l.length) 0 (nmF (fun n=>atZ z n 1) l l.length).length 5]),(1,.row (cl rrc an) 5 va),(2,.row (cl rrc (nmF (fun n=>atZ z n 1) l l.length)) 5 (nmK l l.length)),(3,.box [.ptr 0 0 0]),(4,.box (zoC z))]):=by
 have hsm:∀ k,k≤l.length→(nmF (fun n=>atZ z n 1) l k).length≤400*k:=fun k=>ll (l:=l) (c:=400) (fun r hr=>jA hs r.da 1)
 refine AC.intro te_ok (fn:=Tryz.f136) ⟨Tryz.func136,rfl,rfl⟩ (aE rfl) ?_;iterate 2 refine ab ?_
 refine ai rfl rfl (gQ 100 fI (fun b:Bool=>tf b)) ?_;iterate 9 refine ab ?_
 refine AWp.loopR (α:=Nat×List (List UInt8×Bool)×List Rr×Nat) [6,7,11,12,13,14,15,16,17,18,19,20,21,22,23,24,25,26,27,28,29,30] (fun x_=>[(11,i64 (x_.1))]) (fun x_=>[(100,.map (me fI (fun b:Bool=>tf b) (x_.2.1))),(0,.box [i64 h.id,tf h.resp,i64 h.op,tf (aa),tf h.tc,tf h.rd,tf h.ra,i64 (code),.fz 0 qs.length (cl quc qs),.sl 1 (va) 0 (an).length 5,.fz 0 (au).length (cl rrc (au)),.sl 2 ((x_.2.2.2)) 0 ((x_.2.2.1)).length 5]),(1,.row (cl rrc an) 5 va),(2,.row (cl rrc ((x_.2.2.1))) 5 ((x_.2.2.2))),(3,.box [.ptr 0 0 0]),(4,.box (zoC z))]) (fun x_=>(x_.1)≤l.length∧MetD l (x_.1) (x_.2.1)∧(x_.2.2.1)=nmF (fun n=>atZ z n 1) l (x_.1)∧(x_.2.2.2)=nmK l (x_.1)) (fun x_=>l.length-(x_.1)) (0,[],[],0) ?_ (Back.mk' (HasT.cons HasT.nil) (HasH.cons (HasH.cons (HasH.cons (HasH.cons (HasH.cons (HasH.cons HasH.nil))))) (h2:=by exact cg (fun _=>rfl)) )) ?_
 ·
  exact ⟨Nat.zero_le _,MetD.start l,rfl,rfl⟩
 ·
  rintro ⟨i,m,a2,v2⟩ hI2;change i≤l.length∧MetD l i m∧a2=nmF (fun n=>atZ z n 1) l i∧v2=nmK l i at hI2;obtain ⟨hi,hm,ha,hv⟩:=hI2;refine AWp.as (s':=AS.over _ [6,7,11,12,13,14,15,16,17,18,19,20,21,22,23,24,25,26,27,28,29,30] [(11,i64 i)] [(100,.map (me fI (fun b:Bool=>tf b) m)),(0,.box [i64 h.id,tf h.resp,i64 h.op,tf (aa),tf h.tc,tf h.rd,tf h.ra,i64 (code),.fz 0 qs.length (cl quc qs),.sl 1 (va) 0 (an).length 5,.fz 0 (au).length (cl rrc (au)),.sl 2 (v2) 0 (a2).length 5]),(1,.row (cl rrc an) 5 va),(2,.row (cl rrc (a2)) 5 (v2)),(3,.box [.ptr 0 0 0]),(4,.box (zoC z))]) rfl ?_;have hsi:=hsm i hi;have hal:=congrArg List.length ha;iterate 2 refine ab ?_
  refine am (fun h2_0=>?_) (fun h2_0=>?_)
  ·
   iterate 10 refine ab ?_
   refine ai rfl rfl (ap 402) ?_;iterate 4 refine ab ?_
   have hci:=hc _ (aq (l:=l) (i:=i) (by omega));have hcl:=eD hci;iterate 2 refine ab ?_
   refine AOps.cons rfl rfl (by first|exact b9|exact aU) ?_;refine ai rfl rfl (aj (0) (hc:=(gO (l.getD i default).da (by omega)))) ?_;iterate 6 refine ab ?_
   refine AOps.bool rfl rfl (ey fI) (fun h5_2=>?_) (fun h5_2=>?_)
   ·
    iterate 8 refine ab ?_
    refine ⟨(i+1,m,a2,v2),?_,Back.mk' (HasT.cons HasT.nil) (HasH.cons (HasH.cons (HasH.cons (HasH.cons (HasH.cons (HasH.cons HasH.nil))))) (h2:=by exact cg (fun _=>rfl)) ),?_⟩
    ·
     try dsimp only
     have hf:na l i=false:=by rw [hm.fst,h5_2];rfl
     exact ⟨by omega,hm.same (by omega) h5_2,by rw [zY hf,ha],by rw [ED hf,hv]⟩
    ·
     try dsimp only
     first|omega|(simp;omega)
   ·
    iterate 7 refine ab ?_
    refine ai rfl rfl (gf fI true) ?_;iterate 5 refine ab ?_
    refine AOps.cons rfl rfl (by first|exact b9|exact aU) ?_;refine ai rfl rfl (ay (0) [(0,0),(1,1),(2,2),(3,3),(4,4)] [] [(_,_),(_,_),(_,_),(_,_),(_,_)] (hobj:=by repeat' (first|exact trivial|exact aK rfl|exact bd rfl rfl|exact aV rfl rfl|exact bw rfl rfl|exact aF (fun _=>rfl)|exact dF (fun _=>rfl)|refine ar ?_|refine ⟨rfl,⟨_,rfl,?_⟩,?_⟩|refine ⟨?_,?_⟩)) (hB:=by repeat' (first|exact trivial|exact cU (lv:=0) (fun _=>rfl)|exact n8 (lv:=0) (fun _=>rfl)|exact rfl|refine ⟨rfl,rfl,?_,?_⟩)) (hL:=by repeat' (first|exact trivial|exact em (fun _=>rfl)|exact n7 (fun _=>rfl)|exact ⟨rfl,rfl⟩|refine ⟨?_,?_⟩)) (hc:=(CL h qs aa code an au va z (l.getD i default).da a2 v2 hz hs (by omega) (by omega)))) ?_;iterate 5 refine ab ?_
    refine ⟨(i+1,cp m (eK (l.getD i default).da) true,a2++atZ z (l.getD i default).da 1,v2+1),?_,Back.mk' (HasT.cons HasT.nil) (HasH.cons (HasH.cons (HasH.cons (HasH.cons (HasH.cons (HasH.cons HasH.nil))))) (h2:=by exact cg (fun _=>rfl)) ),?_⟩
    ·
     try dsimp only
     have hf:na l i=true:=by rw [hm.fst,h5_2];rfl
     exact ⟨by omega,hm.step (by omega),by rw [wY hf,ha],by rw [C2 hf,hv]⟩
    ·
     try dsimp only
     first|omega|(simp;omega)
  ·
   iterate 4 refine ab ?_
   show Fin te Tryz.f136 _ _;obtain rfl:i=l.length:=by omega
   rw [ha,hv];refine aQ (0) [] [] [] [(_,_),(_,_),(_,_),(_,_),(_,_)] ?_ (hobj:=by repeat' (first|exact trivial|exact aK rfl|exact bd rfl rfl|exact iv rfl rfl .row rfl|exact aV rfl rfl|exact bw rfl rfl|exact cJ|exact cT rfl rfl .row (fun _=>rfl) (aE rfl) (fun _=>rfl)|exact aF (fun _=>rfl)|exact lobj_rown (fun _=>rfl)|exact dF (fun _=>rfl)|refine ar ?_|refine ⟨rfl,⟨_,rfl,?_⟩,?_⟩|refine ⟨?_,?_⟩));rfl
theorem F6 (h:Hdr) (qs:List Qu) (z:Zo) (n0:List UInt8) (ty:Int) (hz:eR z) (hs:z.rs.length≤400) (hn0:n0.length≤255) (hc:∀ r∈z.rs,r.ty=2∨r.ty=5→bm r.da=true):AC Tryz.prog 96 [.agg (zoC z),str n0,i64 ty,.ptr 0 0 0] (ao [(0,.box [i64 h.id,tf h.resp,i64 h.op,tf (false),tf h.tc,tf h.rd,tf h.ra,i64 (0),.fz 0 qs.length (cl quc qs),.v (.slice none 0 0),.fz 0 (([]:List Rr)).length (cl rrc (([]:List Rr))),.v (.slice none 0 0)])]) (bZ (.tup []) [(0,.box [i64 h.id,tf h.resp,i64 h.op,tf ((fil z ty false [] n0 0).aa),tf h.tc,tf h.rd,tf h.ra,i64 ((fil z ty false [] n0 0).code),.fz 0 qs.length (cl quc qs),.fz 0 ((fil z ty false [] n0 0).an).length (cl rrc ((fil z ty false [] n0 0).an)),.fz 0 ((fil z ty false [] n0 0).au).length (cl rrc ((fil z ty false [] n0 0).au)),.fz 0 ((fil z ty false [] n0 0).ad).length (cl rrc ((fil z ty false [] n0 0).ad))])]):=by
 have hzl:=hz.1;have hal:=fun n t=>jA hs n t
 refine AC.intro te_ok (fn:=Tryz.f96) ⟨Tryz.func96,rfl,rfl⟩ (aE rfl) ?_;iterate 2 refine ab ?_
 refine ai rfl rfl (aS 100) ?_;refine ai rfl rfl (aS 101) ?_;refine AOps.weak (Weak.nilcell 0 9001 9 5 rrc) ?_;refine AOps.weak (Weak.nilcell 0 9002 11 5 rrc) ?_;refine ab ?_;refine AWp.jumpsR (α:=List Rr×List UInt8×Bool×Nat) 0 [1,8,9,10,11,12,13,14,15,16,17,18,19,20,21,22,23,24,25,26,27,28,29,30,31,32,33,34,35,36,37,38,39,40,41,42,43,44,45,46,47,48,49,50,51,52,53,54,55,56,57,58,59,60,61,62,63,64,65,66,67,68,69,70,71,72,73,74,75,76,77,78,79,80,81,82,83,84,85,86,87,88,89,90,91,92,93,94,95,96,97,98,99,100,101,102,103,104,105,106,107] (fun x_=>[(1,str (x_.2.1))]) (fun x_=>[(0,.box [i64 h.id,tf h.resp,i64 h.op,tf ((x_.2.2.1)),tf h.tc,tf h.rd,tf h.ra,i64 (0),.fz 0 qs.length (cl quc qs),.sl 9001 ((x_.2.2.2)) 0 ((x_.1)).length 5,.fz 0 (([]:List Rr)).length (cl rrc (([]:List Rr))),.sl 9002 (0) 0 (([]:List Rr)).length 5]),(9001,.row (cl rrc (x_.1)) 5 (x_.2.2.2))]) (fun x_=>fil z ty (x_.2.2.1) (x_.1) (x_.2.1) (x_.2.2.2)=(fil z ty false [] n0 0)∧(x_.1).length≤8∧(x_.2.1).length≤255∧((x_.1).length=0→(x_.2.2.1)=false)) (fun x_=>8-(x_.1).length) rfl (fun hj=>?_) ?_
 ·
  refine hj _ ⟨([],n0,false,0),?_,Back.mk' (HasT.cons HasT.nil) (HasH.cons (HasH.cons HasH.nil))⟩;exact ⟨rfl,by simp,hn0,fun _=>rfl⟩
 ·
  rintro ⟨an,n,aa,v⟩ hI;change fil z ty aa an n v=(fil z ty false [] n0 0)∧an.length≤8∧n.length≤255∧(an.length=0→aa=false) at hI;obtain ⟨hE,hA,hN,hQ⟩:=hI;refine AWp.as (s':=AS.over _ [1,8,9,10,11,12,13,14,15,16,17,18,19,20,21,22,23,24,25,26,27,28,29,30,31,32,33,34,35,36,37,38,39,40,41,42,43,44,45,46,47,48,49,50,51,52,53,54,55,56,57,58,59,60,61,62,63,64,65,66,67,68,69,70,71,72,73,74,75,76,77,78,79,80,81,82,83,84,85,86,87,88,89,90,91,92,93,94,95,96,97,98,99,100,101,102,103,104,105,106,107] [(1,str n)] [(0,.box [i64 h.id,tf h.resp,i64 h.op,tf (aa),tf h.tc,tf h.rd,tf h.ra,i64 (0),.fz 0 qs.length (cl quc qs),.sl 9001 (v) 0 (an).length 5,.fz 0 (([]:List Rr)).length (cl rrc (([]:List Rr))),.sl 9002 (0) 0 (([]:List Rr)).length 5]),(9001,.row (cl rrc an) 5 v)]) rfl ?_;have hcl:=eC hz n;have ha5:=hal n 5;have haty:=hal n ty;iterate 5 refine ab ?_
  refine ai rfl rfl (aj (0) (hc:=(jx z n hz (by omega)))) ?_;iterate 2 refine ab ?_
  refine AOps.bool rfl rfl (bM) (fun h1_5=>?_) (fun h1_5=>?_)
  ·
   iterate 11 refine ab ?_
   have hcut:bI z n≠[]:=of_decide_eq_true h1_5;iterate 5 refine ab ?_
   refine am (fun h3_5=>?_) (fun h3_5=>?_)
   ·
    iterate 3 refine ab ?_
    have han:an.length=0:=by omega
    obtain rfl:=List.eq_nil_of_length_eq_zero han;have hc2:=hal (bI z n) 2;have hcc:∀ r∈atZ z (bI z n) 2,bm r.da=true:=fun r hr=>hc r (iJ hr).1 (.inl (iJ hr).2.1)
    refine bj [ag,ag,ag,ag,ag,ag,bv [(0,_)]] [af [7] [101] 26,af [4] [100] 27,af [8] [] 28,af [26,27] [] 29,af [25] [0] 30,af [29] [0] 31,af [28,30] [0] 0 [0]] rfl ⟨ah,ah,ah,aC fun _=>aN rfl rfl (aj (0) (hc:=(cQ z (bI z n) 2 hz hcl))),ah,ah,ah,trivial⟩ ?_;iterate 5 refine ab ?_
    refine ai rfl rfl (ca [] [_,_]) ?_;refine ai rfl rfl (ay (0) [(0,0),(1,9001),(2,9002),(3,101),(4,100)] [] [(_,_),(_,_),(_,_),(_,_),(_,_)] (hA:=by exact ⟨aK rfl,Gu trivial ⟨aV rfl rfl,aV rfl rfl,trivial⟩,trivial⟩) (hc:=(yQ h qs aa 0 [] (atZ z (bI z n) 2) v z (atZ z (bI z n) 2) hz hs hc2 hcc))) ?_;iterate 2 refine ab ?_
    rw [qH hcut rfl] at hE;rw [← hE];refine aQ (0) [] [] [] [(_,_)] ?_;rfl
   ·
    iterate 4 refine ab ?_
    rw [nf hcut (by omega)] at hE;rw [← hE];refine aQ (0) [] [] [] [(_,_)] ?_;rfl
  ·
   iterate 11 refine ab ?_
   have hcut:¬ bI z n≠[]:=of_decide_eq_false h1_5;iterate 11 refine ab ?_
   refine ai rfl rfl (aj (0) (hc:=(cQ z n 5 hz (by omega)))) ?_;iterate 6 refine ab ?_
   refine am (fun h8_2=>?_) (fun h8_2=>?_)
   ·
    iterate 2 refine ab ?_
    refine am (fun h8_5=>?_) (fun h8_5=>?_)
    ·
     iterate 4 refine ab ?_
     have hali:0<(atZ z n 5).length∧ty≠5:=⟨by omega,h8_5⟩;have hx:=hc _ (iJ (aq (l:=atZ z n 5) (i:=0) hali.1)).1 (.inr (iJ (aq (l:=atZ z n 5) (i:=0) hali.1)).2.1);have hxl:=eD hx;refine bj [ag,ag,ag,ag,ag,ag,bv [(9001,_)],ag,ag,bv [(0,_)]] [af [7] [101] 52,af [7] [101] 53,af [52] [0] 54,af [53] [0] 55,af [54] [0] 56,af [10] [] 57,af [55,56] [9001] 58 [9001],af [51] [0] 59,af [58] [0] 60,af [57,59] [0,9001] 0 [0]] rfl ⟨ah,ah,ah,ah,ah,ah,ah,ah,ah,ah,trivial⟩ ?_;iterate 6 refine ab ?_
     refine AOps.cons rfl rfl (by first|exact b9|exact aU) ?_;iterate 8 refine ab ?_
     refine AOps.bool rfl rfl (aj (0) (hc:=(df ((atZ z n 5).getD 0 default).da z.o (by omega) (by omega)))) (fun h11_3=>?_) (fun h11_3=>?_)
     ·
      iterate 6 refine ab ?_
      refine am (fun h11_10=>?_) (fun h11_10=>?_)
      ·
       iterate 3 refine ab ?_
       refine AWp.goto ?_;refine ⟨rfl,(an++atZ z n 5,((atZ z n 5).getD 0 default).da,true,v+1),?_,Back.mk' (HasT.cons HasT.nil) (HasH.cons (HasH.cons HasH.nil)),?_⟩
       ·
        try dsimp only
        refine ⟨by rw [← hE,wo hcut hali ⟨h11_3,by omega⟩],by omega,eD hx,fun q=>?_⟩;rw [List.length_append] at q;omega
       ·
        try dsimp only
        have hq8:=h11_10;simp only [List.length_append] at hq8 ⊢;omega
      ·
       iterate 5 refine ab ?_
       rw [iY hcut hali (fun q=>h11_10 (by have:=q.2;omega))] at hE;rw [← hE];refine aQ (0) [] [] [] [(_,_)] ?_;rfl
     ·
      iterate 12 refine ab ?_
      rw [iY hcut hali (fun q=>by rw [h11_3] at q;cases q.1)] at hE;rw [← hE];refine aQ (0) [] [] [] [(_,_)] ?_;rfl
    ·
     iterate 7 refine ab ?_
     have hali:¬ (0<(atZ z n 5).length∧ty≠5):=fun q=>h8_5 q.2
     iterate 3 refine ab ?_
     refine ai rfl rfl (aj (0) (hc:=(cQ z n ty hz (by omega)))) ?_;iterate 6 refine ab ?_
     refine am (fun h13_2=>?_) (fun h13_2=>?_)
     ·
      iterate 3 refine ab ?_
      refine bj [ag,ag,ag,ag,ag,ag,bv [(9001,_)],ag,ag,bv [(0,_)]] [af [7] [101] 85,af [7] [101] 86,af [85] [0] 87,af [86] [0] 88,af [87] [0] 89,af [11] [] 90,af [88,89] [9001] 91 [9001],af [84] [0] 92,af [91] [0] 93,af [90,92] [0,9001] 0 [0]] rfl ⟨ah,ah,ah,ah,ah,ah,ah,ah,ah,ah,trivial⟩ ?_;refine ab ?_;rw [lz hcut hali (by omega)] at hE;rw [← hE];refine aQ (0) [] [] [] [(_,_)] ?_;rfl
     ·
      iterate 4 refine ab ?_
      refine bj [ag,ag,ag,ag,ag,ag,ag,bv [(0,_)]] [af [7] [101] 94,af [4] [100] 95,af [4] [100] 96,af [95] [100] 97,af [94,96] [] 98,af [93] [0] 99,af [98] [0] 100,af [97,99] [0] 0 [0]] rfl ⟨ah,ah,ah,ah,aC fun _=>aN rfl rfl (aj (0) (hc:=(cQ z z.o 6 hz (by omega)))),ah,ah,ah,trivial⟩ ?_;iterate 4 refine ab ?_
      refine AOps.bool rfl rfl (aj (0) (hc:=(nq z n hz (by omega)))) (fun h16_2=>?_) (fun h16_2=>?_)
      ·
       iterate 4 refine ab ?_
       show Fin te Tryz.f96 _ _;rw [eB hcut hali (by omega),if_pos h16_2] at hE;rw [← hE];refine aQ (0) [] [] [] [(_,_)] ?_;rfl
      ·
       iterate 10 refine ab ?_
       show Fin te Tryz.f96 _ _;rw [eB hcut hali (by omega),if_neg (by rw [h16_2];decide)] at hE;rw [← hE];refine aQ (0) [] [] [] [(_,_)] ?_;rfl
   ·
    iterate 10 refine ab ?_
    have hali:¬ (0<(atZ z n 5).length∧ty≠5):=fun q=>absurd q.1 (by omega)
    iterate 3 refine ab ?_
    refine ai rfl rfl (aj (0) (hc:=(cQ z n ty hz (by omega)))) ?_;iterate 6 refine ab ?_
    refine am (fun h13_2=>?_) (fun h13_2=>?_)
    ·
     iterate 3 refine ab ?_
     refine bj [ag,ag,ag,ag,ag,ag,bv [(9001,_)],ag,ag,bv [(0,_)]] [af [7] [101] 85,af [7] [101] 86,af [85] [0] 87,af [86] [0] 88,af [87] [0] 89,af [11] [] 90,af [88,89] [9001] 91 [9001],af [84] [0] 92,af [91] [0] 93,af [90,92] [0,9001] 0 [0]] rfl ⟨ah,ah,ah,ah,ah,ah,ah,ah,ah,ah,trivial⟩ ?_;refine ab ?_;rw [lz hcut hali (by omega)] at hE;rw [← hE];refine aQ (0) [] [] [] [(_,_)] ?_;rfl
    ·
     iterate 4 refine ab ?_
     refine bj [ag,ag,ag,ag,ag,ag,ag,bv [(0,_)]] [af [7] [101] 94,af [4] [100] 95,af [4] [100] 96,af [95] [100] 97,af [94,96] [] 98,af [93] [0] 99,af [98] [0] 100,af [97,99] [0] 0 [0]] rfl ⟨ah,ah,ah,ah,aC fun _=>aN rfl rfl (aj (0) (hc:=(cQ z z.o 6 hz (by omega)))),ah,ah,ah,trivial⟩ ?_;iterate 4 refine ab ?_
     refine AOps.bool rfl rfl (aj (0) (hc:=(nq z n hz (by omega)))) (fun h16_2=>?_) (fun h16_2=>?_)
     ·
      iterate 4 refine ab ?_
      show Fin te Tryz.f96 _ _;rw [eB hcut hali (by omega),if_pos h16_2] at hE;rw [← hE];refine aQ (0) [] [] [] [(_,_)] ?_;rfl
     ·
      iterate 10 refine ab ?_
      show Fin te Tryz.f96 _ _;rw [eB hcut hali (by omega),if_neg (by rw [h16_2];decide)] at hE;rw [← hE];refine aQ (0) [] [] [] [(_,_)] ?_;rfl
end
section
attribute [local irreducible] AWp AOps
def mZ:Msg:=⟨⟨0,false,0,false,false,false,false,0⟩,[],[],[],[]⟩
def cF (a:Int) (s:Sv):Bool:=decide (s.ad=a)
def Bh (m:Msg) (q:Qu) (c:Int):Msg:=⟨⟨m.h.id,true,m.h.op,false,false,m.h.rd,false,c⟩,[q],[],[],[]⟩
def Gz (m:Msg) (q:Qu) (f:Fl):Msg:=⟨⟨m.h.id,true,m.h.op,f.aa,false,m.h.rd,false,f.code⟩,[q],f.an,f.au,f.ad⟩
def oY (t:Tr) (s:Sv) (m:Msg) (q:Qu):Msg:=
 if m.h.op≠0 then Bh m q 4 else if q.cs≠1∨fL t s.zs q.nm<0 then Bh m q 5 else Gz m q (fil (zAt t (fL t s.zs q.nm)) q.ty false [] q.nm 0)
def ff (t:Tr) (a:Int) (m:Msg):Bool:=dZ t&&!m.h.resp&&decide (m.qs.length=1)&&bm (m.qs.getD 0 default).nm&&decide (0≤idx (cF a) t.ss)
def fh (t:Tr) (a:Int) (m:Msg):Msg:=if ff t a m then oY t (t.ss.getD (idx (cF a) t.ss).toNat default) m (m.qs.getD 0 default) else mZ
section
variable {t:Tr} {a:Int} {m:Msg}
theorem Dp (h:dZ t=false):ff t a m=false:=by rw [ff,h];rfl
theorem Do (h:m.h.resp=true):ff t a m=false:=by rw [ff,h,Bool.not_true,Bool.and_false];rfl
theorem Dn (h:¬ (m.qs.length:Int)=1):ff t a m=false:=by rw [ff,decide_eq_false (p:=m.qs.length=1) (by omega),Bool.and_false];rfl
theorem Dm (h:bm (m.qs.getD 0 default).nm=false):ff t a m=false:=by rw [ff,h,Bool.and_false];rfl
theorem Dl (h:idx (cF a) t.ss<0):ff t a m=false:=by rw [ff,decide_eq_false (p:=0≤idx (cF a) t.ss) (by omega),Bool.and_false]
theorem wK (h1:dZ t=true) (h2:m.h.resp=false) (h3:¬ ¬ (m.qs.length:Int)=1) (h4:bm (m.qs.getD 0 default).nm=true) (h5:¬ idx (cF a) t.ss<0):ff t a m=true:=by
 rw [ff,h1,h2,decide_eq_true (p:=m.qs.length=1) (by omega),h4,decide_eq_true (p:=0≤idx (cF a) t.ss) (by omega)];rfl
theorem ex (h:ff t a m=false):fh t a m=mZ:=by rw [fh,h];rfl
theorem fZ (h:ff t a m=true):fh t a m=oY t (t.ss.getD (idx (cF a) t.ss).toNat default) m (m.qs.getD 0 default):=by rw [fh,h];rfl
theorem Ap {α:Type} {g:α→Bool}:∀ {l:List α},0<l.length→idx g l<l.length
 | [a],_=>by unfold idx;split<;>simp [idx]
 | a::b::l,_=>by
  have h:=Ap (g:=g) (l:=b::l) (by simp);unfold idx;simp only [List.length_cons] at h ⊢;split
  · omega
  · split<;>omega
theorem t0 {α:Type} {g:α→Bool} {l:List α} (h:¬ idx g l<0):(idx g l).toNat<l.length:=by
 cases l with
 | nil=>simp [idx] at h
 | cons a l=>have:=Ap (g:=g) (l:=a::l) (by simp);omega
theorem su (h:dZ t=true) {s:Sv} (hs:s∈t.ss):∀ i∈s.zs,0≤i∧i<t.zs.length:=by
 intro i hi;obtain ⟨j,hj,rfl⟩:=List.getElem_of_mem hs;have h1:=(mw h).2.2.2.1;unfold nH at h1;simp only [Bool.and_eq_true,cd] at h1;have h2:=h1.2 j hj;unfold svO at h2;rw [oP hj] at h2;simp only [Bool.and_eq_true,Bool.not_eq_true',List.any_eq_false] at h2;have h3:=h2.2 i hi;simp only [lO,Bool.or_eq_true,decide_eq_true_eq,not_or] at h3;omega
theorem mB (h:dZ t=true) {z:Zo} (hz:z∈t.zs):z.rs.length≤400:=by
 have h1:=Bw hz;have h2:=(mw h).2.2.2.2.2.1;omega
theorem wD (h:dZ t=true) {z:Zo} (hz:z∈t.zs):∀ r∈z.rs,r.ty=2∨r.ty=5→bm r.da=true:=fun r hr hty=>AH (CG h hz hr) hty
end
theorem kP (l:List (Sv)) (lv lv' lw:Nat) (caps:List AV) (g:Sv→Bool) {fid:Nat} (hl:l.length≤140737488351232) (hcaps:AV.oks lw caps=true) (hg:∀ x∈l,AC Tryz.prog fid (.agg (svC x)::caps) emp (Ret (tf (g x)))):AC Tryz.prog 54 [.fz lv l.length (cl (svC) l),.fn (.func fid) [] caps] emp (Ret (i64 (idx g l))):=by
 refine AC.intro te_ok (fn:=Tryz.f54) ⟨Tryz.func54,rfl,rfl⟩ (aE rfl) ?_;iterate 12 refine ab ?_
 refine AWp.loopR (α:=Nat) [4,5,8,9,10,11,12,13,14,15,16,17,18] (fun i=>[(8,i64 i)]) (fun i=>[]) (fun i=>i≤l.length∧∀ x∈l.take i,g x=false) (fun i=>l.length-i) 0 ?_ (Back.mk' (HasT.cons HasT.nil) HasH.nil) ?_
 ·
  exact ⟨Nat.zero_le _,by simp⟩
 ·
  rintro i ⟨hi,hI⟩;iterate 2 refine ab ?_
  refine am (fun h2_0=>?_) (fun h2_0=>?_)
  ·
   iterate 18 refine ab ?_
   refine AOps.bool rfl rfl (aj (lv+lv'+lw) (hA:=by exact kl (l:=lw) (dG rfl (by first|rfl|exact fG (by omega)|(simp [AV.ok,AV.oks];done))) (by omega) hcaps) (hc:=(hg _ (dT (i:=i) (by omega))))) (fun h4_5=>?_) (fun h4_5=>?_)
   ·
    iterate 8 refine ab ?_
    refine ak (0) [_] [_] ?_;exact ci (qB (by omega) hI h4_5).symm
   ·
    iterate 7 refine ab ?_
    refine ⟨i+1,?_,Back.mk' (HasT.cons HasT.nil) HasH.nil,?_⟩
    ·
     exact ⟨by omega,n6 (by omega) hI h4_5⟩
    ·
     first|omega|(simp;omega)
  ·
   iterate 9 refine ab ?_
   refine ak (0) [_] [_] ?_;exact ci (kj (by rwa [List.take_of_length_le (by omega)] at hI)).symm
theorem qQ (s:Sv) (a:Int) (lv:Nat):AC Tryz.prog 94 [.agg (svC s),.fp lv [i64 a]] emp (Ret (tf (cF a s))):=by
 refine AC.intro te_ok (fn:=Tryz.f94) ⟨Tryz.func94,rfl,rfl⟩ (aE rfl) ?_;iterate 2 refine ab ?_
 refine ai rfl rfl (aS 100) ?_;iterate 7 refine ab ?_
 refine ai rfl rfl (dm) ?_;iterate 3 refine ab ?_
 refine ak (0) [_] [_] ?_;rfl
theorem tw (t:Tr) (a:Int) (m:Msg) (ht:cx t) (hm:gp m) (hn:oB m):AC Tryz.prog 57 [.agg (trC t),i64 a,.agg (dn m)] emp (Ret (.tup [.agg (dn (fh t a m)),tf (ff t a m)])):=by
 have hb1:=ht.1;have hb2:=ht.2.2.1;have hmq:=hm.1;refine AC.intro te_ok (fn:=Tryz.f57) ⟨Tryz.func57,rfl,rfl⟩ (aE rfl) ?_;iterate 2 refine ab ?_
 refine ai rfl rfl (aS 100) ?_;refine ai rfl rfl (aS 101) ?_;refine ai rfl rfl (aS 102) ?_;refine ai rfl rfl (ap 103) ?_;iterate 6 refine ab ?_
 refine AOps.bool rfl rfl (aj (0) (hc:=(mz t ht))) (fun h1_1=>?_) (fun h1_1=>?_)
 ·
  iterate 4 refine ab ?_
  refine AOps.gbool rfl rfl rfl rfl rfl (bb) (fun h1_6=>?_) (fun h1_6=>?_)
  ·
   iterate 20 refine ab ?_
   refine ai rfl rfl (aL []) ?_;iterate 2 refine ab ?_
   refine AOps.weak (Weak.full 0 [] (t:=[(7,tf false),(6,.ptr 103 0 0)]) (hl:=[(103,.box (dn mZ))])) ?_;iterate 2 refine ab ?_
   refine ak (0) [_,_] [_,_] ?_;have hno:ff t a m=false:=Do h1_6;rw [ex hno,hno];rfl
  ·
   iterate 5 refine ab ?_
   refine am (fun h1_12=>?_) (fun h1_12=>?_)
   ·
    iterate 14 refine ab ?_
    refine ai rfl rfl (aL []) ?_;iterate 2 refine ab ?_
    refine AOps.weak (Weak.full 0 [] (t:=[(7,tf false),(6,.ptr 103 0 0)]) (hl:=[(103,.box (dn mZ))])) ?_;iterate 2 refine ab ?_
    refine ak (0) [_,_] [_,_] ?_;have hno:ff t a m=false:=Dn h1_12;rw [ex hno,hno];rfl
   ·
    iterate 4 refine ab ?_
    have hl1:m.qs.length=1:=by omega
    have hqn:=hn.1 _ (aq (l:=m.qs) (i:=0) (by omega));iterate 3 refine ab ?_
    refine AOps.gbool rfl rfl rfl rfl rfl (aj (0) (hc:=(cu (m.qs.getD 0 default).nm (by omega)))) (fun h1_20=>?_) (fun h1_20=>?_)
    ·
     iterate 9 refine ab ?_
     refine ai rfl rfl (ca [] [_]) ?_;refine ai rfl rfl (aj (0) (hc:=(kP t.ss 0 0 1 [.fp 1 [i64 a]] (cF a) (by omega) rfl (fun s hs=>qQ s a 1)))) ?_;iterate 6 refine ab ?_
     refine am (fun h4_1=>?_) (fun h4_1=>?_)
     ·
      iterate 4 refine ab ?_
      refine ai rfl rfl (aL []) ?_;iterate 2 refine ab ?_
      refine AOps.weak (Weak.full 0 [] (t:=[(7,tf false),(6,.ptr 103 0 0)]) (hl:=[(103,.box (dn mZ))])) ?_;iterate 2 refine ab ?_
      refine ak (0) [_,_] [_,_] ?_;have hno:ff t a m=false:=Dl h4_1;rw [ex hno,hno];rfl
     ·
      iterate 5 refine ab ?_
      have hyes:=wK h1_1 h1_6 h1_12 h1_20 h4_1;have hcan:=h1_1;have hix:=t0 h4_1;have hsm:(t.ss.getD (idx (cF a) t.ss).toNat default)∈t.ss:=aq hix;have hin:=su hcan hsm;have hszl:=ht.2.2.2 _ hsm;have hql:=eD h1_20;iterate 4 refine ab ?_
      refine ai rfl rfl (ap 704) ?_;iterate 13 refine ab ?_
      refine ai rfl rfl (aL [(_,_),(_,_),(_,_),(_,_)]) ?_;refine ab ?_;refine ai rfl rfl (bO 811 quc [(m.qs.getD 0 default)] [(_,_)]) ?_;refine ai rfl rfl (aL [(_,_),(_,_)]) ?_;refine ai rfl rfl (ap 813) ?_;refine ab ?_;refine AOps.weak (Weak.full 0 [] (t:=[(3,.ptr 100 0 0),(5,.ptr 102 0 0),(6,.ptr 103 0 0),(8,i64 (idx (cF a) t.ss)),(9,.ptr 704 0 0),(10,.ptr 813 0 0)]) (hl:=[(100,.box (trC t)),(102,.box (dn m)),(103,.box [.v (.int .i64 0),.v (.bool false),.v (.int .i64 0),.v (.bool false),.v (.bool false),.v (.bool false),.v (.bool false),.v (.int .i64 0),.v (.slice none 0 0),.v (.slice none 0 0),.v (.slice none 0 0),.v (.slice none 0 0)]),(704,.box (quc (m.qs.getD 0 default))),(813,.box [i64 m.h.id,tf true,i64 m.h.op,tf (false),.v (.bool false),tf m.h.rd,.v (.bool false),i64 (0),.fz 0 [(m.qs.getD 0 default)].length (cl quc [(m.qs.getD 0 default)]),.v (.slice none 0 0),.fz 0 (([]:List Rr)).length (cl rrc (([]:List Rr))),.v (.slice none 0 0)])])) ?_;iterate 2 refine ab ?_
      refine bj [ag,ag,ag,ag,ag,ag,ag,ag,ag,ag,ag] [af [3] [100] 61,af [3] [100] 62,af [61] [100] 63,af [8] [] 64,af [62,63] [] 65,af [64] [] 66,af [65] [] 67,af [9] [704] 68,af [67] [704] 69,af [60,66,68] [] 70,af [69] [] 12] rfl ⟨ah,ah,ah,ah,ah,ah,ah,ah,ah,aC fun _=>aN rfl rfl (aj (0) (hc:=(v5 t (t.ss.getD (idx (cF a) t.ss).toNat default).zs 0 (m.qs.getD 0 default).nm ht (by omega) hin (by omega)))),ah,trivial⟩ ?_;iterate 7 refine ab ?_
      refine am (fun h10_3=>?_) (fun h10_3=>?_)
      ·
       iterate 10 refine ab ?_
       refine AOps.weak (Weak.full 0 [] (t:=[(6,.ptr 103 0 0),(10,.ptr 813 0 0)]) (hl:=[(103,.box [.v (.int .i64 0),.v (.bool false),.v (.int .i64 0),.v (.bool false),.v (.bool false),.v (.bool false),.v (.bool false),.v (.int .i64 0),.v (.slice none 0 0),.v (.slice none 0 0),.v (.slice none 0 0),.v (.slice none 0 0)]),(813,.box [i64 m.h.id,tf true,i64 m.h.op,tf (false),.v (.bool false),tf m.h.rd,.v (.bool false),i64 (4),.fz 0 [(m.qs.getD 0 default)].length (cl quc [(m.qs.getD 0 default)]),.fz 0 (([]:List Rr)).length (cl rrc (([]:List Rr))),.fz 0 (([]:List Rr)).length (cl rrc (([]:List Rr))),.fz 0 (([]:List Rr)).length (cl rrc (([]:List Rr)))])])) ?_;iterate 5 refine ab ?_
       refine ak (0) [_,_] [_,_] ?_;rw [fZ hyes,hyes,oY,if_pos h10_3];rfl
      ·
       iterate 7 refine ab ?_
       refine am (fun h12_2=>?_) (fun h12_2=>?_)
       ·
        iterate 14 refine ab ?_
        refine AOps.weak (Weak.full 0 [] (t:=[(6,.ptr 103 0 0),(10,.ptr 813 0 0)]) (hl:=[(103,.box [.v (.int .i64 0),.v (.bool false),.v (.int .i64 0),.v (.bool false),.v (.bool false),.v (.bool false),.v (.bool false),.v (.int .i64 0),.v (.slice none 0 0),.v (.slice none 0 0),.v (.slice none 0 0),.v (.slice none 0 0)]),(813,.box [i64 m.h.id,tf true,i64 m.h.op,tf (false),.v (.bool false),tf m.h.rd,.v (.bool false),i64 (5),.fz 0 [(m.qs.getD 0 default)].length (cl quc [(m.qs.getD 0 default)]),.fz 0 (([]:List Rr)).length (cl rrc (([]:List Rr))),.fz 0 (([]:List Rr)).length (cl rrc (([]:List Rr))),.fz 0 (([]:List Rr)).length (cl rrc (([]:List Rr)))])])) ?_;iterate 5 refine ab ?_
        refine ak (0) [_,_] [_,_] ?_;rw [fZ hyes,hyes,oY,if_neg h10_3,if_pos (.inl h12_2)];rfl
       ·
        iterate 2 refine ab ?_
        refine am (fun h12_5=>?_) (fun h12_5=>?_)
        ·
         iterate 11 refine ab ?_
         refine AOps.weak (Weak.full 0 [] (t:=[(6,.ptr 103 0 0),(10,.ptr 813 0 0)]) (hl:=[(103,.box [.v (.int .i64 0),.v (.bool false),.v (.int .i64 0),.v (.bool false),.v (.bool false),.v (.bool false),.v (.bool false),.v (.int .i64 0),.v (.slice none 0 0),.v (.slice none 0 0),.v (.slice none 0 0),.v (.slice none 0 0)]),(813,.box [i64 m.h.id,tf true,i64 m.h.op,tf (false),.v (.bool false),tf m.h.rd,.v (.bool false),i64 (5),.fz 0 [(m.qs.getD 0 default)].length (cl quc [(m.qs.getD 0 default)]),.fz 0 (([]:List Rr)).length (cl rrc (([]:List Rr))),.fz 0 (([]:List Rr)).length (cl rrc (([]:List Rr))),.fz 0 (([]:List Rr)).length (cl rrc (([]:List Rr)))])])) ?_;iterate 5 refine ab ?_
         refine ak (0) [_,_] [_,_] ?_;rw [fZ hyes,hyes,oY,if_neg h10_3,if_pos (.inr h12_5)];rfl
        ·
         iterate 4 refine ab ?_
         have hhk:=mT (t:=t) (p:=fun z=>bQ (m.qs.getD 0 default).nm z.o) hin;have hk0:0≤fL t (t.ss.getD (idx (cF a) t.ss).toNat default).zs (m.qs.getD 0 default).nm∧fL t (t.ss.getD (idx (cF a) t.ss).toNat default).zs (m.qs.getD 0 default).nm<t.zs.length:=⟨by omega,hhk.2⟩;have hzm:=kU hk0;have hzo:=jT ht hk0;refine bj [ag,ag,ag,ag,ag,ag,ag,ag,ag,bv [(813,_)]] [af [3] [100] 71,af [70] [100] 72,af [11] [] 73,af [71,72] [] 74,af [73] [] 75,af [9] [704] 76,af [75] [704] 77,af [9] [704] 78,af [77] [704] 79,af [10,74,76,78] [813] 80 [813]] rfl ⟨ah,ah,ah,ah,ah,ah,ah,ah,ah,aC fun _=>aN rfl rfl (ay (0) [(0,813)] [] [(_,_)] (hc:=(F6 ⟨m.h.id,true,m.h.op,false,false,m.h.rd,false,0⟩ [(m.qs.getD 0 default)] (zAt t (fL t (t.ss.getD (idx (cF a) t.ss).toNat default).zs (m.qs.getD 0 default).nm)) (m.qs.getD 0 default).nm (m.qs.getD 0 default).ty hzo (mB hcan hzm) (by omega) (wD hcan hzm)))),trivial⟩ ?_;iterate 7 refine ab ?_
         refine ak (0) [_,_] [_,_] ?_;rw [fZ hyes,hyes,oY,if_neg h10_3,if_neg (fun q=>q.elim h12_2 h12_5)];rfl
    ·
     iterate 6 refine ab ?_
     refine ai rfl rfl (aL []) ?_;iterate 2 refine ab ?_
     refine AOps.weak (Weak.full 0 [] (t:=[(7,tf false),(6,.ptr 103 0 0)]) (hl:=[(103,.box (dn mZ))])) ?_;iterate 2 refine ab ?_
     refine ak (0) [_,_] [_,_] ?_;have hno:ff t a m=false:=Dm h1_20;rw [ex hno,hno];rfl
 ·
  iterate 25 refine ab ?_
  refine ai rfl rfl (aL []) ?_;iterate 2 refine ab ?_
  refine AOps.weak (Weak.full 0 [] (t:=[(7,tf false),(6,.ptr 103 0 0)]) (hl:=[(103,.box (dn mZ))])) ?_;iterate 2 refine ab ?_
  refine ak (0) [_,_] [_,_] ?_;have hno:ff t a m=false:=Dp h1_1;rw [ex hno,hno];rfl
end
section
attribute [local irreducible] AWp AOps
theorem CJ (z:Zo) (l:List Rr) (hz:eR z) (hs:z.rs.length≤400) (hl:l.length≤400) (hc:∀ r∈l,bm r.da=true):AC Tryz.prog 108 [.agg (zoC z),.fz 0 l.length (cl rrc l)] emp (Ret (.fz 0 (uK z l).length (cl rrc (uK z l)))):=by
 have hsm:∀ k,k≤l.length→(nmF (fun n=>atZ z n 1) l k).length≤400*k:=fun k=>ll (l:=l) (c:=400) (fun r hr=>jA hs r.da 1)
 refine AC.intro te_ok (fn:=Tryz.f108) ⟨Tryz.func108,rfl,rfl⟩ (aE rfl) ?_;iterate 2 refine ab ?_
 refine ai rfl rfl (aS 100) ?_;refine ai rfl rfl (aR (0) rrc) ?_;iterate 3 refine ab ?_
 refine ai rfl rfl (bD 200 5 rrc) ?_;iterate 9 refine ab ?_
 refine AWp.loopR (α:=Nat×List Rr×Nat) [5,6,7,8,10,13,14,15,16,17,18,19,20,21,22,23,24,25,26,27,28,29,30,31,32,33,34,35,36,37,38,39,40,41,42,43,44,45,46] (fun x_=>[(13,i64 (x_.1)),(5,.sl 200 (x_.2.2) 0 (x_.2.1).length 5)]) (fun x_=>[(200,.row (cl rrc (x_.2.1)) 5 (x_.2.2))]) (fun x_=>(x_.1)≤l.length∧(x_.2.1)=nmF (fun n=>atZ z n 1) l (x_.1)) (fun x_=>l.length-(x_.1)) (0,[],0) ?_ (Back.mk' (HasT.cons (HasT.cons HasT.nil)) (HasH.cons HasH.nil)) ?_
 ·
  exact ⟨Nat.zero_le _,rfl⟩
 ·
  rintro ⟨i,acc,v⟩ hI3;change i≤l.length∧acc=nmF (fun n=>atZ z n 1) l i at hI3;obtain ⟨hi,ha⟩:=hI3;refine AWp.as (s':=AS.over _ [5,6,7,8,10,13,14,15,16,17,18,19,20,21,22,23,24,25,26,27,28,29,30,31,32,33,34,35,36,37,38,39,40,41,42,43,44,45,46] [(13,i64 i),(5,.sl 200 v 0 acc.length 5)] [(200,.row (cl rrc acc) 5 v)]) rfl ?_;have hai:=hsm i hi;rw [← ha] at hai;iterate 2 refine ab ?_
  refine am (fun h3_0=>?_) (fun h3_0=>?_)
  ·
   iterate 8 refine ab ?_
   have hci:=hc _ (aq (l:=l) (i:=i) (by omega));have hcl:=eD hci;have hfst:=Ax hc (i:=i) (by omega);have h1:=jA hs (l.getD i default).da 1;have h1b:=h1;simp only [List.getD_eq_getElem?_getD] at h1b;iterate 3 refine ab ?_
   refine ai rfl rfl (ap 503) ?_;iterate 17 refine ab ?_
   refine AWp.loopR (α:=Nat) [8,10,22,23,24,25,26,27,28,29,30,31,32,33,34,35,36,37] (fun j=>[(22,i64 j),(8,tf (!((l.take j).any fun o=>bi o.da (l.getD i default).da)))]) (fun j=>[]) (fun j=>j≤i) (fun j=>i-j) 0 ?_ (Back.mk' (HasT.cons (HasT.cons HasT.nil)) HasH.nil) ?_
   ·
    exact Nat.zero_le _
   ·
    rintro j hji;iterate 2 refine ab ?_
    refine am (fun h7_0=>?_) (fun h7_0=>?_)
    ·
     iterate 8 refine ab ?_
     have hji2:j<i:=by have:=h7_0;simp at this;omega
     have hgj:(l.take i).getD j default=l.getD j default:=by rw [List.getD_eq_getElem?_getD,List.getD_eq_getElem?_getD,List.getElem?_take_of_lt hji2]
     have hcj:=eD (hc _ (aq (l:=l) (i:=j) (by omega)));rw [← hgj] at hcj;iterate 2 refine ab ?_
     refine ai rfl rfl (ap 902) ?_;iterate 3 refine ab ?_
     refine AOps.bool rfl rfl (aA) (fun h9_0=>?_) (fun h9_0=>?_)
     ·
      iterate 3 refine ab ?_
      refine AOps.gcons rfl rfl rfl rfl rfl (by first|exact b9|exact aU) ?_;iterate 2 refine ab ?_
      refine AOps.gcons rfl rfl rfl rfl rfl (by first|exact b9|exact aU) ?_;refine AOps.gbool rfl rfl rfl rfl rfl (aj (0) (hc:=(az ((l.take i).getD j default).da (l.getD i default).da (by omega) (by omega)))) (fun h9_8=>?_) (fun h9_8=>?_)
      ·
       iterate 8 refine ab ?_
       refine ⟨j+1,?_,Back.mk' (HasT.cons (HasT.cons HasT.nil (h1:=by rw [hgj] at h9_8;exact congrArg tf (by rw [dc (by omega),h9_8,Bool.or_true])) )) HasH.nil,?_⟩
       ·
        first|assumption|omega|decide|(simp;omega)|(simp [*];done)
       ·
        first|omega|(simp;omega)
      ·
       iterate 8 refine ab ?_
       refine ⟨j+1,?_,Back.mk' (HasT.cons (HasT.cons HasT.nil (h1:=by rw [hgj] at h9_8;exact congrArg tf (by rw [dc (by omega),h9_8,Bool.or_false,h9_0];rfl)) )) HasH.nil,?_⟩
       ·
        first|assumption|omega|decide|(simp;omega)|(simp [*];done)
       ·
        first|omega|(simp;omega)
     ·
      iterate 16 refine ab ?_
      refine ⟨j+1,?_,Back.mk' (HasT.cons (HasT.cons HasT.nil (h1:=by exact congrArg tf (by rw [dc (by omega)];rw [Bool.not_eq_false'] at h9_0;rw [h9_0];rfl)) )) HasH.nil,?_⟩
      ·
       first|assumption|omega|decide|(simp;omega)|(simp [*];done)
      ·
       first|omega|(simp;omega)
    ·
     iterate 6 refine ab ?_
     obtain rfl:i=j:=by have:=h7_0;simp at this;omega
     rw [← hfst];refine AOps.bool rfl rfl (aA) (fun h11_0=>?_) (fun h11_0=>?_)
     ·
      iterate 7 refine ab ?_
      refine AOps.cons rfl rfl (by first|exact b9|exact aU) ?_;refine ai rfl rfl (aj (0) (hc:=(j1 z (l.getD i default).da 1 hz (by omega)))) ?_;iterate 7 refine ab ?_
      refine ⟨(i+1,acc++atZ z (l.getD i default).da 1,v+1),?_,Back.mk' (HasT.cons (HasT.cons HasT.nil)) (HasH.cons HasH.nil),?_⟩
      ·
       try dsimp only
       exact ⟨by omega,by rw [wY h11_0,ha]⟩
      ·
       try dsimp only
       first|omega|(simp;omega)
     ·
      iterate 7 refine ab ?_
      refine ⟨(i+1,acc,v),?_,Back.mk' (HasT.cons (HasT.cons HasT.nil)) (HasH.cons HasH.nil),?_⟩
      ·
       try dsimp only
       exact ⟨by omega,by rw [zY h11_0,ha]⟩
      ·
       try dsimp only
       first|omega|(simp;omega)
  ·
   iterate 10 refine ab ?_
   obtain rfl:i=l.length:=by omega
   have hA:uK z l=nmF (fun n=>atZ z n 1) l l.length:=rfl;rw [hA,← ha];refine ak (0) [_] [_] ?_;rfl
theorem yJ (h:Hdr) (qs:List Qu) (z:Zo) (q:Qu) (hz:eR z) (hs:z.rs.length≤400) (hn0:q.nm.length≤255) (hc:∀ r∈z.rs,r.ty=2∨r.ty=5→bm r.da=true):AC Tryz.prog 64 [.agg (zoC z),.agg (quc q),.ptr 0 0 0] (ao [(0,.box [i64 h.id,tf h.resp,i64 h.op,tf (false),tf h.tc,tf h.rd,tf h.ra,i64 (0),.fz 0 qs.length (cl quc qs),.v (.slice none 0 0),.fz 0 (([]:List Rr)).length (cl rrc (([]:List Rr))),.fz 0 (([]:List Rr)).length (cl rrc (([]:List Rr)))])]) (bZ (.tup []) [(0,.box [i64 h.id,tf h.resp,i64 h.op,tf ((fil z q.ty false [] q.nm 0).aa),tf h.tc,tf h.rd,tf h.ra,i64 ((fil z q.ty false [] q.nm 0).code),.fz 0 qs.length (cl quc qs),.fz 0 ((fil z q.ty false [] q.nm 0).an).length (cl rrc ((fil z q.ty false [] q.nm 0).an)),.fz 0 ((fil z q.ty false [] q.nm 0).au).length (cl rrc ((fil z q.ty false [] q.nm 0).au)),.fz 0 ((fil z q.ty false [] q.nm 0).ad).length (cl rrc ((fil z q.ty false [] q.nm 0).ad))])]):=by
 have hzl:=hz.1;have hal:=fun n t=>jA hs n t
 refine AC.intro te_ok (fn:=Tryz.f64) ⟨Tryz.func64,rfl,rfl⟩ (aE rfl) ?_;iterate 2 refine ab ?_
 refine ai rfl rfl (aS 100) ?_;refine ai rfl rfl (aS 101) ?_;iterate 6 refine ab ?_
 refine AOps.weak (Weak.nilcell 0 9001 9 5 rrc) ?_;iterate 2 refine ab ?_
 refine AWp.loopR (α:=List Rr×List UInt8×Bool×Nat) [6,7,8,9,12,13,14,15,16,17,18,19,20,21,22,23,24,25,26,27,28,29,30,31,32,33,34,35,36,37,38,39,40,41,42,43,44,45,46,47,48,49,50,51,52,53,54,55,56,57,58,59,60,61,62,63,64,65,66,67,68,69,70,71,72,73,74,75,76,77,78,79,80,81,82,83,84,85,86,87,88,89,90,91,92,93,94,95,96,97,98,99,100,101,102,103,104,105,106,107,108,109,110,111,112,113,114,115] (fun x_=>[(6,str (x_.2.1))]) (fun x_=>[(0,.box [i64 h.id,tf h.resp,i64 h.op,tf ((x_.2.2.1)),tf h.tc,tf h.rd,tf h.ra,i64 (0),.fz 0 qs.length (cl quc qs),.sl 9001 ((x_.2.2.2)) 0 ((x_.1)).length 5,.fz 0 (([]:List Rr)).length (cl rrc (([]:List Rr))),.fz 0 (([]:List Rr)).length (cl rrc (([]:List Rr)))]),(9001,.row (cl rrc (x_.1)) 5 (x_.2.2.2))]) (fun x_=>fil z q.ty (x_.2.2.1) (x_.1) (x_.2.1) (x_.2.2.2)=(fil z q.ty false [] q.nm 0)∧(x_.1).length≤8∧(x_.2.1).length≤255∧((x_.1).length=0→(x_.2.2.1)=false)) (fun x_=>8-(x_.1).length) ([],q.nm,false,0) ?_ (Back.mk' (HasT.cons HasT.nil) (HasH.cons (HasH.cons HasH.nil))) ?_
 ·
  exact ⟨rfl,by simp,hn0,fun _=>rfl⟩
 ·
  rintro ⟨an,n,aa,v⟩ hI2;change fil z q.ty aa an n v=(fil z q.ty false [] q.nm 0)∧an.length≤8∧n.length≤255∧(an.length=0→aa=false) at hI2;obtain ⟨hE,hA,hN,hQ⟩:=hI2;refine AWp.as (s':=AS.over _ [6,7,8,9,12,13,14,15,16,17,18,19,20,21,22,23,24,25,26,27,28,29,30,31,32,33,34,35,36,37,38,39,40,41,42,43,44,45,46,47,48,49,50,51,52,53,54,55,56,57,58,59,60,61,62,63,64,65,66,67,68,69,70,71,72,73,74,75,76,77,78,79,80,81,82,83,84,85,86,87,88,89,90,91,92,93,94,95,96,97,98,99,100,101,102,103,104,105,106,107,108,109,110,111,112,113,114,115] [(6,str n)] [(0,.box [i64 h.id,tf h.resp,i64 h.op,tf (aa),tf h.tc,tf h.rd,tf h.ra,i64 (0),.fz 0 qs.length (cl quc qs),.sl 9001 (v) 0 (an).length 5,.fz 0 (([]:List Rr)).length (cl rrc (([]:List Rr))),.fz 0 (([]:List Rr)).length (cl rrc (([]:List Rr)))]),(9001,.row (cl rrc an) 5 v)]) rfl ?_;have hcl:=eC hz n;have ha5:=hal n 5;have haty:=hal n q.ty;iterate 6 refine ab ?_
  refine ai rfl rfl (aj (0) (hc:=(kK z n hz (by omega)))) ?_;iterate 5 refine ab ?_
  refine am (fun h3_1=>?_) (fun h3_1=>?_)
  ·
   iterate 5 refine ab ?_
   have hcut:bI z n≠[]:=h3_1;iterate 5 refine ab ?_
   refine am (fun h4_5=>?_) (fun h4_5=>?_)
   ·
    iterate 4 refine ab ?_
    have han:an.length=0:=by omega
    obtain rfl:=List.eq_nil_of_length_eq_zero han;have hc2:=hal (bI z n) 2;have hcc:∀ r∈atZ z (bI z n) 2,bm r.da=true:=fun r hr=>hc r (iJ hr).1 (.inl (iJ hr).2.1)
    iterate 3 refine ab ?_
    refine ai rfl rfl (aj (0) (hc:=(j1 z (bI z n) 2 hz hcl))) ?_;iterate 4 refine ab ?_
    refine bj [ag,ag,ag,ag,ag,ag,ag,ag,ag,bv [(0,_)]] [af [2] [] 30,af [3] [100] 31,af [2] [] 32,af [31] [0] 33,af [32] [0] 34,af [33] [0] 35,af [30,34] [] 36,af [29] [0] 37,af [36] [0] 38,af [35,37] [0] 0 [0]] rfl ⟨ah,ah,ah,ah,ah,ah,aC fun _=>aN rfl rfl (aj (0) (hc:=(CJ z (atZ z (bI z n) 2) hz hs hc2 hcc))),ah,ah,ah,trivial⟩ ?_;refine ab ?_;rw [qH hcut rfl] at hE;rw [← hE];refine aQ (0) [] [] [] [(_,_)] ?_;rfl
   ·
    iterate 4 refine ab ?_
    rw [nf hcut (by omega)] at hE;rw [← hE];refine aQ (0) [] [] [] [(_,_)] ?_;rfl
  ·
   iterate 6 refine ab ?_
   have hcut:¬ bI z n≠[]:=h3_1;iterate 2 refine ab ?_
   refine ai rfl rfl (aj (0) (hc:=(j1 z n 5 hz (by omega)))) ?_;iterate 6 refine ab ?_
   refine am (fun h8_2=>?_) (fun h8_2=>?_)
   ·
    iterate 3 refine ab ?_
    refine am (fun h8_6=>?_) (fun h8_6=>?_)
    ·
     iterate 5 refine ab ?_
     have hali:0<(atZ z n 5).length∧q.ty≠5:=⟨by omega,h8_6⟩;have hx:=hc _ (iJ (aq (l:=atZ z n 5) (i:=0) hali.1)).1 (.inr (iJ (aq (l:=atZ z n 5) (i:=0) hali.1)).2.1);have hxl:=eD hx;iterate 25 refine ab ?_
     refine AOps.cons rfl rfl (by first|exact b9|exact aU) ?_;iterate 8 refine ab ?_
     refine AOps.bool rfl rfl (aj (0) (hc:=(be ((atZ z n 5).getD 0 default).da z.o (by omega) (by omega)))) (fun h12_3=>?_) (fun h12_3=>?_)
     ·
      iterate 7 refine ab ?_
      refine am (fun h12_11=>?_) (fun h12_11=>?_)
      ·
       iterate 4 refine ab ?_
       rw [iY hcut hali (fun k=>by have:=k.2;omega)] at hE;rw [← hE];refine aQ (0) [] [] [] [(_,_)] ?_;rfl
      ·
       iterate 5 refine ab ?_
       refine ⟨(an++atZ z n 5,((atZ z n 5).getD 0 default).da,true,v+1),?_,Back.mk' (HasT.cons HasT.nil) (HasH.cons (HasH.cons HasH.nil)),?_⟩
       ·
        try dsimp only
        refine ⟨by rw [← hE,wo hcut hali ⟨h12_3,by omega⟩],by omega,eD hx,fun k=>?_⟩;rw [List.length_append] at k;omega
       ·
        try dsimp only
        have hq8:=h12_11;simp only [List.length_append] at hq8 ⊢;omega
     ·
      iterate 12 refine ab ?_
      rw [iY hcut hali (fun k=>by rw [h12_3] at k;cases k.1)] at hE;rw [← hE];refine aQ (0) [] [] [] [(_,_)] ?_;rfl
    ·
     iterate 6 refine ab ?_
     have hali:¬ (0<(atZ z n 5).length∧q.ty≠5):=fun k=>h8_6 k.2
     iterate 13 refine ab ?_
     refine ai rfl rfl (aj (0) (hc:=(j1 z n q.ty hz (by omega)))) ?_;iterate 6 refine ab ?_
     refine am (fun h15_2=>?_) (fun h15_2=>?_)
     ·
      iterate 16 refine ab ?_
      rw [lz hcut hali (by omega)] at hE;rw [← hE];refine aQ (0) [] [] [] [(_,_)] ?_;rfl
     ·
      iterate 9 refine ab ?_
      refine ai rfl rfl (aj (0) (hc:=(j1 z z.o 6 hz (by omega)))) ?_;iterate 9 refine ab ?_
      refine AOps.bool rfl rfl (aj (0) (hc:=(ve z n hz (by omega)))) (fun h18_2=>?_) (fun h18_2=>?_)
      ·
       iterate 5 refine ab ?_
       rw [eB hcut hali (by omega),if_pos h18_2] at hE;rw [← hE];refine aQ (0) [] [] [] [(_,_)] ?_;rfl
      ·
       iterate 11 refine ab ?_
       rw [eB hcut hali (by omega),if_neg (by rw [h18_2];decide)] at hE;rw [← hE];refine aQ (0) [] [] [] [(_,_)] ?_;rfl
   ·
    iterate 10 refine ab ?_
    have hali:¬ (0<(atZ z n 5).length∧q.ty≠5):=fun k=>absurd k.1 (by omega)
    iterate 13 refine ab ?_
    refine ai rfl rfl (aj (0) (hc:=(j1 z n q.ty hz (by omega)))) ?_;iterate 6 refine ab ?_
    refine am (fun h15_2=>?_) (fun h15_2=>?_)
    ·
     iterate 16 refine ab ?_
     rw [lz hcut hali (by omega)] at hE;rw [← hE];refine aQ (0) [] [] [] [(_,_)] ?_;rfl
    ·
     iterate 9 refine ab ?_
     refine ai rfl rfl (aj (0) (hc:=(j1 z z.o 6 hz (by omega)))) ?_;iterate 9 refine ab ?_
     refine AOps.bool rfl rfl (aj (0) (hc:=(ve z n hz (by omega)))) (fun h18_2=>?_) (fun h18_2=>?_)
     ·
      iterate 5 refine ab ?_
      rw [eB hcut hali (by omega),if_pos h18_2] at hE;rw [← hE];refine aQ (0) [] [] [] [(_,_)] ?_;rfl
     ·
      iterate 11 refine ab ?_
      rw [eB hcut hali (by omega),if_neg (by rw [h18_2];decide)] at hE;rw [← hE];refine aQ (0) [] [] [] [(_,_)] ?_;rfl
end
end Go.Proofs.YthnfcmgpedppaaaGreat.Fw
