/- The texts R18k, J04a, J04b, T18a, U11, U22a, U22b, U22c, U22d, U22e, U22f, U22g, one behind the other: what the walks and plain laws need; conditions stand with each theorem. -/
import Derived.Test.YthnfcmgpedppaaaGreatCat11
set_option linter.unusedVariables false
set_option linter.unusedSimpArgs false
set_option linter.unusedSectionVars false
set_option maxRecDepth 20000
set_option maxHeartbeats 4000000
namespace Go.Proofs.YthnfcmgpedppaaaGreat.Fw
open Go.RowKit
section
attribute [local irreducible] AWp AOps
theorem Ao {α:Type} [Inhabited α] {g:α→Bool}:∀ {l:List α},(∀ j,j<l.length→g (l.getD j default)=false)→idx g l=-1
 | [],_=>rfl
 | a::l,h=>by
  have h0:g a=false:=h 0 (by simp);have ih:=Ao (l:=l) fun j hj=>h (j+1) (by simpa using hj)
  simp [idx,h0,ih]
theorem Aq {α:Type} [Inhabited α] {g:α→Bool}:∀ {l:List α} {i:Nat},i<l.length→(∀ j,j<i→g (l.getD j default)=false)→g (l.getD i default)=true→idx g l=i
 | [],i,hi,_,_=>by simp at hi
 | a::l,0,_,_,h1=>by
  have h0:g a=true:=h1;simp [idx,h0]
 | a::l,i+1,hi,h,h1=>by
  have h0:g a=false:=h 0 (by omega);have ih:=Aq (l:=l) (i:=i) (by simpa using hi) (fun j hj=>h (j+1) (by omega)) h1;simp [idx,h0,ih]
theorem vp (t:Tr) (a:Int) (m:Msg) (ht:cx t) (hm:gp m) (hn:oB m):AC Tryz.prog 32 [.agg (trC t),i64 a,.agg (dn m)] emp (Ret (.tup [.agg (dn (fh t a m)),tf (ff t a m)])):=by
 have hb1:=ht.1;have hb2:=ht.2.2.1;have hmq:=hm.1;refine AC.intro te_ok (fn:=Tryz.f32) ⟨Tryz.func32,rfl,rfl⟩ (aE rfl) ?_;iterate 2 refine ab ?_
 refine ai rfl rfl (aS 100) ?_;refine ai rfl rfl (aS 101) ?_;refine ai rfl rfl (ap 102) ?_;iterate 6 refine ab ?_
 refine AOps.bool rfl rfl (aj (0) (hc:=(wx t ht))) (fun h1_1=>?_) (fun h1_1=>?_)
 ·
  iterate 4 refine ab ?_
  refine AOps.gbool rfl rfl rfl rfl rfl (bb) (fun h1_6=>?_) (fun h1_6=>?_)
  ·
   iterate 20 refine ab ?_
   refine ai rfl rfl (aL []) ?_;iterate 2 refine ab ?_
   refine AOps.weak (Weak.full 0 [] (t:=[(7,tf false),(6,.ptr 102 0 0)]) (hl:=[(102,.box (dn mZ))])) ?_;iterate 2 refine ab ?_
   refine ak (0) [_,_] [_,_] ?_;have hno:ff t a m=false:=Do h1_6;rw [ex hno,hno];rfl
  ·
   iterate 5 refine ab ?_
   refine am (fun h1_12=>?_) (fun h1_12=>?_)
   ·
    iterate 14 refine ab ?_
    refine ai rfl rfl (aL []) ?_;iterate 2 refine ab ?_
    refine AOps.weak (Weak.full 0 [] (t:=[(7,tf false),(6,.ptr 102 0 0)]) (hl:=[(102,.box (dn mZ))])) ?_;iterate 2 refine ab ?_
    refine ak (0) [_,_] [_,_] ?_;have hno:ff t a m=false:=Dn h1_12;rw [ex hno,hno];rfl
   ·
    iterate 4 refine ab ?_
    have hl1:m.qs.length=1:=by omega
    have hqn:=hn.1 _ (aq (l:=m.qs) (i:=0) (by omega));iterate 3 refine ab ?_
    refine AOps.gbool rfl rfl rfl rfl rfl (aj (0) (hc:=(aM (m.qs.getD 0 default).nm (by omega)))) (fun h1_20=>?_) (fun h1_20=>?_)
    ·
     iterate 11 refine ab ?_
     refine ai rfl rfl (ap 404) ?_;iterate 11 refine ab ?_
     refine AWp.loopR (α:=Nat) [7,10,11,12,44,45,46,47,48,49,50,51,52,53,54,55,56,57,58,59,60,61,62,63,64,65,66,67,68,69,70,71,72,73,74,75,76,77,78,79,80,81,82,83,84,85,86,87,88,89,90,91,92,93,94,95,96,97,98,99,100,101,102,103] (fun i=>[(44,i64 i)]) (fun i=>[]) (fun i=>i≤t.ss.length∧∀ j,j<i→cF a (t.ss.getD j default)=false) (fun i=>t.ss.length-i) 0 ?_ (Back.mk' (HasT.cons HasT.nil) HasH.nil) ?_
     ·
      exact ⟨Nat.zero_le _,fun j hj=>absurd hj (Nat.not_lt_zero j)⟩
     ·
      rintro i ⟨hi,hnone⟩;iterate 2 refine ab ?_
      refine am (fun h5_0=>?_) (fun h5_0=>?_)
      ·
       iterate 10 refine ab ?_
       refine ai rfl rfl (ap 702) ?_;iterate 8 refine ab ?_
       refine am (fun h7_3=>?_) (fun h7_3=>?_)
       ·
        iterate 7 refine ab ?_
        refine ⟨i+1,?_,Back.mk' (HasT.cons HasT.nil) HasH.nil,?_⟩
        ·
         refine ⟨by omega,fun j hj=>?_⟩;rcases Nat.lt_or_ge j i with h2|h2
         · exact hnone j h2
         · obtain rfl:j=i:=by omega
           exact decide_eq_false h7_3
        ·
         first|omega|(simp;omega)
       ·
        iterate 5 refine ab ?_
        have hil:i<t.ss.length:=by omega
        have hix:idx (cF a) t.ss=i:=Aq hil hnone (decide_eq_true (Decidable.not_not.1 h7_3));have hSS:t.ss.getD (idx (cF a) t.ss).toNat default=(t.ss.getD i default):=by rw [hix];rfl
        have hyes:=wK (a:=a) h1_1 h1_6 h1_12 h1_20 (by omega);have hcan:=h1_1;have hsm:(t.ss.getD i default)∈t.ss:=aq hil;have hin:=su hcan hsm;have hszl:=ht.2.2.2 _ hsm;have hql:=eD h1_20;refine ab ?_;refine ai rfl rfl (bO 901 quc [(m.qs.getD 0 default)] [(_,_)]) ?_;refine ai rfl rfl (aL [(_,_)]) ?_;refine ai rfl rfl (ap 903) ?_;iterate 3 refine ab ?_
        refine bj [ag,ag,ag,ag,ag,ag,ag,ag,ag,ag,ag,bv [(903,_)],ag,ag,bv [(903,_)],ag,ag,bv [(903,_)],ag,ag,bv [(903,_)]] [af [5] [101] 56,af [55] [101] 57,af [56] [101] 58,af [5] [101] 59,af [58] [101] 60,af [59] [101] 61,af [5] [101] 62,af [61] [101] 63,af [62] [101] 64,af [11] [903] 65,af [64] [903] 66,af [57,65] [903] 0 [903],af [11] [903] 67,af [66] [903] 68,af [67] [903] 0 [903],af [11] [903] 69,af [68] [903] 70,af [60,69] [903] 0 [903],af [11] [903] 71,af [70] [903] 72,af [63,71] [903] 0 [903]] rfl ⟨ah,ah,ah,ah,ah,ah,ah,ah,ah,ah,ah,ah,ah,ah,ah,ah,ah,ah,ah,ah,ah,trivial⟩ ?_;iterate 2 refine ab ?_
        refine AOps.weak (Weak.full 0 [] (t:=[(3,.ptr 100 0 0),(5,.ptr 101 0 0),(6,.ptr 102 0 0),(8,.ptr 404 0 0),(10,.ptr 702 0 0),(11,.ptr 903 0 0)]) (hl:=[(100,.box (trC t)),(101,.box (dn m)),(102,.box [.v (.int .i64 0),.v (.bool false),.v (.int .i64 0),.v (.bool false),.v (.bool false),.v (.bool false),.v (.bool false),.v (.int .i64 0),.v (.slice none 0 0),.v (.slice none 0 0),.v (.slice none 0 0),.v (.slice none 0 0)]),(404,.box (quc (m.qs.getD 0 default))),(702,.box (svC (t.ss.getD i default))),(903,.box [i64 m.h.id,tf true,i64 m.h.op,tf (false),.v (.bool false),tf m.h.rd,.v (.bool false),i64 (0),.fz 0 [(m.qs.getD 0 default)].length (cl quc [(m.qs.getD 0 default)]),.v (.slice none 0 0),.fz 0 (([]:List Rr)).length (cl rrc (([]:List Rr))),.fz 0 (([]:List Rr)).length (cl rrc (([]:List Rr)))])])) ?_;iterate 5 refine ab ?_
        refine ai rfl rfl (aj (0) (hc:=(fe t (t.ss.getD i default).zs 0 (m.qs.getD 0 default).nm ht (by omega) hin (by omega)))) ?_;iterate 9 refine ab ?_
        refine am (fun h12_3=>?_) (fun h12_3=>?_)
        ·
         iterate 10 refine ab ?_
         refine AOps.weak (Weak.full 0 [] (t:=[(6,.ptr 102 0 0),(11,.ptr 903 0 0)]) (hl:=[(102,.box [.v (.int .i64 0),.v (.bool false),.v (.int .i64 0),.v (.bool false),.v (.bool false),.v (.bool false),.v (.bool false),.v (.int .i64 0),.v (.slice none 0 0),.v (.slice none 0 0),.v (.slice none 0 0),.v (.slice none 0 0)]),(903,.box [i64 m.h.id,tf true,i64 m.h.op,tf (false),.v (.bool false),tf m.h.rd,.v (.bool false),i64 (4),.fz 0 [(m.qs.getD 0 default)].length (cl quc [(m.qs.getD 0 default)]),.fz 0 (([]:List Rr)).length (cl rrc (([]:List Rr))),.fz 0 (([]:List Rr)).length (cl rrc (([]:List Rr))),.fz 0 (([]:List Rr)).length (cl rrc (([]:List Rr)))])])) ?_;iterate 5 refine ab ?_
         refine ak (0) [_,_] [_,_] ?_;rw [fZ hyes,hyes,hSS,oY,if_pos h12_3];rfl
        ·
         iterate 7 refine ab ?_
         refine am (fun h14_2=>?_) (fun h14_2=>?_)
         ·
          iterate 14 refine ab ?_
          refine AOps.weak (Weak.full 0 [] (t:=[(6,.ptr 102 0 0),(11,.ptr 903 0 0)]) (hl:=[(102,.box [.v (.int .i64 0),.v (.bool false),.v (.int .i64 0),.v (.bool false),.v (.bool false),.v (.bool false),.v (.bool false),.v (.int .i64 0),.v (.slice none 0 0),.v (.slice none 0 0),.v (.slice none 0 0),.v (.slice none 0 0)]),(903,.box [i64 m.h.id,tf true,i64 m.h.op,tf (false),.v (.bool false),tf m.h.rd,.v (.bool false),i64 (5),.fz 0 [(m.qs.getD 0 default)].length (cl quc [(m.qs.getD 0 default)]),.fz 0 (([]:List Rr)).length (cl rrc (([]:List Rr))),.fz 0 (([]:List Rr)).length (cl rrc (([]:List Rr))),.fz 0 (([]:List Rr)).length (cl rrc (([]:List Rr)))])])) ?_;iterate 5 refine ab ?_
          refine ak (0) [_,_] [_,_] ?_;rw [fZ hyes,hyes,hSS,oY,if_neg h12_3,if_pos (.inl h14_2)];rfl
         ·
          iterate 2 refine ab ?_
          refine am (fun h14_5=>?_) (fun h14_5=>?_)
          ·
           iterate 11 refine ab ?_
           refine AOps.weak (Weak.full 0 [] (t:=[(6,.ptr 102 0 0),(11,.ptr 903 0 0)]) (hl:=[(102,.box [.v (.int .i64 0),.v (.bool false),.v (.int .i64 0),.v (.bool false),.v (.bool false),.v (.bool false),.v (.bool false),.v (.int .i64 0),.v (.slice none 0 0),.v (.slice none 0 0),.v (.slice none 0 0),.v (.slice none 0 0)]),(903,.box [i64 m.h.id,tf true,i64 m.h.op,tf (false),.v (.bool false),tf m.h.rd,.v (.bool false),i64 (5),.fz 0 [(m.qs.getD 0 default)].length (cl quc [(m.qs.getD 0 default)]),.fz 0 (([]:List Rr)).length (cl rrc (([]:List Rr))),.fz 0 (([]:List Rr)).length (cl rrc (([]:List Rr))),.fz 0 (([]:List Rr)).length (cl rrc (([]:List Rr)))])])) ?_;iterate 5 refine ab ?_
           refine ak (0) [_,_] [_,_] ?_;rw [fZ hyes,hyes,hSS,oY,if_neg h12_3,if_pos (.inr h14_5)];rfl
          ·
           iterate 4 refine ab ?_
           have hhk:=mT (t:=t) (p:=fun z=>bQ (m.qs.getD 0 default).nm z.o) hin;have hk0:0≤fL t (t.ss.getD i default).zs (m.qs.getD 0 default).nm∧fL t (t.ss.getD i default).zs (m.qs.getD 0 default).nm<t.zs.length:=⟨by omega,hhk.2⟩;have hzm:=kU hk0;have hzo:=jT ht hk0;refine bj [ag,ag,ag,ag,ag,ag,bv [(903,_)]] [af [3] [100] 79,af [78] [100] 80,af [12] [] 81,af [79,80] [] 82,af [81] [] 83,af [8] [404] 84,af [11,82,83] [903] 85 [903]] rfl ⟨ah,ah,ah,ah,ah,ah,aC fun _=>aN rfl rfl (ay (0) [(0,903)] [] [(_,_)] (hc:=(yJ ⟨m.h.id,true,m.h.op,false,false,m.h.rd,false,0⟩ [(m.qs.getD 0 default)] (zAt t (fL t (t.ss.getD i default).zs (m.qs.getD 0 default).nm)) (m.qs.getD 0 default) hzo (mB hcan hzm) (by omega) (wD hcan hzm)))),trivial⟩ ?_;iterate 7 refine ab ?_
           refine ak (0) [_,_] [_,_] ?_;rw [fZ hyes,hyes,hSS,oY,if_neg h12_3,if_neg (fun k=>k.elim h14_2 h14_5)];rfl
      ·
       iterate 6 refine ab ?_
       refine ai rfl rfl (aL []) ?_;iterate 2 refine ab ?_
       refine AOps.weak (Weak.full 0 [] (t:=[(7,tf false),(6,.ptr 102 0 0)]) (hl:=[(102,.box (dn mZ))])) ?_;iterate 2 refine ab ?_
       refine ak (0) [_,_] [_,_] ?_;have hno:ff t a m=false:=Dl (by rw [Ao (fun j hj=>hnone j (by omega))];decide);rw [ex hno,hno];rfl
    ·
     iterate 6 refine ab ?_
     refine ai rfl rfl (aL []) ?_;iterate 2 refine ab ?_
     refine AOps.weak (Weak.full 0 [] (t:=[(7,tf false),(6,.ptr 102 0 0)]) (hl:=[(102,.box (dn mZ))])) ?_;iterate 2 refine ab ?_
     refine ak (0) [_,_] [_,_] ?_;have hno:ff t a m=false:=Dm h1_20;rw [ex hno,hno];rfl
 ·
  iterate 25 refine ab ?_
  refine ai rfl rfl (aL []) ?_;iterate 2 refine ab ?_
  refine AOps.weak (Weak.full 0 [] (t:=[(7,tf false),(6,.ptr 102 0 0)]) (hl:=[(102,.box (dn mZ))])) ?_;iterate 2 refine ab ?_
  refine ak (0) [_,_] [_,_] ?_;have hno:ff t a m=false:=Dp h1_1;rw [ex hno,hno];rfl
end
namespace J
def DP:List (Nat×AV)→Prop
 | []=>True
 | p::r=>SF p.2∧DP r
def Bo:List (Nat×AObj)→Prop
 | []=>True
 | p::r=>SFO p.2∧Bo r
theorem zo {t:List (Nat×AV)} (h:DP t):∀ i,SF (jm t i):=BC (by
 induction t with
 | nil=>intro p hp;cases hp
 | cons a r ih=>
  intro p hp;rcases List.mem_cons.1 hp with rfl|hp
  · exact h.1
  · exact ih h.2 p hp)
theorem wJ {l:List (Nat×AObj)} (h:Bo l):∀ id ob,ao l id=some ob→SFO ob:=zm (by
 induction l with
 | nil=>intro p hp;cases hp
 | cons a r ih=>
  intro p hp;rcases List.mem_cons.1 hp with rfl|hp
  · exact h.1
  · exact ih h.2 p hp)
section
variable [hJ:HasJ]
def fD:Unit→List AV:=fun _=>[.p DD .any]
def rrJ (x:Rr):List AV:=[str x.nm,i64 x.ty,i64 x.cs,i64 x.ttl,.p DD .any]
theorem vJ {lv n:Nat} {l:List Rr}:SF (.fz lv n (cl rrJ l)):=by
 refine .fz (gu (p:=NU) fun x _ c hc=>?_) (gu (p:=SF) fun x _ c hc=>?_)
 · simp only [rrJ,List.mem_cons,List.not_mem_nil,or_false] at hc
   rcases hc with rfl|rfl|rfl|rfl|rfl
   · exact zV
   · exact vZ (by decide)
   · exact vZ (by decide)
   · exact vZ (by decide)
   · exact Dy
 · simp only [rrJ,List.mem_cons,List.not_mem_nil,or_false] at hc
   rcases hc with rfl|rfl|rfl|rfl|rfl
   · exact .v
   · exact .v
   · exact .v
   · exact .v
   · exact .p .any
theorem Dk {lv n:Nat} {l:List Unit}:SF (.fz lv n (cl fD l)):=by
 refine .fz (gu (p:=NU) fun x _ c hc=>?_) (gu (p:=SF) fun x _ c hc=>?_)
 · simp only [fD,List.mem_singleton] at hc;subst hc;exact Dy
 · simp only [fD,List.mem_singleton] at hc;subst hc;exact .p .any
theorem zn {e v:Nat} {l:List Unit}:SFO (.row (cl fD l) e v):=gu (p:=SF) fun x _ c hc=>by
 simp only [fD,List.mem_singleton] at hc;subst hc;exact .p .any
theorem AT  : AC Tryz.prog 7 [.fz 1 ([()]:List Unit).length (cl fD [()])] emp (Ret (.tup [])):=by
 refine AC.intro te_ok (fn:=Tryz.f7) ⟨Tryz.func7,rfl,rfl⟩ (Nat.le_of_ble_eq_true rfl) ?_;refine AWp.seq ?_;refine AWp.region ?_;refine AOps.cons rfl rfl (aA) ?_;refine AOps.cons rfl rfl (jE) ?_;refine AOps.cons rfl rfl (aA) ?_;refine AOps.nil ?_;refine AWp.block ?_;refine AWp.loopI (α:=Nat) (fun i=>mkS [(5,.fz 1 ([()]:List Unit).length (cl fD [()])),(6,i64 ([()]:List Unit).length),(7,i64 i)] []) (fun i=>i≤1) (fun i=>1-i) 0 ?_ (Weak.full (1) []) ?_
 ·
  exact Nat.zero_le _
 ·
  rintro i hI1;refine AWp.seq ?_;refine AWp.region ?_;refine AOps.dec rfl rfl (e8) (fun h1_0=>?_) (fun h1_0=>?_)
  ·
   refine AOps.nil ?_;refine AWp.seq ?_;refine AWp.cond_t rfl ?_;refine AWp.skip ?_;refine AWp.seq ?_;refine AWp.block ?_;refine AWp.seq ?_;refine AWp.region ?_;refine AOps.cons rfl rfl (vQ) ?_;refine AOps.cons rfl rfl (bb) ?_;refine AOps.cons rfl rfl (gh) ?_;refine AOps.nil ?_;refine AWp.seq ?_;refine AWp.region ?_;refine AOps.open_ 3 rfl (fun m hm=>?_);refine AOps.cons rfl rfl (aA) ?_;refine AOps.cons rfl rfl (Eo) ?_;refine AOps.cons rfl rfl (aA) ?_;refine AOps.nil ?_;refine AWp.block ?_;refine AWp.loopI (α:=Nat) (fun j=>mkS [(5,.fz 1 ([()]:List Unit).length (cl fD [()])),(6,i64 ([()]:List Unit).length),(7,i64 i),(3,.p (DDn m) .any),(12,i64 m),(13,i64 j)] []) (fun j=>j≤m) (fun j=>m-j) 0 ?_ (Weak.full (1) []) ?_
   ·
    exact Nat.zero_le _
   ·
    rintro j hI4;refine AWp.seq ?_;refine AWp.region ?_;refine AOps.dec rfl rfl (e8) (fun h4_0=>?_) (fun h4_0=>?_)
    ·
     refine AOps.nil ?_;refine AWp.seq ?_;refine AWp.cond_t rfl ?_;refine AWp.skip ?_;refine AWp.seq ?_;refine AWp.block ?_;refine AWp.seq ?_;refine AWp.region ?_;refine AOps.cons rfl rfl (aA) ?_;refine AOps.cons rfl rfl (gh) ?_;refine AOps.nil ?_;refine AWp.region ?_;refine AOps.cons rfl rfl (aA) ?_;refine AOps.cons rfl rfl (aA) ?_;refine AOps.cons rfl rfl (Dx) ?_;refine AOps.loadj (fun c=>?_);refine AOps.cons rfl rfl (Em _ 255) ?_;refine AOps.cons rfl rfl (Dx) ?_;refine AOps.weak (Weak.full 1 [] (t:=[(5,.fz 1 ([()]:List Unit).length (cl fD [()])),(6,i64 ([()]:List Unit).length),(7,i64 i),(3,.p (DDn m) .any),(12,i64 m),(13,i64 j),(20,u8 (c ^^^ 255).toNat),(21,.p PJ .any)]) (hl:=[])) ?_;refine AOps.storej (zo (by repeat' (first|exact trivial|refine ⟨?_,?_⟩|exact .v|exact .sl|exact .ptr|exact .p .any|exact vJ|exact Dk))) (wJ (by repeat' (first|exact trivial|refine ⟨?_,?_⟩|exact sfo_rows|exact zn))) ?_;refine AOps.nil ?_;refine AWp.region ?_;refine AOps.cons rfl rfl (lW) ?_;refine AOps.cons rfl rfl (aA) ?_;refine AOps.nil ?_;refine ⟨j+1,?_,Weak.full (1) [],?_⟩
     ·
      omega
     ·
      omega
    ·
     refine AOps.nil ?_;refine AWp.seq ?_;refine AWp.cond_f rfl ?_;refine AWp.exit ?_;refine AWp.region ?_;refine AOps.cons rfl rfl (lW) ?_;refine AOps.cons rfl rfl (aA) ?_;refine AOps.nil ?_;refine ⟨i+1,?_,Weak.full (1) [],?_⟩
     ·
      have h:=h1_0;simp at h;omega
     ·
      have h:=h1_0;simp at h;omega
  ·
   refine AOps.nil ?_;refine AWp.seq ?_;refine AWp.cond_f rfl ?_;refine AWp.exit ?_;show Fin te Tryz.f7 _ _;refine ak (0) [] [] ?_;rfl
end
end J
theorem cD {w w':World} {φ φ':aD} {Λ Λ':aW} {x:Value} {u:Value} (h:Rep w φ Λ (.v x) u):Rep w' φ' Λ' (.v x) u:=by cases h;exact .v
theorem rJ {w:World} {φ φ':aD} {Λ Λ':aW} {lv lv':Nat} {l:List UInt8} {v:Value} (h:∀ b,b<w.heap.size→may φ Λ lv b→may φ' Λ' lv' b) (hr:Rep w φ Λ (.fz lv l.length (cl bc l)) v):Rep w φ' Λ' (.fz lv' l.length (cl bc l)) v:=by
 generalize hn:l.length=n at hr ⊢;generalize hcs:cl bc l=cs at hr ⊢;cases hr with
 | fz0=>exact .fz0
 | fz vf hm hn' hok hc hr hp=>
  refine .fz vf (h _ (e9 (hc 0 hp)) hm) hn' (fun c hc2=>?_) hc (fun j c hj=>?_) hp
  · rw [← hcs] at hc2
    exact AV.ok_mono (Nat.zero_le _) (DL l c hc2)
  · have h2:=hr j c hj
    rw [← hcs,kT,List.getElem?_map,Option.map_eq_some_iff] at hj;obtain ⟨x,_,rfl⟩:=hj;exact cD h2
theorem Bd {w:World} {φ:aD} {Λ:aW} {lv:Nat} {l:List UInt8} {v:Value} (hr:Rep w φ Λ (.fz lv l.length (cl bc l)) v) :
 ∃ ad cap,v=.slice ad l.length cap∧(0<l.length→∃ b o,ad=some ⟨b,o,none⟩∧may φ Λ lv b∧∀ j,j<l.length→w.cell? ⟨b,o+j,none⟩=some (.int .u8 (l.getD j default).toNat)):=by
 have hll:=j6 l;generalize hn:l.length=n at hr hll ⊢;generalize hcs:cl bc l=cs at hr hll;cases hr with
 | fz0=>exact ⟨_,_,rfl,fun h=>absurd h (Nat.lt_irrefl 0)⟩
 | fz vf hm hn' hok hc hr hp=>
  refine ⟨_,_,rfl,fun _=>⟨_,_,rfl,hm,fun j hj=>?_⟩⟩;have hj2:j<l.length:=by omega
  have hcj:cs[j]?=some (u8 (l.getD j default).toNat):=by
   rw [← hcs,kT,List.getElem?_map,List.getElem?_eq_getElem hj2,List.getD_eq_getElem?_getD,List.getElem?_eq_getElem hj2];rfl
  have h2:=hr j _ hcj;have h3:=hc j (by omega);generalize hvj:vf j=u at h2 h3;cases h2;exact h3
section
variable {w:World} {φ φ':aD} {Λ Λ':aW} {D:Value→Prop}
theorem FH {cs cs':List AV} {v:Value} (hl:cs.length=cs'.length) (h:∀ (j:Nat) c c',cs[j]?=some c→cs'[j]?=some c'→∀ u,Rep w φ Λ c u→Rep w φ' Λ' c' u) (hr:Rep w φ Λ (.agg cs) v):Rep w φ' Λ' (.agg cs') v:=by
 cases hr with
 | agg vf h1 h2 h3=>
  refine .agg vf (by omega) (fun j hj=>h2 j (by omega)) (fun j c' hj=>?_);have hjl:=(List.getElem?_eq_some_iff.1 hj).1;exact h j _ c' (List.getElem?_eq_getElem (by omega)) hj _ (h3 j _ (List.getElem?_eq_getElem (by omega)))
end
theorem xz {α:Type} {f g:α→List AV} {e:Nat} (hf:∀ x,(f x).length=e) (hg:∀ x,(g x).length=e):∀ (l:List α) (j:Nat) (c:AV),(cl g l)[j]?=some c→∃ x∈l,∃ r:Nat,(g x)[r]?=some c∧(cl f l)[j]?=(f x)[r]?
 | [],j,c,h=>by simp [cl] at h
 | a::l,j,c,h=>by
  rw [c6] at h;by_cases hj:j<e
  · rw [List.getElem?_append_left (by rw [hg];exact hj)] at h
    exact ⟨a,List.mem_cons_self,j,h,by rw [c6,List.getElem?_append_left (by rw [hf];exact hj)]⟩
  · rw [List.getElem?_append_right (by rw [hg];omega),hg] at h
    obtain ⟨x,hx,r,h1,h2⟩:=xz hf hg l (j-e) c h;exact ⟨x,List.mem_cons_of_mem _ hx,r,h1,by rw [c6,List.getElem?_append_right (by rw [hf];omega),hf,h2]⟩
theorem gJ {α:Type} {f g:α→List AV} {l:List α} {e:Nat} {w:World} {φ φ':aD} {Λ Λ':aW} {lv lv' n:Nat} {v:Value} (he:0<e) (hf:∀ x,(f x).length=e) (hg:∀ x,(g x).length=e) (hmay:∀ b,b<w.heap.size→may φ Λ lv b→may φ' Λ' lv' b) (hok:∀ x,∀ c∈g x,c.ok lv'=true)
 (h:∀ x∈l,∀ (r:Nat) (c' c:AV),(g x)[r]?=some c'→(f x)[r]?=some c→∀ u,Rep w φ Λ c u→Rep w φ' Λ' c' u) (hr:Rep w φ Λ (.fz lv n (cl f l)) v):Rep w φ' Λ' (.fz lv' n (cl g l)) v:=by
 have hlf:=bJ hf l;have hlg:=bJ hg l;generalize hcs:cl f l=cs at hr;cases hr with
 | fz0=>
  have:l=[]:=List.eq_nil_of_length_eq_zero (by
   rw [hcs] at hlf;simp only [List.length_nil] at hlf;rcases Nat.mul_eq_zero.1 hlf.symm with h|h
   · exact h
   · omega)
  subst this;exact .fz0
 | fz vf hm hn hok0 hc hr0 hp=>
  rw [hcs] at hlf;refine .fz vf (hmay _ (e9 (hc 0 hp)) hm) hn (fun c hc2=>gu (p:=fun c=>c.ok lv'=true) (fun x _=>hok x) c hc2) (fun j hj=>hc j (by omega)) (fun j c' hj=>?_) (by omega);obtain ⟨x,hx,r,h1,h2⟩:=xz hf hg l j c' hj;have hjl:=(List.getElem?_eq_some_iff.1 hj).1;rw [hcs,List.getElem?_eq_getElem (by omega)] at h2;exact h x hx r c' _ h1 h2.symm _ (hr0 j _ (List.getElem?_eq_getElem (by omega)))
def lI (x:Rr):List AV:=[str x.nm,i64 x.ty,i64 x.cs,i64 x.ttl,.fz 1 x.da.length (cl bc x.da)]
def md (z:Zo):List AV:=[str z.o,.fz 1 z.rs.length (cl lI z.rs)]
def mh (s:Sv):List AV:=[i64 s.ad,.fz 1 s.zs.length (cl ic s.zs)]
def ja (t:Tr):List AV:=[.fz 1 t.zs.length (cl md t.zs),.fz 1 t.ss.length (cl mh t.ss)]
section
variable {w:World} {φ φ':aD} {Λ Λ':aW} {v:Value} {l l':Nat}
theorem uX {cs cs':List AV} (h:∀ (r:Nat) (c' c:AV),cs'[r]?=some c'→cs[r]?=some c→∀ u,Rep w φ Λ c u→Rep w φ' Λ' c' u) (hl:cs.length=cs'.length) (hr:Rep w φ Λ (.agg cs) v):Rep w φ' Λ' (.agg cs') v:=
 FH hl (fun j c c' h1 h2 u hu=>h j c' c h2 h1 u hu) hr
theorem Gi (h:∀ b,b<w.heap.size→may φ Λ 1 b→may φ' Λ' 0 b) (x:Rr):∀ (r:Nat) (c' c:AV),(rrc x)[r]?=some c'→(lI x)[r]?=some c→∀ u,Rep w φ Λ c u→Rep w φ' Λ' c' u:=fun r c' c h1 h2 u hu=>by
 match r,h1,h2 with
 | 0,h1,h2=>cases h1;cases h2;exact cD hu
 | 1,h1,h2=>cases h1;cases h2;exact cD hu
 | 2,h1,h2=>cases h1;cases h2;exact cD hu
 | 3,h1,h2=>cases h1;cases h2;exact cD hu
 | 4,h1,h2=>cases h1;cases h2;exact rJ h hu
 | r+5,h1,_=>cases h1
theorem Gh (h:∀ b,b<w.heap.size→may φ Λ 0 b→may φ' Λ' 1 b) (x:Rr):∀ (r:Nat) (c' c:AV),(lI x)[r]?=some c'→(rrc x)[r]?=some c→∀ u,Rep w φ Λ c u→Rep w φ' Λ' c' u:=fun r c' c h1 h2 u hu=>by
 match r,h1,h2 with
 | 0,h1,h2=>cases h1;cases h2;exact cD hu
 | 1,h1,h2=>cases h1;cases h2;exact cD hu
 | 2,h1,h2=>cases h1;cases h2;exact cD hu
 | 3,h1,h2=>cases h1;cases h2;exact cD hu
 | 4,h1,h2=>cases h1;cases h2;exact rJ h hu
 | r+5,h1,_=>cases h1
theorem Eg (h:∀ b,b<w.heap.size→may φ Λ 1 b→may φ' Λ' 0 b) {n:Nat} {k:List Rr} (hr:Rep w φ Λ (.fz 1 n (cl lI k)) v):Rep w φ' Λ' (.fz 0 n (cl rrc k)) v:=
 gJ (e:=5) (by decide) (fun _=>rfl) (fun _=>rfl) h (fun _=>AV.oks_iff.1 rfl) (fun x _=>Gi h x) hr
theorem Ed (h:∀ b,b<w.heap.size→may φ Λ 0 b→may φ' Λ' 1 b) {n:Nat} {k:List Rr} (hr:Rep w φ Λ (.fz 0 n (cl rrc k)) v):Rep w φ' Λ' (.fz 1 n (cl lI k)) v:=
 gJ (e:=5) (by decide) (fun _=>rfl) (fun _=>rfl) h (fun _=>AV.oks_iff.1 rfl) (fun x _=>Gh h x) hr
theorem G0 (h:∀ b,b<w.heap.size→may φ Λ 1 b→may φ' Λ' 0 b) (x:Zo):∀ (r:Nat) (c' c:AV),(zoC x)[r]?=some c'→(md x)[r]?=some c→∀ u,Rep w φ Λ c u→Rep w φ' Λ' c' u:=fun r c' c h1 h2 u hu=>by
 match r,h1,h2 with
 | 0,h1,h2=>cases h1;cases h2;exact cD hu
 | 1,h1,h2=>cases h1;cases h2;exact Eg h hu
 | r+2,h1,_=>cases h1
theorem FZ (h:∀ b,b<w.heap.size→may φ Λ 0 b→may φ' Λ' 1 b) (x:Zo):∀ (r:Nat) (c' c:AV),(md x)[r]?=some c'→(zoC x)[r]?=some c→∀ u,Rep w φ Λ c u→Rep w φ' Λ' c' u:=fun r c' c h1 h2 u hu=>by
 match r,h1,h2 with
 | 0,h1,h2=>cases h1;cases h2;exact cD hu
 | 1,h1,h2=>cases h1;cases h2;exact Ed h hu
 | r+2,h1,_=>cases h1
theorem xg {lv lv' n:Nat} {k:List Int} (h:∀ b,b<w.heap.size→may φ Λ lv b→may φ' Λ' lv' b) (hr:Rep w φ Λ (.fz lv n (cl ic k)) v):Rep w φ' Λ' (.fz lv' n (cl ic k)) v:=
 gJ (e:=1) (f:=ic) (g:=ic) (by decide) (fun _=>rfl) (fun _=>rfl) h (fun _=>AV.oks_iff.1 rfl) (fun x _ r c' c h1 h2 u hu=>by
  match r,h1,h2 with
  | 0,h1,h2=>cases h1;cases h2;exact cD hu
  | r+1,h1,_=>cases h1) hr
theorem Gb (h:∀ b,b<w.heap.size→may φ Λ 1 b→may φ' Λ' 0 b) (x:Sv):∀ (r:Nat) (c' c:AV),(svC x)[r]?=some c'→(mh x)[r]?=some c→∀ u,Rep w φ Λ c u→Rep w φ' Λ' c' u:=fun r c' c h1 h2 u hu=>by
 match r,h1,h2 with
 | 0,h1,h2=>cases h1;cases h2;exact cD hu
 | 1,h1,h2=>cases h1;cases h2;exact xg h hu
 | r+2,h1,_=>cases h1
theorem Ga (h:∀ b,b<w.heap.size→may φ Λ 0 b→may φ' Λ' 1 b) (x:Sv):∀ (r:Nat) (c' c:AV),(mh x)[r]?=some c'→(svC x)[r]?=some c→∀ u,Rep w φ Λ c u→Rep w φ' Λ' c' u:=fun r c' c h1 h2 u hu=>by
 match r,h1,h2 with
 | 0,h1,h2=>cases h1;cases h2;exact cD hu
 | 1,h1,h2=>cases h1;cases h2;exact xg h hu
 | r+2,h1,_=>cases h1
theorem E5 (h:∀ b,b<w.heap.size→may φ Λ 1 b→may φ' Λ' 0 b) {n:Nat} {k:List Sv} (hr:Rep w φ Λ (.fz 1 n (cl mh k)) v):Rep w φ' Λ' (.fz 0 n (cl svC k)) v:=
 gJ (e:=2) (by decide) (fun _=>rfl) (fun _=>rfl) h (fun _=>AV.oks_iff.1 rfl) (fun x _=>Gb h x) hr
theorem G9 (h:∀ b,b<w.heap.size→may φ Λ 1 b→may φ' Λ' 0 b) {t:Tr} (hr:Rep w φ Λ (.agg (ja t)) v):Rep w φ' Λ' (.agg (trC t)) v:=
 uX (cs:=ja t) (cs':=trC t) (fun r c' c h1 h2 u hu=>by
  match r,h1,h2 with
  | 0,h1,h2=>cases h1;cases h2;exact gJ (e:=2) (by decide) (fun _=>rfl) (fun _=>rfl) h (fun _=>AV.oks_iff.1 rfl) (fun x _=>G0 h x) hu
  | 1,h1,h2=>cases h1;cases h2;exact E5 h hu
  | r+2,h1,_=>cases h1) rfl hr
theorem DY (h:∀ b,b<w.heap.size→may φ Λ 0 b→may φ' Λ' 1 b) (t:Tr):∀ (r:Nat) (c c':AV),(trC t)[r]?=some c→(ja t)[r]?=some c'→∀ u,Rep w φ Λ c u→Rep w φ' Λ' c' u:=fun r c c' h2 h1 u hu=>by
 match r,h1,h2 with
 | 0,h1,h2=>cases h1;cases h2;exact gJ (e:=2) (by decide) (fun _=>rfl) (fun _=>rfl) h (fun _=>AV.oks_iff.1 rfl) (fun x _=>FZ h x) hu
 | 1,h1,h2=>cases h1;cases h2;exact gJ (e:=2) (by decide) (fun _=>rfl) (fun _=>rfl) h (fun _=>AV.oks_iff.1 rfl) (fun x _=>Ga h x) hu
 | r+2,h1,_=>cases h1
end
section
variable {h:aX}
theorem Gx {w:World} {φ:aD} {Λ:aW}:∀ b,b<w.heap.size→may φ Λ 1 b→may (fun _=>none) NoL 0 b:=fun _ _ _=>⟨fun h=>aI h,fun _ _ h=>h.elim⟩
theorem xq {t:Tr}:FJ h (.agg (ja t)) (.agg (trC t)):=fun w φ Λ v _ hr=>G9 Gx hr
end
section
attribute [local irreducible] AWp AOps
def frame (l:List UInt8):List UInt8:=[ct ((l.length:Int) / 256),ct (l.length:Int)]++l
def pfB (l:List UInt8):List UInt8:=if 65535<l.length then [] else frame l
def pfE (l:List UInt8):Int:=if 65535<l.length then 1 else 0
def szN (q:List UInt8):Int:=if q.length<2 then 0 else 2+((q.getD 0 0).toNat*256+(q.getD 1 0).toNat:Nat)
def szB (q:List UInt8):Bool:=decide (2≤q.length∧szN q≤q.length)
theorem zf (q:List UInt8):0≤szN q∧szN q≤65537:=by
 unfold szN;have h0:=(q.getD 0 0).toNat_lt;have h1:=(q.getD 1 0).toNat_lt;split<;>omega
def aJ (b:List UInt8):List (List UInt8)×List UInt8:=
 if h:szB b=true then
  let r:=aJ (b.drop (szN b).toNat)
  (((b.take (szN b).toNat).drop 2)::r.1,r.2)
 else ([],b)
termination_by b.length
decreasing_by
 have h1:2≤b.length∧szN b≤b.length:=by simpa [szB] using h
 have h2:2≤szN b:=by unfold szN;rw [if_neg (by omega)];omega
 simp only [List.length_drop];omega
theorem iZ {b:List UInt8} (h:szB b=true):aJ b=(((b.take (szN b).toNat).drop 2)::(aJ (b.drop (szN b).toNat)).1,(aJ (b.drop (szN b).toNat)).2):=by
 rw [aJ,dif_pos h]
theorem lA {b:List UInt8} (h:szB b=false):aJ b=([],b):=by
 rw [aJ,dif_neg (by simp [h])]
theorem mH {q:List UInt8}:szB q=true↔2≤q.length∧szN q≤q.length:=by simp [szB]
theorem vI {q:List UInt8} (h:szB q=true):2≤szN q∧szN q≤q.length:=by
 have h1:=mH.1 h;refine ⟨?_,h1.2⟩;unfold szN;rw [if_neg (by omega)];omega
theorem qF (w:List UInt8) (a k:Nat):w.getD (a+k) 0=(w.drop a).getD k 0:=by simp [List.getD_eq_getElem?_getD]
theorem E1 {w:List UInt8} {off m:Nat} (hm:off+m=w.length) (h:¬ (m:Int)<2):szN (w.drop off)=2+(((w.getD (off+Int.toNat 0*1) default).toNat*256+(w.getD (off+Int.toNat 1*1) default).toNat:Nat):Int):=by
 have e0:=qF w off 0;have e1:=qF w off 1;rw [szN,if_neg (by simp;omega),← e0,← e1];rfl
theorem E2 {w:List UInt8} {off m:Nat} (hm:off+m=w.length) (h:¬ (m:Int)<2):szB (w.drop off)=decide (szN (w.drop off)≤(m:Int)):=by
 rw [szB,List.length_drop,show w.length-off=m by omega];have:2≤m:=by omega
 simp [this]
theorem pg (l:List UInt8) (lv:Nat) (h:l.length≤140737488351232):AC Tryz.prog 59 [.fz lv l.length (cl bc l)] emp (Ret (.tup [.fz 0 (pfB l).length (cl bc (pfB l)),i64 (pfE l)])):=by
 refine AC.intro te_ok (fn:=Tryz.f59) ⟨Tryz.func59,rfl,rfl⟩ (aE rfl) ?_;iterate 2 refine ab ?_
 refine ai rfl rfl (aR (0) bc) ?_;iterate 7 refine ab ?_
 refine am (fun h1_2=>?_) (fun h1_2=>?_)
 ·
  iterate 4 refine ab ?_
  refine ai rfl rfl (aR (0) bc) ?_;iterate 3 refine ab ?_
  refine ak (0) [_,_] [_,_] ?_;simp only [pfB,pfE];rw [if_pos (by omega),if_pos (by omega)];rfl
 ·
  iterate 7 refine ab ?_
  refine ai rfl rfl (ge 8) ?_;iterate 4 refine ab ?_
  refine ai rfl rfl (bO 407 bc [_,_] [(_,_),(_,_)]) ?_;iterate 6 refine ab ?_
  refine ak (0) [_,_] [_,_] ?_;simp only [pfB,pfE];rw [if_neg (by omega),if_neg (by omega)];rfl
theorem dL (l:List UInt8) (lv:Nat) (h:l.length≤140737488351232):AC Tryz.prog 23 [.fz lv l.length (cl bc l)] emp (Ret (.tup [.fz 0 (pfB l).length (cl bc (pfB l)),i64 (pfE l)])):=by
 refine AC.intro te_ok (fn:=Tryz.f23) ⟨Tryz.func23,rfl,rfl⟩ (aE rfl) ?_;iterate 2 refine ab ?_
 refine ai rfl rfl (aR (0) bc) ?_;iterate 7 refine ab ?_
 refine am (fun h1_2=>?_) (fun h1_2=>?_)
 ·
  iterate 4 refine ab ?_
  refine ai rfl rfl (aR (0) bc) ?_;iterate 3 refine ab ?_
  refine ak (0) [_,_] [_,_] ?_;simp only [pfB,pfE];rw [if_pos (by omega),if_pos (by omega)];rfl
 ·
  iterate 7 refine ab ?_
  refine ai rfl rfl (Dv) ?_;iterate 3 refine ab ?_
  refine ai rfl rfl (zD) ?_;refine ab ?_;refine ai rfl rfl (bO 408 bc [_,_] [(_,_),(_,_)]) ?_;iterate 6 refine ab ?_
  refine ak (0) [_,_] [_,_] ?_;simp only [pfB,pfE,vy];rw [if_neg (by omega),if_neg (by omega)];rfl
theorem B5 (w:List UInt8) (v off m:Nat) (b:Bool) (hm:off+m=w.length) (hw:w.length≤140737488355328):AC Tryz.prog 55 [.ptr 0 0 0] (ao [(0,.box [.sl 1 v off m 1,tf b]),(1,.row (cl bc w) 1 v)]) (bZ (.tup [i64 (szN (w.drop off)),tf (szB (w.drop off))]) [(0,.box [.sl 1 v off m 1,tf b]),(1,.row (cl bc w) 1 v)]):=by
 refine AC.intro te_ok (fn:=Tryz.f55) ⟨Tryz.func55,rfl,rfl⟩ (aE rfl) ?_;iterate 13 refine ab ?_
 refine am (fun h1_5=>?_) (fun h1_5=>?_)
 ·
  iterate 8 refine ab ?_
  refine aQ (0) [] [_,_] [_,_] [(0,.box [.sl 1 v off m 1,tf b]),(1,.row (cl bc w) 1 v)] ?_;rw [szB,szN,if_pos (by simp;omega),decide_eq_false (by simp;omega)];rfl
 ·
  iterate 4 refine ab ?_
  have hb0:=(w.getD (off+Int.toNat 0*1) default).toNat_lt;have hb1:=(w.getD (off+Int.toNat 1*1) default).toNat_lt;have hb2:=(w[off]?.getD default).toNat_lt;have hb3:=(w[off+1]?.getD default).toNat_lt;refine bj [ag,ag,ag,ag,ag,ag,ag,ag,ag,ag,ag,ag,ag,ag,ag,ag,ag,ag] [af [0] [] 12,af [11] [0] 13,af [12] [0] 14,af [13] [0] 15,af [14] [1] 16,af [15] [1] 17,af [16] [] 18,af [17] [] 19,af [0] [] 20,af [19] [0] 21,af [20] [0] 22,af [21] [0] 23,af [22] [1] 24,af [23] [1] 25,af [24] [] 26,af [18,25] [] 27,af [26] [] 28,af [27] [] 5] rfl ⟨ah,ah,ah,ah,ah,ah,ah,aC fun _=>aN rfl rfl (ik 8),ah,ah,ah,ah,ah,ah,ah,aC fun _=>aN rfl rfl (qg),ah,ah,trivial⟩ ?_;refine ab ?_;refine bj [ag,ag,ag,ag,ag,ag,ag,ag,ag,ag] [af [4] [] 29,af [4] [] 30,af [0] [] 31,af [30] [0] 32,af [31] [0] 33,af [32] [0] 34,af [33] [1] 35,af [29,34] [] 36,af [28] [] 3,af [35] [] 4] rfl ⟨ah,ah,ah,ah,ah,ah,ah,aC fun _=>aN rfl rfl (iN),ah,ah,trivial⟩ ?_;refine ab ?_;refine aQ (0) [] [_,_] [_,_] [(0,.box [.sl 1 v off m 1,tf b]),(1,.row (cl bc w) 1 v)] ?_;rw [E2 hm h1_5,E1 hm h1_5];rfl
theorem Ba (w c:List UInt8) (v off m lv:Nat) (hm:off+m=w.length) (hw:m+c.length≤11728124029610):AC Tryz.prog 27 [.ptr 0 0 0,.fz lv c.length (cl bc c)] (ao [(0,.box [.sl 1 v off m 1,tf true]),(1,.row (cl bc w) 1 v)]) (bZ (.fz 0 (aJ (w.drop off++c)).1.length (cl (lc 0 bc) (aJ (w.drop off++c)).1)) [(0,.box [.sl 1 (v+1) ((w.drop off++c).length-(aJ (w.drop off++c)).2.length) (aJ (w.drop off++c)).2.length 1,tf true]),(1,.row (cl bc (w.drop off++c)) 1 (v+1))]):=by
 have hW:(w.drop off++c).length=m+c.length:=by simp;omega
 refine AC.intro te_ok (fn:=Tryz.f27) ⟨Tryz.func27,rfl,rfl⟩ (aE rfl) ?_;iterate 2 refine ab ?_
 refine ai rfl rfl (aR (0) (lc 0 bc)) ?_;iterate 10 refine ab ?_
 refine AOps.gcons rfl rfl rfl rfl rfl ((OpOk.bool_is (c:=true) (bb) (rfl))) ?_;iterate 7 refine ab ?_
 refine ai rfl rfl (bD 400 1 (lc 0 bc)) ?_;iterate 10 refine ab ?_
 refine ai rfl rfl (Ep off) ?_;iterate 11 refine ab ?_
 refine ai rfl rfl (ay (lv) [(0,0),(1,1)] [] [(_,_),(_,_)] (hc:=B5 (w.drop off++c) (v+1) 0 _ true (by omega) (by omega))) ?_;iterate 7 refine ab ?_
 refine AWp.loopR (α:=List (List UInt8)×Nat×Nat×Nat) [5,6,7,35,36,37,38,39,40,41,42,43,44,45,46,47,48,49,50,51,52,53,54,55,56,57,58,59,60,61,62,63,64] (fun x_=>[(5,.sl 400 (x_.2.2.2) 0 (x_.1).length 1),(6,i64 (szN ((w.drop off++c).drop (x_.2.1)))),(7,tf (szB ((w.drop off++c).drop (x_.2.1))))]) (fun x_=>[(0,.box [.sl 1 (v+1) (x_.2.1) (x_.2.2.1) 1,tf true]),(1,.row (cl bc (w.drop off++c)) 1 (v+1)),(400,.row (cl (lc 0 bc) (x_.1)) 1 (x_.2.2.2))]) (fun x_=>(x_.2.1)+(x_.2.2.1)=(w.drop off++c).length∧(x_.1).length*2≤(x_.2.1)∧aJ (w.drop off++c)=((x_.1)++(aJ ((w.drop off++c).drop (x_.2.1))).1,(aJ ((w.drop off++c).drop (x_.2.1))).2)) (fun x_=>(w.drop off++c).length-(x_.2.1)) ([],0,(w.drop off++c).length,0) ?_ (Back.mk' (HasT.cons (HasT.cons (HasT.cons HasT.nil))) (HasH.cons (HasH.cons (HasH.cons HasH.nil)))) ?_
 ·
  exact ⟨by simp,by simp,by simp⟩
 ·
  rintro ⟨fs,k,q,vf⟩ hI6;change k+q=(w.drop off++c).length∧fs.length*2≤k∧aJ (w.drop off++c)=(fs++(aJ ((w.drop off++c).drop k)).1,(aJ ((w.drop off++c).drop k)).2) at hI6;obtain ⟨hk,hfs,hI⟩:=hI6;refine AWp.as (s':=AS.over _ [5,6,7,35,36,37,38,39,40,41,42,43,44,45,46,47,48,49,50,51,52,53,54,55,56,57,58,59,60,61,62,63,64] [(5,.sl 400 vf 0 fs.length 1),(6,i64 (szN ((w.drop off++c).drop k))),(7,tf (szB ((w.drop off++c).drop k)))] [(0,.box [.sl 1 (v+1) k q 1,tf true]),(1,.row (cl bc (w.drop off++c)) 1 (v+1)),(400,.row (cl (lc 0 bc) fs) 1 vf)]) rfl ?_;iterate 3 refine ab ?_
  refine AOps.bool rfl rfl (aA) (fun h6_0=>?_) (fun h6_0=>?_)
  ·
   iterate 7 refine ab ?_
   have hn:=vI h6_0;rw [List.length_drop] at hn;iterate 8 refine ab ?_
   refine ai rfl rfl (aj (lv) (hc:=iI _ _ bE)) ?_;refine ai rfl rfl (bO 909 (lc 0 bc) [_] [(_,_)]) ?_;iterate 21 refine ab ?_
   refine ai rfl rfl (ay (lv) [(0,0),(1,1)] [] [(_,_),(_,_)] (hc:=B5 (w.drop off++c) (v+1) _ _ true (by omega) (by omega))) ?_;iterate 6 refine ab ?_
   refine ⟨(_,_,_,_),?_,Back.mk' (HasT.cons (HasT.cons (HasT.cons HasT.nil))) (HasH.cons (HasH.cons (HasH.cons HasH.nil))),?_⟩
   ·
    try dsimp only
    rw [iZ h6_0,List.drop_drop] at hI;refine ⟨by omega,by simp only [List.length_append,List.length_cons,List.length_nil];omega,?_⟩;rw [hI,List.append_assoc,List.drop_take,List.drop_drop];simp
   ·
    try dsimp only
    omega
  ·
   iterate 9 refine ab ?_
   rw [lA h6_0] at hI;obtain rfl:q=(aJ (w.drop off++c)).2.length:=by rw [hI];simp only [List.length_drop];omega
   obtain rfl:k=(w.drop off++c).length-(aJ (w.drop off++c)).2.length:=by omega
   refine aQ (0) [] [_] [_] [(0,.box [.sl 1 (v+1) ((w.drop off++c).length-(aJ (w.drop off++c)).2.length) (aJ (w.drop off++c)).2.length 1,tf true]),(1,.row (cl bc (w.drop off++c)) 1 (v+1))] ?_;rw [hI];simp [bX]
theorem tH  : AC Tryz.prog 26 [] (ao []) (bZ (.ptr 8 0 0) [(8,.box [.sl 9 0 0 0 1,tf true]),(9,.row (cl bc []) 1 0)]):=by
 refine AC.intro te_ok (fn:=Tryz.f26) ⟨Tryz.func26,rfl,rfl⟩ (aE rfl) ?_;iterate 6 refine ab ?_
 refine ai rfl rfl (aL [(_,_)]) ?_;refine ai rfl rfl (aS 8) ?_;refine ab ?_;refine AOps.weak (Weak.nilcell 8 9 0 1 bc) ?_;iterate 2 refine ab ?_
 refine aQ (0) [] [_] [.ptr 8 0 0] [(8,.box [.sl 9 0 0 0 1,tf true]),(9,.row (cl bc []) 1 0)] ?_;rfl
theorem Cq {q:List UInt8} (h:2≤q.length) (h2:2+((q.getD 0 default).toNat*256+(q.getD 1 default).toNat)≤q.length):aJ q=(((q.take (2+((q.getD 0 default).toNat*256+(q.getD 1 default).toNat))).drop 2)::(aJ (q.drop (2+((q.getD 0 default).toNat*256+(q.getD 1 default).toNat)))).1,(aJ (q.drop (2+((q.getD 0 default).toNat*256+(q.getD 1 default).toNat)))).2):=by
 have e:szN q=((2+((q.getD 0 default).toNat*256+(q.getD 1 default).toNat):Nat):Int):=by
  have e0:q.getD 0 (0:UInt8)=q.getD 0 default:=rfl;have e1:q.getD 1 (0:UInt8)=q.getD 1 default:=rfl;rw [szN,if_neg (by omega),e0,e1];omega
 have hb:szB q=true:=by rw [mH,e];omega
 rw [iZ hb,e];rfl
theorem s9 {q:List UInt8} (h:q.length<2∨q.length<2+((q.getD 0 default).toNat*256+(q.getD 1 default).toNat)):aJ q=([],q):=by
 refine lA ?_;cases hb:szB q with
 | false=>rfl
 | true=>
  obtain ⟨h1,h2⟩:=mH.1 hb;rw [szN,if_neg (by omega)] at h2;have e:(q.getD 0 0).toNat*256+(q.getD 1 0).toNat=((q.getD 0 default).toNat*256+(q.getD 1 default).toNat):=rfl;rw [e] at h2;omega
theorem xH (b c:List UInt8) (lv:Nat) (hw:b.length+c.length≤11728124029610):AC Tryz.prog 30 [.ptr 0 0 0,.fz lv c.length (cl bc c)] (ao [(0,.box [.fz 0 b.length (cl bc b)])]) (bZ (.fz 0 (aJ (b++c)).1.length (cl (lc 0 bc) (aJ (b++c)).1)) [(0,.box [.fz 0 (aJ (b++c)).2.length (cl bc (aJ (b++c)).2)])]):=by
 have hW:(b++c).length=b.length+c.length:=by simp
 refine AC.intro te_ok (fn:=Tryz.f30) ⟨Tryz.func30,rfl,rfl⟩ (aE rfl) ?_;iterate 2 refine ab ?_
 refine ai rfl rfl (aR (0) (lc 0 bc)) ?_;iterate 4 refine ab ?_
 refine ai rfl rfl (bO 201 bc [] []) ?_;iterate 13 refine ab ?_
 refine ai rfl rfl (bD 300 1 (lc 0 bc)) ?_;iterate 3 refine ab ?_
 refine AWp.loopI (α:=List (List UInt8)×List UInt8×Nat) (fun x_=>mkS [(0,.ptr 0 0 0),(5,.sl 300 (x_.2.2) 0 (x_.1).length 1)] [(0,.box [.fz 0 (x_.2.1).length (cl bc (x_.2.1))]),(300,.row (cl (lc 0 bc) (x_.1)) 1 (x_.2.2))]) (fun x_=>(x_.2.1).length+(x_.1).length*2≤(b++c).length∧aJ (b++c)=((x_.1)++(aJ (x_.2.1)).1,(aJ (x_.2.1)).2)) (fun x_=>(x_.2.1).length) ([],b++c,0) ?_ (Weak.full (0) []) ?_
 ·
  exact ⟨by simp,by simp⟩
 ·
  rintro ⟨fs,q,vf⟩ hI3;change q.length+fs.length*2≤(b++c).length∧aJ (b++c)=(fs++(aJ q).1,(aJ q).2) at hI3;obtain ⟨hfs,hI⟩:=hI3;refine AWp.as (s':=mkS [(0,.ptr 0 0 0),(5,.sl 300 vf 0 fs.length 1)] [(0,.box [.fz 0 q.length (cl bc q)]),(300,.row (cl (lc 0 bc) fs) 1 vf)]) rfl ?_;iterate 8 refine ab ?_
  refine am (fun h3_5=>?_) (fun h3_5=>?_)
  ·
   iterate 5 refine ab ?_
   have hb0:=(q.getD 0 default).toNat_lt;have hb1:=(q.getD 1 default).toNat_lt;have hc0:(q.getD (Int.toNat 0) default).toNat=(q.getD 0 default).toNat:=rfl;have hc1:(q.getD (Int.toNat 1) default).toNat=(q.getD 1 default).toNat:=rfl;refine bj [ag,ag,ag,ag,ag,ag,ag,ag,ag,ag,ag,ag,ag,ag,ag,ag,ag] [af [0] [] 25,af [24] [0] 26,af [25] [0] 27,af [26] [0] 28,af [27] [] 29,af [28] [] 30,af [29] [] 31,af [30] [] 32,af [0] [] 33,af [32] [0] 34,af [33] [0] 35,af [34] [0] 36,af [35] [] 37,af [36] [] 38,af [37] [] 39,af [31,38] [] 40,af [39] [] 7] rfl ⟨ah,ah,ah,ah,ah,ah,ah,ah,ah,ah,ah,ah,ah,ah,ah,ah,ah,trivial⟩ ?_;iterate 10 refine ab ?_
   refine am (fun h5_7=>?_) (fun h5_7=>?_)
   ·
    iterate 9 refine ab ?_
    have h0:=s9 (q:=q) (.inr (by omega));rw [h0,List.append_nil] at hI;have h1:fs=(aJ (b++c)).1:=by rw [hI]
    have h2:q=(aJ (b++c)).2:=by rw [hI]
    clear hI h0
    subst h1;subst h2;refine aQ (0) [] [_] [_] [(0,.box [.fz 0 (aJ (b++c)).2.length (cl bc (aJ (b++c)).2)])] ?_;rfl
   ·
    iterate 5 refine ab ?_
    have eN:((2:Int)+(((q.getD (Int.toNat 0) default).toNat:Int)*256+((q.getD (Int.toNat 1) default).toNat:Int))).toNat=2+((q.getD 0 default).toNat*256+(q.getD 1 default).toNat):=by omega
    refine ab ?_;refine ai rfl rfl (bO 701 bc [] []) ?_;iterate 8 refine ab ?_
    refine AOps.weak (Weak.full 0 [] (t:=[(0,.ptr 0 0 0),(48,.sl 300 vf 0 fs.length 1),(57,.fz 0 (List.drop (Int.toNat 2) (List.take ((2:Int)+(((q.getD (Int.toNat 0) default).toNat:Int)*256+((q.getD (Int.toNat 1) default).toNat:Int))).toNat q)).length (cl bc (List.drop (Int.toNat 2) (List.take ((2:Int)+(((q.getD (Int.toNat 0) default).toNat:Int)*256+((q.getD (Int.toNat 1) default).toNat:Int))).toNat q)))),(6,i64 (((q.getD (Int.toNat 0) default).toNat:Int)*256+((q.getD (Int.toNat 1) default).toNat:Int)))]) (hl:=[(0,.box [.fz 0 q.length (cl bc q)]),(300,.row (cl (lc 0 bc) fs) 1 vf)])) ?_;refine ai rfl rfl (bO 710 (lc 0 bc) [_] [(_,_)]) ?_;iterate 5 refine ab ?_
    refine ai rfl rfl (bO 801 bc [] []) ?_;iterate 12 refine ab ?_
    refine ⟨(_,_,_),?_,Weak.full (0) [],?_⟩
    ·
     try dsimp only
     rw [Cq (q:=q) (by omega) (by omega)] at hI;refine ⟨by simp only [eN,List.nil_append,List.length_append,List.length_cons,List.length_nil,List.length_drop];omega,?_⟩;rw [hI,eN];simp
    ·
     try dsimp only
     simp only [eN,List.nil_append,List.length_drop];omega
  ·
   iterate 9 refine ab ?_
   have h0:=s9 (q:=q) (.inl (by omega));rw [h0,List.append_nil] at hI;have h1:fs=(aJ (b++c)).1:=by rw [hI]
   have h2:q=(aJ (b++c)).2:=by rw [hI]
   clear hI h0
   subst h1;subst h2;refine aQ (0) [] [_] [_] [(0,.box [.fz 0 (aJ (b++c)).2.length (cl bc (aJ (b++c)).2)])] ?_;rfl
end
section
attribute [local irreducible] AWp AOps
def idA (x:AV):AV:=x
def rrM (p:Bool×Rr):List AV:=[str p.2.nm,i64 p.2.ty,i64 p.2.cs,i64 p.2.ttl,.fz (bif p.1 then 0 else 1) p.2.da.length (cl bc p.2.da)]
def zoM (p:Bool×Zo):List AV:=[str p.2.o,.fz (bif p.1 then 0 else 1) p.2.rs.length (cl (bif p.1 then rrc else lI) p.2.rs)]
def svM (p:Bool×Sv):List AV:=[i64 p.2.ad,.fz (bif p.1 then 0 else 1) p.2.zs.length (cl ic p.2.zs)]
theorem Ee (l:List Rr):cl rrM (mix l.length l)=cl rrc l:=tm (fun _=>rfl) l
theorem DQ (l:List Zo):cl zoM (mix l.length l)=cl zoC l:=tm (fun _=>rfl) l
theorem E3 (l:List Sv):cl svM (mix l.length l)=cl svC l:=tm (fun _=>rfl) l
theorem sy {c c':List AV} {e v:Nat} (h:c=c'):some (AObj.row c e v)=some (.row c' e v):=by rw [h]
theorem yW (r:Rr) (hd:r.da.length≤140737488351232):AC Tryz.prog 14 [.agg (lI r)] emp (Ret (.agg (rrc r))):=by
 refine AC.intro te_ok (fn:=Tryz.f14) ⟨Tryz.func14,rfl,rfl⟩ (aE rfl) ?_;iterate 2 refine ab ?_
 refine ai rfl rfl (aS 100) ?_;refine ai rfl rfl (ap 101) ?_;iterate 3 refine ab ?_
 refine ai rfl rfl (bO 200 bc [] []) ?_;iterate 2 refine ab ?_
 refine ai rfl rfl (vS (l:=([]:List UInt8)) (m:=r.da)) ?_;iterate 9 refine ab ?_
 refine ak (1) [_] [_] ?_;rfl
theorem uU (l:List Zo) (h:l.length*40≤140737488351232):AC Tryz.prog 16 [.fz 1 l.length (cl md l)] (ao []) (bZ (.sl 8 0 0 l.length 2) [(8,.row (cl md l) 2 0)]):=by
 refine AC.intro te_ok (fn:=Tryz.f16) ⟨Tryz.func16,rfl,rfl⟩ (aE rfl) ?_;iterate 2 refine ab ?_
 refine ai rfl rfl (aR (0) md) ?_;iterate 5 refine ab ?_
 refine AOps.snil (fun h1_1=>?_) ?_
 ·
  iterate 4 refine ab ?_
  refine ai rfl rfl (bD 8 2 md) ?_;iterate 2 refine ab ?_
  obtain rfl:=List.eq_nil_of_length_eq_zero h1_1;refine aQ (1) [8] [_] [.sl 8 0 0 _ 2] [(8,.row (cl md _) 2 0)] ?_;rfl
 ·
  iterate 5 refine ab ?_
  refine ai rfl rfl (bO 8 md [] []) ?_;iterate 5 refine ab ?_
  refine aQ (1) [8] [_] [.sl 8 0 0 _ 2] [(8,.row (cl md _) 2 0)] ?_;rfl
theorem uV (l:List Sv) (h:l.length*32≤140737488351232):AC Tryz.prog 17 [.fz 1 l.length (cl mh l)] (ao []) (bZ (.sl 8 0 0 l.length 2) [(8,.row (cl mh l) 2 0)]):=by
 refine AC.intro te_ok (fn:=Tryz.f17) ⟨Tryz.func17,rfl,rfl⟩ (aE rfl) ?_;iterate 2 refine ab ?_
 refine ai rfl rfl (aR (0) mh) ?_;iterate 5 refine ab ?_
 refine AOps.snil (fun h1_1=>?_) ?_
 ·
  iterate 4 refine ab ?_
  refine ai rfl rfl (bD 8 2 mh) ?_;iterate 2 refine ab ?_
  obtain rfl:=List.eq_nil_of_length_eq_zero h1_1;refine aQ (1) [8] [_] [.sl 8 0 0 _ 2] [(8,.row (cl mh _) 2 0)] ?_;rfl
 ·
  iterate 5 refine ab ?_
  refine ai rfl rfl (bO 8 mh [] []) ?_;iterate 5 refine ab ?_
  refine aQ (1) [8] [_] [.sl 8 0 0 _ 2] [(8,.row (cl mh _) 2 0)] ?_;rfl
theorem uW (l:List Rr) (h:l.length*64≤140737488351232):AC Tryz.prog 18 [.fz 1 l.length (cl lI l)] (ao []) (bZ (.sl 8 0 0 l.length 5) [(8,.row (cl lI l) 5 0)]):=by
 refine AC.intro te_ok (fn:=Tryz.f18) ⟨Tryz.func18,rfl,rfl⟩ (aE rfl) ?_;iterate 2 refine ab ?_
 refine ai rfl rfl (aR (0) lI) ?_;iterate 5 refine ab ?_
 refine AOps.snil (fun h1_1=>?_) ?_
 ·
  iterate 4 refine ab ?_
  refine ai rfl rfl (bD 8 5 lI) ?_;iterate 2 refine ab ?_
  obtain rfl:=List.eq_nil_of_length_eq_zero h1_1;refine aQ (1) [8] [_] [.sl 8 0 0 _ 5] [(8,.row (cl lI _) 5 0)] ?_;rfl
 ·
  iterate 5 refine ab ?_
  refine ai rfl rfl (bO 8 lI [] []) ?_;iterate 5 refine ab ?_
  refine aQ (1) [8] [_] [.sl 8 0 0 _ 5] [(8,.row (cl lI _) 5 0)] ?_;rfl
theorem vx (l:List Int) (lv:Nat) (h:l.length*8≤140737488351232):AC Tryz.prog 20 [.fz lv l.length (cl ic l)] emp (Ret (.fz 0 l.length (cl ic l))):=by
 refine AC.intro te_ok (fn:=Tryz.f20) ⟨Tryz.func20,rfl,rfl⟩ (aE rfl) ?_;iterate 2 refine ab ?_
 refine ai rfl rfl (aR (0) ic) ?_;iterate 5 refine ab ?_
 refine AOps.snil (fun h1_1=>?_) ?_
 ·
  iterate 4 refine ab ?_
  refine ai rfl rfl (aR (0) ic) ?_;iterate 2 refine ab ?_
  refine ak (0) [_] [_] ?_;obtain rfl:=List.eq_nil_of_length_eq_zero h1_1;rfl
 ·
  iterate 5 refine ab ?_
  refine ai rfl rfl (bO 400 ic [] []) ?_;iterate 5 refine ab ?_
  refine ak (0) [_] [_] ?_;rfl
end
section
attribute [local irreducible] AWp AOps
theorem oW (t:Tr) (ht:cx t):AC Tryz.prog 4 [.agg (ja t)] emp (Ret (.agg (trC t))):=by
 have hz1:=ht.1;have hs1:=ht.2.2.1;refine AC.intro te_ok (fn:=Tryz.f4) ⟨Tryz.func4,rfl,rfl⟩ (aE rfl) ?_;iterate 2 refine ab ?_
 refine ai rfl rfl (aS 100) ?_;refine ai rfl rfl (ap 101) ?_;iterate 3 refine ab ?_
 refine ai rfl rfl (ap 200) ?_;refine AOps.weak (Weak.nilcell 200 9001 0 2 zoC) ?_;refine AOps.weak (Weak.nilcell 200 9003 1 2 svC) ?_;iterate 10 refine ab ?_
 refine AWp.loopI (α:=Nat×List Zo×Nat) (fun x_=>mkS [(1,.ptr 100 0 0),(2,.ptr 101 0 0),(3,.ptr 200 0 0),(12,.fz 1 t.zs.length (cl md t.zs)),(13,i64 t.zs.length),(14,i64 (x_.1))] [(100,.box (ja t)),(101,.box [.v (.slice none 0 0),.v (.slice none 0 0)]),(200,.box [.sl 9001 (x_.2.2) 0 (x_.2.1).length 2,.sl 9003 0 0 ([]:List Sv).length 2]),(9001,.row (cl zoC (x_.2.1)) 2 (x_.2.2)),(9003,.row (cl svC []) 2 0)]) (fun x_=>(x_.1)≤t.zs.length∧(x_.2.1)=t.zs.take (x_.1)) (fun x_=>t.zs.length-(x_.1)) (0,[],0) ?_ (Weak.full (1) []) ?_
 ·
  exact ⟨Nat.zero_le _,rfl⟩
 ·
  rintro ⟨i,zs,v⟩ hI3;change i≤t.zs.length∧zs=t.zs.take i at hI3;obtain ⟨hi,hzs⟩:=hI3;refine AWp.as (s':=mkS [(1,.ptr 100 0 0),(2,.ptr 101 0 0),(3,.ptr 200 0 0),(12,.fz 1 t.zs.length (cl md t.zs)),(13,i64 t.zs.length),(14,i64 i)] [(100,.box (ja t)),(101,.box [.v (.slice none 0 0),.v (.slice none 0 0)]),(200,.box [.sl 9001 v 0 zs.length 2,.sl 9003 0 0 ([]:List Sv).length 2]),(9001,.row (cl zoC zs) 2 v),(9003,.row (cl svC []) 2 0)]) rfl ?_;have hzl:zs.length=i:=by rw [hzs,List.length_take];omega
  iterate 2 refine ab ?_
  refine am (fun h3_0=>?_) (fun h3_0=>?_)
  ·
   iterate 8 refine ab ?_
   have hzo:=ht.2.1 _ (aq (l:=t.zs) (i:=i) (by omega));have hzr:=hzo.2.1.1;have hei:(t.zs.getD (Int.toNat (i:Int)) default).rs.length=(t.zs.getD i default).rs.length:=rfl;iterate 2 refine ab ?_
   refine ai rfl rfl (ap 502) ?_;iterate 6 refine ab ?_
   refine ai rfl rfl (aL [(_,_)]) ?_;refine ai rfl rfl (ap 603) ?_;refine ab ?_;refine AOps.weak (Weak.nilcell 603 9002 1 5 rrc) ?_;iterate 10 refine ab ?_
   refine AWp.loopR (α:=Nat×List Rr×Nat) [8,24,25,26,27,28,29,30,31,32,33,34,35] (fun x_=>[(24,i64 (x_.1))]) (fun x_=>[(603,.box [str (t.zs.getD i default).o,.sl 9002 (x_.2.2) 0 (x_.2.1).length 5]),(9002,.row (cl rrc (x_.2.1)) 5 (x_.2.2))]) (fun x_=>(x_.1)≤(t.zs.getD i default).rs.length∧(x_.2.1)=(t.zs.getD i default).rs.take (x_.1)) (fun x_=>(t.zs.getD i default).rs.length-(x_.1)) (0,[],0) ?_ (Back.mk' (HasT.cons HasT.nil) (HasH.cons (HasH.cons HasH.nil))) ?_
   ·
    exact ⟨Nat.zero_le _,rfl⟩
   ·
    rintro ⟨j,rs,v2⟩ hI7;change j≤(t.zs.getD i default).rs.length∧rs=(t.zs.getD i default).rs.take j at hI7;obtain ⟨hj,hrs⟩:=hI7;refine AWp.as (s':=AS.over _ [8,24,25,26,27,28,29,30,31,32,33,34,35] [(24,i64 j)] [(603,.box [str (t.zs.getD i default).o,.sl 9002 v2 0 rs.length 5]),(9002,.row (cl rrc rs) 5 v2)]) rfl ?_;have hrl:rs.length=j:=by rw [hrs,List.length_take];omega
    iterate 2 refine ab ?_
    refine am (fun h7_0=>?_) (fun h7_0=>?_)
    ·
     iterate 8 refine ab ?_
     have hrd:=hzo.2.1.2 _ (aq (l:=(t.zs.getD i default).rs) (i:=j) (by omega));iterate 2 refine ab ?_
     refine ai rfl rfl (ap 902) ?_;iterate 2 refine ab ?_
     refine bj [ag,ag,ag,ag,bv [(1004,_)],bv [(9002,_)],ag,bv [(603,_)]] [af [6] [603] 29,af [28] [603] 30,af [8] [902] 31,af [30] [] 32,af [31] [1004] 33 [1004],af [29,32] [1004,9002] 34 [9002],af [6] [603] 35,af [33,34] [603,9002] 0 [603]] rfl ⟨ah,ah,ah,aC fun _=>aN rfl rfl (aj (1) (hc:=(yW ((t.zs.getD i default).rs.getD j default) hrd))),aC fun _=>aN rfl rfl (bO 1004 rrc [_] [(_,_)]),ah,ah,ah,trivial⟩ ?_;iterate 4 refine ab ?_
     refine ⟨(j+1,rs++[(t.zs.getD i default).rs.getD j default],v2+1),?_,Back.mk' (HasT.cons HasT.nil) (HasH.cons (HasH.cons HasH.nil)),?_⟩
     ·
      try dsimp only
      exact ⟨by omega,by rw [bK (by omega),← hrs]⟩
     ·
      try dsimp only
      omega
    ·
     iterate 5 refine ab ?_
     obtain rfl:j=(t.zs.getD i default).rs.length:=by omega
     rw [List.take_length] at hrs;subst hrs;refine AOps.weak (Weak.fullD 1 0 [] (t:=[(1,.ptr 100 0 0),(2,.ptr 101 0 0),(3,.ptr 200 0 0),(12,.fz 1 t.zs.length (cl md t.zs)),(13,i64 t.zs.length),(14,i64 i),(6,.ptr 603 0 0)]) (hl:=[(100,.box (ja t)),(101,.box [.v (.slice none 0 0),.v (.slice none 0 0)]),(200,.box [.sl 9001 v 0 zs.length 2,.sl 9003 0 0 ([]:List Sv).length 2]),(9001,.row (cl zoC zs) 2 v),(9003,.row (cl svC []) 2 0),(603,.box (zoC (t.zs.getD i default)))])) ?_;iterate 3 refine ab ?_
     refine ai rfl rfl (bO 1203 zoC [_] [(_,_)]) ?_;iterate 8 refine ab ?_
     refine ⟨(i+1,zs++[(t.zs.getD i default)],v+1),?_,Weak.full (1) [],?_⟩
     ·
      try dsimp only
      exact ⟨by omega,by rw [bK (by omega),← hzs]⟩
     ·
      try dsimp only
      omega
  ·
   iterate 7 refine ab ?_
   obtain rfl:i=t.zs.length:=by omega
   rw [List.take_length] at hzs;subst hzs;iterate 6 refine ab ?_
   refine AWp.loopR (α:=Nat×List Sv×Nat) [10,46,47,48,49,50,51,52,53,54,55,56,57,58,59,60,61,62] (fun x_=>[(46,i64 (x_.1))]) (fun x_=>[(200,.box [.sl 9001 v 0 t.zs.length 2,.sl 9003 (x_.2.2) 0 (x_.2.1).length 2]),(9003,.row (cl svC (x_.2.1)) 2 (x_.2.2))]) (fun x_=>(x_.1)≤t.ss.length∧(x_.2.1)=t.ss.take (x_.1)) (fun x_=>t.ss.length-(x_.1)) (0,[],0) ?_ (Back.mk' (HasT.cons HasT.nil) (HasH.cons (HasH.cons HasH.nil))) ?_
   ·
    exact ⟨Nat.zero_le _,rfl⟩
   ·
    rintro ⟨k,ss,v3⟩ hI14;change k≤t.ss.length∧ss=t.ss.take k at hI14;obtain ⟨hk,hss⟩:=hI14;refine AWp.as (s':=AS.over _ [10,46,47,48,49,50,51,52,53,54,55,56,57,58,59,60,61,62] [(46,i64 k)] [(200,.box [.sl 9001 v 0 t.zs.length 2,.sl 9003 v3 0 ss.length 2]),(9003,.row (cl svC ss) 2 v3)]) rfl ?_;have hsl:ss.length=k:=by rw [hss,List.length_take];omega
    iterate 2 refine ab ?_
    refine am (fun h14_0=>?_) (fun h14_0=>?_)
    ·
     iterate 8 refine ab ?_
     have hsz:=ht.2.2.2 _ (aq (l:=t.ss) (i:=k) (by omega));have hsz2:=hsz;simp only [List.getD_eq_getElem?_getD] at hsz2;iterate 2 refine ab ?_
     refine ai rfl rfl (ap 1602) ?_;iterate 2 refine ab ?_
     refine bj [ag,ag,ag,ag,bv [(1704,_)],ag,ag,bv [(1704,_)],ag,bv [(1709,_)],bv [(9003,_)],ag,bv [(200,_)]] [af [3] [200] 51,af [50] [200] 52,af [10] [1602] 53,af [52] [1602] 54,af [] [1704] 55 [1704],af [10] [1602] 56,af [55] [1602] 57,af [54,56] [1704] 58 [1704],af [53,57] [1704] 59,af [58] [1709] 60 [1709],af [51,59] [1709,9003] 61 [9003],af [3] [200] 62,af [60,61] [200,9003] 0 [200]] rfl ⟨ah,ah,ah,ah,aC fun _=>aN rfl rfl (bO 1704 ic [] []),ah,ah,aC fun _=>aN rfl rfl (vS (l:=([]:List Int)) (m:=(t.ss.getD k default).zs)),aC fun _=>aN rfl rfl (aL [(_,_),(_,_)]),aC fun _=>aN rfl rfl (bO 1709 svC [_] [(_,_)]),ah,ah,ah,trivial⟩ ?_;iterate 4 refine ab ?_
     refine ⟨(k+1,ss++[(t.ss.getD k default)],v3+1),?_,Back.mk' (HasT.cons HasT.nil) (HasH.cons (HasH.cons HasH.nil)),?_⟩
     ·
      try dsimp only
      exact ⟨by omega,by rw [bK (by omega),← hss]⟩
     ·
      try dsimp only
      omega
    ·
     iterate 6 refine ab ?_
     obtain rfl:k=t.ss.length:=by omega
     rw [List.take_length] at hss;subst hss;refine AOps.weak (Weak.fullD 1 0 [] (t:=[(2,.ptr 101 0 0),(3,.ptr 200 0 0)]) (hl:=[(101,.box [.v (.slice none 0 0),.v (.slice none 0 0)]),(200,.box (trC t))])) ?_;iterate 4 refine ab ?_
     refine ak (1) [_] [_] ?_;rfl
end
section
attribute [local irreducible] AWp AOps
theorem DR (l:List Zo):cl md l=cl zoM (mix 0 l):=(tn (f:=zoM) (g:=md) (fun _=>rfl) l).symm
theorem Ef (l:List Rr):cl lI l=cl rrM (mix 0 l):=(tn (f:=rrM) (g:=lI) (fun _=>rfl) l).symm
theorem E4 (l:List Sv):cl mh l=cl svM (mix 0 l):=(tn (f:=svM) (g:=mh) (fun _=>rfl) l).symm
theorem yX:∀ x,AV.oks 1 (zoM x)=true:=fun ⟨b,z⟩=>by cases b<;>rfl
theorem xa {ρ:Nat→Bool} {σ:IdMap} {h:aX} {hi e v:Nat} {c:List AV} {l:List (Bool×Zo)} (e2:c=cl zoM l):LObj ρ σ h 1 hi false (.row c e v) (.row (cl zoM l) e v):=by
 subst e2;exact aF yX
theorem yR (t:Tr) (ht:cx t) (hc:dZ t=false):AC Tryz.prog 5 [.agg (ja t)] emp (Ret (.tup [.v (.pointer none),i64 1])):=by
 refine AC.intro te_ok (fn:=Tryz.f5) ⟨Tryz.func5,rfl,rfl⟩ (aE rfl) ?_;iterate 2 refine ab ?_
 refine ai rfl rfl (aS 100) ?_;iterate 7 refine ab ?_
 refine AOps.cons rfl rfl ((OpOk.bool_is (c:=false) (pr (hA:=by exact ⟨xq (t:=t),trivial⟩) (hc:=mz t ht)) (hc))) ?_;iterate 9 refine ab ?_
 refine ak (1) [_,_] [_,_] ?_;rfl
theorem wy (t:Tr) (ht:cx t) (hc:dZ t=true):AC Tryz.prog 5 [.agg (ja t)] (ao []) (bZ (.tup [.ptr 8 0 0,i64 0]) [(8,.box [.fz 0 t.zs.length (cl zoC t.zs),.fz 0 t.ss.length (cl svC t.ss),.mp 9 0]),(9,.map (me cm idA ([]:List (Int×AV))))]):=by
 have hz1:=ht.1;have hs1:=ht.2.2.1;refine AC.intro te_ok (fn:=Tryz.f5) ⟨Tryz.func5,rfl,rfl⟩ (aE rfl) ?_;iterate 2 refine ab ?_
 refine ai rfl rfl (aS 100) ?_;iterate 7 refine ab ?_
 refine AOps.cons rfl rfl ((OpOk.bool_is (c:=true) (pr (hA:=by exact ⟨xq (t:=t),trivial⟩) (hc:=mz t ht)) (hc))) ?_;iterate 5 refine ab ?_
 refine bj [ag,ag,bv [(4028,_)],ag,ag,bv [(4058,_)],ag,bv [(100,_)],ag,bv [(100,_)]] [af [1] [100] 12,af [11] [100] 13,af [12] [4028] 14 [4028],af [1] [100] 15,af [14] [100] 16,af [15] [4058] 17 [4058],af [1] [100] 18,af [13,17] [100,4028] 0 [100],af [1] [100] 19,af [16,18] [100,4058] 0 [100]] rfl ⟨ah,ah,aC fun _=>aN rfl rfl (ay (1) [] [(8,4028)] [(_,_)] (hB:=by exact ⟨rfl,rfl,cU (lv:=1) (fun _=>rfl),trivial⟩) (hc:=(uU t.zs hz1))),ah,ah,aC fun _=>aN rfl rfl (ay (1) [] [(8,4058)] [(_,_)] (hB:=by exact ⟨rfl,rfl,cU (lv:=1) (fun _=>rfl),trivial⟩) (hc:=(uV t.ss hs1))),ah,ah,ah,ah,trivial⟩ ?_;iterate 9 refine ab ?_
 refine AWp.loopI (α:=Nat) (fun i=>mkS [(1,.ptr 100 0 0),(21,i64 t.zs.length),(22,i64 i)] [(100,.box [.sl 4028 0 0 t.zs.length 2,.sl 4058 0 0 t.ss.length 2]),(4028,.row (cl zoM (mix i t.zs)) 2 0),(4058,.row (cl mh t.ss) 2 0)]) (fun i=>i≤t.zs.length) (fun i=>t.zs.length-i) 0 ?_ (Weak.full (1) [] (hobj:=⟨rfl,⟨_,rfl,ar ⟨bd rfl rfl,bd rfl rfl,trivial⟩⟩,rfl,⟨_,rfl,(xa (DR _))⟩,rfl,⟨_,rfl,aF (fun _=>rfl)⟩,trivial⟩)) ?_
 ·
  exact Nat.zero_le _
 ·
  rintro i hi;iterate 2 refine ab ?_
  refine am (fun h5_0=>?_) (fun h5_0=>?_)
  ·
   iterate 13 refine ab ?_
   have hzo:=ht.2.1 _ (aq (l:=t.zs) (i:=i) (by omega));have hzr:=hzo.2.1.1;iterate 5 refine ab ?_
   refine ai rfl rfl (sI (f:=zoM) (l:=mix i t.zs) (a:=(false,(t.zs.getD i default))) (e:=2) (j:=i) (off:=1) (nY (by omega)) (by rw [lm];omega)) ?_;refine ai rfl rfl (ay (1) [] [(8,8068)] [(_,_)] (hB:=by exact ⟨rfl,rfl,cU (lv:=1) (fun _=>rfl),trivial⟩) (hc:=(uW (t.zs.getD i default).rs hzr))) ?_;iterate 10 refine ab ?_
   refine AWp.loopR (α:=Nat) [6,34,35,36,37,38,39,40,41,42,43,44,45,46,47] (fun j=>[(34,i64 j)]) (fun j=>[(8068,.row (cl rrM (mix j (t.zs.getD i default).rs)) 5 0)]) (fun j=>j≤(t.zs.getD i default).rs.length) (fun j=>(t.zs.getD i default).rs.length-j) 0 ?_ (Back.mk' (HasT.cons HasT.nil) (HasH.cons HasH.nil (h1:=by exact sy (Ef _)) )) ?_
   ·
    exact Nat.zero_le _
   ·
    rintro j hj;iterate 2 refine ab ?_
    refine am (fun h9_0=>?_) (fun h9_0=>?_)
    ·
     iterate 12 refine ab ?_
     have hrd:=hzo.2.1.2 _ (aq (l:=(t.zs.getD i default).rs) (i:=j) (by omega));iterate 6 refine ab ?_
     refine ai rfl rfl (sI (f:=rrM) (l:=mix j (t.zs.getD i default).rs) (a:=(false,((t.zs.getD i default).rs.getD j default))) (e:=5) (j:=j) (off:=4) (nY (by omega)) (by rw [lm];omega)) ?_;refine ai rfl rfl (aj (1) (hc:=(iI ((t.zs.getD i default).rs.getD j default).da 1 hrd))) ?_;iterate 2 refine ab ?_
     refine ai rfl rfl (qd (f:=rrM) (l:=mix j (t.zs.getD i default).rs) (b:=(false,((t.zs.getD i default).rs.getD j default))) (true,((t.zs.getD i default).rs.getD j default)) (e:=5) (j:=j) (off:=4) (nY (by omega)) (by rw [lm];omega)) ?_;iterate 5 refine ab ?_
     refine ⟨j+1,?_,Back.mk' (HasT.cons HasT.nil) (HasH.cons HasH.nil (h1:=by exact sy (congrArg (cl rrM) (sV (by omega)))) ),?_⟩
     ·
      omega
     ·
      omega
    ·
     iterate 5 refine ab ?_
     obtain rfl:j=(t.zs.getD i default).rs.length:=by omega
     rw [Ee];refine AOps.weak (Weak.fullD 1 0 [] (t:=[(1,.ptr 100 0 0),(4,i64 i),(5,.fz 0 (t.zs.getD i default).rs.length (cl rrc (t.zs.getD i default).rs)),(21,i64 t.zs.length),(22,i64 i)]) (hl:=[(100,.box [.sl 4028 0 0 t.zs.length 2,.sl 4058 0 0 t.ss.length 2]),(4028,.row (cl zoM (mix i t.zs)) 2 0),(4058,.row (cl mh t.ss) 2 0)]) (hobj:=⟨rfl,⟨_,rfl,ar ⟨bd rfl rfl,bd rfl rfl,trivial⟩⟩,rfl,⟨_,rfl,aF yX⟩,rfl,⟨_,rfl,aF (fun _=>rfl)⟩,trivial⟩)) ?_;iterate 6 refine ab ?_
     refine ai rfl rfl (qd (f:=zoM) (l:=mix i t.zs) (b:=(false,(t.zs.getD i default))) (true,(t.zs.getD i default)) (e:=2) (j:=i) (off:=1) (nY (by omega)) (by rw [lm];omega)) ?_;iterate 5 refine ab ?_
     refine ⟨i+1,?_,Weak.full (1) [] (hobj:=⟨rfl,⟨_,rfl,ar ⟨bd rfl rfl,bd rfl rfl,trivial⟩⟩,rfl,⟨_,rfl,(xa (congrArg (cl zoM) (sV (by omega))))⟩,rfl,⟨_,rfl,aF (fun _=>rfl)⟩,trivial⟩),?_⟩
     ·
      omega
     ·
      omega
  ·
   iterate 7 refine ab ?_
   obtain rfl:i=t.zs.length:=by omega
   rw [DQ];iterate 6 refine ab ?_
   refine AWp.loopR (α:=Nat) [7,58,59,60,61,62,63,64,65,66,67,68,69,70,71,72,73] (fun k=>[(58,i64 k)]) (fun k=>[(4058,.row (cl svM (mix k t.ss)) 2 0)]) (fun k=>k≤t.ss.length) (fun k=>t.ss.length-k) 0 ?_ (Back.mk' (HasT.cons HasT.nil) (HasH.cons HasH.nil (h1:=by exact sy (E4 _)) )) ?_
   ·
    exact Nat.zero_le _
   ·
    rintro k hk;iterate 2 refine ab ?_
    refine am (fun h16_0=>?_) (fun h16_0=>?_)
    ·
     iterate 11 refine ab ?_
     have hsz:=ht.2.2.2 _ (aq (l:=t.ss) (i:=k) (by omega));refine bj [ag,ag,ag,ag,ag,ag,ag,ag,ag,ag,ag,ag,bv [(4058,_)]] [af [1] [100] 62,af [61] [100] 63,af [7] [] 64,af [1] [100] 65,af [64] [100] 66,af [7] [] 67,af [65,66] [4058] 68,af [67] [4058] 69,af [68] [4058] 70,af [69] [] 71,af [62,63] [4058] 72,af [71] [4058] 73,af [70,72] [4058] 0 [4058]] rfl ⟨ah,ah,ah,ah,ah,ah,ah,ah,aC fun _=>aN rfl rfl (sI (f:=svM) (l:=mix k t.ss) (a:=(false,(t.ss.getD k default))) (e:=2) (j:=k) (off:=1) (nY (by omega)) (by rw [lm];omega)),aC fun _=>aN rfl rfl (aj (1) (hc:=(vx (t.ss.getD k default).zs 1 hsz))),ah,ah,aC fun _=>aN rfl rfl (qd (f:=svM) (l:=mix k t.ss) (b:=(false,(t.ss.getD k default))) (true,(t.ss.getD k default)) (e:=2) (j:=k) (off:=1) (nY (by omega)) (by rw [lm];omega)),trivial⟩ ?_;iterate 4 refine ab ?_
     refine ⟨k+1,?_,Back.mk' (HasT.cons HasT.nil) (HasH.cons HasH.nil (h1:=by exact sy (congrArg (cl svM) (sV (by omega)))) ),?_⟩
     ·
      omega
     ·
      omega
    ·
     iterate 6 refine ab ?_
     obtain rfl:k=t.ss.length:=by omega
     rw [E3];refine AOps.weak (Weak.fullD 1 0 [] (t:=[(1,.ptr 100 0 0)]) (hl:=[(100,.box (trC t))])) ?_;refine ab ?_;refine ai rfl rfl (gQ 9 cm idA) ?_;refine ai rfl rfl (aL [(_,_),(_,_)]) ?_;refine ai rfl rfl (aS 8) ?_;iterate 4 refine ab ?_
     refine im (1) (0) [] [_,_] [.ptr 8 0 0,_] [(_,_),(9,.map (me cm idA ([]:List (Int×AV))))] (hobj:=⟨rfl,⟨_,rfl,ar ⟨aK rfl,aK rfl,bw rfl rfl,trivial⟩⟩,rfl,⟨_,rfl,rfl,trivial⟩,trivial⟩) ?_;rfl
theorem yK (t:Tr) (ht:cx t) (hc:dZ t=false):AC Tryz.prog 6 [.agg (ja t)] emp (Ret (.tup [.v (.pointer none),i64 1])):=by
 refine AC.intro te_ok (fn:=Tryz.f6) ⟨Tryz.func6,rfl,rfl⟩ (aE rfl) ?_;iterate 2 refine ab ?_
 refine ai rfl rfl (aS 100) ?_;iterate 7 refine ab ?_
 refine AOps.cons rfl rfl ((OpOk.bool_is (c:=false) (pr (hA:=by exact ⟨xq (t:=t),trivial⟩) (hc:=wx t ht)) (hc))) ?_;iterate 9 refine ab ?_
 refine ak (1) [_,_] [_,_] ?_;rfl
theorem ww (t:Tr) (ht:cx t) (hc:dZ t=true):AC Tryz.prog 6 [.agg (ja t)] (ao []) (bZ (.tup [.ptr 8 0 0,i64 0]) [(8,.box [.fz 0 t.zs.length (cl zoC t.zs),.fz 0 t.ss.length (cl svC t.ss),.v (.slice none 0 0)])]):=by
 refine AC.intro te_ok (fn:=Tryz.f6) ⟨Tryz.func6,rfl,rfl⟩ (aE rfl) ?_;iterate 2 refine ab ?_
 refine ai rfl rfl (aS 100) ?_;iterate 7 refine ab ?_
 refine AOps.cons rfl rfl ((OpOk.bool_is (c:=true) (pr (hA:=by exact ⟨xq (t:=t),trivial⟩) (hc:=wx t ht)) (hc))) ?_;iterate 7 refine ab ?_
 refine ai rfl rfl (aj (1) (hc:=(oW t ht))) ?_;refine ai rfl rfl (aL [(_,_)]) ?_;refine ai rfl rfl (aS 8) ?_;iterate 4 refine ab ?_
 refine im (1) (0) [] [_,_] [.ptr 8 0 0,_] [(_,_)] ?_;rfl
end
section
attribute [local irreducible] AWp AOps
def Of (z:Zo) (c:Nat) (l:List Rr):Prop:=l.length≤c∧∀ r∈l,r∈z.rs
theorem oL {z:Zo} (hs:z.rs.length≤400) (n:List UInt8) (ty:Int):Of z 400 (atZ z n ty):=⟨jA hs n ty,fun r hr=>(iJ hr).1⟩
theorem Of.app {z:Zo} {a b:Nat} {l k:List Rr} (h:Of z a l) (h2:Of z b k):Of z (a+b) (l++k):=⟨by rw [List.length_append];exact Nat.add_le_add h.1 h2.1,fun r hr=>(List.mem_append.1 hr).elim (h.2 r) (h2.2 r)⟩
theorem Of.mono {z:Zo} {a b:Nat} {l:List Rr} (h:Of z a l) (hab:a≤b):Of z b l:=⟨Nat.le_trans h.1 hab,h.2⟩
theorem ek {z:Zo} {a:Nat}:Of z a []:=⟨Nat.zero_le _,fun r hr=>by cases hr⟩
theorem EC {z:Zo} (hs:z.rs.length≤400) {l:List Rr} (hl:l.length≤400):Of z 160000 (uK z l):=by
 refine ⟨?_,fun r hr=>?_⟩
 · have:=ll (g:=fun n=>atZ z n 1) (l:=l) (c:=400) (fun r _=>jA hs r.da 1) (Nat.le_refl l.length)
   unfold uK;omega
 · unfold uK nmF at hr
   obtain ⟨i,_,h2⟩:=List.mem_flatMap.1 hr;exact (iJ h2).1
theorem AB {z:Zo} {ty:Int} (hs:z.rs.length≤400):∀ (k:Nat) (an:List Rr) (n:List UInt8) (aa:Bool) (v:Nat),8-an.length≤k→Of z 8 an→Of z 408 (fil z ty aa an n v).an∧Of z 400 (fil z ty aa an n v).au∧Of z 160000 (fil z ty aa an n v).ad:=by
 intro k;induction k with
 | zero=>
  intro an n aa v hk hA;have h8:¬ an.length<8:=by omega
  by_cases hc:bI z n≠[]
  · rw [nf hc (by omega)];exact ⟨hA.mono (by decide),ek,ek⟩
  · by_cases h1:0<(atZ z n 5).length∧ty≠5
    · rw [iY hc h1 (fun h=>by have:=h.2;rw [List.length_append] at this;omega)];exact ⟨(hA.app (oL hs n 5)).mono (by decide),ek,ek⟩
    · by_cases h2:0<(atZ z n ty).length
      · rw [lz hc h1 h2];exact ⟨(hA.app (oL hs n ty)).mono (by decide),ek,ek⟩
      · rw [eB hc h1 h2];exact ⟨hA.mono (by decide),oL hs _ _,ek⟩
 | succ k ih=>
  intro an n aa v hk hA;by_cases hc:bI z n≠[]
  · by_cases h0:an.length=0
    · rw [qH hc h0];exact ⟨hA.mono (by decide),oL hs _ _,EC hs (jA hs _ _)⟩
    · rw [nf hc h0];exact ⟨hA.mono (by decide),ek,ek⟩
  · by_cases h1:0<(atZ z n 5).length∧ty≠5
    · by_cases h2:bQ ((atZ z n 5).getD 0 default).da z.o=true∧(an++atZ z n 5).length<8
      · rw [wo hc h1 h2]
        have h3:=h2.2;have h4:(an++atZ z n 5).length=an.length+(atZ z n 5).length:=List.length_append;exact ih _ _ _ _ (by omega) ⟨by omega,(hA.app (oL hs n 5)).2⟩
      · rw [iY hc h1 h2];exact ⟨(hA.app (oL hs n 5)).mono (by decide),ek,ek⟩
    · by_cases h2:0<(atZ z n ty).length
      · rw [lz hc h1 h2];exact ⟨(hA.app (oL hs n ty)).mono (by decide),ek,ek⟩
      · rw [eB hc h1 h2];exact ⟨hA.mono (by decide),oL hs _ _,ek⟩
theorem Of.ok {z:Zo} (hz:eR z) {c:Nat} {l:List Rr} (h:Of z c l) (hc:c≤160000):RrsOk l:=⟨by have:=h.1;omega,fun r hr=>hz.2.1.2 r (h.2 r hr)⟩
theorem sw {t:Tr} {a:Int} {m:Msg} (ht:cx t) (hm:gp m):gp (fh t a m):=by
 have nil:RrsOk []:=⟨by simp,fun x hx=>by cases hx⟩;have hz0:gp mZ:=⟨by simp [mZ],nil,nil,nil⟩;unfold fh;split
 · rename_i hso
   have hb:∀ c,gp (Bh m (m.qs.getD 0 default) c):=fun c=>⟨by show 1*32≤_;decide,nil,nil,nil⟩
   unfold oY;split
   · exact hb 4
   · split
     · exact hb 5
     · rename_i h1 h2
       unfold ff at hso;simp only [Bool.and_eq_true,decide_eq_true_eq] at hso;have hcan:=hso.1.1.1.1;have hin:=su hcan (aq (l:=t.ss) (i:=(idx (cF a) t.ss).toNat) (t0 (by omega)));have hhk:=mT (t:=t) (p:=fun z=>bQ (m.qs.getD 0 default).nm z.o) hin;have hk0:0≤fL t (t.ss.getD (idx (cF a) t.ss).toNat default).zs (m.qs.getD 0 default).nm∧fL t (t.ss.getD (idx (cF a) t.ss).toNat default).zs (m.qs.getD 0 default).nm<t.zs.length:=⟨by
        simp only [not_or] at h2;omega,hhk.2⟩
       have hzm:=kU hk0;have hzo:=jT ht hk0;obtain ⟨f1,f2,f3⟩:=AB (z:=zAt t (fL t (t.ss.getD (idx (cF a) t.ss).toNat default).zs (m.qs.getD 0 default).nm)) (ty:=(m.qs.getD 0 default).ty) (mB hcan hzm) 8 [] (m.qs.getD 0 default).nm false 0 (by simp) ek;exact ⟨by show 1*32≤_;decide,f1.ok hzo (by decide),f2.ok hzo (by decide),f3.ok hzo (by decide)⟩
 · exact hz0
theorem Of.nm {z:Zo} (hz:eR z) {c:Nat} {l:List Rr} (h:Of z c l):∀ r∈l,r.nm.length≤140737488351232:=fun r hr=>hz.2.2 r (h.2 r hr)
theorem sx {t:Tr} {a:Int} {m:Msg} (ht:cx t):oB (fh t a m):=by
 have no:∀ (h:Hdr) (q:Qu),q.nm.length≤255→oB ⟨h,[q],[],[],[]⟩:=fun h q hq=>⟨fun x hx=>by
  have hx:x∈[q]:=hx;rw [List.mem_singleton] at hx;subst hx;omega,fun x hx=>by simp [Msg.rrs] at hx⟩
 unfold fh;split
 · rename_i hso
   unfold ff at hso;simp only [Bool.and_eq_true,decide_eq_true_eq] at hso;have hq:=eD hso.1.2;have hcan:=hso.1.1.1.1;unfold oY;split
   · exact no _ _ hq
   · split
     · exact no _ _ hq
     · rename_i h1 h2
       have hin:=su hcan (aq (l:=t.ss) (i:=(idx (cF a) t.ss).toNat) (t0 (by omega)));have hhk:=mT (t:=t) (p:=fun z=>bQ (m.qs.getD 0 default).nm z.o) hin;have hk0:0≤fL t (t.ss.getD (idx (cF a) t.ss).toNat default).zs (m.qs.getD 0 default).nm∧fL t (t.ss.getD (idx (cF a) t.ss).toNat default).zs (m.qs.getD 0 default).nm<t.zs.length:=⟨by
        simp only [not_or] at h2;omega,hhk.2⟩
       have hzm:=kU hk0;have hzo:=jT ht hk0;obtain ⟨f1,f2,f3⟩:=AB (z:=zAt t (fL t (t.ss.getD (idx (cF a) t.ss).toNat default).zs (m.qs.getD 0 default).nm)) (ty:=(m.qs.getD 0 default).ty) (mB hcan hzm) 8 [] (m.qs.getD 0 default).nm false 0 (by simp) ek;refine ⟨fun x hx=>?_,fun x hx=>?_⟩
       · have hx:x∈[m.qs.getD 0 default]:=hx
         rw [List.mem_singleton] at hx;subst hx;omega
       · simp only [Msg.rrs,Gz,List.mem_append] at hx
         rcases hx with (hx|hx)|hx
         · exact f1.nm hzo x hx
         · exact f2.nm hzo x hx
         · exact f3.nm hzo x hx
 · exact ⟨fun x hx=>by simp [mZ] at hx,fun x hx=>by simp [mZ,Msg.rrs] at hx⟩
theorem pD {m:Msg} (h:gr m=0):(dI m).length≤65535:=by
 obtain ⟨_,hw,hb⟩:=sb h;rw [hb];unfold kF at hw ⊢;cases hq:decide (((cC m.qs (hdW m)).b.length:Int)≤65535) with
 | true=>
  rw [hq] at hw;have:=t9 (of_decide_eq_true hq) hw;omega
 | false=>
  have h1:=iB (l:=m.rrs) (p:=(cC m.qs (hdW m),decide (((cC m.qs (hdW m)).b.length:Int)≤65535))) hq;rw [h1] at hw;cases hw
theorem nO (l:List UInt8):(pfB l).length≤65537:=by
 unfold pfB;split
 · simp
 · simp [frame];omega
def e7 (t:Tr) (a:Int) (f:List UInt8):List UInt8:=if jN f≠0 then [] else if ff t a (cG f)=false then [] else if gr (fh t a (cG f))≠0 then [] else pfB (dI (fh t a (cG f)))
theorem tJ (t:Tr) (a:Int) (f:List UInt8):(e7 t a f).length≤65537:=by
 unfold e7;split
 · simp
 · split
   · simp
   · split
     · simp
     · exact nO _
theorem r6 (t:Tr) (a:Int):∀ (l:List (List UInt8)),(l.flatMap (e7 t a)).length≤65537*l.length
 | []=>by simp
 | f::l=>by
  have h1:=tJ t a f;have h2:=r6 t a l;simp only [List.flatMap_cons,List.length_append,List.length_cons];omega
theorem de {α β:Type} [Inhabited α] {l:List α} {i:Nat} (h:i<l.length) (g:α→List β):(l.take (i+1)).flatMap g=(l.take i).flatMap g++g (l.getD i default):=by rw [bK h,List.flatMap_append];simp
theorem fF (l:List (Sv)) (lv lv' lw:Nat) (caps:List AV) (g:Sv→Bool) {fid:Nat} (hl:l.length≤140737488351232) (hcaps:AV.oks lw caps=true) (hg:∀ x∈l,AC Tryz.prog fid (.agg (svC x)::caps) emp (Ret (tf (g x)))):AC Tryz.prog 24 [.fz lv l.length (cl (svC) l),.fn (.func fid) [] caps] emp (Ret (tf (l.any g))):=by
 refine AC.intro te_ok (fn:=Tryz.f24) ⟨Tryz.func24,rfl,rfl⟩ (aE rfl) ?_;iterate 8 refine ab ?_
 refine ai rfl rfl (aj (lv+lv'+lw) (hA:=by exact ⟨dG rfl (fG (by omega)),dG (b:=.fn (.func fid) [] caps) rfl (by simp [AV.ok,AV.oks,AV.oks_mono (show lw≤lv+lv'+lw by omega) hcaps]),trivial⟩) (hc:=(kP l lv lv' lw caps g hl hcaps hg))) ?_;refine ai rfl rfl (gX) ?_;iterate 3 refine ab ?_
 refine ak (0) [_] [_] ?_;exact congrArg tf py
theorem ot (s:Sv) (a:Int) (lv:Nat):AC Tryz.prog 25 [.agg (svC s),.fp lv [i64 a]] emp (Ret (tf (cF a s))):=by
 refine AC.intro te_ok (fn:=Tryz.f25) ⟨Tryz.func25,rfl,rfl⟩ (aE rfl) ?_;iterate 2 refine ab ?_
 refine ai rfl rfl (aS 100) ?_;iterate 7 refine ab ?_
 refine ai rfl rfl (dm) ?_;iterate 3 refine ab ?_
 refine ak (0) [_] [_] ?_;rfl
theorem vv (t:Tr) (a:Int) (f:List UInt8) (ht:cx t) (hf:f.length≤65535):AC Tryz.prog 28 [.fp 1 [.fz 0 t.zs.length (cl zoC t.zs),.fz 0 t.ss.length (cl svC t.ss),.any],i64 a,.fz 0 f.length (cl bc f)] emp (Ret (.fz 0 (e7 t a f).length (cl bc (e7 t a f)))):=by
 refine AC.intro te_ok (fn:=Tryz.f28) ⟨Tryz.func28,rfl,rfl⟩ (aE rfl) ?_;iterate 2 refine ab ?_
 refine ai rfl rfl (aR (0) bc) ?_;iterate 4 refine ab ?_
 refine ai rfl rfl (aj (0) (hc:=(Bb f (by omega)))) ?_;iterate 3 refine ab ?_
 refine ai rfl rfl (ap 205) ?_;iterate 7 refine ab ?_
 refine am (fun h2_1=>?_) (fun h2_1=>?_)
 ·
  iterate 4 refine ab ?_
  refine ai rfl rfl (aR (0) bc) ?_;iterate 2 refine ab ?_
  refine ak (0) [_] [_] ?_;rw [e7,if_pos (by omega)];rfl
 ·
  iterate 4 refine ab ?_
  have hag:=Bm (b:=f) (by omega);have hser:=sw (a:=a) ht hag.2.1;have hnm:=sx (a:=a) (m:=cG f) ht;refine bj [ag,ag,ag,ag,ag,ag,ag,ag,ag,ag,bv [(510,_)],bv [(510,_)],ag] [af [0] [] 23,af [22] [] 24,af [23] [] 25,af [24] [] 26,af [1] [] 27,af [7] [205] 28,af [25,26,27] [] 29,af [28] [] 22,af [21] [] 30,af [21] [] 31,af [] [510] 10 [510],af [9,29] [510] 0 [510],af [30] [] 11] rfl ⟨ah,ah,ah,ah,ah,ah,aC fun _=>aN rfl rfl (aj (0) (hc:=(tw t a (cG f) ht hag.2.1 hag.2.2.1))),ah,ah,ah,aC fun _=>aN rfl rfl (ap 510),ah,ah,trivial⟩ ?_;iterate 3 refine ab ?_
  refine AOps.bool rfl rfl (aA) (fun h5_0=>?_) (fun h5_0=>?_)
  ·
   iterate 7 refine ab ?_
   refine ai rfl rfl (aj (0) (hc:=(rr (fh t a (cG f)) hser hnm))) ?_;iterate 10 refine ab ?_
   refine am (fun h8_1=>?_) (fun h8_1=>?_)
   ·
    iterate 4 refine ab ?_
    refine ai rfl rfl (aR (0) bc) ?_;iterate 2 refine ab ?_
    refine ak (0) [_] [_] ?_;rw [e7,if_neg (by omega),if_neg (by simp [h5_0]),if_pos (by omega)];rfl
   ·
    iterate 5 refine ab ?_
    have hle:=pD (by omega:gr (fh t a (cG f))=0);refine ab ?_;refine ai rfl rfl (aj (0) (hc:=(pg (dI (fh t a (cG f))) 0 (by omega)))) ?_;iterate 12 refine ab ?_
    refine ak (0) [_] [_] ?_;rw [e7,if_neg (by omega),if_neg (by simp [h5_0]),if_neg (by omega)];rfl
  ·
   iterate 5 refine ab ?_
   refine ai rfl rfl (aR (0) bc) ?_;iterate 2 refine ab ?_
   refine ak (0) [_] [_] ?_;rw [e7,if_neg (by omega),if_pos h5_0];rfl
end
section
attribute [local irreducible] AWp AOps
def iE (t:Tr) (a:Int) (w:List UInt8):List UInt8:=(aJ w).1.flatMap (e7 t a)
theorem jq (w:List UInt8):∀ f∈(aJ w).1,f.length≤65535:=by
 induction w using aJ.induct with
 | case1 b h ih=>
  rw [iZ h];intro f hf;rcases List.mem_cons.1 hf with rfl|hf
  · have:=zf b
    simp only [List.length_drop,List.length_take];omega
  · exact ih f hf
 | case2 b h=>rw [lA (by simpa using h)];intro f hf;cases hf
theorem iA (w:List UInt8):(aJ w).1.length*2≤w.length:=by
 induction w using aJ.induct with
 | case1 b h ih=>
  have hn:=vI h;rw [iZ h];simp only [List.length_cons,List.length_drop] at ih ⊢;omega
 | case2 b h=>rw [lA (by simpa using h)];simp
theorem xU (b:List UInt8):szB (aJ b).2=false:=by
 induction b using aJ.induct with
 | case1 b h ih=>rw [iZ h];exact ih
 | case2 b h=>rw [lA (by simpa using h)];simpa using h
theorem kY (b:List UInt8):(aJ b).2.length≤65537:=by
 have h:=xU b;generalize (aJ b).2=q at h;have h2:=(zf q).2;rcases Nat.lt_or_ge q.length 2 with h3|h3
 · omega
 · by_cases h4:szN q≤q.length
   · rw [mH.2 ⟨h3,h4⟩] at h;cases h
   · omega
def PlV (es:List (Int×AV)):Prop:=∀ p∈es,∃ x,p.2=.v x
section
variable {ρ:Nat→Bool} {σ:IdMap} {h:aX} {lo hi:Nat} {rn:Bool}
theorem Ae:∀ {es:List (Int×AV)},(∀ p∈es,ie ρ σ h lo hi p.2 p.2)→LVals ρ σ h lo hi ((me cm idA es).map (·.2)) ((me cm idA es).map (·.2))
 | [],_=>trivial
 | p::es,e=>⟨e p List.mem_cons_self,Ae fun q hq=>e q (List.mem_cons_of_mem _ hq)⟩
theorem xb {es:List (Int×AV)} (e:∀ p∈es,ie ρ σ h lo hi p.2 p.2):LObj ρ σ h lo hi rn (.map (me cm idA es)) (.map (me cm idA es)):=⟨rfl,Ae e⟩
theorem sY {es:List (Int×AV)} (e:PlV es):LObj ρ σ h lo hi rn (.map (me cm idA es)) (.map (me cm idA es)):=xb fun p hp=>by
 obtain ⟨x,hx⟩:=e p hp;rw [hx];exact aK rfl
theorem x9 {es:List (Int×AV)} {c k:Nat} (e:∀ p∈es,p.2=.ptr k 0 0∨∃ x,p.2=.v x) (hk:σ.get k=some k) (hρ:ρ k=false):LObj ρ σ h lo hi rn (.map (me cm idA es)) (.map (me cm idA es)):=xb fun p hp=>by
 rcases e p hp with hx|⟨x,hx⟩
 · rw [hx];exact aV hk hρ
 · rw [hx];exact aK rfl
theorem Aj {es:List (Int×AV)} {c:Int} {k:Nat} (e:PlV es) (hk:σ.get k=some k) (hρ:ρ k=false):LObj ρ σ h lo hi rn (.map (me cm idA (cp es c (.ptr k 0 0)))) (.map (me cm idA (cp es c (.ptr k 0 0)))):=
 x9 (c:=k) (fun p hp=>by
  have:p∈es∨p.2=.ptr k 0 0:=by
   clear e hk hρ
   induction es with
   | nil=>simp [cp] at hp;exact .inr (by rw [hp])
   | cons q es ih=>
    obtain ⟨a,b⟩:=q;simp only [cp] at hp;split at hp
    · rcases List.mem_cons.1 hp with rfl|hp
      · exact .inr rfl
      · exact .inl (List.mem_cons_of_mem _ hp)
    · rcases List.mem_cons.1 hp with rfl|hp
      · exact .inl List.mem_cons_self
      · exact (ih hp).imp (List.mem_cons_of_mem _) id
  rcases this with h1|h1
  · exact .inr (e p h1)
  · exact .inl h1) hk hρ
end
theorem yS (t:Tr) (es:List (Int×AV)) (c a:Int) (b:List UInt8) (ht:cx t) (hk:t.ss.any (cF a)=false) (he:PlV es):AC Tryz.prog 11 [.ptr 0 0 0,i64 c,i64 a,.fz 0 b.length (cl bc b)] (ao [(0,.box [.fz 0 t.zs.length (cl zoC t.zs),.fz 0 t.ss.length (cl svC t.ss),.mp 1 0]),(1,.map (me cm idA es))]) (bZ (.tup [.fz 0 ([]:List UInt8).length (cl bc []),i64 1]) [(0,.box [.fz 0 t.zs.length (cl zoC t.zs),.fz 0 t.ss.length (cl svC t.ss),.mp 1 0]),(1,.map (me cm idA es))]):=by
 have hs1:=ht.2.2.1;refine AC.intro te_ok (fn:=Tryz.f11) ⟨Tryz.func11,rfl,rfl⟩ (aE rfl) ?_;iterate 2 refine ab ?_
 refine ai rfl rfl (aS 100) ?_;refine ai rfl rfl (aR (0) bc) ?_;iterate 12 refine ab ?_
 refine AOps.gcons rfl rfl rfl rfl rfl ((OpOk.bool_is (c:=false) (qh) (rfl))) ?_;iterate 12 refine ab ?_
 refine ai rfl rfl (ca [] [_]) ?_;refine AOps.cons rfl rfl ((OpOk.bool_is (c:=false) (aj (0) (hc:=(fF t.ss 0 0 1 [.fp 1 [i64 a]] (cF a) (by omega) rfl (fun s hs=>ot s a 1)))) (hk))) ?_;iterate 5 refine ab ?_
 refine ai rfl rfl (aR (0) bc) ?_;iterate 3 refine ab ?_
 refine aQ (0) [] [_,_] [_,_] [(_,_),(_,_)] (hobj:=⟨rfl,⟨_,rfl,ar ⟨aK rfl,aK rfl,bw rfl rfl,trivial⟩⟩,rfl,⟨_,rfl,sY he⟩,trivial⟩) ?_;rfl
theorem yT (t:Tr) (es:List (Int×AV)) (c a:Int) (b:List UInt8) (w:List UInt8) (v o m:Nat) (ht:cx t) (hk:t.ss.any (cF a)=true) (hes:bg es c=some (.ptr 2 0 0)) (he:∀ p∈es,p.2=.ptr 2 0 0∨∃ x,p.2=.v x) (hm:o+m=w.length) (hw:m+b.length≤2147483648):AC Tryz.prog 11 [.ptr 0 0 0,i64 c,i64 a,.fz 0 b.length (cl bc b)] (ao [(0,.box [.fz 0 t.zs.length (cl zoC t.zs),.fz 0 t.ss.length (cl svC t.ss),.mp 1 0]),(1,.map (me cm idA es)),(2,.box [.sl 3 v o m 1,tf true]),(3,.row (cl bc w) 1 v)]) (bZ (.tup [.fz 0 (iE t a (w.drop o++b)).length (cl bc (iE t a (w.drop o++b))),i64 0]) [(0,.box [.fz 0 t.zs.length (cl zoC t.zs),.fz 0 t.ss.length (cl svC t.ss),.mp 1 0]),(1,.map (me cm idA es)),(2,.box [.sl 3 (v+1) ((w.drop o++b).length-(aJ (w.drop o++b)).2.length) (aJ (w.drop o++b)).2.length 1,tf true]),(3,.row (cl bc (w.drop o++b)) 1 ((v+1)))]):=by
 have hs1:=ht.2.2.1;have hW:(w.drop o++b).length=m+b.length:=by simp;omega
 have hfc:=iA (w.drop o++b);refine AC.intro te_ok (fn:=Tryz.f11) ⟨Tryz.func11,rfl,rfl⟩ (aE rfl) ?_;iterate 2 refine ab ?_
 refine ai rfl rfl (aS 100) ?_;refine ai rfl rfl (aR (0) bc) ?_;iterate 12 refine ab ?_
 refine AOps.gcons rfl rfl rfl rfl rfl ((OpOk.bool_is (c:=false) (qh) (rfl))) ?_;iterate 12 refine ab ?_
 refine ai rfl rfl (ca [] [_]) ?_;refine AOps.cons rfl rfl ((OpOk.bool_is (c:=true) (aj (0) (hc:=(fF t.ss 0 0 1 [.fp 1 [i64 a]] (cF a) (by omega) rfl (fun s hs=>ot s a 1)))) (hk))) ?_;iterate 12 refine ab ?_
 refine ai rfl rfl (ey cm (f:=idA) (m:=es) (k:=c) (r:=.ptr 2 0 0) (hr:=by rw [hes];rfl)) ?_;iterate 6 refine ab ?_
 refine ai rfl rfl (bD 800 1 bc) ?_;iterate 9 refine ab ?_
 refine ai rfl rfl (ey cm (f:=idA) (m:=es) (k:=c) (r:=.ptr 2 0 0) (hr:=by rw [hes];rfl)) ?_;refine ab ?_;refine ai rfl rfl (ay (0) [(0,2),(1,3)] [] [(_,_),(_,_)] (hc:=(Ba w b v o m 0 hm (by omega)))) ?_;iterate 4 refine ab ?_
 refine AWp.loopR (α:=Nat×List UInt8×Nat) [10,12,52,53,54,55,56,57,58,59,60,61,62] (fun x_=>[(52,i64 (x_.1)),(10,.sl 800 (x_.2.2) 0 (x_.2.1).length 1)]) (fun x_=>[(800,.row (cl bc (x_.2.1)) 1 (x_.2.2))]) (fun x_=>(x_.1)≤(aJ (w.drop o++b)).1.length∧(x_.2.1)=((aJ (w.drop o++b)).1.take (x_.1)).flatMap (e7 t a)) (fun x_=>(aJ (w.drop o++b)).1.length-(x_.1)) (0,[],0) ?_ (Back.mk' (HasT.cons (HasT.cons HasT.nil)) (HasH.cons HasH.nil)) ?_
 ·
  exact ⟨Nat.zero_le _,rfl⟩
 ·
  rintro ⟨i,out,vo⟩ hI9;change i≤(aJ (w.drop o++b)).1.length∧out=((aJ (w.drop o++b)).1.take i).flatMap (e7 t a) at hI9;obtain ⟨hi,ho⟩:=hI9;refine AWp.as (s':=AS.over _ [10,12,52,53,54,55,56,57,58,59,60,61,62] [(52,i64 i),(10,.sl 800 vo 0 out.length 1)] [(800,.row (cl bc out) 1 vo)]) rfl ?_;have hol:out.length≤65537*i:=by have h1:=r6 t a ((aJ (w.drop o++b)).1.take i);rw [← ho,List.length_take] at h1;omega
  iterate 2 refine ab ?_
  refine am (fun h9_0=>?_) (fun h9_0=>?_)
  ·
   iterate 13 refine ab ?_
   have hfl:=jq (w.drop o++b) _ (aq (l:=(aJ (w.drop o++b)).1) (i:=i) (by omega));have han:=tJ t a ((aJ (w.drop o++b)).1.getD i default);have han2:=han;simp only [List.getD_eq_getElem?_getD] at han2;iterate 4 refine ab ?_
   refine ai rfl rfl (aj (0) (hA:=by exact ⟨xm rfl .box rfl rfl,km rfl,km rfl,trivial⟩) (hc:=(vv t a ((aJ (w.drop o++b)).1.getD i default) ht hfl))) ?_;iterate 7 refine ab ?_
   refine ⟨(i+1,out++e7 t a ((aJ (w.drop o++b)).1.getD i default),vo+1),?_,Back.mk' (HasT.cons (HasT.cons HasT.nil)) (HasH.cons HasH.nil),?_⟩
   ·
    try dsimp only
    exact ⟨by omega,by rw [de (by omega),← ho]⟩
   ·
    try dsimp only
    omega
  ·
   iterate 6 refine ab ?_
   obtain rfl:i=(aJ (w.drop o++b)).1.length:=by omega
   rw [List.take_length] at ho;obtain rfl:out=iE t a (w.drop o++b):=ho;iterate 5 refine ab ?_
   refine aQ (0) [] [_,_] [_,_] [(_,_),(_,_),(_,_),(_,_)] (hobj:=⟨rfl,⟨_,rfl,ar ⟨aK rfl,aK rfl,bw rfl rfl,trivial⟩⟩,rfl,⟨_,rfl,x9 (c:=2) he rfl rfl⟩,rfl,⟨_,rfl,ar ⟨bd rfl rfl,aK rfl,trivial⟩⟩,rfl,⟨_,rfl,aF (fun _=>rfl)⟩,trivial⟩) ?_;rfl
theorem yU (t:Tr) (es:List (Int×AV)) (c a:Int) (b:List UInt8) (ht:cx t) (hk:t.ss.any (cF a)=true) (hes:bg es c=none) (he:PlV es) (hw:b.length≤2147483648):AC Tryz.prog 11 [.ptr 0 0 0,i64 c,i64 a,.fz 0 b.length (cl bc b)] (ao [(0,.box [.fz 0 t.zs.length (cl zoC t.zs),.fz 0 t.ss.length (cl svC t.ss),.mp 1 0]),(1,.map (me cm idA es))]) (bZ (.tup [.fz 0 (iE t a b).length (cl bc (iE t a b)),i64 0]) [(0,.box [.fz 0 t.zs.length (cl zoC t.zs),.fz 0 t.ss.length (cl svC t.ss),.mp 1 0]),(1,.map (me cm idA (cp es c (.ptr 7058 0 0)))),(7058,.box [.sl 7059 1 (b.length-(aJ b).2.length) (aJ b).2.length 1,tf true]),(7059,.row (cl bc b) 1 (1))]):=by
 have hs1:=ht.2.2.1;have hfc:=iA b;refine AC.intro te_ok (fn:=Tryz.f11) ⟨Tryz.func11,rfl,rfl⟩ (aE rfl) ?_;iterate 2 refine ab ?_
 refine ai rfl rfl (aS 100) ?_;refine ai rfl rfl (aR (0) bc) ?_;iterate 12 refine ab ?_
 refine AOps.gcons rfl rfl rfl rfl rfl ((OpOk.bool_is (c:=false) (qh) (rfl))) ?_;iterate 12 refine ab ?_
 refine ai rfl rfl (ca [] [_]) ?_;refine AOps.cons rfl rfl ((OpOk.bool_is (c:=true) (aj (0) (hc:=(fF t.ss 0 0 1 [.fp 1 [i64 a]] (cF a) (by omega) rfl (fun s hs=>ot s a 1)))) (hk))) ?_;iterate 12 refine ab ?_
 refine ai rfl rfl (ey cm (f:=idA) (m:=es) (k:=c) (r:=.v (.pointer none)) (hr:=by rw [hes];rfl)) ?_;iterate 3 refine ab ?_
 refine bj [ag,ag,ag,ag,ag,bv [(7058,_),(7059,_)],bv [(1,_)]] [af [0] [] 38,af [37] [0] 39,af [38] [0] 40,af [39] [0] 41,af [1] [] 42,af [] [7058,7059] 43 [7058,7059],af [40,41,42] [1,7058] 0 [1]] rfl ⟨ah,ah,ah,ah,ah,aC fun _=>aN rfl rfl (ay (0) [] [(8,7058),(9,7059)] [(_,_),(_,_)] (hc:=tH)),aC fun _=>aN rfl rfl (gf cm (f:=idA) (m:=es) (k:=c) (.ptr 7058 0 0)),trivial⟩ ?_;iterate 2 refine ab ?_
 refine ai rfl rfl (bD 800 1 bc) ?_;iterate 9 refine ab ?_
 refine ai rfl rfl (ey cm (f:=idA) (m:=cp es c (.ptr 7058 0 0)) (k:=c) (r:=.ptr 7058 0 0) (hr:=by rw [iR,if_pos rfl];rfl)) ?_;refine ab ?_;refine ai rfl rfl (ay (0) [(0,7058),(1,7059)] [] [(_,_),(_,_)] (hc:=(Ba [] b 0 0 0 0 rfl (by omega)))) ?_;simp only [List.drop_zero,List.nil_append];iterate 4 refine ab ?_
 refine AWp.loopR (α:=Nat×List UInt8×Nat) [10,12,52,53,54,55,56,57,58,59,60,61,62] (fun x_=>[(52,i64 (x_.1)),(10,.sl 800 (x_.2.2) 0 (x_.2.1).length 1)]) (fun x_=>[(800,.row (cl bc (x_.2.1)) 1 (x_.2.2))]) (fun x_=>(x_.1)≤(aJ b).1.length∧(x_.2.1)=((aJ b).1.take (x_.1)).flatMap (e7 t a)) (fun x_=>(aJ b).1.length-(x_.1)) (0,[],0) ?_ (Back.mk' (HasT.cons (HasT.cons HasT.nil)) (HasH.cons HasH.nil)) ?_
 ·
  exact ⟨Nat.zero_le _,rfl⟩
 ·
  rintro ⟨i,out,vo⟩ hI9;change i≤(aJ b).1.length∧out=((aJ b).1.take i).flatMap (e7 t a) at hI9;obtain ⟨hi,ho⟩:=hI9;refine AWp.as (s':=AS.over _ [10,12,52,53,54,55,56,57,58,59,60,61,62] [(52,i64 i),(10,.sl 800 vo 0 out.length 1)] [(800,.row (cl bc out) 1 vo)]) rfl ?_;have hol:out.length≤65537*i:=by have h1:=r6 t a ((aJ b).1.take i);rw [← ho,List.length_take] at h1;omega
  iterate 2 refine ab ?_
  refine am (fun h9_0=>?_) (fun h9_0=>?_)
  ·
   iterate 13 refine ab ?_
   have hfl:=jq b _ (aq (l:=(aJ b).1) (i:=i) (by omega));have han:=tJ t a ((aJ b).1.getD i default);have han2:=han;simp only [List.getD_eq_getElem?_getD] at han2;iterate 4 refine ab ?_
   refine ai rfl rfl (aj (0) (hA:=by exact ⟨xm rfl .box rfl rfl,km rfl,km rfl,trivial⟩) (hc:=(vv t a ((aJ b).1.getD i default) ht hfl))) ?_;iterate 7 refine ab ?_
   refine ⟨(i+1,out++e7 t a ((aJ b).1.getD i default),vo+1),?_,Back.mk' (HasT.cons (HasT.cons HasT.nil)) (HasH.cons HasH.nil),?_⟩
   ·
    try dsimp only
    exact ⟨by omega,by rw [de (by omega),← ho]⟩
   ·
    try dsimp only
    omega
  ·
   iterate 6 refine ab ?_
   obtain rfl:i=(aJ b).1.length:=by omega
   rw [List.take_length] at ho;obtain rfl:out=iE t a b:=ho;iterate 5 refine ab ?_
   refine aQ (0) [] [_,_] [_,_] [(_,_),(_,_),(_,_),(_,_)] (hobj:=⟨rfl,⟨_,rfl,ar ⟨aK rfl,aK rfl,bw rfl rfl,trivial⟩⟩,rfl,⟨_,rfl,Aj he rfl rfl⟩,rfl,⟨_,rfl,ar ⟨bd rfl rfl,aK rfl,trivial⟩⟩,rfl,⟨_,rfl,aF (fun _=>rfl)⟩,trivial⟩) ?_;rfl
end
section
attribute [local irreducible] AWp AOps
def pcK (k:Nat):Option Nat→AV
 | none=>.ptr k 0 0
 | some b=>.v (.pointer (some ⟨b,0,none⟩))
def cnC (k:Nat) (p:Int×Option Nat):List AV:=[i64 p.1,pcK k p.2]
theorem jv (k:Nat):∀ p,(cnC k p).all AV.one=true:=fun ⟨a,x⟩=>by cases x<;>rfl
abbrev Cns:=List (Int×Option Nat)
section
variable {ρ:Nat→Bool} {σ:IdMap} {h:aX} {lo hi:Nat} {rn:Bool}
theorem wc {k k':Nat}:∀ {xs:Cns},(∀ p∈xs,p.2=none→σ.get k'=some k∧ρ k'=false)→LVals ρ σ h lo hi (cl (cnC k) xs) (cl (cnC k') xs)
 | [],_=>trivial
 | (a,none)::xs,e=>⟨aK rfl,aV (e _ List.mem_cons_self rfl).1 (e _ List.mem_cons_self rfl).2,wc fun p hp=>e p (List.mem_cons_of_mem _ hp)⟩
 | (a,some b)::xs,e=>⟨aK rfl,aK rfl,wc fun p hp=>e p (List.mem_cons_of_mem _ hp)⟩
theorem fW {k k' e v:Nat} {xs:Cns} (hx:∀ p∈xs,p.2=none→σ.get k'=some k∧ρ k'=false):LObj ρ σ h lo hi false (.row (cl (cnC k) xs) e v) (.row (cl (cnC k') xs) e v):=⟨⟨rfl,rfl⟩,rfl,wc hx⟩
theorem sD {τ:Nat→Nat} {k k':Nat} (hk:τ k=k'):∀ (xs:Cns),AV.rens τ (cl (cnC k) xs)=cl (cnC k') xs
 | []=>rfl
 | (a,none)::xs=>by
  have e:=sD hk xs;rw [c6,c6,← e];show [i64 a,AV.ptr (τ k) 0 0]++_=_;rw [hk];rfl
 | (a,some b)::xs=>by rw [c6,c6,← sD hk xs];rfl
theorem xi {τ:Nat→Nat} {k k' e v:Nat} {xs:Cns} (hk:τ k=k'):(AObj.row (cl (cnC k) xs) e v).ren τ=.row (cl (cnC k') xs) e v:=by
 show AObj.grow none (AV.rens τ (cl (cnC k) xs)) e v=_;rw [sD hk]
theorem iw {k lv:Nat}:∀ (xs:Cns),AV.levs lv (cl (cnC k) xs)=true
 | []=>rfl
 | (a,none)::xs=>iw xs
 | (a,some b)::xs=>iw xs
theorem l7 {k:Nat} {S:Nat→Bool}:∀ {xs:Cns},(∀ p∈xs,p.2=none→S k=true)→AV.refss S (cl (cnC k) xs)=true
 | [],_=>rfl
 | (a,none)::xs,e=>by
  show (S k&&AV.refss S (cl (cnC k) xs))=true;rw [e _ List.mem_cons_self rfl,l7 fun p hp=>e p (List.mem_cons_of_mem _ hp)];rfl
 | (a,some b)::xs,e=>l7 (xs:=xs) fun p hp=>e p (List.mem_cons_of_mem _ hp)
theorem DI {k lv e v:Nat} {S:Nat→Bool} {xs:Cns} (hx:∀ p∈xs,p.2=none→S k=true):(AObj.row (cl (cnC k) xs) e v).lev lv=true∧ObjIn S (.row (cl (cnC k) xs) e v):=⟨iw xs,l7 hx⟩
end
def All (xs:Cns):Prop:=∀ p∈xs,p.2≠none
theorem A8 {κ β:Type} [DecidableEq κ] {m:List (κ×β)} {k:κ} {p:κ×β} (h:p∈eJ m k):p∈m:=by
 induction m with
 | nil=>exact h
 | cons q m ih=>
  obtain ⟨a,b⟩:=q;simp only [eJ] at h;split at h
  · exact List.mem_cons_of_mem _ h
  · rcases List.mem_cons.1 h with rfl|h
    · exact List.mem_cons_self
    · exact List.mem_cons_of_mem _ (ih h)
def fgC {α:Type} (xs:List α) (j:Nat):List α:=([]++(xs.drop 0).take j)++(xs.drop (j+1)).take (xs.length-(j+1))
theorem AD {α:Type} (xs:List α) (j:Nat):fgC xs j=xs.take j++xs.drop (j+1):=by
 have h:(xs.drop (j+1)).take (xs.length-(j+1))=xs.drop (j+1):=List.take_of_length_le (by simp);unfold fgC;rw [h,List.drop_zero,List.nil_append]
theorem EU {xs:Cns} {j:Nat} (ha:All xs):All (fgC xs j):=fun p hp=>by
 rw [AD] at hp;rcases List.mem_append.1 hp with h|h
 · exact ha p (List.mem_of_mem_take h)
 · exact ha p (List.mem_of_mem_drop h)
def doC (c a:Int) (b:List UInt8) (m:Msg) (k:Int) (f:Bool):List AV:=[i64 c,i64 a,.fz 0 b.length (cl bc b)]++(dn m++[i64 k,tf f])
def byO (b:List UInt8) (m:Msg):List UInt8:=if 0<b.length then b else pfB (dI m)
theorem AF (m:Msg):(dI m).length≤65535:=by
 by_cases h:gr m=0
 · exact pD h
 · have:dI m=[]:=by
    unfold gr at h;unfold dI;split
    · rename_i hc
      rw [if_pos hc] at h;split
      · rename_i hw;rw [if_pos hw] at h;exact absurd rfl h
      · rfl
    · rfl
   rw [this];simp
theorem vw (t:Tr) (es:List (Int×AV)) (c:Int) (ad:Addr) (hes:bg es c=some (.v (.pointer (some ad)))) (he:PlV es):AC Tryz.prog 8 [.ptr 0 0 0,i64 c] (ao [(0,.box [.fz 0 t.zs.length (cl zoC t.zs),.fz 0 t.ss.length (cl svC t.ss),.mp 1 0]),(1,.map (me cm idA es))]) (bZ (i64 0) [(0,.box [.fz 0 t.zs.length (cl zoC t.zs),.fz 0 t.ss.length (cl svC t.ss),.mp 1 0]),(1,.map (me cm idA (eJ es c)))]):=by
 refine AC.intro te_ok (fn:=Tryz.f8) ⟨Tryz.func8,rfl,rfl⟩ (aE rfl) ?_;iterate 15 refine ab ?_
 refine AOps.gcons rfl rfl rfl rfl rfl ((OpOk.bool_is (c:=false) (qh) (rfl))) ?_;iterate 11 refine ab ?_
 refine ai rfl rfl (ey cm (f:=idA) (m:=es) (k:=c) (r:=.v (.pointer (some ad))) (hr:=by rw [hes];rfl)) ?_;iterate 12 refine ab ?_
 refine ai rfl rfl (zG cm (f:=idA) (m:=es) (k:=c)) ?_;iterate 6 refine ab ?_
 refine aQ (0) [] [_] [_] [(_,_),(_,_)] (hobj:=⟨rfl,⟨_,rfl,ar ⟨aK rfl,aK rfl,bw rfl rfl,trivial⟩⟩,rfl,⟨_,rfl,sY (fun p hp=>he p (A8 hp))⟩,trivial⟩) ?_;rfl
theorem kO (t:Tr) (es:List (Int×AV)) (c:Int) (hes:bg es c=none) (he:PlV es):AC Tryz.prog 8 [.ptr 0 0 0,i64 c] (ao [(0,.box [.fz 0 t.zs.length (cl zoC t.zs),.fz 0 t.ss.length (cl svC t.ss),.mp 1 0]),(1,.map (me cm idA es))]) (bZ (i64 1) [(0,.box [.fz 0 t.zs.length (cl zoC t.zs),.fz 0 t.ss.length (cl svC t.ss),.mp 1 0]),(1,.map (me cm idA es))]):=by
 refine AC.intro te_ok (fn:=Tryz.f8) ⟨Tryz.func8,rfl,rfl⟩ (aE rfl) ?_;iterate 15 refine ab ?_
 refine AOps.gcons rfl rfl rfl rfl rfl ((OpOk.bool_is (c:=false) (qh) (rfl))) ?_;iterate 11 refine ab ?_
 refine ai rfl rfl (ey cm (f:=idA) (m:=es) (k:=c) (r:=.v (.pointer none)) (hr:=by rw [hes];rfl)) ?_;iterate 9 refine ab ?_
 refine aQ (0) [] [_] [_] [(_,_),(_,_)] (hobj:=⟨rfl,⟨_,rfl,ar ⟨aK rfl,aK rfl,bw rfl rfl,trivial⟩⟩,rfl,⟨_,rfl,sY he⟩,trivial⟩) ?_;rfl
theorem kL (t:Tr) (xs:Cns) (c:Int) (v:Nat) (hl:xs.length≤1000) (ha:All xs) (hn:∀ p∈xs,p.1≠c):AC Tryz.prog 9 [.ptr 0 0 0,i64 c] (ao [(0,.box [.fz 0 t.zs.length (cl zoC t.zs),.fz 0 t.ss.length (cl svC t.ss),.sl 1 v 0 xs.length 2]),(1,.row (cl (cnC 8) xs) 2 v)]) (bZ (i64 1) [(0,.box [.fz 0 t.zs.length (cl zoC t.zs),.fz 0 t.ss.length (cl svC t.ss),.sl 1 v 0 xs.length 2]),(1,.row (cl (cnC 8) xs) 2 v)]):=by
 refine AC.intro te_ok (fn:=Tryz.f9) ⟨Tryz.func9,rfl,rfl⟩ (aE rfl) ?_;iterate 15 refine ab ?_
 refine AWp.loopR (α:=Nat) [4,5,6,12,13,14,15,16,17,18,19,20,21,22,23,24,25,26,27,28,29,30,31,32,33,34,35,36,37,38,39,40] (fun i=>[(12,i64 i)]) (fun i=>[]) (fun i=>i≤xs.length∧∀ j,j<i→(xs.getD j default).1≠c) (fun i=>xs.length-i) 0 ?_ (Back.mk' (HasT.cons HasT.nil) HasH.nil) ?_
 ·
  exact ⟨Nat.zero_le _,fun j hj=>absurd hj (Nat.not_lt_zero j)⟩
 ·
  rintro i ⟨hi,hno⟩;iterate 2 refine ab ?_
  refine am (fun h2_0=>?_) (fun h2_0=>?_)
  ·
   iterate 11 refine ab ?_
   refine ai rfl rfl (ap 403) ?_;refine ab ?_;refine ai rfl rfl (cI (h1:=by exact jv 8 _)) ?_;iterate 6 refine ab ?_
   refine am (fun h4_3=>?_) (fun h4_3=>?_)
   ·
    exfalso;exact hn _ (aq (l:=xs) (i:=i) (by omega)) h4_3
   ·
    iterate 7 refine ab ?_
    refine ⟨i+1,?_,Back.mk' (HasT.cons HasT.nil) HasH.nil,?_⟩
    ·
     refine ⟨by omega,fun j hj=>?_⟩;rcases Nat.lt_or_ge j i with h2|h2
     · exact hno j h2
     · obtain rfl:j=i:=by omega
       exact h4_3
    ·
     omega
  ·
   iterate 9 refine ab ?_
   refine aQ (0) [] [_] [_] [(_,_),(_,_)] (hobj:=⟨rfl,⟨_,rfl,ar ⟨aK rfl,aK rfl,bd rfl rfl,trivial⟩⟩,rfl,⟨_,rfl,fW (fun p hp hn=>absurd hn (ha p hp))⟩,trivial⟩) ?_;rfl
theorem vq (t:Tr) (xs:Cns) (c:Int) (v:Nat) (j:Nat) (hl:xs.length≤1000) (ha:All xs) (hj:j<xs.length) (h1:(xs.getD j default).1=c) (h2:∀ i,i<j→(xs.getD i default).1≠c):AC Tryz.prog 9 [.ptr 0 0 0,i64 c] (ao [(0,.box [.fz 0 t.zs.length (cl zoC t.zs),.fz 0 t.ss.length (cl svC t.ss),.sl 1 v 0 xs.length 2]),(1,.row (cl (cnC 8) xs) 2 v)]) (bZ (i64 0) [(0,.box [.fz 0 t.zs.length (cl zoC t.zs),.fz 0 t.ss.length (cl svC t.ss),.sl 601 2 0 (fgC xs j).length 2]),(1,.row (cl (cnC 8) xs) 2 v),(601,.row (cl (cnC 8) (fgC xs j)) 2 2)]):=by
 refine AC.intro te_ok (fn:=Tryz.f9) ⟨Tryz.func9,rfl,rfl⟩ (aE rfl) ?_;iterate 15 refine ab ?_
 refine AWp.loopR (α:=Nat) [4,5,6,12,13,14,15,16,17,18,19,20,21,22,23,24,25,26,27,28,29,30,31,32,33,34,35,36,37,38,39,40] (fun i=>[(12,i64 i)]) (fun i=>[]) (fun i=>i≤xs.length∧∀ j,j<i→(xs.getD j default).1≠c) (fun i=>xs.length-i) 0 ?_ (Back.mk' (HasT.cons HasT.nil) HasH.nil) ?_
 ·
  exact ⟨Nat.zero_le _,fun j hj=>absurd hj (Nat.not_lt_zero j)⟩
 ·
  rintro i ⟨hi,hno⟩;iterate 2 refine ab ?_
  refine am (fun h2_0=>?_) (fun h2_0=>?_)
  ·
   iterate 11 refine ab ?_
   refine ai rfl rfl (ap 403) ?_;refine ab ?_;refine ai rfl rfl (cI (h1:=by exact jv 8 _)) ?_;iterate 6 refine ab ?_
   refine am (fun h4_3=>?_) (fun h4_3=>?_)
   ·
    iterate 3 refine ab ?_
    obtain rfl:i=j:=by
     rcases Nat.lt_trichotomy i j with h|h|h
     · exact absurd h4_3 (h2 i h)
     · exact h
     · exact absurd h1 (hno j h)
    refine bj [ag,bv [(601,_)],ag,ag,ag,ag,ag,ag,bv [(601,_)],ag,ag,ag,ag,ag,ag,ag,bv [(601,_)],ag,ag,bv [(0,_)]] [af [0] [] 22,af [] [601] 23 [601],af [0] [] 24,af [23] [0] 25,af [24] [0] 26,af [25] [0] 27,af [5] [] 28,af [26,27] [1] 29,af [22,28] [1,601] 30 [601],af [0] [] 31,af [30] [0] 32,af [31] [0] 33,af [32] [0] 34,af [5] [] 35,af [34] [] 36,af [33,35] [1] 37,af [29,36] [1,601] 38 [601],af [21] [0] 39,af [38] [0] 40,af [37,39] [0,601] 0 [0]] rfl ⟨ah,aC fun _=>aN rfl rfl (bO 601 (cnC 8) [] []),ah,ah,ah,ah,ah,ah,aC fun _=>aN rfl rfl (ue (f:=cnC 8) (l:=[]) (k:=xs) 0 i (by omega) (jv 8)),ah,ah,ah,ah,ah,ah,ah,aC fun _=>aN rfl rfl (ue (f:=cnC 8) (k:=xs) (i+1) (xs.length-(i+1)) (by omega) (jv 8) (hoff:=by rw [show Int.toNat ((i:Int)+1)=i+1 by omega,Nat.zero_add])),ah,ah,ah,trivial⟩ ?_;iterate 5 refine ab ?_
    refine aQ (0) [] [_] [_] [(_,_),(_,_),(_,_)] (hobj:=⟨rfl,⟨_,rfl,ar ⟨aK rfl,aK rfl,bd rfl rfl,trivial⟩⟩,rfl,⟨_,rfl,fW (fun p hp hn=>absurd hn (ha p hp))⟩,rfl,⟨_,rfl,fW (fun p hp hn=>absurd hn (EU ha p hp))⟩,trivial⟩) ?_;rfl
   ·
    iterate 7 refine ab ?_
    refine ⟨i+1,?_,Back.mk' (HasT.cons HasT.nil) HasH.nil,?_⟩
    ·
     refine ⟨by omega,fun j hj=>?_⟩;rcases Nat.lt_or_ge j i with h2|h2
     · exact hno j h2
     · obtain rfl:j=i:=by omega
       exact h4_3
    ·
     omega
  ·
   exfalso;exact hno j (by omega) h1
theorem j5 (c a:Int) (b:List UInt8) (m:Msg) (k:Int) (fg:Bool) (hm:gp m) (hn:oB m):AC Tryz.prog 10 [.agg (doC c a b m k fg)] emp (Ret (.fz 0 (byO b m).length (cl bc (byO b m)))):=by
 refine AC.intro te_ok (fn:=Tryz.f10) ⟨Tryz.func10,rfl,rfl⟩ (aE rfl) ?_;iterate 2 refine ab ?_
 refine ai rfl rfl (aS 100) ?_;refine ai rfl rfl (aR (0) bc) ?_;iterate 7 refine ab ?_
 refine am (fun h1_3=>?_) (fun h1_3=>?_)
 ·
  iterate 9 refine ab ?_
  refine ak (0) [_] [_] ?_;rw [byO,if_pos (by omega)];rfl
 ·
  iterate 7 refine ab ?_
  refine ai rfl rfl (aj (0) (hc:=(dO m hm hn))) ?_;iterate 8 refine ab ?_
  have hle:=AF m;refine ab ?_;refine ai rfl rfl (aj (0) (hc:=(dL (dI m) 0 (by omega)))) ?_;iterate 12 refine ab ?_
  refine ak (0) [_] [_] ?_;rw [byO,if_neg (by omega)];rfl
end
section
attribute [local irreducible] AWp AOps
theorem vh (t:Tr) (xs:Cns) (c:Int) (v:Nat) (q:List UInt8) (j:Nat) (hl:xs.length≤1000) (hj:j<xs.length) (h1:(xs.getD j default).1=c) (h2:∀ i,i<j→(xs.getD i default).1≠c) (h3:(xs.getD j default).2=none):AC Tryz.prog 29 [.ptr 0 0 0,i64 c] (ao [(0,.box [.fz 0 t.zs.length (cl zoC t.zs),.fz 0 t.ss.length (cl svC t.ss),.sl 1 v 0 xs.length 2]),(1,.row (cl (cnC 2) xs) 2 v),(2,.box [.fz 0 q.length (cl bc q)])]) (bZ (.ptr 2 0 0) [(0,.box [.fz 0 t.zs.length (cl zoC t.zs),.fz 0 t.ss.length (cl svC t.ss),.sl 1 v 0 xs.length 2]),(1,.row (cl (cnC 2) xs) 2 v),(2,.box [.fz 0 q.length (cl bc q)])]):=by
 refine AC.intro te_ok (fn:=Tryz.f29) ⟨Tryz.func29,rfl,rfl⟩ (aE rfl) ?_;iterate 15 refine ab ?_
 refine AWp.loopR (α:=Nat) [4,6,13,14,15,16,17,18,19,20,21,22,23] (fun i=>[(13,i64 i)]) (fun i=>[]) (fun i=>i≤xs.length∧∀ j,j<i→(xs.getD j default).1≠c) (fun i=>xs.length-i) 0 ?_ (Back.mk' (HasT.cons HasT.nil) HasH.nil) ?_
 ·
  exact ⟨Nat.zero_le _,fun j hj=>absurd hj (Nat.not_lt_zero j)⟩
 ·
  rintro i ⟨hi,hno⟩;iterate 2 refine ab ?_
  refine am (fun h2_0=>?_) (fun h2_0=>?_)
  ·
   iterate 10 refine ab ?_
   refine ai rfl rfl (ap 402) ?_;refine ai rfl rfl (cI (h1:=by exact jv 2 _)) ?_;iterate 6 refine ab ?_
   refine am (fun h4_3=>?_) (fun h4_3=>?_)
   ·
    iterate 4 refine ab ?_
    obtain rfl:i=j:=by
     rcases Nat.lt_trichotomy i j with h|h|h
     · exact absurd h4_3 (h2 i h)
     · exact h
     · exact absurd h1 (hno j h)
    have he2:pcK 2 (xs.getD (Int.toNat (i:Int)) default).2=.ptr 2 0 0:=by
     show pcK 2 (xs.getD i default).2=_;rw [h3];rfl
    refine ab ?_;refine AOps.cons rfl rfl (OpOk.to (bb (z:=pcK 2 (xs.getD (Int.toNat (i:Int)) default).2) (hy:=rfl)) he2) ?_;iterate 3 refine ab ?_
    refine aQ (0) [] [_] [.ptr 2 0 0] [(_,_),(_,_),(_,_)] (hobj:=⟨rfl,⟨_,rfl,ar ⟨aK rfl,aK rfl,bd rfl rfl,trivial⟩⟩,rfl,⟨_,rfl,fW (fun p hp hn=>⟨rfl,rfl⟩)⟩,rfl,⟨_,rfl,ar ⟨aK rfl,trivial⟩⟩,trivial⟩) ?_;rfl
   ·
    iterate 7 refine ab ?_
    refine ⟨i+1,?_,Back.mk' (HasT.cons HasT.nil) HasH.nil,?_⟩
    ·
     refine ⟨by omega,fun j hj=>?_⟩;rcases Nat.lt_or_ge j i with h2|h2
     · exact hno j h2
     · obtain rfl:j=i:=by omega
       exact h4_3
    ·
     omega
  ·
   exfalso;exact hno j (by omega) h1
theorem vi (t:Tr) (xs:Cns) (c:Int) (v:Nat) (hl:xs.length≤1000) (ha:All xs) (hn:∀ p∈xs,p.1≠c):AC Tryz.prog 29 [.ptr 0 0 0,i64 c] (ao [(0,.box [.fz 0 t.zs.length (cl zoC t.zs),.fz 0 t.ss.length (cl svC t.ss),.sl 1 v 0 xs.length 2]),(1,.row (cl (cnC 8) xs) 2 v)]) (bZ (.ptr 8 0 0) [(0,.box [.fz 0 t.zs.length (cl zoC t.zs),.fz 0 t.ss.length (cl svC t.ss),.sl 1 (v+1) 0 (xs++[(c,none)]).length 2]),(1,.row (cl (cnC 8) (xs++[(c,none)])) 2 (v+1)),(8,.box [.fz 0 ([]:List UInt8).length (cl bc [])])]):=by
 refine AC.intro te_ok (fn:=Tryz.f29) ⟨Tryz.func29,rfl,rfl⟩ (aE rfl) ?_;iterate 15 refine ab ?_
 refine AWp.loopR (α:=Nat) [4,6,13,14,15,16,17,18,19,20,21,22,23] (fun i=>[(13,i64 i)]) (fun i=>[]) (fun i=>i≤xs.length∧∀ j,j<i→(xs.getD j default).1≠c) (fun i=>xs.length-i) 0 ?_ (Back.mk' (HasT.cons HasT.nil) HasH.nil) ?_
 ·
  exact ⟨Nat.zero_le _,fun j hj=>absurd hj (Nat.not_lt_zero j)⟩
 ·
  rintro i ⟨hi,hno⟩;iterate 2 refine ab ?_
  refine am (fun h2_0=>?_) (fun h2_0=>?_)
  ·
   iterate 10 refine ab ?_
   refine ai rfl rfl (ap 402) ?_;refine ai rfl rfl (cI (h1:=by exact jv 8 _)) ?_;iterate 6 refine ab ?_
   refine am (fun h4_3=>?_) (fun h4_3=>?_)
   ·
    exfalso;exact hn _ (aq (l:=xs) (i:=i) (by omega)) h4_3
   ·
    iterate 7 refine ab ?_
    refine ⟨i+1,?_,Back.mk' (HasT.cons HasT.nil) HasH.nil,?_⟩
    ·
     refine ⟨by omega,fun j hj=>?_⟩;rcases Nat.lt_or_ge j i with h2|h2
     · exact hno j h2
     · obtain rfl:j=i:=by omega
       exact h4_3
    ·
     omega
  ·
   iterate 6 refine ab ?_
   refine ai rfl rfl (aL []) ?_;refine ai rfl rfl (aS 8) ?_;iterate 11 refine ab ?_
   refine ai rfl rfl (aL [(_,_),(_,_)]) ?_;refine ai rfl rfl (bO 908 (cnC 8) [(c,none)] [(_,_)]) ?_;refine ai rfl rfl (gY (f:=cnC 8) (l:=xs) (m:=[(c,none)]) (h1:=jv 8)) ?_;iterate 10 refine ab ?_
   refine aQ (0) [] [_] [.ptr 8 0 0] [(_,_),(_,_),(_,_)] (hobj:=⟨rfl,⟨_,rfl,ar ⟨aK rfl,aK rfl,bd rfl rfl,trivial⟩⟩,rfl,⟨_,rfl,fW (fun p hp hn=>⟨rfl,rfl⟩)⟩,rfl,⟨_,rfl,ar ⟨cJ,trivial⟩⟩,trivial⟩) ?_;rfl
theorem yM (t:Tr) (xs:Cns) (c a:Int) (b:List UInt8) (v:Nat) (ht:cx t) (hk:t.ss.any (cF a)=false) (ha:All xs):AC Tryz.prog 12 [.ptr 0 0 0,i64 c,i64 a,.fz 0 b.length (cl bc b)] (ao [(0,.box [.fz 0 t.zs.length (cl zoC t.zs),.fz 0 t.ss.length (cl svC t.ss),.sl 1 v 0 xs.length 2]),(1,.row (cl (cnC 8) xs) 2 v)]) (bZ (.tup [.fz 0 ([]:List UInt8).length (cl bc []),i64 1]) [(0,.box [.fz 0 t.zs.length (cl zoC t.zs),.fz 0 t.ss.length (cl svC t.ss),.sl 1 v 0 xs.length 2]),(1,.row (cl (cnC 8) xs) 2 v)]):=by
 have hs1:=ht.2.2.1;refine AC.intro te_ok (fn:=Tryz.f12) ⟨Tryz.func12,rfl,rfl⟩ (aE rfl) ?_;iterate 2 refine ab ?_
 refine ai rfl rfl (aR (0) bc) ?_;iterate 18 refine ab ?_
 refine AWp.loopR (α:=Nat) [10,12,29,30,31,32,33,34,35,36,37,38,39,40] (fun i=>[(29,i64 i),(10,tf ((t.ss.take i).any (cF a)))]) (fun i=>[]) (fun i=>i≤t.ss.length) (fun i=>t.ss.length-i) 0 ?_ (Back.mk' (HasT.cons (HasT.cons HasT.nil)) HasH.nil) ?_
 ·
  exact Nat.zero_le _
 ·
  rintro i hi;iterate 2 refine ab ?_
  refine am (fun h3_0=>?_) (fun h3_0=>?_)
  ·
   iterate 10 refine ab ?_
   refine ai rfl rfl (ap 502) ?_;iterate 3 refine ab ?_
   refine AOps.bool rfl rfl (aA) (fun h5_0=>?_) (fun h5_0=>?_)
   ·
    iterate 12 refine ab ?_
    refine ⟨i+1,?_,Back.mk' (HasT.cons (HasT.cons HasT.nil (h1:=by exact congrArg tf (by rw [dc (by omega),h5_0];rfl)) )) HasH.nil,?_⟩
    ·
     first|assumption|omega|decide|(simp;omega)|(simp [*];done)
    ·
     first|omega|(simp;omega)
   ·
    iterate 4 refine ab ?_
    refine am (fun h5_5=>?_) (fun h5_5=>?_)
    ·
     iterate 7 refine ab ?_
     refine ⟨i+1,?_,Back.mk' (HasT.cons (HasT.cons HasT.nil (h1:=by exact congrArg tf (by rw [dc (by omega),h5_0,Bool.false_or];exact (decide_eq_true h5_5).symm)) )) HasH.nil,?_⟩
     ·
      first|assumption|omega|decide|(simp;omega)|(simp [*];done)
     ·
      first|omega|(simp;omega)
    ·
     iterate 7 refine ab ?_
     refine ⟨i+1,?_,Back.mk' (HasT.cons (HasT.cons HasT.nil (h1:=by exact congrArg tf (by rw [dc (by omega),h5_0,Bool.false_or];exact (decide_eq_false h5_5).symm)) )) HasH.nil,?_⟩
     ·
      first|assumption|omega|decide|(simp;omega)|(simp [*];done)
     ·
      first|omega|(simp;omega)
  ·
   iterate 7 refine ab ?_
   obtain rfl:i=t.ss.length:=by omega
   rw [List.take_length,hk];refine AOps.cons rfl rfl ((OpOk.bool_is (c:=false) (aA) (rfl))) ?_;iterate 5 refine ab ?_
   refine ai rfl rfl (aR (0) bc) ?_;iterate 3 refine ab ?_
   refine aQ (0) [] [_,_] [_,_] [(_,_),(_,_)] (hobj:=⟨rfl,⟨_,rfl,ar ⟨aK rfl,aK rfl,bd rfl rfl,trivial⟩⟩,rfl,⟨_,rfl,fW (fun p hp hn=>absurd hn (ha p hp))⟩,trivial⟩) ?_;rfl
theorem yN (t:Tr) (xs:Cns) (c a:Int) (b q:List UInt8) (v:Nat) (j:Nat) (hl:xs.length≤1000) (hj:j<xs.length) (h1:(xs.getD j default).1=c) (h2:∀ i,i<j→(xs.getD i default).1≠c) (h3:(xs.getD j default).2=none) (ht:cx t) (hk:t.ss.any (cF a)=true) (hw:q.length+b.length≤2147483648):AC Tryz.prog 12 [.ptr 0 0 0,i64 c,i64 a,.fz 0 b.length (cl bc b)] (ao [(0,.box [.fz 0 t.zs.length (cl zoC t.zs),.fz 0 t.ss.length (cl svC t.ss),.sl 1 v 0 xs.length 2]),(1,.row (cl (cnC 2) xs) 2 v),(2,.box [.fz 0 q.length (cl bc q)])]) (bZ (.tup [.fz 0 (iE t a (q++b)).length (cl bc (iE t a (q++b))),i64 0]) [(0,.box [.fz 0 t.zs.length (cl zoC t.zs),.fz 0 t.ss.length (cl svC t.ss),.sl 1 v 0 xs.length 2]),(1,.row (cl (cnC 2) xs) 2 v),(2,.box [.fz 0 (aJ (q++b)).2.length (cl bc (aJ (q++b)).2)])]):=by
 have hs1:=ht.2.2.1;have hW:(q++b).length=q.length+b.length:=by simp
 have hfc:=iA (q++b);refine AC.intro te_ok (fn:=Tryz.f12) ⟨Tryz.func12,rfl,rfl⟩ (aE rfl) ?_;iterate 2 refine ab ?_
 refine ai rfl rfl (aR (0) bc) ?_;iterate 18 refine ab ?_
 refine AWp.loopR (α:=Nat) [10,12,29,30,31,32,33,34,35,36,37,38,39,40] (fun i=>[(29,i64 i),(10,tf ((t.ss.take i).any (cF a)))]) (fun i=>[]) (fun i=>i≤t.ss.length) (fun i=>t.ss.length-i) 0 ?_ (Back.mk' (HasT.cons (HasT.cons HasT.nil)) HasH.nil) ?_
 ·
  exact Nat.zero_le _
 ·
  rintro i hi;iterate 2 refine ab ?_
  refine am (fun h3_0=>?_) (fun h3_0=>?_)
  ·
   iterate 10 refine ab ?_
   refine ai rfl rfl (ap 502) ?_;iterate 3 refine ab ?_
   refine AOps.bool rfl rfl (aA) (fun h5_0=>?_) (fun h5_0=>?_)
   ·
    iterate 12 refine ab ?_
    refine ⟨i+1,?_,Back.mk' (HasT.cons (HasT.cons HasT.nil (h1:=by exact congrArg tf (by rw [dc (by omega),h5_0];rfl)) )) HasH.nil,?_⟩
    ·
     first|assumption|omega|decide|(simp;omega)|(simp [*];done)
    ·
     first|omega|(simp;omega)
   ·
    iterate 4 refine ab ?_
    refine am (fun h5_5=>?_) (fun h5_5=>?_)
    ·
     iterate 7 refine ab ?_
     refine ⟨i+1,?_,Back.mk' (HasT.cons (HasT.cons HasT.nil (h1:=by exact congrArg tf (by rw [dc (by omega),h5_0,Bool.false_or];exact (decide_eq_true h5_5).symm)) )) HasH.nil,?_⟩
     ·
      first|assumption|omega|decide|(simp;omega)|(simp [*];done)
     ·
      first|omega|(simp;omega)
    ·
     iterate 7 refine ab ?_
     refine ⟨i+1,?_,Back.mk' (HasT.cons (HasT.cons HasT.nil (h1:=by exact congrArg tf (by rw [dc (by omega),h5_0,Bool.false_or];exact (decide_eq_false h5_5).symm)) )) HasH.nil,?_⟩
     ·
      first|assumption|omega|decide|(simp;omega)|(simp [*];done)
     ·
      first|omega|(simp;omega)
  ·
   iterate 7 refine ab ?_
   obtain rfl:i=t.ss.length:=by omega
   rw [List.take_length,hk];refine AOps.cons rfl rfl ((OpOk.bool_is (c:=true) (aA) (rfl))) ?_;iterate 6 refine ab ?_
   refine ai rfl rfl (bD 1000 1 bc) ?_;iterate 6 refine ab ?_
   refine ai rfl rfl (ay (0) [(0,0),(1,1),(2,2)] [] [(_,_),(_,_),(_,_)] (hobj:=by exact ⟨rfl,⟨_,rfl,ar ⟨aK rfl,aK rfl,bd rfl rfl,trivial⟩⟩,rfl,⟨_,rfl,fW (fun p hp hn=>⟨rfl,rfl⟩)⟩,rfl,⟨_,rfl,ar ⟨aK rfl,trivial⟩⟩,trivial⟩) (hB:=by exact ⟨rfl,rfl,rfl,rfl,rfl,xi rfl,rfl,rfl,rfl,trivial⟩) (hL:=by exact ⟨⟨rfl,rfl⟩,DI (fun p hp hn=>rfl),⟨rfl,rfl⟩,trivial⟩) (hc:=(vh t xs c v q j hl hj h1 h2 h3))) ?_;refine ab ?_;refine ai rfl rfl (ay (0) [(0,2)] [] [(_,_)] (hc:=(xH q b 0 (by omega)))) ?_;iterate 4 refine ab ?_
   refine AWp.loopR (α:=Nat×List UInt8×Nat) [13,15,16,17,18,19,20,21,22,49,50,51,52,53,54,55,56,57,58,59,60,61,62,63,64,65,66,67,68,69,70,71,72,73,74,75,76,77,78,79,80,81,82,83,84,85,86,87] (fun x_=>[(49,i64 (x_.1)),(13,.sl 1000 (x_.2.2) 0 (x_.2.1).length 1)]) (fun x_=>[(1000,.row (cl bc (x_.2.1)) 1 (x_.2.2))]) (fun x_=>(x_.1)≤(aJ (q++b)).1.length∧(x_.2.1)=((aJ (q++b)).1.take (x_.1)).flatMap (e7 t a)) (fun x_=>(aJ (q++b)).1.length-(x_.1)) (0,[],0) ?_ (Back.mk' (HasT.cons (HasT.cons HasT.nil)) (HasH.cons HasH.nil)) ?_
   ·
    exact ⟨Nat.zero_le _,rfl⟩
   ·
    rintro ⟨i,out,vo⟩ hI11;change i≤(aJ (q++b)).1.length∧out=((aJ (q++b)).1.take i).flatMap (e7 t a) at hI11;obtain ⟨hi,ho⟩:=hI11;refine AWp.as (s':=AS.over _ [13,15,16,17,18,19,20,21,22,49,50,51,52,53,54,55,56,57,58,59,60,61,62,63,64,65,66,67,68,69,70,71,72,73,74,75,76,77,78,79,80,81,82,83,84,85,86,87] [(49,i64 i),(13,.sl 1000 vo 0 out.length 1)] [(1000,.row (cl bc out) 1 vo)]) rfl ?_;have hol:out.length≤65537*i:=by have h1:=r6 t a ((aJ (q++b)).1.take i);rw [← ho,List.length_take] at h1;omega
    iterate 2 refine ab ?_
    refine am (fun h11_0=>?_) (fun h11_0=>?_)
    ·
     iterate 8 refine ab ?_
     have hfl:=jq (q++b) _ (aq (l:=(aJ (q++b)).1) (i:=i) (by omega));iterate 7 refine ab ?_
     refine ai rfl rfl (aj (0) (hc:=(oS ((aJ (q++b)).1.getD i default) (by omega)))) ?_;iterate 3 refine ab ?_
     refine ai rfl rfl (ap 1405) ?_;iterate 7 refine ab ?_
     refine am (fun h14_1=>?_) (fun h14_1=>?_)
     ·
      iterate 7 refine ab ?_
      refine ⟨(i+1,out,vo),?_,Back.mk' (HasT.cons (HasT.cons HasT.nil)) (HasH.cons HasH.nil),?_⟩
      ·
       try dsimp only
       have hA:e7 t a ((aJ (q++b)).1.getD i default)=[]:=by rw [e7,if_pos (by omega)]
       exact ⟨by omega,by rw [de (by omega),← ho,hA];simp⟩
      ·
       try dsimp only
       omega
     ·
      iterate 4 refine ab ?_
      have hag:=Bm (b:=((aJ (q++b)).1.getD i default)) (by omega);have hser:=sw (a:=a) ht hag.2.1;have hnm:=sx (a:=a) (m:=cG ((aJ (q++b)).1.getD i default)) ht;refine bj [ag,ag,ag,ag,ag,ag,ag,ag,ag,ag,bv [(1610,_)],bv [(1610,_)],ag] [af [0] [] 62,af [61] [0] 63,af [62] [0] 64,af [63] [0] 65,af [2] [] 66,af [16] [1405] 67,af [64,65,66] [] 68,af [67] [] 61,af [60] [] 69,af [60] [] 70,af [] [1610] 19 [1610],af [18,68] [1610] 0 [1610],af [69] [] 20] rfl ⟨ah,ah,ah,ah,ah,ah,aC fun _=>aN rfl rfl (aj (0) (hc:=(vp t a (cG ((aJ (q++b)).1.getD i default)) ht hag.2.1 hag.2.2.1))),ah,ah,ah,aC fun _=>aN rfl rfl (ap 1610),ah,ah,trivial⟩ ?_;iterate 3 refine ab ?_
      refine AOps.bool rfl rfl (aA) (fun h16_0=>?_) (fun h16_0=>?_)
      ·
       iterate 7 refine ab ?_
       refine ai rfl rfl (aj (0) (hc:=(dO (fh t a (cG ((aJ (q++b)).1.getD i default))) hser hnm))) ?_;iterate 10 refine ab ?_
       refine am (fun h18_1=>?_) (fun h18_1=>?_)
       ·
        iterate 7 refine ab ?_
        refine ⟨(i+1,out,vo),?_,Back.mk' (HasT.cons (HasT.cons HasT.nil)) (HasH.cons HasH.nil),?_⟩
        ·
         try dsimp only
         have hA:e7 t a ((aJ (q++b)).1.getD i default)=[]:=by rw [e7,if_neg (by omega),if_neg (by rw [h16_0];decide),if_pos (by omega)]
         exact ⟨by omega,by rw [de (by omega),← ho,hA];simp⟩
        ·
         try dsimp only
         omega
       ·
        iterate 5 refine ab ?_
        have hle:=pD (by omega:gr (fh t a (cG ((aJ (q++b)).1.getD i default)))=0);have hpl:=nO (dI (fh t a (cG ((aJ (q++b)).1.getD i default))));have hpl2:(pfB (dI (fh t a (cG ((aJ (q++b)).1.getD (Int.toNat (i:Int)) default))))).length≤65537:=nO _;have hpl3:=hpl2;have hpl4:=hpl;simp only [List.getD_eq_getElem?_getD] at hpl3 hpl4;refine ab ?_;refine ai rfl rfl (aj (0) (hc:=(dL (dI (fh t a (cG ((aJ (q++b)).1.getD i default)))) 0 (by omega)))) ?_;iterate 16 refine ab ?_
        refine ⟨(i+1,out++pfB (dI (fh t a (cG ((aJ (q++b)).1.getD i default)))),vo+1),?_,Back.mk' (HasT.cons (HasT.cons HasT.nil)) (HasH.cons HasH.nil),?_⟩
        ·
         try dsimp only
         have hA:e7 t a ((aJ (q++b)).1.getD i default)=pfB (dI (fh t a (cG ((aJ (q++b)).1.getD i default)))):=by rw [e7,if_neg (by omega),if_neg (by rw [h16_0];decide),if_neg (by omega)]
         exact ⟨by omega,by rw [de (by omega),← ho,hA]⟩
        ·
         try dsimp only
         omega
      ·
       iterate 8 refine ab ?_
       refine ⟨(i+1,out,vo),?_,Back.mk' (HasT.cons (HasT.cons HasT.nil)) (HasH.cons HasH.nil),?_⟩
       ·
        try dsimp only
        have hA:e7 t a ((aJ (q++b)).1.getD i default)=[]:=by rw [e7,if_neg (by omega),if_pos h16_0]
        exact ⟨by omega,by rw [de (by omega),← ho,hA];simp⟩
       ·
        try dsimp only
        omega
    ·
     iterate 6 refine ab ?_
     obtain rfl:i=(aJ (q++b)).1.length:=by omega
     rw [List.take_length] at ho;obtain rfl:out=iE t a (q++b):=ho;iterate 5 refine ab ?_
     refine aQ (0) [] [_,_] [_,_] [(_,_),(_,_),(_,_)] (hobj:=⟨rfl,⟨_,rfl,ar ⟨aK rfl,aK rfl,bd rfl rfl,trivial⟩⟩,rfl,⟨_,rfl,fW (fun p hp hn=>⟨rfl,rfl⟩)⟩,rfl,⟨_,rfl,ar ⟨aK rfl,trivial⟩⟩,trivial⟩) ?_;rfl
theorem yO (t:Tr) (xs:Cns) (c a:Int) (b:List UInt8) (v:Nat) (ht:cx t) (hk:t.ss.any (cF a)=true) (hl:xs.length≤1000) (ha:All xs) (hn:∀ p∈xs,p.1≠c) (hw:b.length≤2147483648):AC Tryz.prog 12 [.ptr 0 0 0,i64 c,i64 a,.fz 0 b.length (cl bc b)] (ao [(0,.box [.fz 0 t.zs.length (cl zoC t.zs),.fz 0 t.ss.length (cl svC t.ss),.sl 1 v 0 xs.length 2]),(1,.row (cl (cnC 8) xs) 2 v)]) (bZ (.tup [.fz 0 (iE t a b).length (cl bc (iE t a b)),i64 0]) [(0,.box [.fz 0 t.zs.length (cl zoC t.zs),.fz 0 t.ss.length (cl svC t.ss),.sl 1 (v+1) 0 (xs++[(c,none)]).length 2]),(1,.row (cl (cnC 11028) (xs++[(c,none)])) 2 (v+1)),(11028,.box [.fz 0 (aJ b).2.length (cl bc (aJ b).2)])]):=by
 have hs1:=ht.2.2.1;have hfc:=iA b;refine AC.intro te_ok (fn:=Tryz.f12) ⟨Tryz.func12,rfl,rfl⟩ (aE rfl) ?_;iterate 2 refine ab ?_
 refine ai rfl rfl (aR (0) bc) ?_;iterate 18 refine ab ?_
 refine AWp.loopR (α:=Nat) [10,12,29,30,31,32,33,34,35,36,37,38,39,40] (fun i=>[(29,i64 i),(10,tf ((t.ss.take i).any (cF a)))]) (fun i=>[]) (fun i=>i≤t.ss.length) (fun i=>t.ss.length-i) 0 ?_ (Back.mk' (HasT.cons (HasT.cons HasT.nil)) HasH.nil) ?_
 ·
  exact Nat.zero_le _
 ·
  rintro i hi;iterate 2 refine ab ?_
  refine am (fun h3_0=>?_) (fun h3_0=>?_)
  ·
   iterate 10 refine ab ?_
   refine ai rfl rfl (ap 502) ?_;iterate 3 refine ab ?_
   refine AOps.bool rfl rfl (aA) (fun h5_0=>?_) (fun h5_0=>?_)
   ·
    iterate 12 refine ab ?_
    refine ⟨i+1,?_,Back.mk' (HasT.cons (HasT.cons HasT.nil (h1:=by exact congrArg tf (by rw [dc (by omega),h5_0];rfl)) )) HasH.nil,?_⟩
    ·
     first|assumption|omega|decide|(simp;omega)|(simp [*];done)
    ·
     first|omega|(simp;omega)
   ·
    iterate 4 refine ab ?_
    refine am (fun h5_5=>?_) (fun h5_5=>?_)
    ·
     iterate 7 refine ab ?_
     refine ⟨i+1,?_,Back.mk' (HasT.cons (HasT.cons HasT.nil (h1:=by exact congrArg tf (by rw [dc (by omega),h5_0,Bool.false_or];exact (decide_eq_true h5_5).symm)) )) HasH.nil,?_⟩
     ·
      first|assumption|omega|decide|(simp;omega)|(simp [*];done)
     ·
      first|omega|(simp;omega)
    ·
     iterate 7 refine ab ?_
     refine ⟨i+1,?_,Back.mk' (HasT.cons (HasT.cons HasT.nil (h1:=by exact congrArg tf (by rw [dc (by omega),h5_0,Bool.false_or];exact (decide_eq_false h5_5).symm)) )) HasH.nil,?_⟩
     ·
      first|assumption|omega|decide|(simp;omega)|(simp [*];done)
     ·
      first|omega|(simp;omega)
  ·
   iterate 7 refine ab ?_
   obtain rfl:i=t.ss.length:=by omega
   rw [List.take_length,hk];refine AOps.cons rfl rfl ((OpOk.bool_is (c:=true) (aA) (rfl))) ?_;iterate 6 refine ab ?_
   refine ai rfl rfl (bD 1000 1 bc) ?_;iterate 6 refine ab ?_
   refine ai rfl rfl (ay (0) [(0,0),(1,1)] [(8,11028)] [(_,_),(_,_),(_,_)] (hobj:=by exact ⟨rfl,⟨_,rfl,ar ⟨aK rfl,aK rfl,bd rfl rfl,trivial⟩⟩,rfl,⟨_,rfl,fW (fun p hp hn=>absurd hn (ha p hp))⟩,trivial⟩) (hB:=by exact ⟨rfl,rfl,rfl,rfl,rfl,xi rfl,rfl,rfl,rfl,trivial⟩) (hL:=by exact ⟨⟨rfl,rfl⟩,DI (fun p hp hn=>rfl),⟨rfl,rfl⟩,trivial⟩) (hc:=(vi t xs c v hl ha hn))) ?_;refine ab ?_;refine ai rfl rfl (ay (0) [(0,11028)] [] [(_,_)] (hc:=(xH [] b 0 (by simp;omega)))) ?_;simp only [List.nil_append];iterate 4 refine ab ?_
   refine AWp.loopR (α:=Nat×List UInt8×Nat) [13,15,16,17,18,19,20,21,22,49,50,51,52,53,54,55,56,57,58,59,60,61,62,63,64,65,66,67,68,69,70,71,72,73,74,75,76,77,78,79,80,81,82,83,84,85,86,87] (fun x_=>[(49,i64 (x_.1)),(13,.sl 1000 (x_.2.2) 0 (x_.2.1).length 1)]) (fun x_=>[(1000,.row (cl bc (x_.2.1)) 1 (x_.2.2))]) (fun x_=>(x_.1)≤(aJ b).1.length∧(x_.2.1)=((aJ b).1.take (x_.1)).flatMap (e7 t a)) (fun x_=>(aJ b).1.length-(x_.1)) (0,[],0) ?_ (Back.mk' (HasT.cons (HasT.cons HasT.nil)) (HasH.cons HasH.nil)) ?_
   ·
    exact ⟨Nat.zero_le _,rfl⟩
   ·
    rintro ⟨i,out,vo⟩ hI11;change i≤(aJ b).1.length∧out=((aJ b).1.take i).flatMap (e7 t a) at hI11;obtain ⟨hi,ho⟩:=hI11;refine AWp.as (s':=AS.over _ [13,15,16,17,18,19,20,21,22,49,50,51,52,53,54,55,56,57,58,59,60,61,62,63,64,65,66,67,68,69,70,71,72,73,74,75,76,77,78,79,80,81,82,83,84,85,86,87] [(49,i64 i),(13,.sl 1000 vo 0 out.length 1)] [(1000,.row (cl bc out) 1 vo)]) rfl ?_;have hol:out.length≤65537*i:=by have h1:=r6 t a ((aJ b).1.take i);rw [← ho,List.length_take] at h1;omega
    iterate 2 refine ab ?_
    refine am (fun h11_0=>?_) (fun h11_0=>?_)
    ·
     iterate 8 refine ab ?_
     have hfl:=jq b _ (aq (l:=(aJ b).1) (i:=i) (by omega));iterate 7 refine ab ?_
     refine ai rfl rfl (aj (0) (hc:=(oS ((aJ b).1.getD i default) (by omega)))) ?_;iterate 3 refine ab ?_
     refine ai rfl rfl (ap 1405) ?_;iterate 7 refine ab ?_
     refine am (fun h14_1=>?_) (fun h14_1=>?_)
     ·
      iterate 7 refine ab ?_
      refine ⟨(i+1,out,vo),?_,Back.mk' (HasT.cons (HasT.cons HasT.nil)) (HasH.cons HasH.nil),?_⟩
      ·
       try dsimp only
       have hA:e7 t a ((aJ b).1.getD i default)=[]:=by rw [e7,if_pos (by omega)]
       exact ⟨by omega,by rw [de (by omega),← ho,hA];simp⟩
      ·
       try dsimp only
       omega
     ·
      iterate 4 refine ab ?_
      have hag:=Bm (b:=((aJ b).1.getD i default)) (by omega);have hser:=sw (a:=a) ht hag.2.1;have hnm:=sx (a:=a) (m:=cG ((aJ b).1.getD i default)) ht;refine bj [ag,ag,ag,ag,ag,ag,ag,ag,ag,ag,bv [(1610,_)],bv [(1610,_)],ag] [af [0] [] 62,af [61] [0] 63,af [62] [0] 64,af [63] [0] 65,af [2] [] 66,af [16] [1405] 67,af [64,65,66] [] 68,af [67] [] 61,af [60] [] 69,af [60] [] 70,af [] [1610] 19 [1610],af [18,68] [1610] 0 [1610],af [69] [] 20] rfl ⟨ah,ah,ah,ah,ah,ah,aC fun _=>aN rfl rfl (aj (0) (hc:=(vp t a (cG ((aJ b).1.getD i default)) ht hag.2.1 hag.2.2.1))),ah,ah,ah,aC fun _=>aN rfl rfl (ap 1610),ah,ah,trivial⟩ ?_;iterate 3 refine ab ?_
      refine AOps.bool rfl rfl (aA) (fun h16_0=>?_) (fun h16_0=>?_)
      ·
       iterate 7 refine ab ?_
       refine ai rfl rfl (aj (0) (hc:=(dO (fh t a (cG ((aJ b).1.getD i default))) hser hnm))) ?_;iterate 10 refine ab ?_
       refine am (fun h18_1=>?_) (fun h18_1=>?_)
       ·
        iterate 7 refine ab ?_
        refine ⟨(i+1,out,vo),?_,Back.mk' (HasT.cons (HasT.cons HasT.nil)) (HasH.cons HasH.nil),?_⟩
        ·
         try dsimp only
         have hA:e7 t a ((aJ b).1.getD i default)=[]:=by rw [e7,if_neg (by omega),if_neg (by rw [h16_0];decide),if_pos (by omega)]
         exact ⟨by omega,by rw [de (by omega),← ho,hA];simp⟩
        ·
         try dsimp only
         omega
       ·
        iterate 5 refine ab ?_
        have hle:=pD (by omega:gr (fh t a (cG ((aJ b).1.getD i default)))=0);have hpl:=nO (dI (fh t a (cG ((aJ b).1.getD i default))));have hpl2:(pfB (dI (fh t a (cG ((aJ b).1.getD (Int.toNat (i:Int)) default))))).length≤65537:=nO _;have hpl3:=hpl2;have hpl4:=hpl;simp only [List.getD_eq_getElem?_getD] at hpl3 hpl4;refine ab ?_;refine ai rfl rfl (aj (0) (hc:=(dL (dI (fh t a (cG ((aJ b).1.getD i default)))) 0 (by omega)))) ?_;iterate 16 refine ab ?_
        refine ⟨(i+1,out++pfB (dI (fh t a (cG ((aJ b).1.getD i default)))),vo+1),?_,Back.mk' (HasT.cons (HasT.cons HasT.nil)) (HasH.cons HasH.nil),?_⟩
        ·
         try dsimp only
         have hA:e7 t a ((aJ b).1.getD i default)=pfB (dI (fh t a (cG ((aJ b).1.getD i default)))):=by rw [e7,if_neg (by omega),if_neg (by rw [h16_0];decide),if_neg (by omega)]
         exact ⟨by omega,by rw [de (by omega),← ho,hA]⟩
        ·
         try dsimp only
         omega
      ·
       iterate 8 refine ab ?_
       refine ⟨(i+1,out,vo),?_,Back.mk' (HasT.cons (HasT.cons HasT.nil)) (HasH.cons HasH.nil),?_⟩
       ·
        try dsimp only
        have hA:e7 t a ((aJ b).1.getD i default)=[]:=by rw [e7,if_neg (by omega),if_pos h16_0]
        exact ⟨by omega,by rw [de (by omega),← ho,hA];simp⟩
       ·
        try dsimp only
        omega
    ·
     iterate 6 refine ab ?_
     obtain rfl:i=(aJ b).1.length:=by omega
     rw [List.take_length] at ho;obtain rfl:out=iE t a b:=ho;iterate 5 refine ab ?_
     refine aQ (0) [] [_,_] [_,_] [(_,_),(_,_),(_,_)] (hobj:=⟨rfl,⟨_,rfl,ar ⟨aK rfl,aK rfl,bd rfl rfl,trivial⟩⟩,rfl,⟨_,rfl,fW (fun p hp hn=>⟨rfl,rfl⟩)⟩,rfl,⟨_,rfl,ar ⟨aK rfl,trivial⟩⟩,trivial⟩) ?_;rfl
end
end Go.Proofs.YthnfcmgpedppaaaGreat.Fw
