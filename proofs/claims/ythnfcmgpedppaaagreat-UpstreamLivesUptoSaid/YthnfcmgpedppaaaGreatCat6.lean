/- The texts W01c, W03, W03b, W03c, W03d, Ws, M0, M1, M2, one behind the other: what the walks and plain laws need; conditions stand with each theorem. -/
import Derived.Test.YthnfcmgpedppaaaGreatCat5
set_option linter.unusedVariables false
set_option linter.unusedSimpArgs false
set_option linter.unusedSectionVars false
set_option maxRecDepth 20000
set_option maxHeartbeats 4000000
namespace Go.Proofs.YthnfcmgpedppaaaGreat.Fw
open Go.RowKit
section
attribute [local irreducible] AWp AOps
theorem qM {n:List UInt8} (h:bm n=true):GoodN (aP n)∧n=aw (aP n)∧n.length≤255:=by
 obtain ⟨ls,g,rfl,hl⟩:=d9.1 h;rw [dr g hl];exact ⟨g,rfl,hl⟩
theorem uA (n:List UInt8) {i:Nat} (h:n.length≤i):(gN (n.drop i)).isSome=false:=by
 rw [List.drop_of_length_le h,gN];rfl
theorem xe {n:List UInt8} {i:Nat} (hi:i<n.length):(gN (n.drop i)).isSome=if (n.getD i 0).toNat=0 then decide (i+1=n.length) else if 63<(n.getD i 0).toNat then false else (gN (n.drop (i+1+(n.getD i 0).toNat))).isSome:=by
 have hg:n.getD i 0=n[i]:=by rw [List.getD_eq_getElem?_getD,List.getElem?_eq_getElem hi];rfl
 rw [List.drop_eq_getElem_cons hi,gN,← hg];generalize n.getD i 0=k;have hz:k=0↔k.toNat=0:=⟨fun e=>by rw [e];rfl,fun e=>UInt8.toNat_inj.1 (by simpa using e)⟩;by_cases h0:k.toNat=0
 · rw [if_pos (hz.2 h0),if_pos h0]
   by_cases he:i+1=n.length
   · rw [if_pos (List.drop_of_length_le (by omega)),decide_eq_true he];rfl
   · rw [if_neg (fun e=>by have:=congrArg List.length e;simp at this;omega),decide_eq_false he];rfl
 · rw [if_neg (fun e=>h0 (hz.1 e)),if_neg h0]
   by_cases h6:63<k.toNat
   · rw [if_pos (Or.inl h6),if_pos h6];rfl
   · rw [if_neg h6]
     by_cases hr:(n.drop (i+1)).length<k.toNat
     · rw [if_pos (Or.inr hr),uA n (by simp at hr;omega)];rfl
     · rw [if_neg (by omega),Option.isSome_map,List.drop_drop]
theorem D3 {n:List UInt8} {i:Nat} (h:n.drop i=aw []):i<n.length∧(n.getD i 0).toNat=0:=by
 have hl:=congrArg List.length h;rw [fb,List.length_drop] at hl;simp at hl;have hi:i<n.length:=by omega
 refine ⟨hi,?_⟩;rw [List.drop_eq_getElem_cons hi,fb] at h;rw [List.getD_eq_getElem?_getD,List.getElem?_eq_getElem hi,Option.getD_some,(List.cons.inj h).1];rfl
theorem FD {n l:List UInt8} {ls:List (List UInt8)} {i:Nat} (g:GoodN (l::ls)) (h:n.drop i=aw (l::ls)):i<n.length∧(n.getD i 0).toNat=l.length∧i+1+l.length<n.length∧(n.take (i+1+l.length)).drop (i+1)=l∧n.drop (i+1+l.length)=aw ls∧1≤l.length∧l.length≤63:=by
 have hl:=congrArg List.length h;have hp:=cK ls;rw [b7,List.length_drop,List.length_cons,List.length_append] at hl;have hi:i<n.length:=by omega
 have h2:=h;rw [List.drop_eq_getElem_cons hi,b7] at h2;obtain ⟨e1,e2⟩:=List.cons.inj h2;refine ⟨hi,?_,by omega,?_,?_,g.head.1,g.head.2⟩
 · rw [List.getD_eq_getElem?_getD,List.getElem?_eq_getElem hi,Option.getD_some,e1]
   exact gn g.head.2
 · rw [List.drop_take,e2,show i+1+l.length-(i+1)=l.length by omega,List.take_left]
 · rw [← List.drop_drop,e2,List.drop_left]
theorem Ca {n:List UInt8} (h:bm n=true):eK n=aw (sX (aP n))∧(aw (sX (aP n))).length≤255:=by
 obtain ⟨ls,g,rfl,hl⟩:=d9.1 h;rw [dr g hl,yj g hl];exact ⟨rfl,by rw [we g];exact hl⟩
theorem lY:∀ (ls:List (List UInt8)) (j:Nat),(aw (ls.drop j)).length≤(aw ls).length
 | [],j=>by simp
 | l::ls,0=>Nat.le_refl _
 | l::ls,j+1=>by
  have:=lY ls j;have:=i0 (l:=l) (ls:=ls);simp only [List.drop_succ_cons];omega
theorem Ci {ls:List (List UInt8)} {i:Nat} (hi:i<ls.length):aw (ls.drop i)=ct ((ls.getD i default).length:Int)::(ls.getD i default++aw (ls.drop (i+1))):=by
 have e:ls.getD i default=ls[i]:=by rw [List.getD_eq_getElem?_getD,List.getElem?_eq_getElem hi];rfl
 rw [List.drop_eq_getElem_cons hi,b7,e]
theorem lR {α β:Type} [Inhabited α] (f:α→β) {l:List α} {i:Nat} (hi:i<l.length):(l.take (i+1)).map f=(l.take i).map f++[f (l.getD i default)]:=by
 have e:l.getD i default=l[i]:=by rw [List.getD_eq_getElem?_getD,List.getElem?_eq_getElem hi];rfl
 rw [List.take_succ_eq_append_getElem hi,List.map_append,e];rfl
theorem aq {α:Type} [Inhabited α] {l:List α} {i:Nat} (hi:i<l.length):l.getD i default∈l:=by
 rw [List.getD_eq_getElem?_getD,List.getElem?_eq_getElem hi];exact List.getElem_mem hi
theorem aM (n:List UInt8) (h:n.length≤140737488355328):AC Tryz.prog 43 [str n] emp (Ret (tf (bm n))):=by
 refine AC.intro te_ok (fn:=Tryz.f43) ⟨Tryz.func43,rfl,rfl⟩ (aE rfl) ?_;iterate 9 refine ab ?_
 refine am (fun h1_2=>?_) (fun h1_2=>?_)
 ·
  iterate 7 refine ab ?_
  refine ak (0) [_] [_] ?_;have e:bm n=false:=by rw [bm,decide_eq_false (by omega),Bool.and_false]
  rw [e];rfl
 ·
  iterate 9 refine ab ?_
  refine AWp.loopR (α:=Nat) [2,3,4,8,9,10,11,12,13,14,15,16,17,18,19,20,21,22,23,24,25,26,27,28] (fun i=>[(3,i64 i)]) (fun i=>[]) (fun i=>(gN n).isSome=(gN (n.drop i)).isSome∧i≤319) (fun i=>n.length-i) 0 ?_ (Back.mk' (HasT.cons HasT.nil) HasH.nil) ?_
  ·
   exact ⟨rfl,by omega⟩
  ·
   rintro i ⟨hc,hi⟩;iterate 6 refine ab ?_
   refine am (fun h4_3=>?_) (fun h4_3=>?_)
   ·
    iterate 6 refine ab ?_
    have hk:=(n.getD i 0).toNat_lt;iterate 2 refine ab ?_
    refine ai rfl rfl (lV) ?_;iterate 6 refine ab ?_
    have hla:=xe (n:=n) (i:=i) (by omega);refine ab ?_;refine am (fun h6_1=>?_) (fun h6_1=>?_)
    ·
     iterate 8 refine ab ?_
     refine ai rfl rfl (dm) ?_;iterate 3 refine ab ?_
     refine ak (0) [_] [_] ?_;have k1:((n.getD i 0).toNat:Int)=0:=h6_1;rw [if_pos (by omega)] at hla;rw [bm,hc,hla,decide_eq_true (show n.length≤255 by omega),Bool.and_true];exact congrArg tf (decide_eq_decide.2 (by omega))
    ·
     iterate 7 refine ab ?_
     refine am (fun h8_1=>?_) (fun h8_1=>?_)
     ·
      iterate 7 refine ab ?_
      refine ak (0) [_] [_] ?_;have k1:¬ ((n.getD i 0).toNat:Int)=0:=h6_1;have k2:63<((n.getD i 0).toNat:Int):=h8_1;rw [if_neg (by omega),if_pos (by omega)] at hla;rw [bm,hc,hla];rfl
     ·
      iterate 4 refine ab ?_
      have k2:¬ 63<((n.getD i 0).toNat:Int):=h8_1;have hk3:((n.getD (i:Int).toNat 0).toNat:Int)=((n.getD i 0).toNat:Int):=rfl;iterate 6 refine ab ?_
      have k1:¬ ((n.getD i 0).toNat:Int)=0:=h6_1;have k2:¬ 63<((n.getD i 0).toNat:Int):=h8_1;refine ⟨i+1+(n.getD i 0).toNat,?_,Back.mk' (HasT.cons HasT.nil (h1:=by exact ci (by show (i:Int)+(1+((n.getD i 0).toNat:Int))=((i+1+(n.getD i 0).toNat:Nat):Int);omega)) ) HasH.nil,?_⟩
      ·
       exact ⟨by rw [hc,xe (by omega),if_neg (by omega),if_neg (by omega)],by omega⟩
      ·
       omega
   ·
    iterate 8 refine ab ?_
    refine ak (0) [_] [_] ?_;have e:bm n=false:=by rw [bm,hc,uA n (by omega)];rfl
    rw [e];rfl
theorem dP (n:List UInt8) (h:n.length≤140737488355328):AC Tryz.prog 121 [str n] emp (Ret (.fz 0 (aP n).length (cl sc (aP n)))):=by
 refine AC.intro te_ok (fn:=Tryz.f121) ⟨Tryz.func121,rfl,rfl⟩ (aE rfl) ?_;iterate 2 refine ab ?_
 refine ai rfl rfl (aR (0) sc) ?_;iterate 5 refine ab ?_
 refine AOps.bool rfl rfl (aj (0) (hc:=aM _ bE)) (fun h1_1=>?_) (fun h1_1=>?_)
 ·
  iterate 6 refine ab ?_
  refine ai rfl rfl (bD 400 1 sc) ?_;iterate 3 refine ab ?_
  obtain ⟨hg0,hn0,hl0⟩:=qM h1_1;iterate 4 refine ab ?_
  refine AWp.loopR (α:=Nat×List (List UInt8)×Nat×List (List UInt8)) [3,4,5,9,10,11,12,13,14,15,16,17,18,19,20,21,22,23,24,25,26,27,28,29,30,31] (fun x_=>[(4,i64 (x_.1)),(3,.sl 400 (x_.2.2.1) 0 (x_.2.1).length 1)]) (fun x_=>[(400,.row (cl sc (x_.2.1)) 1 (x_.2.2.1))]) (fun x_=>GoodN (x_.2.2.2)∧n.drop (x_.1)=aw (x_.2.2.2)∧aP n=(x_.2.1)++(x_.2.2.2)) (fun x_=>(x_.2.2.2).length) (0,[],0,aP n) ?_ (Back.mk' (HasT.cons (HasT.cons HasT.nil)) (HasH.cons HasH.nil)) ?_
  ·
   exact ⟨hg0,hn0,rfl⟩
  ·
   rintro ⟨i,acc,v,ls⟩ hI5;change GoodN ls∧n.drop i=aw ls∧aP n=acc++ls at hI5;obtain ⟨hg,hd,hI⟩:=hI5;refine AWp.as (s':=AS.over _ [3,4,5,9,10,11,12,13,14,15,16,17,18,19,20,21,22,23,24,25,26,27,28,29,30,31] [(4,i64 i),(3,.sl 400 v 0 acc.length 1)] [(400,.row (cl sc acc) 1 v)]) rfl ?_;have hll:=iW n;rw [hI,List.length_append] at hll;iterate 3 refine ab ?_
   rcases ls with _|⟨l,ls⟩
   ·
    obtain ⟨hr1,hr2⟩:=D3 hd;iterate 2 refine ab ?_
    refine ai rfl rfl (lV) ?_;refine am (fun h5_3=>?_) (fun h5_3=>?_)
    ·
     exfalso;exact absurd (show ((n.getD i 0).toNat:Int)=0 by omega) h5_3
    ·
     iterate 9 refine ab ?_
     obtain rfl:acc=aP n:=by rw [hI,List.append_nil]
     refine ak (0) [_] [_] ?_;rfl
   ·
    obtain ⟨ha1,ha2,ha3,ha4,ha5,ha6,ha7⟩:=FD hg hd;have ha2':((n.getD (i:Int).toNat 0).toNat:Int)=(l.length:Int):=congrArg Int.ofNat ha2;have hsl:(n.take ((i:Int)+1+((n.getD (i:Int).toNat 0).toNat:Int)).toNat).drop ((i:Int)+1).toNat=l:=by rw [ha2',show ((i:Int)+1+(l.length:Int)).toNat=i+1+l.length by omega,show ((i:Int)+1).toNat=i+1 by omega];exact ha4
    rw [List.length_cons] at hll;iterate 2 refine ab ?_
    refine ai rfl rfl (lV) ?_;refine am (fun h5_3=>?_) (fun h5_3=>?_)
    ·
     iterate 8 refine ab ?_
     refine ai rfl rfl (lV) ?_;iterate 13 refine ab ?_
     refine ai rfl rfl (Dt) ?_;refine ai rfl rfl (bO 809 sc [_] [(_,_)]) ?_;iterate 10 refine ab ?_
     refine ⟨(i+1+l.length,_,_,ls),?_,Back.mk' (HasT.cons (HasT.cons HasT.nil) (h1:=by exact ci (by rw [ha2'];omega)) ) (HasH.cons HasH.nil),?_⟩
     ·
      try dsimp only
      exact ⟨hg.tail,ha5,by rw [hI,hsl];simp⟩
     ·
      try dsimp only
      simp
    ·
     exfalso;exact h5_3 (show ¬ ((n.getD i 0).toNat:Int)=0 by omega)
 ·
  iterate 5 refine ab ?_
  refine ai rfl rfl (aR (0) sc) ?_;iterate 2 refine ab ?_
  refine ak (0) [_] [_] ?_;rw [mY h1_1];rfl
theorem gm (ls:List (List UInt8)) (lv:Nat) (hj:(aw ls).length≤140737488351232):AC Tryz.prog 123 [.fz lv ls.length (cl sc ls)] emp (Ret (str (aw ls))):=by
 refine AC.intro te_ok (fn:=Tryz.f123) ⟨Tryz.func123,rfl,rfl⟩ (aE rfl) ?_;iterate 16 refine ab ?_
 refine AWp.loopR (α:=Nat×List UInt8) [3,5,8,9,10,11,12,13,14,15,16,17,18,19,20,21] (fun x_=>[(8,i64 (x_.1)),(3,str (x_.2))]) (fun x_=>[]) (fun x_=>(x_.1)≤ls.length∧(x_.2)++aw (ls.drop (x_.1))=aw ls) (fun x_=>ls.length-(x_.1)) (0,[]) ?_ (Back.mk' (HasT.cons (HasT.cons HasT.nil)) HasH.nil) ?_
 ·
  exact ⟨Nat.zero_le _,rfl⟩
 ·
  rintro ⟨i,acc⟩ hI3;change i≤ls.length∧acc++aw (ls.drop i)=aw ls at hI3;obtain ⟨hi,hI⟩:=hI3;refine AWp.as (s':=AS.over _ [3,5,8,9,10,11,12,13,14,15,16,17,18,19,20,21] [(8,i64 i),(3,str acc)] []) rfl ?_;have hll:=congrArg List.length hI;rw [List.length_append] at hll;iterate 2 refine ab ?_
  refine am (fun h3_0=>?_) (fun h3_0=>?_)
  ·
   iterate 8 refine ab ?_
   have hja:=Ci (ls:=ls) (i:=i) (by omega);rw [hja,List.length_cons,List.length_append] at hll;have hll2:acc.length+((ls.getD (i:Int).toNat default).length+(aw (ls.drop (i+1))).length+1)=(aw ls).length:=hll;have hg3:(ls[i]?.getD default).length=(ls.getD (i:Int).toNat default).length:=congrArg List.length (List.getD_eq_getElem?_getD).symm;have hg4:=cK ls;iterate 9 refine ab ?_
   refine ai rfl rfl (bO 604 bc [_] [(_,_)]) ?_;refine ai rfl rfl (aU) ?_;refine ab ?_;refine ai rfl rfl (jg) ?_;refine ai rfl rfl (jg) ?_;iterate 6 refine ab ?_
   refine ⟨(i+1,_),?_,Back.mk' (HasT.cons (HasT.cons HasT.nil)) HasH.nil,?_⟩
   ·
    try dsimp only
    exact ⟨by omega,by rw [← hI,hja];simp⟩
   ·
    try dsimp only
    first|omega|(simp;omega)
  ·
   iterate 7 refine ab ?_
   refine ai rfl rfl (jg) ?_;iterate 3 refine ab ?_
   obtain rfl:i=ls.length:=by omega
   rw [List.drop_length,fb] at hI;refine ak (0) [_] [_] ?_;exact congrArg (fun x=>str x) hI
theorem jS (n:List UInt8) (h:n.length≤140737488355328):AC Tryz.prog 122 [str n] emp (Ret (str (n.map i8))):=by
 refine AC.intro te_ok (fn:=Tryz.f122) ⟨Tryz.func122,rfl,rfl⟩ (aE rfl) ?_;iterate 7 refine ab ?_
 refine ai rfl rfl (rN 201) ?_;iterate 10 refine ab ?_
 refine AWp.loopR (α:=Nat×List UInt8) [4,5,10,11,12,13,14,15,16,17,18,19,20,21,22,23,24,25,26] (fun x_=>[(10,i64 (x_.1))]) (fun x_=>[(201,.row (cl bc (x_.2)) 1 0)]) (fun x_=>(x_.1)≤n.length∧(x_.2)=(n.take (x_.1)).map i8++n.drop (x_.1)) (fun x_=>n.length-(x_.1)) (0,n) ?_ (Back.mk' (HasT.cons HasT.nil) (HasH.cons HasH.nil)) ?_
 ·
  exact ⟨Nat.zero_le _,by simp⟩
 ·
  rintro ⟨i,b⟩ hI3;change i≤n.length∧b=(n.take i).map i8++n.drop i at hI3;obtain ⟨hi,hb⟩:=hI3;refine AWp.as (s':=AS.over _ [4,5,10,11,12,13,14,15,16,17,18,19,20,21,22,23,24,25,26] [(10,i64 i)] [(201,.row (cl bc b) 1 0)]) rfl ?_;have hbl:=rW hi hb;iterate 2 refine ab ?_
  refine am (fun h3_0=>?_) (fun h3_0=>?_)
  ·
   iterate 16 refine ab ?_
   have hx:=mr (by omega) hb;refine ab ?_;refine am (fun h5_1=>?_) (fun h5_1=>?_)
   ·
    iterate 2 refine ab ?_
    refine am (fun h5_4=>?_) (fun h5_4=>?_)
    ·
     iterate 7 refine ab ?_
     refine ai rfl rfl (Er _ 32) ?_;iterate 7 refine ab ?_
     refine ⟨(i+1,_),?_,Back.mk' (HasT.cons HasT.nil) (HasH.cons HasH.nil),?_⟩
     ·
      try dsimp only
      have k1:65≤((b.getD i default).toNat:Int):=h5_1;have k2:((b.getD i default).toNat:Int)≤90:=h5_4;rw [hx.1] at k1 k2;have e:=hx.2;rw [show i8 (n.getD i default)=n.getD i default+32 from (if_pos ⟨by omega,by omega⟩).trans ((Ah _ ⟨by omega,by omega⟩).symm),← hx.1] at e;exact ⟨by omega,e⟩
     ·
      try dsimp only
      first|omega|(simp;omega)
    ·
     iterate 8 refine ab ?_
     refine ⟨(i+1,_),?_,Back.mk' (HasT.cons HasT.nil) (HasH.cons HasH.nil),?_⟩
     ·
      try dsimp only
      exact ⟨by omega,jl (by omega) hb (if_neg (by have k1:¬ ((b.getD i default).toNat:Int)≤90:=h5_4;rw [hx.1] at k1;omega))⟩
     ·
      try dsimp only
      first|omega|(simp;omega)
   ·
    iterate 11 refine ab ?_
    refine ⟨(i+1,_),?_,Back.mk' (HasT.cons HasT.nil) (HasH.cons HasH.nil),?_⟩
    ·
     try dsimp only
     exact ⟨by omega,jl (by omega) hb (if_neg (by have k1:¬ 65≤((b.getD i default).toNat:Int):=h5_1;rw [hx.1] at k1;omega))⟩
    ·
     try dsimp only
     first|omega|(simp;omega)
  ·
   iterate 6 refine ab ?_
   obtain rfl:i=n.length:=by simp at h3_0;omega
   have hb2:b=n.map i8:=by rw [hb,List.take_length,List.drop_length,List.append_nil]
   subst hb2;refine ab ?_;refine ai rfl rfl (aU) ?_;iterate 3 refine ab ?_
   refine ak (0) [_] [_] ?_;rfl
theorem fP (n:List UInt8) (h:n.length≤140737488355328):AC Tryz.prog 80 [str n] emp (Ret (str (eK n))):=by
 refine AC.intro te_ok (fn:=Tryz.f80) ⟨Tryz.func80,rfl,rfl⟩ (aE rfl) ?_;iterate 8 refine ab ?_
 refine AOps.bool rfl rfl (aj (0) (hc:=aM _ bE)) (fun h1_1=>?_) (fun h1_1=>?_)
 ·
  iterate 6 refine ab ?_
  refine ai rfl rfl (bD 400 1 sc) ?_;iterate 4 refine ab ?_
  obtain ⟨hg0,hn0,hl0⟩:=qM h1_1;obtain ⟨hw1,hw2⟩:=Ca h1_1;have hll:=iW n;refine ab ?_;refine ai rfl rfl (aj (0) (hc:=dP _ bE)) ?_;iterate 4 refine ab ?_
  refine AWp.loopR (α:=Nat×List (List UInt8)×Nat) [3,5,12,13,14,15,16,17,18,19,20,21] (fun x_=>[(12,i64 (x_.1)),(3,.sl 400 (x_.2.2) 0 (x_.2.1).length 1)]) (fun x_=>[(400,.row (cl sc (x_.2.1)) 1 (x_.2.2))]) (fun x_=>(x_.1)≤(aP n).length∧(x_.2.1)=sX ((aP n).take (x_.1))) (fun x_=>(aP n).length-(x_.1)) (0,[],0) ?_ (Back.mk' (HasT.cons (HasT.cons HasT.nil)) (HasH.cons HasH.nil)) ?_
  ·
   exact ⟨Nat.zero_le _,rfl⟩
  ·
   rintro ⟨i,acc,v⟩ hI5;change i≤(aP n).length∧acc=sX ((aP n).take i) at hI5;obtain ⟨hi,hacc⟩:=hI5;refine AWp.as (s':=AS.over _ [3,5,12,13,14,15,16,17,18,19,20,21] [(12,i64 i),(3,.sl 400 v 0 acc.length 1)] [(400,.row (cl sc acc) 1 v)]) rfl ?_;have hal:acc.length=i:=by rw [hacc];simp [sX];omega
   iterate 2 refine ab ?_
   refine am (fun h5_0=>?_) (fun h5_0=>?_)
   ·
    iterate 8 refine ab ?_
    have hm:=hg0 _ (aq (l:=aP n) (i:=i) (by omega));have hm2:((aP n).getD (i:Int).toNat default).length≤63:=hm.2;iterate 7 refine ab ?_
    refine ai rfl rfl (aj (0) (hc:=jS _ bE)) ?_;refine ai rfl rfl (bO 803 sc [_] [(_,_)]) ?_;iterate 7 refine ab ?_
    refine ⟨(i+1,_,_),?_,Back.mk' (HasT.cons (HasT.cons HasT.nil)) (HasH.cons HasH.nil),?_⟩
    ·
     try dsimp only
     exact ⟨by omega,by rw [hacc];exact (lR _ (by omega)).symm⟩
    ·
     try dsimp only
     first|omega|(simp;omega)
   ·
    iterate 6 refine ab ?_
    obtain rfl:i=(aP n).length:=by omega
    rw [List.take_length] at hacc;subst hacc;refine ab ?_;refine ai rfl rfl (aj (0) (hc:=(gm _ _ (by first|omega|(simp;omega))))) ?_;iterate 3 refine ab ?_
    refine ak (0) [_] [_] ?_;rw [hw1];rfl
 ·
  iterate 8 refine ab ?_
  refine ak (0) [_] [_] ?_;rw [eK,if_neg (by simp [h1_1])];rfl
theorem az (a b:List UInt8) (ha:a.length≤140737488355328) (hb:b.length≤140737488355328):AC Tryz.prog 42 [str a,str b] emp (Ret (tf (bi a b))):=by
 refine AC.intro te_ok (fn:=Tryz.f42) ⟨Tryz.func42,rfl,rfl⟩ (aE rfl) ?_;iterate 7 refine ab ?_
 refine AOps.bool rfl rfl (aj (0) (hc:=aM _ bE)) (fun h1_1=>?_) (fun h1_1=>?_)
 ·
  iterate 2 refine ab ?_
  refine AOps.gbool rfl rfl rfl rfl rfl (aj (0) (hc:=aM _ bE)) (fun h1_4=>?_) (fun h1_4=>?_)
  ·
   iterate 3 refine ab ?_
   refine cw rfl rfl rfl rfl rfl (aj (0) (hc:=fP _ bE)) ?_;refine ab ?_;refine cw rfl rfl rfl rfl rfl (aj (0) (hc:=fP _ bE)) ?_;refine cw rfl rfl rfl rfl rfl (qf) ?_;iterate 4 refine ab ?_
   refine ak (0) [_] [_] ?_;simp only [bi,h1_1,h1_4];rfl
  ·
   iterate 11 refine ab ?_
   refine ak (0) [_] [_] ?_;simp only [bi,h1_1,h1_4];rfl
 ·
  iterate 14 refine ab ?_
  refine ak (0) [_] [_] ?_;simp only [bi,h1_1];rfl
theorem bA (n:List UInt8) (h:n.length≤140737488355328):AC Tryz.prog 107 [str n] emp (Ret (i64 (dt n))):=by
 refine AC.intro te_ok (fn:=Tryz.f107) ⟨Tryz.func107,rfl,rfl⟩ (aE rfl) ?_;iterate 7 refine ab ?_
 refine ai rfl rfl (aj (0) (hc:=dP _ bE)) ?_;iterate 4 refine ab ?_
 refine ak (0) [_] [_] ?_;rfl
theorem kN (n:List UInt8) (h:n.length≤140737488355328) (k:Int) (hk:-9223372036854775808≤k∧k≤9223372036854775807):AC Tryz.prog 124 [str n,i64 k] emp (Ret (str (mG n k))):=by
 refine AC.intro te_ok (fn:=Tryz.f124) ⟨Tryz.func124,rfl,rfl⟩ (aE rfl) ?_;iterate 8 refine ab ?_
 refine AOps.bool rfl rfl (aj (0) (hc:=aM _ bE)) (fun h1_1=>?_) (fun h1_1=>?_)
 ·
  iterate 7 refine ab ?_
  refine ai rfl rfl (aj (0) (hc:=dP _ bE)) ?_;iterate 4 refine ab ?_
  obtain ⟨hg0,hn0,hl0⟩:=qM h1_1;have hll:=iW n;have hjd:=lY (aP n) (((aP n).length:Int)-min (max k 0) ((aP n).length:Int)).toNat;rw [← hn0] at hjd;refine ab ?_;refine ai rfl rfl (Dw) ?_;iterate 2 refine ab ?_
  refine ai rfl rfl (Gq) ?_;iterate 10 refine ab ?_
  refine ai rfl rfl (aj (0) (hc:=(gm _ _ (by omega)))) ?_;iterate 3 refine ab ?_
  refine ak (0) [_] [_] ?_;rw [mG,if_pos h1_1,show (aP n).length-min (max k 0).toNat (aP n).length=(((aP n).length:Int)-min (max k 0) ((aP n).length:Int)).toNat by omega];rfl
 ·
  iterate 8 refine ab ?_
  refine ak (0) [_] [_] ?_;rw [mG,if_neg (by simp [h1_1])];rfl
theorem be (a b:List UInt8) (ha:a.length≤140737488355328) (hb:b.length≤140737488355328):AC Tryz.prog 81 [str a,str b] emp (Ret (tf (bQ a b))):=by
 have h1:=pG a;have h2:=pG b;have h3:=rH a (dt b);refine AC.intro te_ok (fn:=Tryz.f81) ⟨Tryz.func81,rfl,rfl⟩ (aE rfl) ?_;iterate 7 refine ab ?_
 refine AOps.bool rfl rfl (aj (0) (hc:=aM _ bE)) (fun h1_1=>?_) (fun h1_1=>?_)
 ·
  iterate 2 refine ab ?_
  refine AOps.gbool rfl rfl rfl rfl rfl (aj (0) (hc:=aM _ bE)) (fun h1_4=>?_) (fun h1_4=>?_)
  ·
   iterate 3 refine ab ?_
   refine cw rfl rfl rfl rfl rfl (aj (0) (hc:=bA _ bE)) ?_;refine ab ?_;refine cw rfl rfl rfl rfl rfl (aj (0) (hc:=bA _ bE)) ?_;refine am (fun h1_11=>?_) (fun h1_11=>?_)
   ·
    iterate 4 refine ab ?_
    refine cw rfl rfl rfl rfl rfl (aj (0) (hc:=bA _ bE)) ?_;refine cw rfl rfl rfl rfl rfl (aj (0) (hc:=kN _ bE _ bE)) ?_;refine ab ?_;refine cw rfl rfl rfl rfl rfl (aj (0) (hc:=az _ _ bE bE)) ?_;iterate 4 refine ab ?_
    refine ak (0) [_] [_] ?_;simp only [bQ,h1_1,h1_4,decide_eq_true (show dt b≤dt a by omega)];rfl
   ·
    iterate 12 refine ab ?_
    refine ak (0) [_] [_] ?_;simp only [bQ,h1_1,h1_4,decide_eq_false (show ¬ dt b≤dt a by omega)];rfl
  ·
   iterate 19 refine ab ?_
   refine ak (0) [_] [_] ?_;simp only [bQ,h1_1,h1_4];rfl
 ·
  iterate 22 refine ab ?_
  refine ak (0) [_] [_] ?_;simp only [bQ,h1_1];rfl
end
section
attribute [local irreducible] AWp AOps
def nA (b:List UInt8):Bool:=if h:0<b.length then (if 1+(b.getD 0 default).toNat≤b.length then nA (b.drop (1+(b.getD 0 default).toNat)) else false) else true
termination_by b.length
decreasing_by simp;omega
def tT (b:List UInt8):Bool:=decide (0<b.length)&&nA b
def lK (b:List UInt8):Nat:=4+((b.getD 2 default).toNat*256+(b.getD 3 default).toNat)
def mo (b:List UInt8):Bool:=if h:0<b.length then (if 4≤b.length∧lK b≤b.length then mo (b.drop (lK b)) else false) else true
termination_by b.length
decreasing_by simp [lK];omega
theorem tS {b:List UInt8} (h:b.length=0):nA b=true:=by rw [nA,dif_neg (by omega)]
theorem rG {b:List UInt8} (h:0<b.length) (h2:1+(b.getD 0 default).toNat≤b.length):nA b=nA (b.drop (1+(b.getD 0 default).toNat)):=by rw [nA,dif_pos h,if_pos h2]
theorem wG {b:List UInt8} (h:0<b.length) (h2:b.length<1+(b.getD 0 default).toNat):nA b=false:=by rw [nA,dif_pos h,if_neg (by omega)]
theorem ui {b:List UInt8} (h:b.length=0):mo b=true:=by rw [mo,dif_neg (by omega)]
theorem rR {b:List UInt8} (h:0<b.length) (h4:4≤b.length) (h2:lK b≤b.length):mo b=mo (b.drop (lK b)):=by rw [mo,dif_pos h,if_pos ⟨h4,h2⟩]
theorem pu {b:List UInt8} (h:0<b.length) (h2:b.length<4∨b.length<lK b):mo b=false:=by rw [mo,dif_pos h,if_neg (by omega)]
def dU (t:Int) (d:List UInt8):Bool:=
 if t<0∨65535<t∨65535<d.length then false else if t=1 then decide (d.length=4) else if t=28 then decide (d.length=16) else if t=2∨t=5∨t=12 then bm d
 else if t=15 then decide (2<d.length)&&bm (d.drop 2) else if t=16 then tT d else if t=41 then mo d else true
theorem xD {t:Int} {b:List UInt8} (e:t=15) (h:dU t b=true):2<b.length:=by
 subst e;simp [dU] at h;omega
def gq (t:Int) (d:List UInt8):List (List UInt8):=if dU t d then (if t=2∨t=5∨t=12 then [d] else if t=15 then [d.drop 2] else []) else []
theorem fX (b:List UInt8) (lv:Nat) (h:b.length≤140737488351232):AC Tryz.prog 114 [.fz lv b.length (cl bc b)] emp (Ret (tf (bm b))):=by
 refine AC.intro te_ok (fn:=Tryz.f114) ⟨Tryz.func114,rfl,rfl⟩ (aE rfl) ?_;iterate 7 refine ab ?_
 refine AOps.cons rfl rfl (by first|exact b9|exact aU) ?_;refine ai rfl rfl (aj (0) (hc:=cu _ bE)) ?_;iterate 3 refine ab ?_
 refine ak (0) [_] [_] ?_;first|rfl|(simp;done)
theorem tE (b:List UInt8) (lv:Nat) (h:b.length≤140737488351232):AC Tryz.prog 115 [.fz lv b.length (cl bc b)] emp (Ret (tf (decide (2<b.length)&&bm (b.drop 2)))):=by
 refine AC.intro te_ok (fn:=Tryz.f115) ⟨Tryz.func115,rfl,rfl⟩ (aE rfl) ?_;iterate 8 refine ab ?_
 refine am (fun h1_2=>?_) (fun h1_2=>?_)
 ·
  iterate 3 refine ab ?_
  refine cw rfl rfl rfl rfl rfl (aj (lv) (hc:=fX _ _ bE)) ?_;iterate 4 refine ab ?_
  refine ak (0) [_] [_] ?_;rw [decide_eq_true (show 2<b.length by omega)];rfl
 ·
  iterate 8 refine ab ?_
  refine ak (0) [_] [_] ?_;rw [decide_eq_false (show ¬ 2<b.length by omega)];rfl
theorem ru (b:List UInt8) (lv:Nat) (h:b.length≤140737488351232):AC Tryz.prog 116 [.fz lv b.length (cl bc b)] emp (Ret (tf (tT b))):=by
 refine AC.intro te_ok (fn:=Tryz.f116) ⟨Tryz.func116,rfl,rfl⟩ (aE rfl) ?_;iterate 8 refine ab ?_
 refine ai rfl rfl (gW) ?_;iterate 4 refine ab ?_
 refine AWp.loopR (α:=List UInt8) [0,2,4,8,9,10,11,12,13,14,15,16,17,18,19,20,21,22] (fun c=>[(0,.fz lv c.length (cl bc c))]) (fun c=>[]) (fun c=>nA c=nA b∧c.length≤b.length) (fun c=>c.length) b ?_ (Back.mk' (HasT.cons HasT.nil) HasH.nil) ?_
 ·
  exact ⟨rfl,Nat.le_refl _⟩
 ·
  rintro c ⟨hc,hl⟩;iterate 5 refine ab ?_
  refine am (fun h2_2=>?_) (fun h2_2=>?_)
  ·
   iterate 6 refine ab ?_
   have hk:=(c.getD 0 default).toNat_lt;have he:(c.getD (Int.toNat 0) default).toNat=(c.getD 0 default).toNat:=rfl;have hs:(c[0]?.getD default).toNat=(c.getD 0 default).toNat:=congrArg UInt8.toNat (List.getD_eq_getElem?_getD).symm;iterate 13 refine ab ?_
   refine am (fun h4_3=>?_) (fun h4_3=>?_)
   ·
    iterate 7 refine ab ?_
    refine ak (0) [_] [_] ?_;rw [tT,← hc,wG (by omega) (by omega),Bool.and_false];rfl
   ·
    iterate 9 refine ab ?_
    have e1:((1:Int)+((c.getD (Int.toNat 0) default).toNat:Int)).toNat=1+(c.getD 0 default).toNat:=by omega
    refine ⟨_,?_,Back.mk' (HasT.cons HasT.nil) HasH.nil,?_⟩
    ·
     rw [e1];exact ⟨(rG (by omega) (by omega)).symm.trans hc,by rw [List.length_drop];omega⟩
    ·
     rw [e1,List.length_drop];omega
  ·
   iterate 9 refine ab ?_
   refine ak (0) [_] [_] ?_;rw [tT,← hc,tS (by omega),Bool.and_true];exact congrArg tf (decide_eq_decide.2 (by omega))
theorem pf (b:List UInt8) (lv:Nat) (h:b.length≤140737488351232):AC Tryz.prog 117 [.fz lv b.length (cl bc b)] emp (Ret (tf (mo b))):=by
 refine AC.intro te_ok (fn:=Tryz.f117) ⟨Tryz.func117,rfl,rfl⟩ (aE rfl) ?_;iterate 6 refine ab ?_
 refine AWp.loopR (α:=List UInt8) [0,2,3,4,5,6,7,8,9,10,11,12,13,14,15,16,17,18,19,20,21,22,23,24,25,26,27] (fun c=>[(0,.fz lv c.length (cl bc c))]) (fun c=>[]) (fun c=>mo c=mo b∧c.length≤b.length) (fun c=>c.length) b ?_ (Back.mk' (HasT.cons HasT.nil) HasH.nil) ?_
 ·
  exact ⟨rfl,Nat.le_refl _⟩
 ·
  rintro c ⟨hc,hl⟩;iterate 5 refine ab ?_
  refine am (fun h1_2=>?_) (fun h1_2=>?_)
  ·
   iterate 9 refine ab ?_
   refine am (fun h2_2=>?_) (fun h2_2=>?_)
   ·
    iterate 7 refine ab ?_
    refine ak (0) [_] [_] ?_;rw [← hc,pu (by omega) (by omega)];rfl
   ·
    iterate 4 refine ab ?_
    have hk2:=(c.getD 2 default).toNat_lt;have hk3:=(c.getD 3 default).toNat_lt;have he2:(c.getD (Int.toNat 2) default).toNat=(c.getD 2 default).toNat:=rfl;have he3:(c.getD (Int.toNat 3) default).toNat=(c.getD 3 default).toNat:=rfl;have hs2:(c[2]?.getD default).toNat=(c.getD 2 default).toNat:=congrArg UInt8.toNat (List.getD_eq_getElem?_getD).symm;have hs3:(c[3]?.getD default).toNat=(c.getD 3 default).toNat:=congrArg UInt8.toNat (List.getD_eq_getElem?_getD).symm;refine bj [ag,ag,ag,ag,ag,ag,ag,ag,ag,ag,ag,ag] [af [0] [] 11,af [10] [] 12,af [11] [] 13,af [12] [] 14,af [13] [] 15,af [0] [] 16,af [15] [] 17,af [16] [] 18,af [17] [] 19,af [14,18] [] 20,af [19] [] 21,af [20] [] 4] rfl ⟨ah,ah,ah,ah,aC fun _=>aN rfl rfl (ik 8),ah,ah,ah,ah,aC fun _=>aN rfl rfl (rM),ah,ah,trivial⟩ ?_;iterate 6 refine ab ?_
    refine am (fun h5_3=>?_) (fun h5_3=>?_)
    ·
     iterate 7 refine ab ?_
     refine ak (0) [_] [_] ?_;rw [← hc,pu (by omega) (Or.inr (by unfold lK;omega))];rfl
    ·
     iterate 9 refine ab ?_
     have e1:(4+(((c.getD (Int.toNat 2) default).toNat:Int)*256+((c.getD (Int.toNat 3) default).toNat:Int))).toNat=lK c:=by unfold lK;omega
     refine ⟨_,?_,Back.mk' (HasT.cons HasT.nil) HasH.nil,?_⟩
     ·
      rw [e1];exact ⟨(rR (by omega) (by omega) (by unfold lK;omega)).symm.trans hc,by rw [List.length_drop];omega⟩
     ·
      rw [e1,List.length_drop];unfold lK;omega
  ·
   iterate 8 refine ab ?_
   refine ak (0) [_] [_] ?_;rw [← hc,ui (by omega)];rfl
theorem oV (t:Int) (b:List UInt8) (lv:Nat) (h:b.length≤140737488351232) (ht:t≠6):AC Tryz.prog 74 [i64 t,.fz lv b.length (cl bc b)] emp (Ret (tf (dU t b))):=by
 refine AC.intro te_ok (fn:=Tryz.f74) ⟨Tryz.func74,rfl,rfl⟩ (aE rfl) ?_;iterate 8 refine ab ?_
 refine am (fun h1_1=>?_) (fun h1_1=>?_)
 ·
  iterate 16 refine ab ?_
  refine ak (0) [_] [_] ?_;rw [dU,if_pos (by omega)];rfl
 ·
  iterate 2 refine ab ?_
  refine am (fun h1_4=>?_) (fun h1_4=>?_)
  ·
   iterate 13 refine ab ?_
   refine ak (0) [_] [_] ?_;rw [dU,if_pos (by omega)];rfl
  ·
   iterate 4 refine ab ?_
   refine am (fun h1_9=>?_) (fun h1_9=>?_)
   ·
    iterate 8 refine ab ?_
    refine ak (0) [_] [_] ?_;rw [dU,if_pos (by omega)];rfl
   ·
    iterate 12 refine ab ?_
    refine am (fun h4_0=>?_) (fun h4_0=>?_)
    ·
     iterate 7 refine ab ?_
     refine ai rfl rfl (dm) ?_;iterate 3 refine ab ?_
     refine ak (0) [_] [_] ?_;rw [dU,if_neg (by omega),if_pos h4_0];exact congrArg tf (decide_eq_decide.2 (by omega))
    ·
     iterate 5 refine ab ?_
     refine am (fun h6_0=>?_) (fun h6_0=>?_)
     ·
      iterate 7 refine ab ?_
      refine ai rfl rfl (dm) ?_;iterate 3 refine ab ?_
      refine ak (0) [_] [_] ?_;rw [dU,if_neg (by omega),if_neg h4_0,if_pos h6_0];exact congrArg tf (decide_eq_decide.2 (by omega))
     ·
      iterate 6 refine ab ?_
      refine am (fun h8_0=>?_) (fun h8_0=>?_)
      ·
       iterate 8 refine ab ?_
       refine ai rfl rfl (aj (lv) (hc:=fX _ _ bE)) ?_;iterate 3 refine ab ?_
       refine ak (0) [_] [_] ?_;rw [dU,if_neg (by omega),if_neg h4_0,if_neg h6_0,if_pos (by omega)];rfl
      ·
       iterate 5 refine ab ?_
       refine am (fun h9_0=>?_) (fun h9_0=>?_)
       ·
        iterate 8 refine ab ?_
        refine ai rfl rfl (aj (lv) (hc:=fX _ _ bE)) ?_;iterate 3 refine ab ?_
        refine ak (0) [_] [_] ?_;rw [dU,if_neg (by omega),if_neg h4_0,if_neg h6_0,if_pos (by omega)];rfl
       ·
        iterate 4 refine ab ?_
        refine am (fun h10_0=>?_) (fun h10_0=>?_)
        ·
         iterate 6 refine ab ?_
         refine ai rfl rfl (aj (lv) (hc:=fX _ _ bE)) ?_;iterate 3 refine ab ?_
         refine ak (0) [_] [_] ?_;rw [dU,if_neg (by omega),if_neg h4_0,if_neg h6_0,if_pos (by omega)];rfl
        ·
         iterate 5 refine ab ?_
         refine am (fun h12_0=>?_) (fun h12_0=>?_)
         ·
          iterate 6 refine ab ?_
          refine ai rfl rfl (aj (lv) (hc:=tE _ _ bE)) ?_;iterate 3 refine ab ?_
          refine ak (0) [_] [_] ?_;rw [dU,if_neg (by omega),if_neg h4_0,if_neg h6_0,if_neg (by omega),if_pos h12_0];rfl
         ·
          iterate 5 refine ab ?_
          refine am (fun h14_0=>?_) (fun h14_0=>?_)
          ·
           iterate 6 refine ab ?_
           refine ai rfl rfl (aj (lv) (hc:=ru _ _ bE)) ?_;iterate 3 refine ab ?_
           refine ak (0) [_] [_] ?_;rw [dU,if_neg (by omega),if_neg h4_0,if_neg h6_0,if_neg (by omega),if_neg h12_0,if_pos h14_0];rfl
          ·
           iterate 5 refine ab ?_
           refine am (fun h16_0=>?_) (fun h16_0=>?_)
           ·
            iterate 6 refine ab ?_
            refine ai rfl rfl (aj (lv) (hc:=pf _ _ bE)) ?_;iterate 3 refine ab ?_
            refine ak (0) [_] [_] ?_;rw [dU,if_neg (by omega),if_neg h4_0,if_neg h6_0,if_neg (by omega),if_neg h12_0,if_neg h14_0,if_pos h16_0];rfl
           ·
            iterate 5 refine ab ?_
            refine am (fun h18_0=>?_) (fun h18_0=>?_)
            ·
             exfalso;omega
            ·
             iterate 9 refine ab ?_
             refine ak (0) [_] [_] ?_;rw [dU,if_neg (by omega),if_neg h4_0,if_neg h6_0,if_neg (by omega),if_neg h12_0,if_neg h14_0,if_neg h16_0];rfl
theorem rv (t:Int) (b:List UInt8) (lv:Nat) (h:b.length≤140737488351232) (ht:t≠6):AC Tryz.prog 146 [i64 t,.fz lv b.length (cl bc b)] emp (Ret (.fz 0 (gq t b).length (cl sc (gq t b)))):=by
 refine AC.intro te_ok (fn:=Tryz.f146) ⟨Tryz.func146,rfl,rfl⟩ (aE rfl) ?_;iterate 2 refine ab ?_
 refine ai rfl rfl (aR (0) sc) ?_;iterate 6 refine ab ?_
 refine AOps.bool rfl rfl (aj (lv) (hc:=oV _ _ _ bE bE)) (fun h1_2=>?_) (fun h1_2=>?_)
 ·
  iterate 13 refine ab ?_
  refine am (fun h4_0=>?_) (fun h4_0=>?_)
  ·
   iterate 8 refine ab ?_
   refine AOps.cons rfl rfl (by first|exact b9|exact aU) ?_;refine ai rfl rfl (bO 802 sc [_] [(_,_)]) ?_;iterate 3 refine ab ?_
   refine ak (0) [_] [_] ?_;rw [gq,if_pos h1_2,if_pos (by omega)];rfl
  ·
   iterate 5 refine ab ?_
   refine am (fun h5_0=>?_) (fun h5_0=>?_)
   ·
    iterate 8 refine ab ?_
    refine AOps.cons rfl rfl (by first|exact b9|exact aU) ?_;refine ai rfl rfl (bO 802 sc [_] [(_,_)]) ?_;iterate 3 refine ab ?_
    refine ak (0) [_] [_] ?_;rw [gq,if_pos h1_2,if_pos (by omega)];rfl
   ·
    iterate 4 refine ab ?_
    refine am (fun h6_0=>?_) (fun h6_0=>?_)
    ·
     iterate 6 refine ab ?_
     refine AOps.cons rfl rfl (by first|exact b9|exact aU) ?_;refine ai rfl rfl (bO 802 sc [_] [(_,_)]) ?_;iterate 3 refine ab ?_
     refine ak (0) [_] [_] ?_;rw [gq,if_pos h1_2,if_pos (by omega)];rfl
    ·
     iterate 5 refine ab ?_
     refine am (fun h8_0=>?_) (fun h8_0=>?_)
     ·
      iterate 5 refine ab ?_
      have h2:=xD h8_0 h1_2;iterate 2 refine ab ?_
      refine AOps.cons rfl rfl (by first|exact b9|exact aU) ?_;refine ai rfl rfl (bO 1003 sc [_] [(_,_)]) ?_;iterate 3 refine ab ?_
      refine ak (0) [_] [_] ?_;rw [gq,if_pos h1_2,if_neg (by omega),if_pos h8_0];rfl
     ·
      iterate 5 refine ab ?_
      refine am (fun h10_0=>?_) (fun h10_0=>?_)
      ·
       exfalso;omega
      ·
       iterate 6 refine ab ?_
       refine ai rfl rfl (aR (0) sc) ?_;iterate 2 refine ab ?_
       refine ak (0) [_] [_] ?_;rw [gq,if_pos h1_2,if_neg (by omega),if_neg h8_0];rfl
 ·
  iterate 5 refine ab ?_
  refine ai rfl rfl (aR (0) sc) ?_;iterate 2 refine ab ?_
  refine ak (0) [_] [_] ?_;rw [gq,if_neg (by simp [h1_2])];rfl
end
section
attribute [local irreducible] AWp AOps
def zer (b:List UInt8) (i:Nat):Nat:=if h:i<b.length∧¬ (b.getD i default).toNat=0 then zer b (i+1+(b.getD i default).toNat) else i
termination_by b.length-i
decreasing_by omega
theorem tM {b:List UInt8} {i:Nat} (h:i<b.length) (h2:¬ (b.getD i default).toNat=0):zer b i=zer b (i+1+(b.getD i default).toNat):=by rw [zer,dif_pos ⟨h,h2⟩]
theorem sn {b:List UInt8} {i:Nat} (h:¬ (i<b.length∧¬ (b.getD i default).toNat=0)):zer b i=i:=by rw [zer,dif_neg h]
def i3 (b:List UInt8):Bool:=decide (zer b 0<b.length)&&bm (b.take (zer b 0+1))
def eP (b:List UInt8):List UInt8:=if i3 b then b.take (zer b 0+1) else []
def cutR (b:List UInt8):List UInt8:=if i3 b then b.drop (zer b 0+1) else []
theorem jt {b:List UInt8} (h:i3 b=false):eP b=[]∧cutR b=[]:=by simp [eP,cutR,h]
theorem pF (b:List UInt8):(eP b).length≤255∧(cutR b).length≤b.length:=by
 cases h:i3 b with
 | false=>simp [jt h]
 | true=>
  have h2:=h;simp only [i3,Bool.and_eq_true] at h2;rw [eP,cutR,if_pos h,if_pos h];exact ⟨qN h2.2,by simp⟩
theorem tN:∀ {ls:List (List UInt8)} {b r:List UInt8} {i:Nat},GoodN ls→b.drop i=aw ls++r→zer b i+1=i+(aw ls).length
 | [],b,r,i,_,h=>by
  have hl:=congrArg List.length h;simp [fb] at hl;have hi:i<b.length:=by omega
  rw [List.drop_eq_getElem_cons hi,fb,List.singleton_append] at h;have e:(b.getD i default).toNat=0:=by
   rw [List.getD_eq_getElem?_getD,List.getElem?_eq_getElem hi,Option.getD_some,(List.cons.inj h).1];rfl
  rw [sn (by omega)];rfl
 | l::ls,b,r,i,g,h=>by
  have hl:=congrArg List.length h;have hb:=gn g.head.2;have hh:=g.head;simp [b7] at hl;have hi:i<b.length:=by omega
  have h2:=h;rw [List.drop_eq_getElem_cons hi,b7,List.cons_append,List.append_assoc] at h2;obtain ⟨e1,e2⟩:=List.cons.inj h2;have e:(b.getD i default).toNat=l.length:=by
   rw [List.getD_eq_getElem?_getD,List.getElem?_eq_getElem hi,Option.getD_some,e1];exact hb
  have e3:b.drop (i+1+l.length)=aw ls++r:=by rw [← List.drop_drop,e2,List.drop_left]
  rw [tM hi (by omega),e,tN g.tail e3,b7];simp;omega
theorem AL {b:List UInt8} {k:Nat} (hk:k≤b.length) (h:bm (b.take k)=true):i3 b=true∧eP b=b.take k∧cutR b=b.drop k:=by
 obtain ⟨ls,g,e,hl⟩:=d9.1 h;have hz:zer b 0+1=k:=by
  have hd:b.drop 0=aw ls++b.drop k:=by rw [← e,List.take_append_drop,List.drop_zero]
  have:=tN g hd;have hlen:=congrArg List.length e;rw [List.length_take] at hlen;omega
 have ho:i3 b=true:=by rw [i3,hz,h,decide_eq_true (by omega)];rfl
 rw [eP,cutR,if_pos ho,if_pos ho,hz];exact ⟨ho,rfl,rfl⟩
theorem uQ {b:List UInt8} (h:∀ j,1≤j→j≤b.length→j≤255→bm (b.take j)=false):i3 b=false:=by
 cases ho:i3 b with
 | false=>rfl
 | true=>
  have h2:=ho;simp only [i3,Bool.and_eq_true,decide_eq_true_eq] at h2;have h3:=qN h2.2;rw [List.length_take] at h3;rw [h (zer b 0+1) (by omega) (by omega) (by omega)] at h2;cases h2.2
def num (l:List UInt8):Int:=l.foldl (fun a x=>a*256+(x.toNat:Int)) 0
theorem un (l:List UInt8) (x:UInt8):num (l++[x])=num l*256+x.toNat:=by simp [num,List.foldl_append]
theorem fr {l:List UInt8} {k:Nat} (h:k<l.length):num (l.take (k+1))=num (l.take k)*256+(l.getD k default).toNat:=by
 rw [List.take_succ_eq_append_getElem h,un,List.getD_eq_getElem?_getD,List.getElem?_eq_getElem h];rfl
theorem zU:∀ (k:Nat) (l:List UInt8),l.length=k→0≤num l∧num l<256 ^ k
 | 0,l,h=>by
  obtain rfl:=List.eq_nil_of_length_eq_zero h;simp [num]
 | k+1,l,h=>by
  have hs:l=l.take k++[l.getD k default]:=by
   rw [List.getD_eq_getElem?_getD,List.getElem?_eq_getElem (by omega),Option.getD_some,← List.take_succ_eq_append_getElem (by omega),List.take_of_length_le (by omega)]
  have:=zU k (l.take k) (by rw [List.length_take];omega);have hx:=(l.getD k default).toNat_lt;rw [hs,un,Int.pow_succ];omega
theorem qp {l:List UInt8} {k:Nat} (h:k<4) (hl:l.length=k):0≤num l∧num l≤16777215:=by
 have:=zU k l hl;have e:k=0∨k=1∨k=2∨k=3:=by omega
 rcases e with rfl|rfl|rfl|rfl<;>simp at this<;>omega
def dg (c:List UInt8) (j:Nat):List UInt8:=(c.take (4*(j:Int)+4).toNat).drop (4*(j:Int)).toNat
theorem oe {c:List UInt8} {j:Nat} (hc:c.length=20) (hj:j<5):(dg c j).length=4:=by rw [dg,List.length_drop,List.length_take];omega
def wd (c:List UInt8) (j i:Nat):Int:=if j<i then num ((dg c j).take 4) else 0
structure Soa where
 m:List UInt8
 r:List UInt8
 n1:Int
 n2:Int
 n3:Int
 n4:Int
 n5:Int
def Gf (x:Soa):AV:=.agg [str x.m,str x.r,i64 x.n1,i64 x.n2,i64 x.n3,i64 x.n4,i64 x.n5]
def gH (b:List UInt8):Bool:=i3 b&&(i3 (cutR b)&&decide ((cutR (cutR b)).length=20))
def mj (b:List UInt8):Soa:=if gH b then ⟨eP b,eP (cutR b),wd (cutR (cutR b)) 0 5,wd (cutR (cutR b)) 1 5,wd (cutR (cutR b)) 2 5,wd (cutR (cutR b)) 3 5,wd (cutR (cutR b)) 4 5⟩ else ⟨[],[],0,0,0,0,0⟩
theorem kW {b:List UInt8} (h:gH b=false):mj b=⟨[],[],0,0,0,0,0⟩:=by rw [mj,if_neg (by simp [h])]
theorem Ay {c:List UInt8} {j:Nat} (hc:c.length=20) (hj:j<5):(((((c.getD (4*j) default).toNat:Int)*256+((c.getD (4*j+1) default).toNat:Int))*256+((c.getD (4*j+2) default).toNat:Int))*256+((c.getD (4*j+3) default).toNat:Int))=wd c j 5:=by
 have hl:=oe hc hj;have hg:∀ k,k<4→(dg c j).getD k default=c.getD (4*j+k) default:=by
  intro k hk;rw [dg,List.getD_eq_getElem?_getD,List.getD_eq_getElem?_getD,List.getElem?_drop,List.getElem?_take,if_pos (by omega)];congr 2<;>omega
 rw [wd,if_pos hj,fr (by omega),fr (by omega),fr (by omega),fr (by omega),hg 0 (by omega),hg 1 (by omega),hg 2 (by omega),hg 3 (by omega)];simp [num]
theorem oT (b:List UInt8) (lv:Nat) (h:b.length≤140737488351232):AC Tryz.prog 149 [.fz lv b.length (cl bc b)] emp (Ret (.tup [str (eP b),.fz lv (cutR b).length (cl bc (cutR b)),tf (i3 b)])):=by
 refine AC.intro te_ok (fn:=Tryz.f149) ⟨Tryz.func149,rfl,rfl⟩ (aE rfl) ?_;iterate 3 refine ab ?_
 refine ai rfl rfl (aR (lv) bc) ?_;iterate 8 refine ab ?_
 refine AWp.loopR (α:=Nat) [5,6,7,8,9,10,11,12,13,14,15,16,17,18,19,20,21,22,23,24] (fun i=>[(5,i64 i)]) (fun i=>[]) (fun i=>zer b i=zer b 0∧i≤b.length+255) (fun i=>b.length-i) 0 ?_ (Back.mk' (HasT.cons HasT.nil) HasH.nil) ?_
 ·
  exact ⟨rfl,Nat.zero_le _⟩
 ·
  rintro i ⟨hz,hi⟩;iterate 6 refine ab ?_
  refine am (fun h2_3=>?_) (fun h2_3=>?_)
  ·
   iterate 5 refine ab ?_
   refine am (fun h2_9=>?_) (fun h2_9=>?_)
   ·
    iterate 6 refine ab ?_
    have hk:=(b.getD i default).toNat_lt;have he:(b.getD (i:Int).toNat default).toNat=(b.getD i default).toNat:=rfl;have k9:¬ (b.getD i default).toNat=0:=fun e=>h2_9 (by show ((b.getD i default).toNat:Int)=0;omega)
    iterate 10 refine ab ?_
    refine ⟨i+1+(b.getD i default).toNat,?_,Back.mk' (HasT.cons HasT.nil (h1:=by exact ci (by show (i:Int)+(1+((b.getD i default).toNat:Int))=((i+1+(b.getD i default).toNat:Nat):Int);omega)) ) HasH.nil,?_⟩
    ·
     exact ⟨(tM (by omega) k9).symm.trans hz,by omega⟩
    ·
     omega
   ·
    iterate 7 refine ab ?_
    have k9:((b.getD i default).toNat:Int)=0:=Classical.not_not.1 h2_9;have hz0:zer b 0=i:=by rw [← hz];exact sn (by omega)
    iterate 3 refine ab ?_
    refine am (fun h4_3=>?_) (fun h4_3=>?_)
    ·
     exfalso;omega
    ·
     refine ab ?_;have ei:((i:Int)+1).toNat=i+1:=by omega
     iterate 4 refine ab ?_
     refine AOps.gcons rfl rfl rfl rfl rfl (by first|exact b9|exact aU) ?_;refine AOps.gbool rfl rfl rfl rfl rfl (aj (lv) (hc:=cu _ bE)) (fun h4_10=>?_) (fun h4_10=>?_)
     ·
      iterate 6 refine ab ?_
      refine bj [ag,ag,ag,ag,ag,ag,ag,ag,ag,ag,ag,ag] [af [0] [] 39,af [5] [] 40,af [39] [] 41,af [38,40] [] 42,af [41] [] 43,af [0] [] 44,af [5] [] 45,af [44] [] 46,af [43,45] [] 47,af [42] [] 3,af [46] [] 4,af [] [] 5] rfl ⟨ah,ah,ah,ah,aC fun _=>aN rfl rfl (by first|exact b9|exact aU),ah,ah,ah,ah,ah,ah,ah,trivial⟩ ?_;refine ab ?_;refine ak (lv) [_,_,_] [_,_,_] ?_;rw [ei] at h4_10;obtain ⟨q1,q2,q3⟩:=AL (b:=b) (k:=i+1) (by omega) h4_10;rw [q1,q2,q3,ei];rfl
     ·
      iterate 7 refine ab ?_
      refine ai rfl rfl (aR (lv) bc) ?_;iterate 3 refine ab ?_
      refine ak (lv) [_,_,_] [_,_,_] ?_;have ho:i3 b=false:=by rw [ei] at h4_10;rw [i3,hz0,h4_10,Bool.and_false]
      rw [(jt ho).1,(jt ho).2,ho];rfl
  ·
   iterate 13 refine ab ?_
   have hz0:zer b 0=i:=by rw [← hz];exact sn (by omega)
   iterate 3 refine ab ?_
   refine am (fun h4_3=>?_) (fun h4_3=>?_)
   ·
    refine ab ?_;have ei:((i:Int)+1).toNat=i+1:=by omega
    iterate 13 refine ab ?_
    refine ai rfl rfl (aR (lv) bc) ?_;iterate 3 refine ab ?_
    refine ak (lv) [_,_,_] [_,_,_] ?_;have ho:i3 b=false:=by rw [i3,hz0,decide_eq_false (by omega)];rfl
    rw [(jt ho).1,(jt ho).2,ho];rfl
   ·
    exfalso;omega
theorem oU (b:List UInt8) (lv:Nat) (h:b.length≤140737488351232):AC Tryz.prog 118 [.fz lv b.length (cl bc b)] emp (Ret (.tup [Gf (mj b),tf (gH b)])):=by
 have hc1:=pF b;have hc2:=pF (cutR b);refine AC.intro te_ok (fn:=Tryz.f118) ⟨Tryz.func118,rfl,rfl⟩ (aE rfl) ?_;iterate 2 refine ab ?_
 refine ai rfl rfl (ap 100) ?_;iterate 4 refine ab ?_
 refine ai rfl rfl (ap 200) ?_;iterate 14 refine ab ?_
 refine ai rfl rfl (aj (lv) (hc:=oT _ _ bE)) ?_;iterate 3 refine ab ?_
 refine AOps.bool rfl rfl (bM) (fun h4_5=>?_) (fun h4_5=>?_)
 ·
  iterate 16 refine ab ?_
  refine ai rfl rfl (aj (lv) (hc:=oT _ _ bE)) ?_;iterate 3 refine ab ?_
  refine AOps.bool rfl rfl (bM) (fun h7_5=>?_) (fun h7_5=>?_)
  ·
   iterate 12 refine ab ?_
   refine am (fun h8_5=>?_) (fun h8_5=>?_)
   ·
    iterate 5 refine ab ?_
    refine ai rfl rfl (aL []) ?_;iterate 4 refine ab ?_
    refine ak (0) [_,_] [_,_] ?_;have ho:gH b=false:=by rw [gH,decide_eq_false (by omega),Bool.and_false,Bool.and_false]
    rw [kW ho,ho];rfl
   ·
    iterate 7 refine ab ?_
    have hc20:(cutR (cutR b)).length=20:=by omega
    have hL5:([2,3,4,5,6]:List Nat).length=5:=rfl;iterate 5 refine ab ?_
    refine ai rfl rfl (bO 1105 (fun k=>[AV.ptr 200 0 k]) [2,3,4,5,6] [(_,_),(_,_),(_,_),(_,_),(_,_)]) ?_;iterate 4 refine ab ?_
    refine AWp.loopR (α:=Nat) [7,8,10,44,45,46,47,48,49,50,51,52,53,54,55,56,57,58,59,60,61,62,63,64,65,66,67,68,69,70,71] (fun i=>[(44,i64 i)]) (fun i=>[(200,.box [str (eP b),str (eP (cutR b)),i64 (wd (cutR (cutR b)) 0 i),i64 (wd (cutR (cutR b)) 1 i),i64 (wd (cutR (cutR b)) 2 i),i64 (wd (cutR (cutR b)) 3 i),i64 (wd (cutR (cutR b)) 4 i)])]) (fun i=>i≤5) (fun i=>5-i) 0 ?_ (Back.mk' (HasT.cons HasT.nil) (HasH.cons HasH.nil)) ?_
    ·
     exact Nat.zero_le _
    ·
     rintro i hi;iterate 2 refine ab ?_
     refine am (fun h11_0=>?_) (fun h11_0=>?_)
     ·
      iterate 8 refine ab ?_
      obtain rfl|rfl|rfl|rfl|rfl:i=0∨i=1∨i=2∨i=3∨i=4:=by omega
      ·
       iterate 2 refine ab ?_
       refine ai rfl rfl (bb (z:=.ptr 200 0 2) (hy:=rfl)) ?_;iterate 16 refine ab ?_
       refine AWp.loopR (α:=Nat) [10,57,58,59,60,61,62,63,64,65,66,67,68,69,70] (fun k=>[(57,i64 k)]) (fun k=>[(200,.box [str (eP b),str (eP (cutR b)),i64 (num ((dg (cutR (cutR b)) 0).take k)),i64 (wd (cutR (cutR b)) 1 0),i64 (wd (cutR (cutR b)) 2 0),i64 (wd (cutR (cutR b)) 3 0),i64 (wd (cutR (cutR b)) 4 0)])]) (fun k=>k≤4) (fun k=>4-k) 0 ?_ (Back.mk' (HasT.cons HasT.nil) (HasH.cons HasH.nil)) ?_
       ·
        exact Nat.zero_le _
       ·
        rintro k hk;have hD:=oe (j:=0) hc20 (by omega);have hn:k<4→0≤num ((dg (cutR (cutR b)) 0).take k)∧num ((dg (cutR (cutR b)) 0).take k)≤16777215:=fun h4=>qp h4 (by rw [List.length_take];omega)
        have hDl:((dg (cutR (cutR b)) 0).length:Int)=4:=by omega
        have hDl2:((List.drop (4*((0:Nat):Int)).toNat (List.take (4*((0:Nat):Int)+4).toNat (cutR (cutR b)))).length:Int)=4:=hDl;have hby:((List.drop (4*((0:Nat):Int)).toNat (List.take (4*((0:Nat):Int)+4).toNat (cutR (cutR b)))).getD (k:Int).toNat default).toNat<256:=((dg (cutR (cutR b)) 0).getD k default).toNat_lt;iterate 2 refine ab ?_
        refine am (fun h14_0=>?_) (fun h14_0=>?_)
        ·
         iterate 17 refine ab ?_
         refine ai rfl rfl (ik 8) ?_;iterate 2 refine ab ?_
         refine ai rfl rfl (rM) ?_;iterate 7 refine ab ?_
         have hst:=fr (l:=dg (cutR (cutR b)) 0) (k:=k) (by omega);refine ⟨k+1,?_,Back.mk' (HasT.cons HasT.nil) (HasH.cons HasH.nil (h1:=by rw [hst];rfl) ),?_⟩
         ·
          omega
         ·
          omega
        ·
         iterate 5 refine ab ?_
         obtain rfl:k=4:=by omega
         iterate 3 refine ab ?_
         refine ⟨1,?_,Back.mk' (HasT.cons HasT.nil) (HasH.cons HasH.nil),?_⟩
         ·
          omega
         ·
          omega
      ·
       iterate 2 refine ab ?_
       refine ai rfl rfl (bb (z:=.ptr 200 0 3) (hy:=rfl)) ?_;iterate 16 refine ab ?_
       refine AWp.loopR (α:=Nat) [10,57,58,59,60,61,62,63,64,65,66,67,68,69,70] (fun k=>[(57,i64 k)]) (fun k=>[(200,.box [str (eP b),str (eP (cutR b)),i64 (wd (cutR (cutR b)) 0 1),i64 (num ((dg (cutR (cutR b)) 1).take k)),i64 (wd (cutR (cutR b)) 2 1),i64 (wd (cutR (cutR b)) 3 1),i64 (wd (cutR (cutR b)) 4 1)])]) (fun k=>k≤4) (fun k=>4-k) 0 ?_ (Back.mk' (HasT.cons HasT.nil) (HasH.cons HasH.nil)) ?_
       ·
        exact Nat.zero_le _
       ·
        rintro k hk;have hD:=oe (j:=1) hc20 (by omega);have hn:k<4→0≤num ((dg (cutR (cutR b)) 1).take k)∧num ((dg (cutR (cutR b)) 1).take k)≤16777215:=fun h4=>qp h4 (by rw [List.length_take];omega)
        have hDl:((dg (cutR (cutR b)) 1).length:Int)=4:=by omega
        have hDl2:((List.drop (4*((1:Nat):Int)).toNat (List.take (4*((1:Nat):Int)+4).toNat (cutR (cutR b)))).length:Int)=4:=hDl;have hby:((List.drop (4*((1:Nat):Int)).toNat (List.take (4*((1:Nat):Int)+4).toNat (cutR (cutR b)))).getD (k:Int).toNat default).toNat<256:=((dg (cutR (cutR b)) 1).getD k default).toNat_lt;iterate 2 refine ab ?_
        refine am (fun h14_0=>?_) (fun h14_0=>?_)
        ·
         iterate 17 refine ab ?_
         refine ai rfl rfl (ik 8) ?_;iterate 2 refine ab ?_
         refine ai rfl rfl (rM) ?_;iterate 7 refine ab ?_
         have hst:=fr (l:=dg (cutR (cutR b)) 1) (k:=k) (by omega);refine ⟨k+1,?_,Back.mk' (HasT.cons HasT.nil) (HasH.cons HasH.nil (h1:=by rw [hst];rfl) ),?_⟩
         ·
          omega
         ·
          omega
        ·
         iterate 5 refine ab ?_
         obtain rfl:k=4:=by omega
         iterate 3 refine ab ?_
         refine ⟨2,?_,Back.mk' (HasT.cons HasT.nil) (HasH.cons HasH.nil),?_⟩
         ·
          omega
         ·
          omega
      ·
       iterate 2 refine ab ?_
       refine ai rfl rfl (bb (z:=.ptr 200 0 4) (hy:=rfl)) ?_;iterate 16 refine ab ?_
       refine AWp.loopR (α:=Nat) [10,57,58,59,60,61,62,63,64,65,66,67,68,69,70] (fun k=>[(57,i64 k)]) (fun k=>[(200,.box [str (eP b),str (eP (cutR b)),i64 (wd (cutR (cutR b)) 0 2),i64 (wd (cutR (cutR b)) 1 2),i64 (num ((dg (cutR (cutR b)) 2).take k)),i64 (wd (cutR (cutR b)) 3 2),i64 (wd (cutR (cutR b)) 4 2)])]) (fun k=>k≤4) (fun k=>4-k) 0 ?_ (Back.mk' (HasT.cons HasT.nil) (HasH.cons HasH.nil)) ?_
       ·
        exact Nat.zero_le _
       ·
        rintro k hk;have hD:=oe (j:=2) hc20 (by omega);have hn:k<4→0≤num ((dg (cutR (cutR b)) 2).take k)∧num ((dg (cutR (cutR b)) 2).take k)≤16777215:=fun h4=>qp h4 (by rw [List.length_take];omega)
        have hDl:((dg (cutR (cutR b)) 2).length:Int)=4:=by omega
        have hDl2:((List.drop (4*((2:Nat):Int)).toNat (List.take (4*((2:Nat):Int)+4).toNat (cutR (cutR b)))).length:Int)=4:=hDl;have hby:((List.drop (4*((2:Nat):Int)).toNat (List.take (4*((2:Nat):Int)+4).toNat (cutR (cutR b)))).getD (k:Int).toNat default).toNat<256:=((dg (cutR (cutR b)) 2).getD k default).toNat_lt;iterate 2 refine ab ?_
        refine am (fun h14_0=>?_) (fun h14_0=>?_)
        ·
         iterate 17 refine ab ?_
         refine ai rfl rfl (ik 8) ?_;iterate 2 refine ab ?_
         refine ai rfl rfl (rM) ?_;iterate 7 refine ab ?_
         have hst:=fr (l:=dg (cutR (cutR b)) 2) (k:=k) (by omega);refine ⟨k+1,?_,Back.mk' (HasT.cons HasT.nil) (HasH.cons HasH.nil (h1:=by rw [hst];rfl) ),?_⟩
         ·
          omega
         ·
          omega
        ·
         iterate 5 refine ab ?_
         obtain rfl:k=4:=by omega
         iterate 3 refine ab ?_
         refine ⟨3,?_,Back.mk' (HasT.cons HasT.nil) (HasH.cons HasH.nil),?_⟩
         ·
          omega
         ·
          omega
      ·
       iterate 2 refine ab ?_
       refine ai rfl rfl (bb (z:=.ptr 200 0 5) (hy:=rfl)) ?_;iterate 16 refine ab ?_
       refine AWp.loopR (α:=Nat) [10,57,58,59,60,61,62,63,64,65,66,67,68,69,70] (fun k=>[(57,i64 k)]) (fun k=>[(200,.box [str (eP b),str (eP (cutR b)),i64 (wd (cutR (cutR b)) 0 3),i64 (wd (cutR (cutR b)) 1 3),i64 (wd (cutR (cutR b)) 2 3),i64 (num ((dg (cutR (cutR b)) 3).take k)),i64 (wd (cutR (cutR b)) 4 3)])]) (fun k=>k≤4) (fun k=>4-k) 0 ?_ (Back.mk' (HasT.cons HasT.nil) (HasH.cons HasH.nil)) ?_
       ·
        exact Nat.zero_le _
       ·
        rintro k hk;have hD:=oe (j:=3) hc20 (by omega);have hn:k<4→0≤num ((dg (cutR (cutR b)) 3).take k)∧num ((dg (cutR (cutR b)) 3).take k)≤16777215:=fun h4=>qp h4 (by rw [List.length_take];omega)
        have hDl:((dg (cutR (cutR b)) 3).length:Int)=4:=by omega
        have hDl2:((List.drop (4*((3:Nat):Int)).toNat (List.take (4*((3:Nat):Int)+4).toNat (cutR (cutR b)))).length:Int)=4:=hDl;have hby:((List.drop (4*((3:Nat):Int)).toNat (List.take (4*((3:Nat):Int)+4).toNat (cutR (cutR b)))).getD (k:Int).toNat default).toNat<256:=((dg (cutR (cutR b)) 3).getD k default).toNat_lt;iterate 2 refine ab ?_
        refine am (fun h14_0=>?_) (fun h14_0=>?_)
        ·
         iterate 17 refine ab ?_
         refine ai rfl rfl (ik 8) ?_;iterate 2 refine ab ?_
         refine ai rfl rfl (rM) ?_;iterate 7 refine ab ?_
         have hst:=fr (l:=dg (cutR (cutR b)) 3) (k:=k) (by omega);refine ⟨k+1,?_,Back.mk' (HasT.cons HasT.nil) (HasH.cons HasH.nil (h1:=by rw [hst];rfl) ),?_⟩
         ·
          omega
         ·
          omega
        ·
         iterate 5 refine ab ?_
         obtain rfl:k=4:=by omega
         iterate 3 refine ab ?_
         refine ⟨4,?_,Back.mk' (HasT.cons HasT.nil) (HasH.cons HasH.nil),?_⟩
         ·
          omega
         ·
          omega
      ·
       iterate 2 refine ab ?_
       refine ai rfl rfl (bb (z:=.ptr 200 0 6) (hy:=rfl)) ?_;iterate 16 refine ab ?_
       refine AWp.loopR (α:=Nat) [10,57,58,59,60,61,62,63,64,65,66,67,68,69,70] (fun k=>[(57,i64 k)]) (fun k=>[(200,.box [str (eP b),str (eP (cutR b)),i64 (wd (cutR (cutR b)) 0 4),i64 (wd (cutR (cutR b)) 1 4),i64 (wd (cutR (cutR b)) 2 4),i64 (wd (cutR (cutR b)) 3 4),i64 (num ((dg (cutR (cutR b)) 4).take k))])]) (fun k=>k≤4) (fun k=>4-k) 0 ?_ (Back.mk' (HasT.cons HasT.nil) (HasH.cons HasH.nil)) ?_
       ·
        exact Nat.zero_le _
       ·
        rintro k hk;have hD:=oe (j:=4) hc20 (by omega);have hn:k<4→0≤num ((dg (cutR (cutR b)) 4).take k)∧num ((dg (cutR (cutR b)) 4).take k)≤16777215:=fun h4=>qp h4 (by rw [List.length_take];omega)
        have hDl:((dg (cutR (cutR b)) 4).length:Int)=4:=by omega
        have hDl2:((List.drop (4*((4:Nat):Int)).toNat (List.take (4*((4:Nat):Int)+4).toNat (cutR (cutR b)))).length:Int)=4:=hDl;have hby:((List.drop (4*((4:Nat):Int)).toNat (List.take (4*((4:Nat):Int)+4).toNat (cutR (cutR b)))).getD (k:Int).toNat default).toNat<256:=((dg (cutR (cutR b)) 4).getD k default).toNat_lt;iterate 2 refine ab ?_
        refine am (fun h14_0=>?_) (fun h14_0=>?_)
        ·
         iterate 17 refine ab ?_
         refine ai rfl rfl (ik 8) ?_;iterate 2 refine ab ?_
         refine ai rfl rfl (rM) ?_;iterate 7 refine ab ?_
         have hst:=fr (l:=dg (cutR (cutR b)) 4) (k:=k) (by omega);refine ⟨k+1,?_,Back.mk' (HasT.cons HasT.nil) (HasH.cons HasH.nil (h1:=by rw [hst];rfl) ),?_⟩
         ·
          omega
         ·
          omega
        ·
         iterate 5 refine ab ?_
         obtain rfl:k=4:=by omega
         iterate 3 refine ab ?_
         refine ⟨5,?_,Back.mk' (HasT.cons HasT.nil) (HasH.cons HasH.nil),?_⟩
         ·
          omega
         ·
          omega
     ·
      iterate 6 refine ab ?_
      obtain rfl:i=5:=by omega
      have ho:gH b=true:=by rw [gH,h4_5,h7_5,decide_eq_true (by omega)];rfl
      have hv:mj b=⟨eP b,eP (cutR b),wd (cutR (cutR b)) 0 5,wd (cutR (cutR b)) 1 5,wd (cutR (cutR b)) 2 5,wd (cutR (cutR b)) 3 5,wd (cutR (cutR b)) 4 5⟩:=by rw [mj,if_pos ho]
      iterate 5 refine ab ?_
      refine ak (0) [_,_] [_,_] ?_;rw [hv,ho];rfl
  ·
   iterate 18 refine ab ?_
   refine ai rfl rfl (aL []) ?_;iterate 4 refine ab ?_
   refine ak (0) [_,_] [_,_] ?_;have ho:gH b=false:=by rw [gH,h7_5,Bool.false_and,Bool.and_false]
   rw [kW ho,ho];rfl
 ·
  iterate 13 refine ab ?_
  refine ai rfl rfl (aL []) ?_;iterate 4 refine ab ?_
  refine ak (0) [_,_] [_,_] ?_;have ho:gH b=false:=by rw [gH,h4_5];rfl
  rw [kW ho,ho];rfl
end
section
attribute [local irreducible] AWp AOps
def oQ (b:List UInt8):Int:=(((((b.getD 0 default).toNat:Int)*256+((b.getD 1 default).toNat:Int))*256+((b.getD 2 default).toNat:Int))*256+((b.getD 3 default).toNat:Int))
theorem i1 {c:List UInt8} {j:Nat} (hc:c.length=20) (hj:j<5):oQ (c.drop (4*j))=wd c j 5:=by
 rw [← Ay hc hj,oQ];have e:∀ k,(c.drop (4*j)).getD k default=c.getD (4*j+k) default:=fun k=>by rw [List.getD_eq_getElem?_getD,List.getD_eq_getElem?_getD,List.getElem?_drop]
 rw [e 0,e 1,e 2,e 3];rfl
def fA (t:Int) (d:List UInt8):Bool:=if t=6 then decide (d.length≤65535)&&gH d else dU t d
def bF (t:Int) (d:List UInt8):List (List UInt8):=if t=6 then (if fA 6 d then [(mj d).m,(mj d).r] else []) else gq t d
theorem c7 {t:Int} {d:List UInt8} (h:t≠6):fA t d=dU t d:=if_neg h
theorem gM {t:Int} {d:List UInt8} (h:t≠6):bF t d=gq t d:=if_neg h
theorem B4 {d:List UInt8} (h:d.length≤65535):fA 6 d=gH d:=by rw [fA,if_pos rfl,decide_eq_true h,Bool.true_and]
theorem xB {d:List UInt8} (h:¬ d.length≤65535):fA 6 d=false:=by rw [fA,if_pos rfl,decide_eq_false h,Bool.false_and]
theorem rx (l m:List UInt8) (lv lw:Nat):AC Tryz.prog 13 [.fz lv l.length (cl bc l),.fz lw m.length (cl bc m)] emp (Ret (tf (decide (l=m)))):=by
 refine AC.intro te_ok (fn:=Tryz.f13) ⟨Tryz.func13,rfl,rfl⟩ (aE rfl) ?_;iterate 7 refine ab ?_
 refine AOps.cons rfl rfl (by first|exact b9|exact aU) ?_;refine ab ?_;refine AOps.cons rfl rfl (by first|exact b9|exact aU) ?_;refine ai rfl rfl (qf) ?_;iterate 3 refine ab ?_
 refine ak (0) [_] [_] ?_;first|rfl|(simp;done)
theorem iI (l:List UInt8) (lv:Nat) (h:l.length≤140737488351232):AC Tryz.prog 19 [.fz lv l.length (cl bc l)] emp (Ret (.fz 0 l.length (cl bc l))):=by
 refine AC.intro te_ok (fn:=Tryz.f19) ⟨Tryz.func19,rfl,rfl⟩ (aE rfl) ?_;iterate 2 refine ab ?_
 refine ai rfl rfl (aR (0) bc) ?_;iterate 5 refine ab ?_
 refine AOps.snil (fun h1_1=>?_) ?_
 ·
  iterate 4 refine ab ?_
  refine ai rfl rfl (aR (0) bc) ?_;iterate 2 refine ab ?_
  refine ak (0) [_] [_] ?_;obtain rfl:=List.eq_nil_of_length_eq_zero h1_1;rfl
 ·
  iterate 5 refine ab ?_
  refine ai rfl rfl (bO 400 bc [] []) ?_;iterate 5 refine ab ?_
  refine ak (0) [_] [_] ?_;rfl
theorem fM (b:List UInt8) (lv:Nat) (h:b.length≤140737488351232):AC Tryz.prog 150 [.fz lv b.length (cl bc b)] emp (Ret (.tup [str (eP b),.fz lv (cutR b).length (cl bc (cutR b)),tf (i3 b)])):=by
 refine AC.intro te_ok (fn:=Tryz.f150) ⟨Tryz.func150,rfl,rfl⟩ (aE rfl) ?_;iterate 3 refine ab ?_
 refine ai rfl rfl (aR (lv) bc) ?_;iterate 8 refine ab ?_
 refine AWp.loopR (α:=Nat) [2,3,4,5,6,7,8,9,10,11,12,13,14,15,16,17,18,19,20,21,22,23,24,25,26,27] (fun k=>[(5,i64 k)]) (fun k=>[]) (fun k=>1≤k∧k≤256∧∀ j,1≤j→j<k→bm (b.take j)=false) (fun k=>256-k) 1 ?_ (Back.mk' (HasT.cons HasT.nil) HasH.nil) ?_
 ·
  exact ⟨by omega,by omega,fun j h1 h2=>by omega⟩
 ·
  rintro k ⟨hk1,hk2,hk⟩;iterate 6 refine ab ?_
  refine am (fun h2_3=>?_) (fun h2_3=>?_)
  ·
   iterate 2 refine ab ?_
   refine am (fun h2_6=>?_) (fun h2_6=>?_)
   ·
    iterate 11 refine ab ?_
    refine AOps.cons rfl rfl (by first|exact b9|exact aU) ?_;refine AOps.bool rfl rfl (aj (lv) (hc:=aM _ bE)) (fun h4_4=>?_) (fun h4_4=>?_)
    ·
     iterate 3 refine ab ?_
     refine bj [ag,ag,ag,ag,ag,ag,ag,ag,ag,ag] [af [0] [] 22,af [5] [] 23,af [21,22] [] 24,af [23] [] 25,af [0] [] 26,af [5] [] 27,af [25,26] [] 28,af [24] [] 3,af [27] [] 4,af [] [] 5] rfl ⟨ah,ah,ah,aC fun _=>aN rfl rfl (by first|exact b9|exact aU),ah,ah,ah,ah,ah,ah,trivial⟩ ?_;refine ab ?_;refine ak (lv) [_,_,_] [_,_,_] ?_;obtain ⟨q1,q2,q3⟩:=AL (b:=b) (k:=k) (by omega) h4_4;rw [q1,q2,q3];rfl
    ·
     iterate 8 refine ab ?_
     refine ⟨k+1,?_,Back.mk' (HasT.cons HasT.nil) HasH.nil,?_⟩
     ·
      refine ⟨by omega,by omega,fun j h1 h2=>?_⟩;by_cases e:j=k
      · subst e;exact h4_4
      · exact hk j h1 (by omega)
     ·
      omega
   ·
    iterate 7 refine ab ?_
    refine ai rfl rfl (aR (lv) bc) ?_;iterate 3 refine ab ?_
    refine ak (lv) [_,_,_] [_,_,_] ?_;have ho:=uQ (b:=b) (fun j h1 h2 h3=>hk j h1 (by omega));rw [(jt ho).1,(jt ho).2,ho];rfl
  ·
   iterate 10 refine ab ?_
   refine ai rfl rfl (aR (lv) bc) ?_;iterate 3 refine ab ?_
   refine ak (lv) [_,_,_] [_,_,_] ?_;have ho:=uQ (b:=b) (fun j h1 h2 h3=>hk j h1 (by omega));rw [(jt ho).1,(jt ho).2,ho];rfl
theorem cy (b:List UInt8) (lv:Nat) (h:b.length≤140737488351232) (h4:4≤b.length):AC Tryz.prog 151 [.fz lv b.length (cl bc b)] emp (Ret (i64 (oQ b))):=by
 have f0:=(b.getD (Int.toNat 0) default).toNat_lt;have g0:=(b[0]?.getD default).toNat_lt;have f1:=(b.getD (Int.toNat 1) default).toNat_lt;have g1:=(b[1]?.getD default).toNat_lt;have f2:=(b.getD (Int.toNat 2) default).toNat_lt;have g2:=(b[2]?.getD default).toNat_lt;have f3:=(b.getD (Int.toNat 3) default).toNat_lt;have g3:=(b[3]?.getD default).toNat_lt;refine AC.intro te_ok (fn:=Tryz.f151) ⟨Tryz.func151,rfl,rfl⟩ (aE rfl) ?_;iterate 5 refine ab ?_
 refine bj [ag,ag,ag,ag,ag,ag,ag,ag,ag,ag,ag,ag,ag,ag,ag,ag,ag,ag,ag,ag,ag,ag,ag] [af [0] [] 4,af [3] [] 5,af [4] [] 6,af [5] [] 7,af [6] [] 8,af [0] [] 9,af [8] [] 10,af [9] [] 11,af [10] [] 12,af [7,11] [] 13,af [12] [] 14,af [0] [] 15,af [14] [] 16,af [15] [] 17,af [16] [] 18,af [13,17] [] 19,af [18] [] 20,af [0] [] 21,af [20] [] 22,af [21] [] 23,af [22] [] 24,af [19,23] [] 25,af [24] [] 3] rfl ⟨ah,ah,ah,ah,ah,ah,ah,ah,ah,ah,ah,ah,ah,ah,ah,ah,ah,ah,ah,ah,ah,ah,ah,trivial⟩ ?_;refine ab ?_;refine ak (0) [_] [_] ?_;rfl
theorem gC (b:List UInt8) (lv:Nat) (h:b.length≤140737488351232):AC Tryz.prog 125 [.fz lv b.length (cl bc b)] emp (Ret (.tup [Gf (mj b),tf (gH b)])):=by
 have hc1:=pF b;have hc2:=pF (cutR b);refine AC.intro te_ok (fn:=Tryz.f125) ⟨Tryz.func125,rfl,rfl⟩ (aE rfl) ?_;iterate 2 refine ab ?_
 refine ai rfl rfl (ap 100) ?_;iterate 5 refine ab ?_
 refine ai rfl rfl (aj (lv) (hc:=fM _ _ bE)) ?_;iterate 3 refine ab ?_
 refine AOps.bool rfl rfl (bM) (fun h1_5=>?_) (fun h1_5=>?_)
 ·
  iterate 15 refine ab ?_
  refine ai rfl rfl (aj (lv) (hc:=fM _ _ bE)) ?_;iterate 3 refine ab ?_
  refine AOps.bool rfl rfl (bM) (fun h4_5=>?_) (fun h4_5=>?_)
  ·
   iterate 12 refine ab ?_
   refine am (fun h5_5=>?_) (fun h5_5=>?_)
   ·
    iterate 5 refine ab ?_
    refine ai rfl rfl (aL []) ?_;iterate 4 refine ab ?_
    refine ak (0) [_,_] [_,_] ?_;have ho:gH b=false:=by rw [gH,decide_eq_false (by omega),Bool.and_false,Bool.and_false]
    rw [kW ho,ho];rfl
   ·
    iterate 5 refine ab ?_
    have hc20:(cutR (cutR b)).length=20:=by omega
    have ho:gH b=true:=by rw [gH,h1_5,h4_5,decide_eq_true (by omega)];rfl
    have hv:mj b=⟨eP b,eP (cutR b),wd (cutR (cutR b)) 0 5,wd (cutR (cutR b)) 1 5,wd (cutR (cutR b)) 2 5,wd (cutR (cutR b)) 3 5,wd (cutR (cutR b)) 4 5⟩:=by rw [mj,if_pos ho]
    have e0:oQ (cutR (cutR b))=wd (cutR (cutR b)) 0 5:=i1 (j:=0) hc20 (by omega);have e1:oQ ((cutR (cutR b)).drop (Int.toNat 4))=wd (cutR (cutR b)) 1 5:=i1 (j:=1) hc20 (by omega);have e2:oQ ((cutR (cutR b)).drop (Int.toNat 8))=wd (cutR (cutR b)) 2 5:=i1 (j:=2) hc20 (by omega);have e3:oQ ((cutR (cutR b)).drop (Int.toNat 12))=wd (cutR (cutR b)) 3 5:=i1 (j:=3) hc20 (by omega);have e4:oQ ((cutR (cutR b)).drop (Int.toNat 16))=wd (cutR (cutR b)) 4 5:=i1 (j:=4) hc20 (by omega);refine bj [ag,ag,ag,ag,ag,ag,ag,ag,ag,ag,ag,ag,ag,ag,ag,ag,ag,bv [(100,_)],ag] [af [4] [] 32,af [7] [] 33,af [5] [] 34,af [33] [] 35,af [5] [] 36,af [35] [] 37,af [36] [] 38,af [5] [] 39,af [38] [] 40,af [39] [] 41,af [5] [] 42,af [41] [] 43,af [42] [] 44,af [5] [] 45,af [44] [] 46,af [45] [] 47,af [31,32,34,37,40,43,46] [] 48,af [2,47] [100] 0 [100],af [] [] 4] rfl ⟨ah,ah,ah,aC fun _=>aN rfl rfl (aj (lv) (hc:=cy _ _ bE bE)),ah,ah,aC fun _=>aN rfl rfl (aj (lv) (hc:=cy _ _ bE bE)),ah,ah,aC fun _=>aN rfl rfl (aj (lv) (hc:=cy _ _ bE bE)),ah,ah,aC fun _=>aN rfl rfl (aj (lv) (hc:=cy _ _ bE bE)),ah,ah,aC fun _=>aN rfl rfl (aj (lv) (hc:=cy _ _ bE bE)),aC fun _=>aN rfl rfl (aL [(_,_),(_,_),(_,_),(_,_),(_,_),(_,_),(_,_)]),ah,ah,trivial⟩ ?_;refine ab ?_;refine ak (0) [_,_] [_,_] ?_;rw [e0,e1,e2,e3,e4,hv,ho];rfl
  ·
   iterate 18 refine ab ?_
   refine ai rfl rfl (aL []) ?_;iterate 4 refine ab ?_
   refine ak (0) [_,_] [_,_] ?_;have ho:gH b=false:=by rw [gH,h4_5,Bool.false_and,Bool.and_false]
   rw [kW ho,ho];rfl
 ·
  iterate 13 refine ab ?_
  refine ai rfl rfl (aL []) ?_;iterate 4 refine ab ?_
  refine ak (0) [_,_] [_,_] ?_;have ho:gH b=false:=by rw [gH,h1_5];rfl
  rw [kW ho,ho];rfl
theorem jQ (b:List UInt8) (lv:Nat) (h:b.length≤140737488351232):AC Tryz.prog 126 [.fz lv b.length (cl bc b)] emp (Ret (tf (tT b))):=by
 refine AC.intro te_ok (fn:=Tryz.f126) ⟨Tryz.func126,rfl,rfl⟩ (aE rfl) ?_;iterate 9 refine ab ?_
 refine am (fun h1_2=>?_) (fun h1_2=>?_)
 ·
  iterate 7 refine ab ?_
  refine ak (0) [_] [_] ?_;rw [tT,decide_eq_false (by omega)];rfl
 ·
  iterate 5 refine ab ?_
  refine AWp.loopR (α:=List UInt8) [0,2,3,7,8,9,10,11,12,13,14,15,16,17,18,19,20,21,22] (fun c=>[(0,.fz lv c.length (cl bc c))]) (fun c=>[]) (fun c=>nA c=nA b∧c.length≤b.length) (fun c=>c.length) b ?_ (Back.mk' (HasT.cons HasT.nil) HasH.nil) ?_
  ·
   exact ⟨rfl,Nat.le_refl _⟩
  ·
   rintro c ⟨hc,hl⟩;iterate 5 refine ab ?_
   refine am (fun h3_2=>?_) (fun h3_2=>?_)
   ·
    iterate 6 refine ab ?_
    have hk:=(c.getD 0 default).toNat_lt;have he:(c.getD (Int.toNat 0) default).toNat=(c.getD 0 default).toNat:=rfl;have hs:(c[0]?.getD default).toNat=(c.getD 0 default).toNat:=congrArg UInt8.toNat (List.getD_eq_getElem?_getD).symm;iterate 13 refine ab ?_
    refine am (fun h5_4=>?_) (fun h5_4=>?_)
    ·
     iterate 7 refine ab ?_
     refine ak (0) [_] [_] ?_;rw [tT,← hc,wG (by omega) (by omega),Bool.and_false];rfl
    ·
     iterate 10 refine ab ?_
     have e1:((1:Int)+((c.getD (Int.toNat 0) default).toNat:Int)).toNat=1+(c.getD 0 default).toNat:=by omega
     refine ⟨_,?_,Back.mk' (HasT.cons HasT.nil) HasH.nil,?_⟩
     ·
      rw [e1];exact ⟨(rG (by omega) (by omega)).symm.trans hc,by rw [List.length_drop];omega⟩
     ·
      rw [e1,List.length_drop];omega
   ·
    iterate 8 refine ab ?_
    refine ak (0) [_] [_] ?_;rw [tT,← hc,tS (by omega),Bool.and_true,decide_eq_true (by omega)];rfl
theorem j4 (b:List UInt8) (lv:Nat) (h:b.length≤140737488351232):AC Tryz.prog 127 [.fz lv b.length (cl bc b)] emp (Ret (tf (mo b))):=by
 refine AC.intro te_ok (fn:=Tryz.f127) ⟨Tryz.func127,rfl,rfl⟩ (aE rfl) ?_;iterate 6 refine ab ?_
 refine AWp.loopR (α:=List UInt8) [0,2,3,4,5,6,7,8,9,10,11,12,13,14,15,16,17,18,19,20,21,22,23,24,25,26,27,28] (fun c=>[(0,.fz lv c.length (cl bc c))]) (fun c=>[]) (fun c=>mo c=mo b∧c.length≤b.length) (fun c=>c.length) b ?_ (Back.mk' (HasT.cons HasT.nil) HasH.nil) ?_
 ·
  exact ⟨rfl,Nat.le_refl _⟩
 ·
  rintro c ⟨hc,hl⟩;iterate 5 refine ab ?_
  refine am (fun h1_2=>?_) (fun h1_2=>?_)
  ·
   iterate 9 refine ab ?_
   refine am (fun h2_2=>?_) (fun h2_2=>?_)
   ·
    iterate 7 refine ab ?_
    refine ak (0) [_] [_] ?_;rw [← hc,pu (by omega) (by omega)];rfl
   ·
    iterate 4 refine ab ?_
    have hk2:=(c.getD 2 default).toNat_lt;have hk3:=(c.getD 3 default).toNat_lt;have he2:(c.getD (Int.toNat 2) default).toNat=(c.getD 2 default).toNat:=rfl;have he3:(c.getD (Int.toNat 3) default).toNat=(c.getD 3 default).toNat:=rfl;have hs2:(c[2]?.getD default).toNat=(c.getD 2 default).toNat:=congrArg UInt8.toNat (List.getD_eq_getElem?_getD).symm;have hs3:(c[3]?.getD default).toNat=(c.getD 3 default).toNat:=congrArg UInt8.toNat (List.getD_eq_getElem?_getD).symm;refine bj [ag,ag,ag,ag,ag,ag,ag,ag,ag,ag,ag] [af [0] [] 11,af [10] [] 12,af [11] [] 13,af [12] [] 14,af [13] [] 15,af [0] [] 16,af [15] [] 17,af [16] [] 18,af [17] [] 19,af [14,18] [] 20,af [19] [] 4] rfl ⟨ah,ah,ah,ah,ah,ah,ah,ah,ah,ah,ah,trivial⟩ ?_;iterate 7 refine ab ?_
    refine am (fun h5_4=>?_) (fun h5_4=>?_)
    ·
     iterate 7 refine ab ?_
     refine ak (0) [_] [_] ?_;rw [← hc,pu (by omega) (Or.inr (by unfold lK;omega))];rfl
    ·
     iterate 10 refine ab ?_
     have e1:(4+(((c.getD (Int.toNat 2) default).toNat:Int)*256+((c.getD (Int.toNat 3) default).toNat:Int))).toNat=lK c:=by unfold lK;omega
     refine ⟨_,?_,Back.mk' (HasT.cons HasT.nil) HasH.nil,?_⟩
     ·
      rw [e1];exact ⟨(rR (by omega) (by omega) (by unfold lK;omega)).symm.trans hc,by rw [List.length_drop];omega⟩
     ·
      rw [e1,List.length_drop];unfold lK;omega
  ·
   iterate 8 refine ab ?_
   refine ak (0) [_] [_] ?_;rw [← hc,ui (by omega)];rfl
theorem Bc (b:List UInt8) (lv:Nat) (h:b.length≤140737488351232):AC Tryz.prog 74 [i64 6,.fz lv b.length (cl bc b)] emp (Ret (tf (fA 6 b))):=by
 refine AC.intro te_ok (fn:=Tryz.f74) ⟨Tryz.func74,rfl,rfl⟩ (aE rfl) ?_;iterate 8 refine ab ?_
 refine am (fun h1_1=>?_) (fun h1_1=>?_)
 ·
  exfalso;omega
 ·
  iterate 2 refine ab ?_
  refine am (fun h1_4=>?_) (fun h1_4=>?_)
  ·
   exfalso;omega
  ·
   iterate 4 refine ab ?_
   refine am (fun h1_9=>?_) (fun h1_9=>?_)
   ·
    iterate 8 refine ab ?_
    refine ak (0) [_] [_] ?_;rw [xB (by omega)];rfl
   ·
    iterate 12 refine ab ?_
    refine am (fun h4_0=>?_) (fun h4_0=>?_)
    ·
     exfalso;omega
    ·
     iterate 5 refine ab ?_
     refine am (fun h6_0=>?_) (fun h6_0=>?_)
     ·
      exfalso;omega
     ·
      iterate 6 refine ab ?_
      refine am (fun h8_0=>?_) (fun h8_0=>?_)
      ·
       exfalso;omega
      ·
       iterate 5 refine ab ?_
       refine am (fun h9_0=>?_) (fun h9_0=>?_)
       ·
        exfalso;omega
       ·
        iterate 4 refine ab ?_
        refine am (fun h10_0=>?_) (fun h10_0=>?_)
        ·
         exfalso;omega
        ·
         iterate 5 refine ab ?_
         refine am (fun h12_0=>?_) (fun h12_0=>?_)
         ·
          exfalso;omega
         ·
          iterate 5 refine ab ?_
          refine am (fun h14_0=>?_) (fun h14_0=>?_)
          ·
           exfalso;omega
          ·
           iterate 5 refine ab ?_
           refine am (fun h16_0=>?_) (fun h16_0=>?_)
           ·
            exfalso;omega
           ·
            iterate 5 refine ab ?_
            refine am (fun h18_0=>?_) (fun h18_0=>?_)
            ·
             iterate 6 refine ab ?_
             refine ai rfl rfl (aj (lv) (hc:=oU _ _ bE)) ?_;iterate 3 refine ab ?_
             refine ai rfl rfl (ap 2005) ?_;iterate 9 refine ab ?_
             refine ak (0) [_] [_] ?_;rw [B4 (by omega)];rfl
            ·
             exfalso;omega
theorem B9 (b:List UInt8) (lv:Nat) (h:b.length≤140737488351232):AC Tryz.prog 146 [i64 6,.fz lv b.length (cl bc b)] emp (Ret (.fz 0 (bF 6 b).length (cl sc (bF 6 b)))):=by
 refine AC.intro te_ok (fn:=Tryz.f146) ⟨Tryz.func146,rfl,rfl⟩ (aE rfl) ?_;iterate 2 refine ab ?_
 refine ai rfl rfl (aR (0) sc) ?_;iterate 6 refine ab ?_
 refine AOps.bool rfl rfl (aj (lv) (hc:=Bc b lv h)) (fun h1_2=>?_) (fun h1_2=>?_)
 ·
  iterate 13 refine ab ?_
  refine am (fun h4_0=>?_) (fun h4_0=>?_)
  ·
   exfalso;omega
  ·
   iterate 5 refine ab ?_
   refine am (fun h5_0=>?_) (fun h5_0=>?_)
   ·
    exfalso;omega
   ·
    iterate 4 refine ab ?_
    refine am (fun h6_0=>?_) (fun h6_0=>?_)
    ·
     exfalso;omega
    ·
     iterate 5 refine ab ?_
     refine am (fun h8_0=>?_) (fun h8_0=>?_)
     ·
      exfalso;omega
     ·
      iterate 5 refine ab ?_
      refine am (fun h10_0=>?_) (fun h10_0=>?_)
      ·
       iterate 6 refine ab ?_
       refine ai rfl rfl (aj (lv) (hc:=oU _ _ bE)) ?_;iterate 3 refine ab ?_
       refine ai rfl rfl (ap 1205) ?_;iterate 9 refine ab ?_
       refine ai rfl rfl (bO 1304 sc [_,_] [(_,_),(_,_)]) ?_;iterate 3 refine ab ?_
       refine ak (0) [_] [_] ?_;rw [bF,if_pos rfl,if_pos h1_2];rfl
      ·
       exfalso;omega
 ·
  iterate 5 refine ab ?_
  refine ai rfl rfl (aR (0) sc) ?_;iterate 2 refine ab ?_
  refine ak (0) [_] [_] ?_;rw [bF,if_pos rfl,if_neg (by simp [h1_2])];rfl
end
section
attribute [local irreducible] AWp AOps
theorem uR {b:List UInt8} (h:i3 b=true):b=eP b++cutR b∧bm (eP b)=true:=by
 rw [eP,cutR,if_pos h,if_pos h,List.take_append_drop];simp only [i3,Bool.and_eq_true] at h;exact ⟨rfl,h.2⟩
theorem C5 (t:Int) (d:List UInt8):(gq t d).length≤1:=by
 unfold gq;split
 · split
   · simp
   · split<;>simp
 · simp
theorem sU (t:Int) (d:List UInt8):(bF t d).length≤2:=by
 have:=C5 t d;unfold bF;split
 · split<;>simp
 · omega
theorem di (t:Int) (b:List UInt8) (lv:Nat) (h:b.length≤140737488351232):AC Tryz.prog 82 [i64 t,.fz lv b.length (cl bc b)] emp (Ret (tf (fA t b))):=by
 refine AC.intro te_ok (fn:=Tryz.f82) ⟨Tryz.func82,rfl,rfl⟩ (aE rfl) ?_;iterate 8 refine ab ?_
 refine am (fun h1_1=>?_) (fun h1_1=>?_)
 ·
  iterate 16 refine ab ?_
  refine ak (0) [_] [_] ?_;rw [c7 (by omega),dU,if_pos (by omega)];rfl
 ·
  iterate 2 refine ab ?_
  refine am (fun h1_4=>?_) (fun h1_4=>?_)
  ·
   iterate 13 refine ab ?_
   refine ak (0) [_] [_] ?_;rw [c7 (by omega),dU,if_pos (by omega)];rfl
  ·
   iterate 4 refine ab ?_
   refine am (fun h1_9=>?_) (fun h1_9=>?_)
   ·
    iterate 8 refine ab ?_
    refine ak (0) [_] [_] ?_;by_cases h6:t=6
    · subst h6;rw [xB (by omega)];rfl
    · rw [c7 h6,dU,if_pos (by omega)];rfl
   ·
    iterate 7 refine ab ?_
    have hne:t≠6→fA t b=dU t b:=c7;iterate 5 refine ab ?_
    refine am (fun h4_0=>?_) (fun h4_0=>?_)
    ·
     iterate 7 refine ab ?_
     refine ai rfl rfl (dm) ?_;iterate 3 refine ab ?_
     refine ak (0) [_] [_] ?_;rw [c7 (by omega),dU,if_neg (by omega),if_pos h4_0];exact congrArg tf (decide_eq_decide.2 (by omega))
    ·
     iterate 5 refine ab ?_
     refine am (fun h6_0=>?_) (fun h6_0=>?_)
     ·
      iterate 7 refine ab ?_
      refine ai rfl rfl (dm) ?_;iterate 3 refine ab ?_
      refine ak (0) [_] [_] ?_;rw [c7 (by omega),dU,if_neg (by omega),if_neg h4_0,if_pos h6_0];exact congrArg tf (decide_eq_decide.2 (by omega))
     ·
      iterate 6 refine ab ?_
      refine am (fun h8_0=>?_) (fun h8_0=>?_)
      ·
       iterate 8 refine ab ?_
       refine AOps.cons rfl rfl (by first|exact b9|exact aU) ?_;refine ai rfl rfl (aj (lv) (hc:=aM _ bE)) ?_;iterate 3 refine ab ?_
       refine ak (0) [_] [_] ?_;rw [c7 (by omega),dU,if_neg (by omega),if_neg h4_0,if_neg h6_0,if_pos (by omega)];rfl
      ·
       iterate 5 refine ab ?_
       refine am (fun h9_0=>?_) (fun h9_0=>?_)
       ·
        iterate 8 refine ab ?_
        refine AOps.cons rfl rfl (by first|exact b9|exact aU) ?_;refine ai rfl rfl (aj (lv) (hc:=aM _ bE)) ?_;iterate 3 refine ab ?_
        refine ak (0) [_] [_] ?_;rw [c7 (by omega),dU,if_neg (by omega),if_neg h4_0,if_neg h6_0,if_pos (by omega)];rfl
       ·
        iterate 4 refine ab ?_
        refine am (fun h10_0=>?_) (fun h10_0=>?_)
        ·
         iterate 6 refine ab ?_
         refine AOps.cons rfl rfl (by first|exact b9|exact aU) ?_;refine ai rfl rfl (aj (lv) (hc:=aM _ bE)) ?_;iterate 3 refine ab ?_
         refine ak (0) [_] [_] ?_;rw [c7 (by omega),dU,if_neg (by omega),if_neg h4_0,if_neg h6_0,if_pos (by omega)];rfl
        ·
         iterate 5 refine ab ?_
         refine am (fun h12_0=>?_) (fun h12_0=>?_)
         ·
          iterate 7 refine ab ?_
          refine am (fun h13_2=>?_) (fun h13_2=>?_)
          ·
           iterate 3 refine ab ?_
           refine AOps.gcons rfl rfl rfl rfl rfl (by first|exact b9|exact aU) ?_;refine cw rfl rfl rfl rfl rfl (aj (lv) (hc:=aM _ bE)) ?_;iterate 4 refine ab ?_
           refine ak (0) [_] [_] ?_;rw [c7 (by omega),dU,if_neg (by omega),if_neg h4_0,if_neg h6_0,if_neg (by omega),if_pos h12_0,decide_eq_true (by omega)];rfl
          ·
           iterate 9 refine ab ?_
           refine ak (0) [_] [_] ?_;rw [c7 (by omega),dU,if_neg (by omega),if_neg h4_0,if_neg h6_0,if_neg (by omega),if_pos h12_0,decide_eq_false (by omega)];rfl
         ·
          iterate 5 refine ab ?_
          refine am (fun h14_0=>?_) (fun h14_0=>?_)
          ·
           iterate 6 refine ab ?_
           refine ai rfl rfl (aj (lv) (hc:=gC _ _ bE)) ?_;iterate 3 refine ab ?_
           refine ai rfl rfl (ap 1605) ?_;iterate 9 refine ab ?_
           refine ak (0) [_] [_] ?_;obtain rfl:t=6:=h14_0;rw [B4 (by omega)];rfl
          ·
           iterate 5 refine ab ?_
           refine am (fun h17_0=>?_) (fun h17_0=>?_)
           ·
            iterate 6 refine ab ?_
            refine ai rfl rfl (aj (lv) (hc:=jQ _ _ bE)) ?_;iterate 3 refine ab ?_
            refine ak (0) [_] [_] ?_;rw [c7 (by omega),dU,if_neg (by omega),if_neg h4_0,if_neg h6_0,if_neg (by omega),if_neg h12_0,if_pos h17_0];rfl
           ·
            iterate 5 refine ab ?_
            refine am (fun h19_0=>?_) (fun h19_0=>?_)
            ·
             iterate 6 refine ab ?_
             refine ai rfl rfl (aj (lv) (hc:=j4 _ _ bE)) ?_;iterate 3 refine ab ?_
             refine ak (0) [_] [_] ?_;rw [c7 (by omega),dU,if_neg (by omega),if_neg h4_0,if_neg h6_0,if_neg (by omega),if_neg h12_0,if_neg h17_0,if_pos h19_0];rfl
            ·
             iterate 9 refine ab ?_
             refine ak (0) [_] [_] ?_;rw [c7 (by omega),dU,if_neg (by omega),if_neg h4_0,if_neg h6_0,if_neg (by omega),if_neg h12_0,if_neg h17_0,if_neg h19_0];rfl
theorem jR (t:Int) (b:List UInt8) (lv:Nat) (h:b.length≤140737488351232):AC Tryz.prog 91 [i64 t,.fz lv b.length (cl bc b)] emp (Ret (.fz 0 (bF t b).length (cl sc (bF t b)))):=by
 refine AC.intro te_ok (fn:=Tryz.f91) ⟨Tryz.func91,rfl,rfl⟩ (aE rfl) ?_;iterate 2 refine ab ?_
 refine ai rfl rfl (aR (0) sc) ?_;iterate 6 refine ab ?_
 refine AOps.bool rfl rfl (aj (lv) (hc:=di _ _ _ bE)) (fun h1_2=>?_) (fun h1_2=>?_)
 ·
  iterate 13 refine ab ?_
  refine am (fun h4_0=>?_) (fun h4_0=>?_)
  ·
   iterate 8 refine ab ?_
   refine AOps.cons rfl rfl (by first|exact b9|exact aU) ?_;refine ai rfl rfl (bO 802 sc [_] [(_,_)]) ?_;iterate 3 refine ab ?_
   refine ak (0) [_] [_] ?_;rw [c7 (by omega)] at h1_2;rw [gM (by omega),gq,if_pos h1_2,if_pos (by omega)];rfl
  ·
   iterate 5 refine ab ?_
   refine am (fun h5_0=>?_) (fun h5_0=>?_)
   ·
    iterate 8 refine ab ?_
    refine AOps.cons rfl rfl (by first|exact b9|exact aU) ?_;refine ai rfl rfl (bO 802 sc [_] [(_,_)]) ?_;iterate 3 refine ab ?_
    refine ak (0) [_] [_] ?_;rw [c7 (by omega)] at h1_2;rw [gM (by omega),gq,if_pos h1_2,if_pos (by omega)];rfl
   ·
    iterate 4 refine ab ?_
    refine am (fun h6_0=>?_) (fun h6_0=>?_)
    ·
     iterate 6 refine ab ?_
     refine AOps.cons rfl rfl (by first|exact b9|exact aU) ?_;refine ai rfl rfl (bO 802 sc [_] [(_,_)]) ?_;iterate 3 refine ab ?_
     refine ak (0) [_] [_] ?_;rw [c7 (by omega)] at h1_2;rw [gM (by omega),gq,if_pos h1_2,if_pos (by omega)];rfl
    ·
     iterate 5 refine ab ?_
     refine am (fun h8_0=>?_) (fun h8_0=>?_)
     ·
      iterate 5 refine ab ?_
      have hm:=h1_2;rw [c7 (by omega)] at hm;have h2:=xD h8_0 hm;iterate 2 refine ab ?_
      refine AOps.cons rfl rfl (by first|exact b9|exact aU) ?_;refine ai rfl rfl (bO 1003 sc [_] [(_,_)]) ?_;iterate 3 refine ab ?_
      refine ak (0) [_] [_] ?_;rw [gM (by omega),gq,if_pos hm,if_neg (by omega),if_pos h8_0];rfl
     ·
      iterate 5 refine ab ?_
      refine am (fun h10_0=>?_) (fun h10_0=>?_)
      ·
       iterate 6 refine ab ?_
       refine ai rfl rfl (aj (lv) (hc:=gC _ _ bE)) ?_;iterate 3 refine ab ?_
       refine ai rfl rfl (ap 1205) ?_;iterate 9 refine ab ?_
       refine ai rfl rfl (bO 1304 sc [_,_] [(_,_),(_,_)]) ?_;iterate 3 refine ab ?_
       refine ak (0) [_] [_] ?_;obtain rfl:t=6:=h10_0;rw [bF,if_pos rfl,if_pos h1_2];rfl
      ·
       iterate 6 refine ab ?_
       refine ai rfl rfl (aR (0) sc) ?_;iterate 2 refine ab ?_
       refine ak (0) [_] [_] ?_;rw [c7 h10_0] at h1_2;rw [gM h10_0,gq,if_pos h1_2,if_neg (by omega),if_neg h8_0];rfl
 ·
  iterate 5 refine ab ?_
  refine ai rfl rfl (aR (0) sc) ?_;iterate 2 refine ab ?_
  refine ak (0) [_] [_] ?_;by_cases h6:t=6
  · subst h6;rw [bF,if_pos rfl,if_neg (by simp [h1_2])];rfl
  · rw [c7 h6] at h1_2;rw [gM h6,gq,if_neg (by simp [h1_2])];rfl
end
section
attribute [local irreducible] AWp AOps
def idx {α:Type} (g:α→Bool):List α→Int
 | []=>-1
 | a::l=>if g a then 0 else if idx g l=-1 then -1 else idx g l+1
theorem Ar {α:Type} (g:α→Bool):∀ l,-1≤idx g l
 | []=>by simp [idx]
 | a::l=>by
  have:=Ar g l;simp only [idx];split
  · omega
  · split<;>omega
theorem kj {α:Type} {g:α→Bool}:∀ {l:List α},(∀ x∈l,g x=false)→idx g l=-1
 | [],_=>rfl
 | a::l,h=>by
  simp [idx,h a (by simp),kj (l:=l) fun x hx=>h x (by simp [hx])]
theorem qB {α:Type} [Inhabited α] {g:α→Bool}:∀ {l:List α} {i:Nat},i<l.length→(∀ x∈l.take i,g x=false)→g (l.getD i default)=true→idx g l=i
 | [],i,h,_,_=>by simp at h
 | a::l,0,_,_,h=>by
  have:g a=true:=by simpa using h
  simp [idx,this]
 | a::l,i+1,h,h1,h2=>by
  have h3:g a=false:=h1 a (by simp);have h4:=qB (l:=l) (i:=i) (g:=g) (by simpa using h) (fun x hx=>h1 x (by simp [hx])) (by simpa using h2);simp only [idx,h3,Bool.false_eq_true,if_false,h4];rw [if_neg (by omega)];omega
theorem n6 {α:Type} [Inhabited α] {g:α→Bool} {l:List α} {i:Nat} (h:i<l.length) (h1:∀ x∈l.take i,g x=false) (h2:g (l.getD i default)=false):∀ x∈l.take (i+1),g x=false:=by
 intro x hx;rw [List.take_succ_eq_append_getElem h] at hx;rcases List.mem_append.1 hx with hx|hx
 · exact h1 x hx
 · simp only [List.mem_singleton] at hx
   subst hx
   simpa [List.getD_eq_getElem?_getD,List.getElem?_eq_getElem h] using h2
theorem oN {α:Type} {g:α→Bool}:∀ {l:List α},0≤idx g l↔l.any g=true
 | []=>by simp [idx]
 | a::l=>by
  have h1:=Ar g l;have h2:=oN (g:=g) (l:=l);unfold idx;rw [List.any_cons];by_cases ha:g a=true
  · simp [ha]
  · rw [if_neg ha]
    simp only [Bool.not_eq_true] at ha;rw [ha,Bool.false_or,← h2];split<;>omega
theorem py {α:Type} {g:α→Bool} {l:List α}:decide (0≤idx g l)=l.any g:=by
 rw [Bool.eq_iff_iff,decide_eq_true_iff];exact oN
theorem kl {h:aX} {lo hi l:Nat} {a b:AV} {caps:List AV} (e:lP h lo hi a b) (hl:l≤lo) (hc:AV.oks l caps=true):FVals h lo hi (a::caps) (b::caps):=⟨e,Aw (AV.oks_mono hl hc)⟩
theorem pk (l:List (Int)) (lv lv' lw:Nat) (caps:List AV) (g:Int→Bool) {fid:Nat} (hl:l.length≤140737488351232) (hcaps:AV.oks lw caps=true) (hg:∀ x∈l,AC Tryz.prog fid (i64 x::caps) emp (Ret (tf (g x)))):AC Tryz.prog 110 [.fz lv l.length (cl (ic) l),.fn (.func fid) [] caps] emp (Ret (i64 (idx g l))):=by
 refine AC.intro te_ok (fn:=Tryz.f110) ⟨Tryz.func110,rfl,rfl⟩ (aE rfl) ?_;iterate 12 refine ab ?_
 refine AWp.loopR (α:=Nat) [4,5,8,9,10,11,12,13,14,15,16,17,18] (fun i=>[(8,i64 i)]) (fun i=>[]) (fun i=>i≤l.length∧∀ x∈l.take i,g x=false) (fun i=>l.length-i) 0 ?_ (Back.mk' (HasT.cons HasT.nil) HasH.nil) ?_
 ·
  exact ⟨Nat.zero_le _,by simp⟩
 ·
  rintro i ⟨hi,hI⟩;iterate 2 refine ab ?_
  refine am (fun h2_0=>?_) (fun h2_0=>?_)
  ·
   iterate 18 refine ab ?_
   refine AOps.bool rfl rfl (aj (lv+lv'+lw) (hA:=by exact kl (l:=lw) (dG rfl (by first|rfl|exact fG (by omega)|(simp [AV.ok,AV.oks];done))) (by omega) hcaps) (hc:=(hg _ (dT (i:=i) (by omega))))) (fun h4_5=>?_) (fun h4_5=>?_)
   ·
    iterate 8 refine ab ?_
    refine ak (0) [_] [_] ?_;exact ci (qB (by omega) hI h4_5).symm
   ·
    iterate 7 refine ab ?_
    refine ⟨i+1,?_,Back.mk' (HasT.cons HasT.nil) HasH.nil,?_⟩
    ·
     exact ⟨by omega,n6 (by omega) hI h4_5⟩
    ·
     first|omega|(simp;omega)
  ·
   iterate 9 refine ab ?_
   refine ak (0) [_] [_] ?_;exact ci (kj (by rwa [List.take_of_length_le (by omega)] at hI)).symm
theorem eQ (l:List (Int)) (lv lv' lw:Nat) (caps:List AV) (g:Int→Bool) {fid:Nat} (hl:l.length≤140737488351232) (hcaps:AV.oks lw caps=true) (hg:∀ x∈l,AC Tryz.prog fid (i64 x::caps) emp (Ret (tf (g x)))):AC Tryz.prog 66 [.fz lv l.length (cl (ic) l),.fn (.func fid) [] caps] emp (Ret (tf (l.any g))):=by
 refine AC.intro te_ok (fn:=Tryz.f66) ⟨Tryz.func66,rfl,rfl⟩ (aE rfl) ?_;iterate 8 refine ab ?_
 refine ai rfl rfl (aj (lv+lv'+lw) (hA:=by exact ⟨dG rfl (fG (by omega)),dG (b:=.fn (.func fid) [] caps) rfl (by simp [AV.ok,AV.oks,AV.oks_mono (show lw≤lv+lv'+lw by omega) hcaps]),trivial⟩) (hc:=(pk l lv lv' lw caps g hl hcaps hg))) ?_;refine ai rfl rfl (gX) ?_;iterate 3 refine ab ?_
 refine ak (0) [_] [_] ?_;exact congrArg tf py
end
structure Rr where
 nm:List UInt8
 ty:Int
 cs:Int
 ttl:Int
 da:List UInt8
 deriving Inhabited,DecidableEq
structure Qu where
 nm:List UInt8
 ty:Int
 cs:Int
 deriving Inhabited,DecidableEq
structure Hdr where
 id:Int
 resp:Bool
 op:Int
 aa:Bool
 tc:Bool
 rd:Bool
 ra:Bool
 code:Int
 deriving Inhabited,DecidableEq
structure Msg where
 h:Hdr
 qs:List Qu
 an:List Rr
 au:List Rr
 ad:List Rr
 deriving Inhabited,DecidableEq
def rrc (x:Rr):List AV:=[str x.nm,i64 x.ty,i64 x.cs,i64 x.ttl,.fz 0 x.da.length (cl bc x.da)]
def quc (x:Qu):List AV:=[str x.nm,i64 x.ty,i64 x.cs]
def dn (m:Msg):List AV:=[i64 m.h.id,tf m.h.resp,i64 m.h.op,tf m.h.aa,tf m.h.tc,tf m.h.rd,tf m.h.ra,i64 m.h.code,.fz 0 m.qs.length (cl quc m.qs),.fz 0 m.an.length (cl rrc m.an),.fz 0 m.au.length (cl rrc m.au),.fz 0 m.ad.length (cl rrc m.ad)]
def RrsOk (l:List Rr):Prop:=l.length*64≤140737488351232∧∀ x∈l,x.da.length≤140737488351232
def gp (m:Msg):Prop:=m.qs.length*32≤140737488351232∧RrsOk m.an∧RrsOk m.au∧RrsOk m.ad
theorem bK {α:Type} [Inhabited α] {l:List α} {i:Nat} (hi:i<l.length):l.take (i+1)=l.take i++[l.getD i default]:=by
 have:=lR (fun y=>y) (l:=l) hi
 simpa using this

section
variable {d:Nat} {s n b u:TypeId} {is in' ib iu:TI}
theorem Co {t:TypeId} {it:TI} {cs:List AV} (h:Has te (d+1) t cs) (ht:te.get t=some it) (kt:it.k=.struct [(0,n),(1,b),(2,n),(3,b),(4,b),(5,b),(6,b),(7,n)]) (hn:te.get n=some in') (kn:in'.k=.int .i64) (hb:te.get b=some ib) (kb:ib.k=.bool) :
 ∃ x:Hdr,cs=[i64 x.id,tf x.resp,i64 x.op,tf x.aa,tf x.tc,tf x.rd,tf x.ra,i64 x.code]∧(-9223372036854775808≤x.id∧x.id≤9223372036854775807)∧(-9223372036854775808≤x.op∧x.op≤9223372036854775807)∧(-9223372036854775808≤x.code∧x.code≤9223372036854775807):=by
 obtain ⟨_,w,rfl,q,hh⟩:=has_struct h ht kt;obtain ⟨a1,rfl,b1⟩:=has_int q hn kn;obtain ⟨_,w,rfl,q,hh⟩:=hh;obtain ⟨a2,rfl⟩:=has_bool q hb kb;obtain ⟨_,w,rfl,q,hh⟩:=hh;obtain ⟨a3,rfl,b3⟩:=has_int q hn kn;obtain ⟨_,w,rfl,q,hh⟩:=hh;obtain ⟨a4,rfl⟩:=has_bool q hb kb;obtain ⟨_,w,rfl,q,hh⟩:=hh;obtain ⟨a5,rfl⟩:=has_bool q hb kb;obtain ⟨_,w,rfl,q,hh⟩:=hh;obtain ⟨a6,rfl⟩:=has_bool q hb kb;obtain ⟨_,w,rfl,q,hh⟩:=hh;obtain ⟨a7,rfl⟩:=has_bool q hb kb;obtain ⟨_,w,rfl,q,hh⟩:=hh;obtain ⟨a8,rfl,b8⟩:=has_int q hn kn;cases hh;exact ⟨⟨a1,a2,a3,a4,a5,a6,a7,a8⟩,rfl,b1,b3,b8⟩
end
end Go.Proofs.YthnfcmgpedppaaaGreat.Fw
