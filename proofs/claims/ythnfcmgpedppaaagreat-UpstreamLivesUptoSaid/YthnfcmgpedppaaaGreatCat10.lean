/- The texts W18, W18b, W18c, W18d, W18e, W18f, R18, one behind the other: what the walks and plain laws need; conditions stand with each theorem. -/
import Derived.Test.YthnfcmgpedppaaaGreatCat9
set_option linter.unusedVariables false
set_option linter.unusedSimpArgs false
set_option linter.unusedSectionVars false
set_option maxRecDepth 20000
set_option maxHeartbeats 4000000
namespace Go.Proofs.YthnfcmgpedppaaaGreat.Fw
open Go.RowKit
section
attribute [local irreducible] AWp AOps
structure Zo where
 o:List UInt8
 rs:List Rr
 deriving Inhabited,DecidableEq
structure Sv where
 ad:Int
 zs:List Int
 deriving Inhabited,DecidableEq
structure Tr where
 zs:List Zo
 ss:List Sv
 deriving Inhabited
def zoC (z:Zo):List AV:=[str z.o,.fz 0 z.rs.length (cl rrc z.rs)]
def svC (s:Sv):List AV:=[i64 s.ad,.fz 0 s.zs.length (cl ic s.zs)]
def trC (t:Tr):List AV:=[.fz 0 t.zs.length (cl zoC t.zs),.fz 0 t.ss.length (cl svC t.ss)]
def eR (z:Zo):Prop:=z.o.length≤140737488351232∧RrsOk z.rs∧∀ r∈z.rs,r.nm.length≤140737488351232
def cx (t:Tr):Prop:=t.zs.length*40≤140737488351232∧(∀ z∈t.zs,eR z)∧t.ss.length*32≤140737488351232∧∀ s∈t.ss,s.zs.length*8≤140737488351232
theorem kD {α:Type} [Inhabited α] {p:α→Bool} {l:List α} {i:Nat} (h:i<l.length):(l.take (i+1)).filter p=(l.take i).filter p++(if p (l.getD i default) then [l.getD i default] else []):=by
 rw [bK h,List.filter_append];congr 1;generalize l.getD i default=x;cases hp:p x<;>simp [List.filter,hp]
theorem qG {α:Type} [Inhabited α] {p:α→Bool} {l:List α} {i:Nat} (h:i<l.length) (hp:p (l.getD i default)=true):(l.take (i+1)).filter p=(l.take i).filter p++[l.getD i default]:=by rw [kD h,if_pos hp]
theorem o9 {α:Type} [Inhabited α] {p:α→Bool} {l:List α} {i:Nat} (h:i<l.length) (hp:p (l.getD i default)=false):(l.take (i+1)).filter p=(l.take i).filter p:=by rw [kD h,hp];simp
theorem bG {α β:Type} [Inhabited α] {f:β→α→β} {b:β} {l:List α} {i:Nat} (h:i<l.length):(l.take (i+1)).foldl f b=f ((l.take i).foldl f b) (l.getD i default):=by
 rw [bK h,List.foldl_append];rfl
theorem m0 {α:Type} (p:α→Bool) (l:List α) (i:Nat):((l.take i).filter p).length≤l.length:=by
 have h1:=List.length_filter_le p (l.take i);have h2:=List.length_take (i:=i) (l:=l);omega
def atP (n:List UInt8) (t:Int) (r:Rr):Bool:=decide (r.ty=t)&&bi r.nm n
def atZ (z:Zo) (n:List UInt8) (t:Int):List Rr:=z.rs.filter (atP n t)
def i9 (z:Zo) (n:List UInt8) (r:Rr):Bool:=decide (r.ty=2)&&!bi r.nm z.o&&bQ r.nm z.o&&bQ n r.nm
def kG (z:Zo) (n:List UInt8) (b:List UInt8) (r:Rr):List UInt8:=if i9 z n r&&(decide (b=[]) || decide (dt r.nm<dt b)) then r.nm else b
def bI (z:Zo) (n:List UInt8):List UInt8:=z.rs.foldl (kG z n) []
def lM (z:Zo) (n:List UInt8):Bool:=decide (bI z n≠[])&&!bi (bI z n) n
def thP (z:Zo) (n:List UInt8) (r:Rr):Bool:=bQ r.nm n&&!lM z r.nm
def nE (z:Zo) (n:List UInt8):Bool:=!lM z n&&z.rs.any (thP z n)
theorem nz {a b:List UInt8} (h:bQ a b=true):bm a=true∧bm b=true:=by
 unfold bQ at h;simp only [Bool.and_eq_true] at h;exact ⟨h.1.1.1,h.1.1.2⟩
theorem tu {n:List UInt8} (h:bm n=true):n≠[]:=by
 intro e;subst e;obtain ⟨ls,g,e,_⟩:=d9.1 h;have:=cK ls;rw [← e] at this;simp at this
theorem z8 {a b:List UInt8} (h:bQ a b=true):a≠[]:=tu (nz h).1
theorem ju {z:Zo} {n b:List UInt8} {r:Rr} (h:i9 z n r=false):kG z n b r=b:=by rw [kG,h];rfl
theorem sf {z:Zo} {n b:List UInt8} {r:Rr} (h:b≠[]) (h2:¬ dt r.nm<dt b):kG z n b r=b:=by rw [kG,decide_eq_false h,decide_eq_false h2];simp
theorem lD {z:Zo} {n b:List UInt8} {r:Rr} (h:i9 z n r=true) (h2:b=[]∨dt r.nm<dt b):kG z n b r=r.nm:=by
 rw [kG,h];rcases h2 with h2|h2<;>simp [h2]
section
variable {z:Zo} {n:List UInt8} {r:Rr}
theorem uT (h:¬ r.ty=2):i9 z n r=false:=by simp [i9,h]
theorem AQ (h:bi r.nm z.o=true):i9 z n r=false:=by simp [i9,h]
theorem AP (h:bQ r.nm z.o=false):i9 z n r=false:=by simp [i9,h]
theorem uS (h:bQ n r.nm=false):i9 z n r=false:=by simp [i9,h]
theorem AN (h1:¬ ¬ r.ty=2) (h2:bi r.nm z.o=false) (h3:bQ r.nm z.o=true) (h4:bQ n r.nm=true):i9 z n r=true:=by
 rw [Decidable.not_not] at h1;simp [i9,h1,h2,h3,h4]
end
theorem ta (z:Zo) (n:List UInt8):∀ (l:List Rr) (b:List UInt8),l.foldl (kG z n) b=b∨∃ r∈l,l.foldl (kG z n) b=r.nm∧i9 z n r=true
 | [],b=>.inl rfl
 | r::l,b=>by
  have h1:=ta z n l (kG z n b r);rw [List.foldl_cons];rcases h1 with h1|⟨q,h2,h3,h4⟩
  · by_cases hc:(i9 z n r&&(decide (b=[]) || decide (dt r.nm<dt b)))=true
    · right
      refine ⟨r,by simp,?_,by simp only [Bool.and_eq_true] at hc;exact hc.1⟩;rw [h1,kG,if_pos hc]
    · left;rw [h1,kG,if_neg hc]
  · exact .inr ⟨q,by simp [h2],h3,h4⟩
theorem AM {z:Zo} {n:List UInt8} (h:bI z n≠[]):∃ r∈z.rs,bI z n=r.nm∧i9 z n r=true:=(ta z n z.rs []).resolve_left h
theorem eC {z:Zo} (hz:eR z) (n:List UInt8):(bI z n).length≤140737488351232:=by
 by_cases h:bI z n=[]
 · rw [h];decide
 · obtain ⟨r,h1,h2,_⟩:=AM h
   rw [h2];exact hz.2.2 r h1
theorem ni {z:Zo} (hz:eR z) (n:List UInt8) (i:Nat):((z.rs.take i).foldl (kG z n) []).length≤140737488351232:=by
 rcases ta z n (z.rs.take i) [] with h|⟨r,h1,h2,_⟩
 · rw [h];decide
 · rw [h2];exact hz.2.2 r (List.mem_of_mem_take h1)
theorem RrsOk.filter {l:List Rr} (h:RrsOk l) (p:Rr→Bool):RrsOk (l.filter p):=⟨by have:=List.length_filter_le p l;have:=h.1;omega,fun x hx=>h.2 x (List.mem_filter.1 hx).1⟩
theorem jB {z:Zo} (hz:eR z) (n:List UInt8) (t:Int):RrsOk (atZ z n t):=hz.2.1.filter _
theorem qY {z:Zo} {n:List UInt8} {t:Int} {i:Nat} {acc:List Rr} (ha:acc=(z.rs.take i).filter (atP n t)):acc.length≤i:=by
 have h1:=List.length_filter_le (atP n t) (z.rs.take i);have h2:=List.length_take_le i z.rs;rw [ha];omega
theorem ws (l:List Rr) (lv:Nat) (h:RrsOk l):AC Tryz.prog 77 [.fz lv l.length (cl rrc l)] emp (Ret (.fz 0 l.length (cl rrc l))):=by
 obtain ⟨hb,hd⟩:=id h;refine AC.intro te_ok (fn:=Tryz.f77) ⟨Tryz.func77,rfl,rfl⟩ (aE rfl) ?_;iterate 2 refine ab ?_
 refine ai rfl rfl (aR (0) rrc) ?_;iterate 3 refine ab ?_
 refine ai rfl rfl (bD 200 5 rrc) ?_;iterate 9 refine ab ?_
 refine AWp.loopR (α:=Nat×List Rr×Nat) [3,5,8,9,10,11,12,13,14,15,16,17,18,19,20] (fun x_=>[(8,i64 (x_.1)),(3,.sl 200 (x_.2.2) 0 (x_.2.1).length 5)]) (fun x_=>[(200,.row (cl rrc (x_.2.1)) 5 (x_.2.2))]) (fun x_=>(x_.1)≤l.length∧(x_.2.1)=l.take (x_.1)) (fun x_=>l.length-(x_.1)) (0,[],0) ?_ (Back.mk' (HasT.cons (HasT.cons HasT.nil)) (HasH.cons HasH.nil)) ?_
 ·
  exact ⟨Nat.zero_le _,rfl⟩
 ·
  rintro ⟨i,acc,v⟩ hI3;change i≤l.length∧acc=l.take i at hI3;obtain ⟨hi,hacc⟩:=hI3;refine AWp.as (s':=AS.over _ [3,5,8,9,10,11,12,13,14,15,16,17,18,19,20] [(8,i64 i),(3,.sl 200 v 0 acc.length 5)] [(200,.row (cl rrc acc) 5 v)]) rfl ?_;have hal:acc.length=i:=by rw [hacc,List.length_take];omega
  iterate 2 refine ab ?_
  refine am (fun h3_0=>?_) (fun h3_0=>?_)
  ·
   iterate 8 refine ab ?_
   have hdi:(l.getD i default).da.length≤140737488351232:=hd _ (aq (by omega));iterate 2 refine ab ?_
   refine ai rfl rfl (ap 502) ?_;iterate 6 refine ab ?_
   refine ai rfl rfl (aj (0) (hc:=iI _ _ bE)) ?_;iterate 6 refine ab ?_
   refine ai rfl rfl (bO 702 rrc [_] [(_,_)]) ?_;iterate 7 refine ab ?_
   refine ⟨(i+1,_,_),?_,Back.mk' (HasT.cons (HasT.cons HasT.nil)) (HasH.cons HasH.nil),?_⟩
   ·
    try dsimp only
    exact ⟨by omega,by rw [bK (by omega),← hacc];rfl⟩
   ·
    try dsimp only
    first|omega|(simp;omega)
  ·
   iterate 10 refine ab ?_
   obtain rfl:acc=l:=by rw [hacc,List.take_of_length_le (by omega)]
   refine ak (0) [_] [_] ?_;rfl
theorem vc (r:Rr) (n:List UInt8) (t:Int) (lv:Nat) (hr:r.nm.length≤140737488351232) (hn:n.length≤140737488351232):AC Tryz.prog 76 [.agg (rrc r),.fp lv [i64 t],.fp lv [str n]] emp (Ret (tf (atP n t r))):=by
 refine AC.intro te_ok (fn:=Tryz.f76) ⟨Tryz.func76,rfl,rfl⟩ (aE rfl) ?_;iterate 2 refine ab ?_
 refine ai rfl rfl (aS 100) ?_;iterate 7 refine ab ?_
 refine am (fun h1_3=>?_) (fun h1_3=>?_)
 ·
  iterate 4 refine ab ?_
  refine cw rfl rfl rfl rfl rfl (aj (0) (hc:=(bT r.nm n (by omega) (by omega)))) ?_;iterate 4 refine ab ?_
  refine ak (0) [_] [_] ?_;exact congrArg tf (by simp [atP, *])
 ·
  iterate 9 refine ab ?_
  refine ak (0) [_] [_] ?_;exact congrArg tf (by simp [atP, *])
theorem cQ (z:Zo) (n:List UInt8) (t:Int) (hz:eR z) (hn:n.length≤140737488351232):AC Tryz.prog 39 [.agg (zoC z),str n,i64 t] emp (Ret (.fz 0 (atZ z n t).length (cl rrc (atZ z n t)))):=by
 have hrl:z.rs.length*64≤140737488351232:=hz.2.1.1;have hol:=hz.1;refine AC.intro te_ok (fn:=Tryz.f39) ⟨Tryz.func39,rfl,rfl⟩ (aE rfl) ?_;iterate 2 refine ab ?_
 refine ai rfl rfl (aS 100) ?_;refine ai rfl rfl (aS 101) ?_;refine ai rfl rfl (aS 102) ?_;iterate 4 refine ab ?_
 refine ai rfl rfl (ca [] [_,_]) ?_;iterate 4 refine ab ?_
 refine ai rfl rfl (bD 300 5 rrc) ?_;iterate 10 refine ab ?_
 refine AWp.loopR (α:=Nat×List Rr×Nat) [8,10,15,16,17,18,19,20,21,22,23,24,25,26] (fun x_=>[(15,i64 (x_.1)),(8,.sl 300 (x_.2.2) 0 (x_.2.1).length 5)]) (fun x_=>[(300,.row (cl rrc (x_.2.1)) 5 (x_.2.2))]) (fun x_=>(x_.1)≤z.rs.length∧(x_.2.1)=(z.rs.take (x_.1)).filter (atP n t)) (fun x_=>z.rs.length-(x_.1)) (0,[],0) ?_ (Back.mk' (HasT.cons (HasT.cons HasT.nil)) (HasH.cons HasH.nil)) ?_
 ·
  exact ⟨Nat.zero_le _,rfl⟩
 ·
  rintro ⟨i,acc,v⟩ hI4;change i≤z.rs.length∧acc=(z.rs.take i).filter (atP n t) at hI4;obtain ⟨hi,ha⟩:=hI4;refine AWp.as (s':=AS.over _ [8,10,15,16,17,18,19,20,21,22,23,24,25,26] [(15,i64 i),(8,.sl 300 v 0 acc.length 5)] [(300,.row (cl rrc acc) 5 v)]) rfl ?_;have hal:=qY ha;iterate 2 refine ab ?_
  refine am (fun h4_0=>?_) (fun h4_0=>?_)
  ·
   iterate 8 refine ab ?_
   have hr:=hz.2.2 _ (aq (l:=z.rs) (i:=i) (by omega));have hrd:=hz.2.1.2 _ (aq (l:=z.rs) (i:=i) (by omega));iterate 2 refine ab ?_
   refine ai rfl rfl (ap 602) ?_;iterate 6 refine ab ?_
   refine AOps.bool rfl rfl (aj (0) (hc:=(vc (z.rs.getD i default) n t 1 hr hn))) (fun h6_2=>?_) (fun h6_2=>?_)
   ·
    iterate 5 refine ab ?_
    refine ai rfl rfl (bO 802 rrc [_] [(_,_)]) ?_;iterate 7 refine ab ?_
    refine ⟨(i+1,acc++[z.rs.getD i default],v+1),?_,Back.mk' (HasT.cons (HasT.cons HasT.nil)) (HasH.cons HasH.nil),?_⟩
    ·
     try dsimp only
     exact ⟨by omega,by rw [qG (by omega) h6_2,← ha]⟩
    ·
     try dsimp only
     first|omega|(simp;omega)
   ·
    iterate 7 refine ab ?_
    refine ⟨(i+1,acc,v),?_,Back.mk' (HasT.cons (HasT.cons HasT.nil)) (HasH.cons HasH.nil),?_⟩
    ·
     try dsimp only
     exact ⟨by omega,by rw [o9 (by omega) h6_2,← ha]⟩
    ·
     try dsimp only
     first|omega|(simp;omega)
  ·
   iterate 6 refine ab ?_
   obtain rfl:i=z.rs.length:=by omega
   rw [List.take_length] at ha;obtain rfl:acc=atZ z n t:=ha;refine ab ?_;refine ai rfl rfl (aj (0) (hc:=(ws (atZ z n t) 1 (jB hz n t)))) ?_;iterate 3 refine ab ?_
   refine ak (0) [_] [_] ?_;rfl
theorem jx (z:Zo) (n:List UInt8) (hz:eR z) (hn:n.length≤140737488351232):AC Tryz.prog 75 [.agg (zoC z),str n] emp (Ret (.tup [str (bI z n),tf (decide (bI z n≠[]))])):=by
 have hrl:z.rs.length*64≤140737488351232:=hz.2.1.1;have hol:=hz.1;refine AC.intro te_ok (fn:=Tryz.f75) ⟨Tryz.func75,rfl,rfl⟩ (aE rfl) ?_;iterate 2 refine ab ?_
 refine ai rfl rfl (aS 100) ?_;iterate 17 refine ab ?_
 refine AWp.loopR (α:=Nat×List UInt8) [6,7,9,13,14,15,16,17,18,19,20,21,22,23,24,25,26,27,28,29,30,31,32,33,34,35,36,37,38,39,40,41,42,43,44,45,46,47,48,49,50,51,52,53,54] (fun x_=>[(13,i64 (x_.1)),(6,str (x_.2)),(7,tf (decide ((x_.2)≠[])))]) (fun x_=>[]) (fun x_=>(x_.1)≤z.rs.length∧(z.rs.take (x_.1)).foldl (kG z n) []=(x_.2)) (fun x_=>z.rs.length-(x_.1)) (0,[]) ?_ (Back.mk' (HasT.cons (HasT.cons (HasT.cons HasT.nil))) HasH.nil) ?_
 ·
  exact ⟨Nat.zero_le _,rfl⟩
 ·
  rintro ⟨i,b⟩ hI3;change i≤z.rs.length∧(z.rs.take i).foldl (kG z n) []=b at hI3;obtain ⟨hi,hb⟩:=hI3;refine AWp.as (s':=AS.over _ [6,7,9,13,14,15,16,17,18,19,20,21,22,23,24,25,26,27,28,29,30,31,32,33,34,35,36,37,38,39,40,41,42,43,44,45,46,47,48,49,50,51,52,53,54] [(13,i64 i),(6,str b),(7,tf (decide (b≠[])))] []) rfl ?_;have hbl:=ni hz n i;rw [hb] at hbl;iterate 2 refine ab ?_
  refine am (fun h3_0=>?_) (fun h3_0=>?_)
  ·
   iterate 8 refine ab ?_
   have hr:=hz.2.2 _ (aq (l:=z.rs) (i:=i) (by omega));have hrd:=hz.2.1.2 _ (aq (l:=z.rs) (i:=i) (by omega));iterate 2 refine ab ?_
   refine ai rfl rfl (ap 502) ?_;iterate 7 refine ab ?_
   refine am (fun h5_2=>?_) (fun h5_2=>?_)
   ·
    iterate 29 refine ab ?_
    refine ⟨(i+1,b),?_,Back.mk' (HasT.cons (HasT.cons (HasT.cons HasT.nil))) HasH.nil,?_⟩
    ·
     try dsimp only
     exact ⟨by omega,by rw [bG (by omega),hb];exact ju (uT h5_2)⟩
    ·
     try dsimp only
     first|omega|(simp;omega)
   ·
    iterate 5 refine ab ?_
    refine AOps.gbool rfl rfl rfl rfl rfl (aj (0) (hc:=(bT (z.rs.getD i default).nm z.o (by omega) (by omega)))) (fun h5_8=>?_) (fun h5_8=>?_)
    ·
     iterate 23 refine ab ?_
     refine ⟨(i+1,b),?_,Back.mk' (HasT.cons (HasT.cons (HasT.cons HasT.nil))) HasH.nil,?_⟩
     ·
      try dsimp only
      exact ⟨by omega,by rw [bG (by omega),hb];exact ju (AQ h5_8)⟩
     ·
      try dsimp only
      first|omega|(simp;omega)
    ·
     iterate 6 refine ab ?_
     refine AOps.gbool rfl rfl rfl rfl rfl (aj (0) (hc:=(df (z.rs.getD i default).nm z.o (by omega) (by omega)))) (fun h5_15=>?_) (fun h5_15=>?_)
     ·
      iterate 6 refine ab ?_
      refine AOps.gbool rfl rfl rfl rfl rfl (aj (0) (hc:=(df n (z.rs.getD i default).nm (by omega) (by omega)))) (fun h5_22=>?_) (fun h5_22=>?_)
      ·
       iterate 7 refine ab ?_
       have hP:i9 z n (z.rs.getD i default)=true:=AN h5_2 h5_8 h5_15 h5_22;have hne:=z8 h5_15;refine AOps.bool rfl rfl (aA) (fun h6_0=>?_) (fun h6_0=>?_)
       ·
        iterate 4 refine ab ?_
        refine cw rfl rfl rfl rfl rfl (aj (0) (hc:=(cL (z.rs.getD i default).nm (by omega)))) ?_;refine ab ?_;refine cw rfl rfl rfl rfl rfl (aj (0) (hc:=(cL b (by omega)))) ?_;refine am (fun h6_8=>?_) (fun h6_8=>?_)
        ·
         iterate 13 refine ab ?_
         refine ⟨(i+1,(z.rs.getD i default).nm),?_,Back.mk' (HasT.cons (HasT.cons (HasT.cons HasT.nil (h1:=by exact congrArg tf (decide_eq_true hne).symm) ))) HasH.nil,?_⟩
         ·
          try dsimp only
          exact ⟨by omega,by rw [bG (by omega),hb];exact lD hP (.inr h6_8)⟩
         ·
          try dsimp only
          first|omega|(simp;omega)
        ·
         iterate 8 refine ab ?_
         refine ⟨(i+1,b),?_,Back.mk' (HasT.cons (HasT.cons (HasT.cons HasT.nil))) HasH.nil,?_⟩
         ·
          try dsimp only
          exact ⟨by omega,by rw [bG (by omega),hb];exact sf (by simpa using h6_0) h6_8⟩
         ·
          try dsimp only
          first|omega|(simp;omega)
       ·
        iterate 21 refine ab ?_
        refine ⟨(i+1,(z.rs.getD i default).nm),?_,Back.mk' (HasT.cons (HasT.cons (HasT.cons HasT.nil (h1:=by exact congrArg tf (decide_eq_true hne).symm) ))) HasH.nil,?_⟩
        ·
         try dsimp only
         exact ⟨by omega,by rw [bG (by omega),hb];exact lD hP (.inl (by simpa using h6_0))⟩
        ·
         try dsimp only
         first|omega|(simp;omega)
      ·
       iterate 9 refine ab ?_
       refine ⟨(i+1,b),?_,Back.mk' (HasT.cons (HasT.cons (HasT.cons HasT.nil))) HasH.nil,?_⟩
       ·
        try dsimp only
        exact ⟨by omega,by rw [bG (by omega),hb];exact ju (uS h5_22)⟩
       ·
        try dsimp only
        first|omega|(simp;omega)
     ·
      iterate 16 refine ab ?_
      refine ⟨(i+1,b),?_,Back.mk' (HasT.cons (HasT.cons (HasT.cons HasT.nil))) HasH.nil,?_⟩
      ·
       try dsimp only
       exact ⟨by omega,by rw [bG (by omega),hb];exact ju (AP h5_15)⟩
      ·
       try dsimp only
       first|omega|(simp;omega)
  ·
   iterate 12 refine ab ?_
   obtain rfl:i=z.rs.length:=by omega
   rw [List.take_length] at hb;obtain rfl:b=bI z n:=hb.symm;refine ak (0) [_,_] [_,_] ?_;rfl
end
section
attribute [local irreducible] AWp AOps
def zAt (t:Tr) (i:Int):Zo:=t.zs.getD i.toNat default
def mU (t:Tr) (b:Int):Int:=if b<0 then -1 else dt (zAt t b).o
def eZ (t:Tr) (p:Zo→Bool) (b i:Int):Int:=if p (zAt t i)&&decide (mU t b<dt (zAt t i).o) then i else b
def rT (t:Tr) (p:Zo→Bool) (w:List Int):Int:=w.foldl (eZ t p) (-1)
def fL (t:Tr) (w:List Int) (n:List UInt8):Int:=rT t (fun z=>bQ n z.o) w
def eO (k:Nat):List Int:=(List.range k).map fun (j:Nat)=>((j:Nat):Int)
def oc (t:Tr):List Int:=eO t.zs.length
def zL (z o:Zo):Bool:=bQ z.o o.o&&!bi z.o o.o
def kd (t:Tr) (z:Zo):Int:=rT t (zL z) (oc t)
def ka (t:Tr):List Int:=t.zs.map (kd t)
def rc (r o:Rr):Bool:=bi r.da o.da
def Bx (b:List Rr) (r:Rr):Bool:=!(b.any (rc r))
def jK (a b:List Rr):Bool:=!(a.any (Bx b))
theorem qr {t:Tr} {p:Zo→Bool} {b i:Int} (h:p (zAt t i)=false):eZ t p b i=b:=by simp [eZ,h]
theorem qt {t:Tr} {p:Zo→Bool} {b i:Int} (h:¬ mU t b<dt (zAt t i).o):eZ t p b i=b:=by simp [eZ,h]
theorem mq {t:Tr} {p:Zo→Bool} {b i:Int} (h:p (zAt t i)=true) (h2:mU t b<dt (zAt t i).o):eZ t p b i=i:=by simp [eZ,h,h2]
theorem qv {t:Tr} {b:Int} (h:0≤b):mU t b=dt (zAt t b).o:=if_neg (by omega)
theorem kU {t:Tr} {i:Int} (h:0≤i∧i<t.zs.length):zAt t i∈t.zs:=aq (by omega)
theorem fU (k:Nat):(eO k).length=k:=by simp [eO]
theorem oR (k:Nat):eO (k+1)=eO k++[(k:Int)]:=by simp [eO,List.range_succ]
theorem sa {k:Nat} {i:Int} (h:i∈eO k):0≤i∧i<k:=by
 simp only [eO,List.mem_map,List.mem_range] at h;obtain ⟨a,h1,rfl⟩:=h;omega
theorem yB (t:Tr):∀ i∈oc t,0≤i∧i<t.zs.length:=fun i h=>sa h
theorem jT {t:Tr} (ht:cx t) {i:Int} (h:0≤i∧i<t.zs.length):eR (zAt t i):=ht.2.1 _ (kU h)
theorem wZ {t:Tr} {p:Zo→Bool}:∀ {w:List Int} {b:Int},(∀ i∈w,0≤i∧i<t.zs.length)→-1≤b∧b<t.zs.length→-1≤w.foldl (eZ t p) b∧w.foldl (eZ t p) b<t.zs.length
 | [],b,_,hb=>hb
 | i::w,b,h,hb=>by
  rw [List.foldl_cons];refine wZ (fun j hj=>h j (by simp [hj])) ?_;have:=h i (by simp);unfold eZ;split
  · omega
  · exact hb
theorem mT {t:Tr} {p:Zo→Bool} {w:List Int} (h:∀ i∈w,0≤i∧i<t.zs.length):-1≤rT t p w∧rT t p w<t.zs.length:=wZ h (by omega)
theorem BD {k i:Nat} (h:i<k):(eO i++List.replicate (k-i) (0:Int)).set i (i:Int)=eO (i+1)++List.replicate (k-(i+1)) 0:=by
 rw [List.set_append_right _ _ (by rw [fU];exact Nat.le_refl _),fU,Nat.sub_self,oR,List.append_assoc];congr 1;rw [show k-i=(k-(i+1))+1 by omega,List.replicate_succ];rfl
theorem m8 (z:Zo) (n:List UInt8) (hz:eR z) (hn:n.length≤140737488351232):AC Tryz.prog 153 [.agg (zoC z),str n] emp (Ret (tf (lM z n))):=by
 have hcl:=eC hz n;refine AC.intro te_ok (fn:=Tryz.f153) ⟨Tryz.func153,rfl,rfl⟩ (aE rfl) ?_;iterate 2 refine ab ?_
 refine ai rfl rfl (aS 100) ?_;iterate 6 refine ab ?_
 refine ai rfl rfl (aj (0) (hc:=(jx z n hz hn))) ?_;iterate 2 refine ab ?_
 refine AOps.bool rfl rfl (bM) (fun h1_5=>?_) (fun h1_5=>?_)
 ·
  iterate 9 refine ab ?_
  refine cw rfl rfl rfl rfl rfl (aj (0) (hc:=(bT (bI z n) n (by omega) (by omega)))) ?_;iterate 5 refine ab ?_
  refine ak (0) [_] [_] ?_;exact congrArg tf (by simp_all [lM])
 ·
  iterate 15 refine ab ?_
  refine ak (0) [_] [_] ?_;exact congrArg tf (by simp_all [lM])
theorem qO (r:Rr) (z:Zo) (n:List UInt8) (lv:Nat) (hz:eR z) (hr:r.nm.length≤140737488351232) (hn:n.length≤140737488351232):AC Tryz.prog 154 [.agg (rrc r),.fp lv [str n],.fp lv (zoC z)] emp (Ret (tf (thP z n r))):=by
 refine AC.intro te_ok (fn:=Tryz.f154) ⟨Tryz.func154,rfl,rfl⟩ (aE rfl) ?_;iterate 2 refine ab ?_
 refine ai rfl rfl (aS 100) ?_;iterate 7 refine ab ?_
 refine AOps.bool rfl rfl (aj (lv) (hc:=(df r.nm n (by omega) (by omega)))) (fun h1_3=>?_) (fun h1_3=>?_)
 ·
  iterate 4 refine ab ?_
  refine cw rfl rfl rfl rfl rfl (aj (lv) (hc:=(m8 z r.nm hz hr))) ?_;iterate 5 refine ab ?_
  refine ak (0) [_] [_] ?_;exact congrArg tf (by simp_all [thP])
 ·
  iterate 10 refine ab ?_
  refine ak (0) [_] [_] ?_;exact congrArg tf (by simp_all [thP])
theorem nq (z:Zo) (n:List UInt8) (hz:eR z) (hn:n.length≤140737488351232):AC Tryz.prog 138 [.agg (zoC z),str n] emp (Ret (tf (nE z n))):=by
 have hrl:z.rs.length*64≤140737488351232:=hz.2.1.1;refine AC.intro te_ok (fn:=Tryz.f138) ⟨Tryz.func138,rfl,rfl⟩ (aE rfl) ?_;iterate 2 refine ab ?_
 refine ai rfl rfl (aS 100) ?_;refine ai rfl rfl (aS 101) ?_;iterate 6 refine ab ?_
 refine AOps.bool rfl rfl (aj (0) (hc:=(m8 z n hz hn))) (fun h1_2=>?_) (fun h1_2=>?_)
 ·
  iterate 10 refine ab ?_
  refine ak (0) [_] [_] ?_;exact congrArg tf (by simp_all [nE])
 ·
  iterate 4 refine ab ?_
  refine cw rfl rfl rfl rfl rfl (ca [] [_,_]) ?_;refine cw rfl rfl rfl rfl rfl (aj (0) (hc:=(cA z.rs (0) 0 (0+1) [.fp 1 [str n],.fp 1 (zoC z)] (thP z n) (by omega) (by simp [AV.oks,AV.ok,Nat.ble_eq]) (fun r hr=>qO r z n 1 hz (hz.2.2 r hr) hn)))) ?_;iterate 4 refine ab ?_
  refine ak (0) [_] [_] ?_;exact congrArg tf (by simp_all [nE])
theorem rq (z:Zo) (n:List UInt8) (lv:Nat) (hz:eR z) (hn:n.length≤140737488351232):AC Tryz.prog 135 [.agg (zoC z),.fp lv [str n]] emp (Ret (tf (bQ n z.o))):=by
 have hol:=hz.1;refine AC.intro te_ok (fn:=Tryz.f135) ⟨Tryz.func135,rfl,rfl⟩ (aE rfl) ?_;iterate 2 refine ab ?_
 refine ai rfl rfl (aS 100) ?_;iterate 7 refine ab ?_
 refine ai rfl rfl (aj (lv) (hc:=(df n z.o (by omega) (by omega)))) ?_;iterate 3 refine ab ?_
 refine ak (0) [_] [_] ?_;rfl
theorem kH (t:Tr) (w:List Int) (lw lp:Nat) (caps:List AV) (p:Zo→Bool) {fid:Nat} (ht:cx t) (hw:w.length≤140737488351232) (hin:∀ i∈w,0≤i∧i<t.zs.length) (hcaps:AV.oks lp caps=true) (hg:∀ z∈t.zs,AC Tryz.prog fid (.agg (zoC z)::caps) emp (Ret (tf (p z)))):AC Tryz.prog 68 [.agg (trC t),.fz lw w.length (cl ic w),.fn (.func fid) [] caps] emp (Ret (i64 (rT t p w))):=by
 refine AC.intro te_ok (fn:=Tryz.f68) ⟨Tryz.func68,rfl,rfl⟩ (aE rfl) ?_;iterate 2 refine ab ?_
 refine ai rfl rfl (aS 100) ?_;iterate 15 refine ab ?_
 refine AWp.loopR (α:=Nat×Int) [7,8,10,11,14,15,16,17,18,19,20,21,22,23,24,25,26,27,28,29,30,31,32,33,34,35,36,37] (fun x_=>[(14,i64 (x_.1)),(7,i64 (x_.2)),(8,i64 (mU t (x_.2)))]) (fun x_=>[]) (fun x_=>(x_.1)≤w.length∧(w.take (x_.1)).foldl (eZ t p) (-1)=(x_.2)∧-1≤(x_.2)∧(x_.2)<t.zs.length) (fun x_=>w.length-(x_.1)) (0,-1) ?_ (Back.mk' (HasT.cons (HasT.cons (HasT.cons HasT.nil))) HasH.nil) ?_
 ·
  exact ⟨Nat.zero_le _,rfl,by omega,by omega⟩
 ·
  rintro ⟨i,b⟩ hI3;change i≤w.length∧(w.take i).foldl (eZ t p) (-1)=b∧-1≤b∧b<t.zs.length at hI3;obtain ⟨hi,hb,hb1,hb2⟩:=hI3;refine AWp.as (s':=AS.over _ [7,8,10,11,14,15,16,17,18,19,20,21,22,23,24,25,26,27,28,29,30,31,32,33,34,35,36,37] [(14,i64 i),(7,i64 b),(8,i64 (mU t b))] []) rfl ?_;iterate 2 refine ab ?_
  refine am (fun h3_0=>?_) (fun h3_0=>?_)
  ·
   iterate 14 refine ab ?_
   have hj:=hin _ (aq (l:=w) (i:=i) (by omega));have hj2:0≤w[i]?.getD 0∧w[i]?.getD 0<t.zs.length:=by have h:=hj;rw [List.getD_eq_getElem?_getD] at h;exact h
   have hzo:=jT ht hj;have hol:=hzo.1;iterate 5 refine ab ?_
   refine ai rfl rfl (ap 605) ?_;iterate 6 refine ab ?_
   refine AOps.bool rfl rfl (aj (lw+lp) (hA:=by exact kl (l:=lp) (dG rfl (by first|rfl|exact fG (by omega)|(simp [AV.ok,AV.oks];done))) (by omega) hcaps) (hc:=(hg (zAt t (w.getD i default)) (kU hj)))) (fun h6_2=>?_) (fun h6_2=>?_)
   ·
    iterate 3 refine ab ?_
    refine cw rfl rfl rfl rfl rfl (aj (lw+lp) (hc:=(cL (zAt t (w.getD i default)).o (by omega)))) ?_;refine ab ?_;refine am (fun h6_8=>?_) (fun h6_8=>?_)
    ·
     iterate 7 refine ab ?_
     refine ai rfl rfl (aj (lw+lp) (hc:=(cL (zAt t (w.getD i default)).o (by omega)))) ?_;iterate 7 refine ab ?_
     refine ⟨(i+1,w.getD i default),?_,Back.mk' (HasT.cons (HasT.cons (HasT.cons HasT.nil (h1:=by exact congrArg i64 (qv hj.1).symm) ))) HasH.nil,?_⟩
     ·
      try dsimp only
      exact ⟨by omega,by rw [bG (by omega),hb];exact mq h6_2 h6_8,by omega,by omega⟩
     ·
      try dsimp only
      first|omega|(simp;omega)
    ·
     iterate 8 refine ab ?_
     refine ⟨(i+1,b),?_,Back.mk' (HasT.cons (HasT.cons (HasT.cons HasT.nil))) HasH.nil,?_⟩
     ·
      try dsimp only
      exact ⟨by omega,by rw [bG (by omega),hb];exact qt h6_8,hb1,hb2⟩
     ·
      try dsimp only
      first|omega|(simp;omega)
   ·
    iterate 14 refine ab ?_
    refine ⟨(i+1,b),?_,Back.mk' (HasT.cons (HasT.cons (HasT.cons HasT.nil))) HasH.nil,?_⟩
    ·
     try dsimp only
     exact ⟨by omega,by rw [bG (by omega),hb];exact qr h6_2,hb1,hb2⟩
    ·
     try dsimp only
     first|omega|(simp;omega)
  ·
   iterate 10 refine ab ?_
   obtain rfl:i=w.length:=by omega
   rw [List.take_length] at hb;obtain rfl:b=rT t p w:=hb.symm;refine ak (0) [_] [_] ?_;rfl
theorem v5 (t:Tr) (w:List Int) (lw:Nat) (n:List UInt8) (ht:cx t) (hw:w.length≤140737488351232) (hin:∀ i∈w,0≤i∧i<t.zs.length) (hn:n.length≤140737488351232):AC Tryz.prog 95 [.agg (trC t),.fz lw w.length (cl ic w),str n] emp (Ret (i64 (fL t w n))):=by
 refine AC.intro te_ok (fn:=Tryz.f95) ⟨Tryz.func95,rfl,rfl⟩ (aE rfl) ?_;iterate 2 refine ab ?_
 refine ai rfl rfl (aS 100) ?_;refine ai rfl rfl (aS 101) ?_;iterate 6 refine ab ?_
 refine ai rfl rfl (ca [] [_]) ?_;refine ai rfl rfl (aj (lw) (hc:=(kH t w lw (lw+1) [.fp (lw+1) [str n]] (fun z=>bQ n z.o) ht hw hin (by simp [AV.oks,AV.ok]) (fun z hz=>rq z n (lw+1) (ht.2.1 z hz) hn)))) ?_;iterate 3 refine ab ?_
 refine ak (0) [_] [_] ?_;rfl
theorem tv (t:Tr) (ht:cx t):AC Tryz.prog 69 [.agg (trC t)] emp (Ret (.fz 0 (oc t).length (cl ic (oc t)))):=by
 have hb1:=ht.1;have hel:=fU t.zs.length;have hrl:(List.replicate t.zs.length (0:Int)).length=t.zs.length:=List.length_replicate;refine AC.intro te_ok (fn:=Tryz.f69) ⟨Tryz.func69,rfl,rfl⟩ (aE rfl) ?_;iterate 2 refine ab ?_
 refine ai rfl rfl (aS 100) ?_;iterate 7 refine ab ?_
 refine ai rfl rfl (En 203 ic 0 t.zs.length) ?_;iterate 10 refine ab ?_
 refine AWp.loopR (α:=Nat×List Int) [3,4,11,12,13,14,15,16,17,18] (fun x_=>[(11,i64 (x_.1)),(3,.sl 203 0 0 (x_.2).length 1)]) (fun x_=>[(203,.row (cl ic (x_.2)) 1 0)]) (fun x_=>(x_.1)≤t.zs.length∧(x_.2)=eO (x_.1)++List.replicate (t.zs.length-(x_.1)) 0) (fun x_=>t.zs.length-(x_.1)) (0,List.replicate t.zs.length 0) ?_ (Back.mk' (HasT.cons (HasT.cons HasT.nil)) (HasH.cons HasH.nil)) ?_
 ·
  exact ⟨Nat.zero_le _,rfl⟩
 ·
  rintro ⟨i,acc⟩ hI3;change i≤t.zs.length∧acc=eO i++List.replicate (t.zs.length-i) 0 at hI3;obtain ⟨hi,ha⟩:=hI3;refine AWp.as (s':=AS.over _ [3,4,11,12,13,14,15,16,17,18] [(11,i64 i),(3,.sl 203 0 0 acc.length 1)] [(203,.row (cl ic acc) 1 0)]) rfl ?_;have hal:=congrArg List.length ha;rw [List.length_append,List.length_replicate,fU] at hal;iterate 2 refine ab ?_
  refine am (fun h3_0=>?_) (fun h3_0=>?_)
  ·
   iterate 22 refine ab ?_
   refine ⟨(i+1,acc.set i (i:Int)),?_,Back.mk' (HasT.cons (HasT.cons HasT.nil (h1:=by exact Gg (by simp)) )) (HasH.cons HasH.nil),?_⟩
   ·
    try dsimp only
    exact ⟨by omega,by rw [ha];exact BD (by omega)⟩
   ·
    try dsimp only
    first|omega|(simp;omega)
  ·
   iterate 10 refine ab ?_
   obtain rfl:i=t.zs.length:=by omega
   rw [Nat.sub_self,List.replicate_zero,List.append_nil] at ha;obtain rfl:acc=oc t:=ha;refine ak (0) [_] [_] ?_;rfl
theorem ol (o z:Zo) (lv:Nat) (ho:eR o) (hz:eR z):AC Tryz.prog 70 [.agg (zoC o),.fp lv (zoC z)] emp (Ret (tf (zL z o))):=by
 have h1:=ho.1;have h2:=hz.1;refine AC.intro te_ok (fn:=Tryz.f70) ⟨Tryz.func70,rfl,rfl⟩ (aE rfl) ?_;iterate 2 refine ab ?_
 refine ai rfl rfl (aS 100) ?_;iterate 8 refine ab ?_
 refine AOps.bool rfl rfl (aj (lv) (hc:=(df z.o o.o (by omega) (by omega)))) (fun h1_4=>?_) (fun h1_4=>?_)
 ·
  iterate 5 refine ab ?_
  refine cw rfl rfl rfl rfl rfl (aj (lv) (hc:=(bT z.o o.o (by omega) (by omega)))) ?_;iterate 5 refine ab ?_
  refine ak (0) [_] [_] ?_;exact congrArg tf (by simp_all [zL])
 ·
  iterate 11 refine ab ?_
  refine ak (0) [_] [_] ?_;exact congrArg tf (by simp_all [zL])
end
section
attribute [local irreducible] AWp AOps
def cO (z:Zo) (r:Rr):Bool:=bQ r.nm z.o&&decide (r.cs=1)&&decide (0≤r.ttl)&&decide (r.ttl≤2147483647)&&decide (1≤r.ty)&&decide (r.ty≤65535)&&fA r.ty r.da
def cq (z:Zo) (r:Rr):Bool:=if r.ty=6 then bi r.nm z.o&&decide (bI z r.nm=[]) else if r.ty=2 then decide (bI z r.nm=[]) || bi (bI z r.nm) r.nm else if r.ty=1 then true else decide (bI z r.nm=[])
def i7 (z:Zo) (r:Rr):Bool:=cO z r&&cq z r
def gt (z:Zo) (n:List UInt8):Nat:=(z.rs.filter fun o=>bi o.nm n).length
def inZ (z:Zo) (r:Rr):Bool:=i7 z r&&(!decide (r.ty=5) || decide (gt z r.nm=1))
def dJ (t:Tr) (up:List Int) (k:Int) (n:List UInt8) (i:Nat):Bool:=decide (0<i)&&decide (up.getD i default=k)&&bi (t.zs.getD i default).o n
def fK (t:Tr) (up:List Int) (k:Int) (z:Zo) (r:Rr):Bool:=decide (r.ty=2)&&!bi r.nm z.o&&!((List.range t.zs.length).any (dJ t up k r.nm))
def nZ (t:Tr) (up:List Int) (k:Int) (i:Nat):Bool:=decide (i=0) || decide (up.getD i default≠k) || (bi (bI (zAt t k) (t.zs.getD i default).o) (t.zs.getD i default).o&&jK (atZ (zAt t k) (t.zs.getD i default).o 2) (atZ (t.zs.getD i default) (t.zs.getD i default).o 2)&&jK (atZ (t.zs.getD i default) (t.zs.getD i default).o 2) (atZ (zAt t k) (t.zs.getD i default).o 2))
def ki (t:Tr) (up:List Int) (k:Int):Bool:=(List.range t.zs.length).all (nZ t up k)&&!((zAt t k).rs.any (fK t up k (zAt t k)))
def lO (t:Tr) (i:Int):Bool:=decide (i<0) || decide ((t.zs.length:Int)≤i)
def svO (t:Tr) (i:Nat):Bool:=decide (0≤(t.ss.getD i default).ad)&&decide ((t.ss.getD i default).ad≤4294967295)&&!decide ((t.ss.getD i default).ad∈(t.ss.take i).map Sv.ad)&&!((t.ss.getD i default).zs.any (lO t))
def nH (t:Tr):Bool:=decide (t.ss.length≤40)&&(List.range t.ss.length).all (svO t)
def nS (t:Tr) (i:Nat):Bool:=bm (t.zs.getD i default).o&&!((t.zs.take i).any fun o=>bi o.o (t.zs.getD i default).o)
def mC (t:Tr) (k:Nat):Bool:=(t.zs.getD k default).rs.all (inZ (t.zs.getD k default))&&decide ((atZ (t.zs.getD k default) (t.zs.getD k default).o 6).length=1)&&decide (1≤(atZ (t.zs.getD k default) (t.zs.getD k default).o 2).length)&&ki t (ka t) k
def i6 (l:List Zo):Nat:=(l.map fun z=>z.rs.length).sum
def dZ (t:Tr):Bool:=decide (1≤t.zs.length)&&decide (t.zs.length≤20)&&decide ((t.zs.getD 0 default).o=[0])&&nH t&&(List.range t.zs.length).all (nS t)&&decide (i6 t.zs≤400)&&(List.range t.zs.length).all (mC t)
theorem cd {k:Nat} {p:Nat→Bool}:(List.range k).all p=true↔∀ j,j<k→p j=true:=by simp [List.all_eq_true]
theorem fm {k j:Nat} {p:Nat→Bool} (h:j<k) (hp:p j=false):(List.range k).all p=false:=by
 cases hx:(List.range k).all p with
 | false=>rfl
 | true=>rw [cd.1 hx j h] at hp;cases hp
theorem sG {k:Nat} {p:Nat→Bool} (h:∀ j,j<k→p j=false):(List.range k).any p=false:=by
 rw [List.any_eq_false];intro j hj;rw [h j (List.mem_range.1 hj)];exact Bool.false_ne_true
theorem lU {k j:Nat} {p:Nat→Bool} (h:j<k) (hp:p j=true):(List.range k).any p=true:=List.any_eq_true.2 ⟨j,List.mem_range.2 h,hp⟩
theorem dh {p:Nat→Bool} {i:Nat} {b:Bool} (h:∀ j,j<i→p j=b) (hp:p i=b):∀ j,j<i+1→p j=b:=fun j hj=>by
 by_cases e:j=i
 · rw [e];exact hp
 · exact h j (by omega)
theorem nk {z:Zo} {n:List UInt8} {i:Nat} (h:i<z.rs.length):((z.rs.take (i+1)).filter fun o=>bi o.nm n).length=((z.rs.take i).filter fun o=>bi o.nm n).length+(if bi (z.rs.getD i default).nm n then 1 else 0):=by
 rw [kD h,List.length_append];split<;>rfl
theorem k8 {t:Tr} {i:Nat} (h:i<t.zs.length):(ka t).getD i default=kd t (t.zs.getD i default):=by
 rw [ka,List.getD_eq_getElem?_getD,List.getElem?_map,List.getD_eq_getElem?_getD,List.getElem?_eq_getElem h];rfl
theorem zK (t:Tr):(ka t).length=t.zs.length:=by simp [ka]
theorem iS {α β:Type} [Inhabited α] {f:α→β} {l:List α} {i:Nat} (h:i<l.length):(l.take (i+1)).map f=(l.take i).map f++[f (l.getD i default)]:=by
 rw [bK h,List.map_append];rfl
theorem tX {l:List Zo} {i:Nat} (h:i<l.length):i6 (l.take (i+1))=i6 (l.take i)+(l.getD i default).rs.length:=by
 rw [bK h,i6,List.map_append,List.sum_append];rfl
theorem qP (t:Tr) (ht:cx t):AC Tryz.prog 35 [.agg (trC t)] emp (Ret (.fz 0 (ka t).length (cl ic (ka t)))):=by
 have hb1:=ht.1;have hel:=fU t.zs.length;refine AC.intro te_ok (fn:=Tryz.f35) ⟨Tryz.func35,rfl,rfl⟩ (aE rfl) ?_;iterate 2 refine ab ?_
 refine ai rfl rfl (aS 100) ?_;iterate 4 refine ab ?_
 refine ai rfl rfl (bD 200 1 ic) ?_;iterate 10 refine ab ?_
 refine AWp.loopR (α:=Nat×List Int×Nat) [3,5,9,10,11,12,13,14,15,16,17,18,19,20,21] (fun x_=>[(9,i64 (x_.1)),(3,.sl 200 (x_.2.2) 0 (x_.2.1).length 1)]) (fun x_=>[(200,.row (cl ic (x_.2.1)) 1 (x_.2.2))]) (fun x_=>(x_.1)≤t.zs.length∧(x_.2.1)=(t.zs.take (x_.1)).map (kd t)) (fun x_=>t.zs.length-(x_.1)) (0,[],0) ?_ (Back.mk' (HasT.cons (HasT.cons HasT.nil)) (HasH.cons HasH.nil)) ?_
 ·
  exact ⟨Nat.zero_le _,rfl⟩
 ·
  rintro ⟨i,acc,v⟩ hI3;change i≤t.zs.length∧acc=(t.zs.take i).map (kd t) at hI3;obtain ⟨hi,ha⟩:=hI3;refine AWp.as (s':=AS.over _ [3,5,9,10,11,12,13,14,15,16,17,18,19,20,21] [(9,i64 i),(3,.sl 200 v 0 acc.length 1)] [(200,.row (cl ic acc) 1 v)]) rfl ?_;have hal:=congrArg List.length ha;rw [List.length_map,List.length_take] at hal;iterate 2 refine ab ?_
  refine am (fun h3_0=>?_) (fun h3_0=>?_)
  ·
   iterate 10 refine ab ?_
   refine ai rfl rfl (ap 502) ?_;iterate 2 refine ab ?_
   have hzi:=ht.2.1 _ (aq (l:=t.zs) (i:=i) (by omega));refine bj [ag,ag,ag,ag,ag,ag,bv [(606,_)],bv [(200,_)],ag] [af [3] [] 14,af [1] [100] 15,af [1] [100] 16,af [15] [] 17,af [5] [502] 18,af [14,16,17] [502] 19,af [18] [606] 20 [606],af [13,19] [200,606] 21 [200],af [20] [] 4] rfl ⟨ah,ah,ah,aC fun _=>aN rfl rfl (aj (0) (hc:=(tv t ht))),aC fun _=>aN rfl rfl (ca [] [_]),aC fun _=>aN rfl rfl (aj (0) (hc:=(kH t (oc t) 0 1 [.fp 1 (zoC (t.zs.getD i default))] (zL (t.zs.getD i default)) ht (by show (eO t.zs.length).length≤_;omega) (yB t) rfl (fun z hz=>ol z (t.zs.getD i default) 1 (ht.2.1 z hz) hzi)))),aC fun _=>aN rfl rfl (bO 606 ic [_] [(_,_)]),ah,ah,trivial⟩ ?_;iterate 4 refine ab ?_
   refine ⟨(i+1,acc++[kd t (t.zs.getD i default)],v+1),?_,Back.mk' (HasT.cons (HasT.cons HasT.nil)) (HasH.cons HasH.nil),?_⟩
   ·
    try dsimp only
    exact ⟨by omega,by rw [iS (by omega),← ha]⟩
   ·
    try dsimp only
    first|omega|(simp;omega)
  ·
   iterate 10 refine ab ?_
   obtain rfl:i=t.zs.length:=by omega
   rw [List.take_length] at ha;obtain rfl:acc=ka t:=ha;refine ak (0) [_] [_] ?_;rfl
theorem nr (r o:Rr) (lv:Nat) (hr:r.da.length≤140737488351232) (ho:o.da.length≤140737488351232):AC Tryz.prog 120 [.agg (rrc o),.fp lv (rrc r)] emp (Ret (tf (rc r o))):=by
 refine AC.intro te_ok (fn:=Tryz.f120) ⟨Tryz.func120,rfl,rfl⟩ (aE rfl) ?_;iterate 2 refine ab ?_
 refine ai rfl rfl (aS 100) ?_;iterate 6 refine ab ?_
 refine AOps.cons rfl rfl (by first|exact b9|exact aU) ?_;iterate 2 refine ab ?_
 refine AOps.cons rfl rfl (by first|exact b9|exact aU) ?_;refine ai rfl rfl (aj (lv) (hc:=(bT r.da o.da (by omega) (by omega)))) ?_;iterate 3 refine ab ?_
 refine ak (0) [_] [_] ?_;rfl
theorem pb (b:List Rr) (r:Rr) (lv lb:Nat) (hb:RrsOk b) (hr:r.da.length≤140737488351232) (hl:lb≤lv):AC Tryz.prog 119 [.agg (rrc r),.fp lv [.fz lb b.length (cl rrc b)]] emp (Ret (tf (Bx b r))):=by
 have hbl:=hb.1;refine AC.intro te_ok (fn:=Tryz.f119) ⟨Tryz.func119,rfl,rfl⟩ (aE rfl) ?_;iterate 2 refine ab ?_
 refine ai rfl rfl (aS 100) ?_;iterate 5 refine ab ?_
 refine ai rfl rfl (ca [] [_]) ?_;refine ai rfl rfl (aj (lv) (hc:=(cA b lb 0 (lv+1) [.fp (lv+1) (rrc r)] (rc r) (by omega) (by simp [AV.oks,AV.ok,Nat.ble_eq]<;>omega) (fun o ho=>nr r o (lv+1) hr (hb.2 o ho))))) ?_;iterate 4 refine ab ?_
 refine ak (0) [_] [_] ?_;rfl
theorem m7 (a b:List Rr) (la lb:Nat) (ha:RrsOk a) (hb:RrsOk b):AC Tryz.prog 78 [.fz la a.length (cl rrc a),.fz lb b.length (cl rrc b)] emp (Ret (tf (jK a b))):=by
 have hal:=ha.1;refine AC.intro te_ok (fn:=Tryz.f78) ⟨Tryz.func78,rfl,rfl⟩ (aE rfl) ?_;iterate 2 refine ab ?_
 refine ai rfl rfl (aS 100) ?_;iterate 5 refine ab ?_
 refine ai rfl rfl (ca [] [_]) ?_;refine ai rfl rfl (aj (la+lb) (hA:=by exact ⟨dG rfl (fG (by omega)),xn trivial ⟨jp rfl .box (by simp [AV.oks,AV.ok,Nat.ble_eq]) rfl rfl,trivial⟩,trivial⟩) (hc:=(cA a la 0 (la+lb+1) [.fp (la+lb+1) [.fz lb b.length (cl rrc b)]] (Bx b) (by omega) (by simp [AV.oks,AV.ok,Nat.ble_eq]<;>omega) (fun r hr=>pb b r (la+lb+1) lb hb (ha.2 r hr) (by omega))))) ?_;iterate 4 refine ab ?_
 refine ak (0) [_] [_] ?_;rfl
theorem pc (i:Int) (t:Tr) (lv:Nat) (ht:cx t):AC Tryz.prog 65 [i64 i,.fp lv (trC t)] emp (Ret (tf (lO t i))):=by
 have hb1:=ht.1;refine AC.intro te_ok (fn:=Tryz.f65) ⟨Tryz.func65,rfl,rfl⟩ (aE rfl) ?_;iterate 7 refine ab ?_
 refine am (fun h1_1=>?_) (fun h1_1=>?_)
 ·
  iterate 10 refine ab ?_
  refine ak (0) [_] [_] ?_;exact congrArg tf (by simp [lO, *];try omega)
 ·
  iterate 5 refine ab ?_
  refine cw rfl rfl rfl rfl rfl (gX) ?_;iterate 4 refine ab ?_
  refine ak (0) [_] [_] ?_;exact congrArg tf (by simp [lO, *];try omega)
end
section
attribute [local irreducible] AWp AOps
theorem kid4 (a b:Prop) [Decidable a] [Decidable b] (c:Bool):(a∧b∧c=true)∨(a∧b∧c=false)∨(a∧¬ b)∨¬ a:=by
 by_cases h1:a
 · by_cases h2:b
   · cases c
     · exact .inr (.inl ⟨h1,h2,rfl⟩)
     · exact .inl ⟨h1,h2,rfl⟩
   · exact .inr (.inr (.inl ⟨h1,h2⟩))
 · exact .inr (.inr (.inr h1))
theorem pd (t:Tr) (up:List Int) (k:Int) (z:Zo) (r:Rr) (lv lu:Nat) (ht:cx t) (hz:eR z) (hr:r.nm.length≤140737488351232) (hu:up.length=t.zs.length) (hl:lu≤lv):AC Tryz.prog 79 [.agg (rrc r),.fp lv (zoC z),.fp lv (trC t),.fp lv [.fz lu up.length (cl ic up)],.fp lv [i64 k]] emp (Ret (tf (fK t up k z r))):=by
 have hb1:=ht.1;have hol:=hz.1;refine AC.intro te_ok (fn:=Tryz.f79) ⟨Tryz.func79,rfl,rfl⟩ (aE rfl) ?_;iterate 2 refine ab ?_
 refine ai rfl rfl (aS 100) ?_;iterate 7 refine ab ?_
 refine am (fun h1_2=>?_) (fun h1_2=>?_)
 ·
  iterate 14 refine ab ?_
  refine ak (0) [_] [_] ?_;exact congrArg tf (by simp [fK, *])
 ·
  iterate 5 refine ab ?_
  refine AOps.gbool rfl rfl rfl rfl rfl (aj (lv) (hc:=(bT r.nm z.o (by omega) (by omega)))) (fun h1_8=>?_) (fun h1_8=>?_)
  ·
   iterate 8 refine ab ?_
   refine ak (0) [_] [_] ?_;exact congrArg tf (by simp [fK, *])
  ·
   iterate 13 refine ab ?_
   refine AWp.loopR (α:=Nat) [6,7,8,22,23,24,25,26,27,28,29,30,31,32,33,34,35,36,37,38,39,40,41,42,43,44] (fun i=>[(22,i64 i)]) (fun i=>[]) (fun i=>i≤t.zs.length∧∀ j,j<i→dJ t up k r.nm j=false) (fun i=>t.zs.length-i) 0 ?_ (Back.mk' (HasT.cons HasT.nil) HasH.nil) ?_
   ·
    exact ⟨Nat.zero_le _,fun j hj=>absurd hj (Nat.not_lt_zero j)⟩
   ·
    rintro i ⟨hi,hc⟩;iterate 2 refine ab ?_
    refine am (fun h4_0=>?_) (fun h4_0=>?_)
    ·
     iterate 11 refine ab ?_
     refine ai rfl rfl (ap 603) ?_;iterate 4 refine ab ?_
     have hzi:=ht.2.1 _ (aq (l:=t.zs) (i:=i) (by omega));have hzl:=hzi.1;rcases kid4 (0<(i:Int)) (up.getD i default=k) (bi (t.zs.getD i default).o r.nm) with ⟨h1,h2,h3⟩|⟨h1,h2,h3⟩|⟨h1,h2⟩|h1
     ·
      refine bj [ag,ag,ag,ag,ag,ag,ag,ag,ag,ag,ag,ag,ag,ag,ag,ag,ag] [af [7] [] 28,af [27] [] 29,af [28] [] 30,af [3,29] [] 31,af [7,29] [] 32,af [29,30,31] [] 33,af [29,32] [] 34,af [4,29] [] 35,af [29,33,34] [] 36,af [29,35] [] 37,af [36] [] 38,af [8,37] [603] 39,af [37,38] [603] 40,af [5,37] [100] 41,af [37,40] [100] 42,af [37,39,41] [] 43,af [37,42] [] 44] rfl ⟨ah,aC fun _=>aN rfl rfl ((OpOk.dec_t (gW) (h1))),ah,ah,ah,ah,ah,ah,aC fun _=>dV rfl rfl rfl rfl rfl ((OpOk.dec_t (dm) (h2))),ah,ah,ah,ah,ah,ah,aC fun _=>dV rfl rfl rfl rfl rfl ((OpOk.bool_is (c:=true) (aj (lv) (hc:=(bT (t.zs.getD i default).o r.nm (by omega) (by omega)))) (h3))),ah,trivial⟩ ?_;iterate 6 refine ab ?_
      refine ak (0) [_] [_] ?_;exact congrArg tf (by rw [fK,lU (j:=i) (by omega) (show dJ t up k r.nm i=true by rw [dJ,decide_eq_true (by omega),decide_eq_true h2,h3];rfl),Bool.not_true,Bool.and_false])
     ·
      refine bj [ag,ag,ag,ag,ag,ag,ag,ag,ag,ag,ag,ag,ag,ag,ag,ag,ag] [af [7] [] 28,af [27] [] 29,af [28] [] 30,af [3,29] [] 31,af [7,29] [] 32,af [29,30,31] [] 33,af [29,32] [] 34,af [4,29] [] 35,af [29,33,34] [] 36,af [29,35] [] 37,af [36] [] 38,af [8,37] [603] 39,af [37,38] [603] 40,af [5,37] [100] 41,af [37,40] [100] 42,af [37,39,41] [] 43,af [37,42] [] 44] rfl ⟨ah,aC fun _=>aN rfl rfl ((OpOk.dec_t (gW) (h1))),ah,ah,ah,ah,ah,ah,aC fun _=>dV rfl rfl rfl rfl rfl ((OpOk.dec_t (dm) (h2))),ah,ah,ah,ah,ah,ah,aC fun _=>dV rfl rfl rfl rfl rfl ((OpOk.bool_is (c:=false) (aj (lv) (hc:=(bT (t.zs.getD i default).o r.nm (by omega) (by omega)))) (h3))),ah,trivial⟩ ?_;iterate 6 refine ab ?_
      refine ⟨i+1,?_,Back.mk' (HasT.cons HasT.nil) HasH.nil,?_⟩
      ·
       exact ⟨by omega,dh hc (by rw [dJ,h3,Bool.and_false])⟩
      ·
       first|omega|(simp;omega)
     ·
      refine bj [ag,ag,ag,ag,ag,ag,ag,ag,ag,ag,ag,ag,ag,ag,ag,ag,ag] [af [7] [] 28,af [27] [] 29,af [28] [] 30,af [3,29] [] 31,af [7,29] [] 32,af [29,30,31] [] 33,af [29,32] [] 34,af [4,29] [] 35,af [29,33,34] [] 36,af [29,35] [] 37,af [36] [] 38,af [37] [] 39,af [37] [] 40,af [37] [] 41,af [37] [] 42,af [37] [] 43,af [37,42] [] 44] rfl ⟨ah,aC fun _=>aN rfl rfl ((OpOk.dec_t (gW) (h1))),ah,ah,ah,ah,ah,ah,aC fun _=>dV rfl rfl rfl rfl rfl ((OpOk.dec_f (dm) (h2))),ah,ah,ah,ah,ah,ah,ah,ah,trivial⟩ ?_;iterate 6 refine ab ?_
      refine ⟨i+1,?_,Back.mk' (HasT.cons HasT.nil) HasH.nil,?_⟩
      ·
       exact ⟨by omega,dh hc (by rw [dJ,decide_eq_false h2,Bool.and_false,Bool.false_and])⟩
      ·
       first|omega|(simp;omega)
     ·
      refine bj [ag,ag,ag,ag,ag,ag,ag,ag,ag,ag,ag,ag,ag,ag,ag,ag,ag] [af [7] [] 28,af [27] [] 29,af [28] [] 30,af [29] [] 31,af [29] [] 32,af [29] [] 33,af [29] [] 34,af [29] [] 35,af [29] [] 36,af [29,35] [] 37,af [36] [] 38,af [37] [] 39,af [37] [] 40,af [37] [] 41,af [37] [] 42,af [37] [] 43,af [37,42] [] 44] rfl ⟨ah,aC fun _=>aN rfl rfl ((OpOk.dec_f (gW) (h1))),ah,ah,ah,ah,ah,ah,ah,ah,ah,ah,ah,ah,ah,ah,ah,trivial⟩ ?_;iterate 6 refine ab ?_
      refine ⟨i+1,?_,Back.mk' (HasT.cons HasT.nil) HasH.nil,?_⟩
      ·
       exact ⟨by omega,dh hc (by rw [dJ,decide_eq_false (by omega),Bool.false_and,Bool.false_and])⟩
      ·
       first|omega|(simp;omega)
    ·
     iterate 9 refine ab ?_
     refine ak (0) [_] [_] ?_;obtain rfl:i=t.zs.length:=by omega
     exact congrArg tf (by rw [fK,sG hc];simp_all)
end
section
attribute [local irreducible] AWp AOps
theorem eS (n:List UInt8):bi [] n=false:=by
 unfold bi;have:bm []=false:=by
  cases h:bm [] with
  | false=>rfl
  | true=>exact absurd rfl (tu h)
 rw [this];rfl
theorem iX {t:Tr} {up:List Int} {k:Int} {j:Nat} (hj:j<t.zs.length) (h:nZ t up k j=false):ki t up k=false:=by rw [ki,fm hj h,Bool.false_and]
theorem lq {t:Tr} {up:List Int} {k:Int} {i:Nat} (h0:¬ (i:Int)=0) (h1:up.getD i default=k) (h:(bi (bI (zAt t k) (t.zs.getD i default).o) (t.zs.getD i default).o&&jK (atZ (zAt t k) (t.zs.getD i default).o 2) (atZ (t.zs.getD i default) (t.zs.getD i default).o 2)&&jK (atZ (t.zs.getD i default) (t.zs.getD i default).o 2) (atZ (zAt t k) (t.zs.getD i default).o 2))=false):nZ t up k i=false:=by
 rw [nZ,decide_eq_false (by omega),decide_eq_false (by simpa using h1),h];rfl
theorem uE {t:Tr} {up:List Int} {k:Int} {i:Nat} (h1:bi (bI (zAt t k) (t.zs.getD i default).o) (t.zs.getD i default).o=true) (h2:jK (atZ (zAt t k) (t.zs.getD i default).o 2) (atZ (t.zs.getD i default) (t.zs.getD i default).o 2)=true) (h3:jK (atZ (t.zs.getD i default) (t.zs.getD i default).o 2) (atZ (zAt t k) (t.zs.getD i default).o 2)=true):nZ t up k i=true:=by
 rw [nZ,h1,h2,h3];simp
theorem kid3 (a b:Prop) [Decidable a] [Decidable b]:a∨(¬ a∧¬ b)∨(¬ a∧b):=by
 by_cases h1:a
 · exact .inl h1
 · by_cases h2:b
   · exact .inr (.inr ⟨h1,h2⟩)
   · exact .inr (.inl ⟨h1,h2⟩)
theorem gD {t:Tr} {j:Nat} (hj:j<t.ss.length) (h:svO t j=false):nH t=false:=by rw [nH,fm hj h,Bool.and_false]
theorem u5 {t:Tr} (h:∀ j,j<t.ss.length→svO t j=true):nH t=decide (t.ss.length≤40):=by rw [nH,cd.2 h,Bool.and_true]
def MetA (t:Tr) (i:Nat) (m:List (Int×Bool)):Prop:=∀ a,(bg m a).getD false=decide (a∈(t.ss.take i).map Sv.ad)
theorem MetA.start (t:Tr):MetA t 0 []:=fun a=>by simp [bg]
theorem MetA.step {t:Tr} {i:Nat} {m:List (Int×Bool)} (h:MetA t i m) (hi:i<t.ss.length):MetA t (i+1) (cp m (t.ss.getD i default).ad true):=fun a=>by
 rw [iR,iS hi];obtain ⟨x,hx⟩:∃ x,x=(t.ss.getD i default).ad:=⟨_,rfl⟩;rw [← hx];by_cases e:x=a
 · rw [if_pos e];simp [e]
 · rw [if_neg e,h a]
   have e2:¬ a=x:=fun k=>e k.symm
   simp [e2]
theorem sm {z:Zo} {r:Rr} (a:bQ r.nm z.o=true) (b:¬ ¬ r.cs=1) (c:¬ r.ttl<0) (d:¬ 2147483647<r.ttl) (e:¬ r.ty<1) (f:¬ 65535<r.ty) (g:fA r.ty r.da=true):cO z r=true:=by
 rw [Decidable.not_not] at b;rw [cO,a,g,decide_eq_true b,decide_eq_true (by omega),decide_eq_true (by omega),decide_eq_true (by omega),decide_eq_true (by omega)];rfl
theorem d7 {z:Zo} {r:Rr} (h:cO z r=true):inZ z r=(cq z r&&(!decide (r.ty=5) || decide (gt z r.nm=1))):=by rw [inZ,i7,h,Bool.true_and]
section
variable {t:Tr} {i:Nat} {m:List (Int×Bool)}
theorem Dj (h:(t.ss.getD i default).ad<0):svO t i=false:=by rw [svO,decide_eq_false (by omega)];rfl
theorem Di (h:4294967295<(t.ss.getD i default).ad):svO t i=false:=by rw [svO,decide_eq_false (p:=(t.ss.getD i default).ad≤4294967295) (by omega),Bool.and_false];rfl
theorem Gc (hm:MetA t i m) (h:(bg m (t.ss.getD i default).ad).getD false=true):svO t i=false:=by rw [svO,← hm,h,Bool.not_true,Bool.and_false];rfl
theorem zg (h:(t.ss.getD i default).zs.any (lO t)=true):svO t i=false:=by rw [svO,h,Bool.not_true,Bool.and_false]
theorem Bu (hm:MetA t i m) (h1:¬ (t.ss.getD i default).ad<0) (h2:¬ 4294967295<(t.ss.getD i default).ad) (h3:(bg m (t.ss.getD i default).ad).getD false=false) (h4:(t.ss.getD i default).zs.any (lO t)=false):svO t i=true:=by
 rw [svO,← hm,h3,h4,decide_eq_true (by omega),decide_eq_true (by omega)];rfl
end
theorem ro (t:Tr) (up:List Int) (k:Int) (lu:Nat) (ht:cx t) (hu:up.length=t.zs.length) (hk:0≤k∧k<t.zs.length):AC Tryz.prog 40 [.agg (trC t),.fz lu up.length (cl ic up),i64 k] emp (Ret (tf (ki t up k))):=by
 have hb1:=ht.1;have hzk:=jT ht hk;have hkl:=hzk.1;have hkr:(zAt t k).rs.length*64≤140737488351232:=hzk.2.1.1;refine AC.intro te_ok (fn:=Tryz.f40) ⟨Tryz.func40,rfl,rfl⟩ (aE rfl) ?_;iterate 2 refine ab ?_
 refine ai rfl rfl (aS 100) ?_;refine ai rfl rfl (aS 101) ?_;refine ai rfl rfl (aS 102) ?_;iterate 9 refine ab ?_
 refine ai rfl rfl (ap 205) ?_;iterate 11 refine ab ?_
 refine AWp.loopR (α:=Nat) [6,8,9,10,11,12,13,22,23,24,25,26,27,28,29,30,31,32,33,34,35,36,37,38,39,40,41,42,43,44,45,46,47,48,49,50,51,52,53,54,55,56,57,58,59,60,61,62,63,64,65,66,67,68,69,70,71,72,73] (fun i=>[(22,i64 i)]) (fun i=>[]) (fun i=>i≤t.zs.length∧∀ j,j<i→nZ t up k j=true) (fun i=>t.zs.length-i) 0 ?_ (Back.mk' (HasT.cons HasT.nil) HasH.nil) ?_
 ·
  exact ⟨Nat.zero_le _,fun j hj=>absurd hj (Nat.not_lt_zero j)⟩
 ·
  rintro i ⟨hi,hc⟩;iterate 2 refine ab ?_
  refine am (fun h3_0=>?_) (fun h3_0=>?_)
  ·
   iterate 11 refine ab ?_
   refine ai rfl rfl (ap 503) ?_;iterate 5 refine ab ?_
   have hzi:=ht.2.1 _ (aq (l:=t.zs) (i:=i) (by omega));have hzl:=hzi.1;rcases kid3 ((i:Int)=0) (up.getD i default=k) with h1|⟨h1,h2⟩|⟨h1,h2⟩
   ·
    refine bj [ag,ag,ag,ag,ag,ag,ag,ag,ag,ag] [af [8] [] 28,af [27] [] 29,af [28] [] 30,af [29] [] 31,af [29] [] 32,af [29] [] 33,af [29] [] 34,af [29] [] 35,af [29] [] 36,af [29,35] [] 37] rfl ⟨ah,aC fun _=>aN rfl rfl ((OpOk.dec_t (dm) (h1))),ah,ah,ah,ah,ah,ah,ah,ah,trivial⟩ ?_;iterate 6 refine ab ?_
    refine ⟨i+1,?_,Back.mk' (HasT.cons HasT.nil) HasH.nil,?_⟩
    ·
     exact ⟨by omega,dh hc (by rw [nZ,decide_eq_true (by omega)];rfl)⟩
    ·
     first|omega|(simp;omega)
   ·
    refine bj [ag,ag,ag,ag,ag,ag,ag,ag,ag,ag] [af [8] [] 28,af [27] [] 29,af [28] [] 30,af [4,29] [101] 31,af [8,29] [] 32,af [29,30,31] [] 33,af [29,32] [] 34,af [5,29] [102] 35,af [29,33,34] [] 36,af [29,35] [] 37] rfl ⟨ah,aC fun _=>aN rfl rfl ((OpOk.dec_f (dm) (h1))),ah,ah,ah,ah,ah,ah,aC fun _=>dV rfl rfl rfl rfl rfl ((OpOk.dec_t (gV) (h2))),ah,trivial⟩ ?_;iterate 6 refine ab ?_
    refine ⟨i+1,?_,Back.mk' (HasT.cons HasT.nil) HasH.nil,?_⟩
    ·
     exact ⟨by omega,dh hc (by rw [nZ,decide_eq_true h2,Bool.or_true];rfl)⟩
    ·
     first|omega|(simp;omega)
   ·
    refine bj [ag,ag,ag,ag,ag,ag,ag,ag,ag,ag] [af [8] [] 28,af [27] [] 29,af [28] [] 30,af [4,29] [101] 31,af [8,29] [] 32,af [29,30,31] [] 33,af [29,32] [] 34,af [5,29] [102] 35,af [29,33,34] [] 36,af [29,35] [] 37] rfl ⟨ah,aC fun _=>aN rfl rfl ((OpOk.dec_f (dm) (h1))),ah,ah,ah,ah,ah,ah,aC fun _=>dV rfl rfl rfl rfl rfl ((OpOk.dec_f (gV) (fun h=>h h2))),ah,trivial⟩ ?_;iterate 4 refine ab ?_
    have hcl:=eC hzk (t.zs.getD i default).o;iterate 3 refine ab ?_
    refine ai rfl rfl (aj (lu) (hc:=(jx (zAt t k) (t.zs.getD i default).o hzk hzl))) ?_;iterate 2 refine ab ?_
    refine AOps.bool rfl rfl (bM) (fun h6_6=>?_) (fun h6_6=>?_)
    ·
     iterate 4 refine ab ?_
     refine bj [ag,ag,ag,ag,ag,ag,ag,ag,ag,ag] [af [7] [205] 45,af [9] [503] 46,af [45] [503] 47,af [44,46] [] 48,af [9] [503] 49,af [9] [503] 50,af [49] [503] 51,af [48,50] [] 52,af [47] [] 13,af [51] [] 14] rfl ⟨ah,ah,ah,aC fun _=>aN rfl rfl (aj (lu) (hc:=(cQ (zAt t k) (t.zs.getD i default).o 2 hzk hzl))),ah,ah,ah,aC fun _=>aN rfl rfl (aj (lu) (hc:=(cQ (t.zs.getD i default) (t.zs.getD i default).o 2 hzi hzl))),ah,ah,trivial⟩ ?_;iterate 8 refine ab ?_
     refine AOps.gbool rfl rfl rfl rfl rfl (aj (lu) (hc:=(bT (bI (zAt t k) (t.zs.getD i default).o) (t.zs.getD i default).o (by omega) (by omega)))) (fun h8_6=>?_) (fun h8_6=>?_)
     ·
      iterate 5 refine ab ?_
      refine AOps.gbool rfl rfl rfl rfl rfl (aj (lu) (hc:=(m7 (atZ (zAt t k) (t.zs.getD i default).o 2) (atZ (t.zs.getD i default) (t.zs.getD i default).o 2) 0 0 (jB hzk _ _) (jB hzi _ _)))) (fun h8_12=>?_) (fun h8_12=>?_)
      ·
       iterate 5 refine ab ?_
       refine AOps.gbool rfl rfl rfl rfl rfl (aj (lu) (hc:=(m7 (atZ (t.zs.getD i default) (t.zs.getD i default).o 2) (atZ (zAt t k) (t.zs.getD i default).o 2) 0 0 (jB hzi _ _) (jB hzk _ _)))) (fun h8_18=>?_) (fun h8_18=>?_)
       ·
        iterate 9 refine ab ?_
        refine ⟨i+1,?_,Back.mk' (HasT.cons HasT.nil) HasH.nil,?_⟩
        ·
         exact ⟨by omega,dh hc (uE h8_6 h8_12 h8_18)⟩
        ·
         first|omega|(simp;omega)
       ·
        iterate 9 refine ab ?_
        refine ak (0) [_] [_] ?_;exact congrArg tf (iX (j:=i) (by omega) (lq h1 h2 (by rw [h8_18,Bool.and_false]))).symm
      ·
       iterate 15 refine ab ?_
       refine ak (0) [_] [_] ?_;exact congrArg tf (iX (j:=i) (by omega) (lq h1 h2 (by rw [h8_12,Bool.and_false];rfl))).symm
     ·
      iterate 21 refine ab ?_
      refine ak (0) [_] [_] ?_;exact congrArg tf (iX (j:=i) (by omega) (lq h1 h2 (by rw [h8_6];rfl))).symm
    ·
     iterate 4 refine ab ?_
     refine bj [ag,ag,ag,ag,ag,ag,ag,ag,ag,ag] [af [7] [205] 45,af [9] [503] 46,af [45] [503] 47,af [44,46] [] 48,af [9] [503] 49,af [9] [503] 50,af [49] [503] 51,af [48,50] [] 52,af [47] [] 13,af [51] [] 14] rfl ⟨ah,ah,ah,aC fun _=>aN rfl rfl (aj (lu) (hc:=(cQ (zAt t k) (t.zs.getD i default).o 2 hzk hzl))),ah,ah,ah,aC fun _=>aN rfl rfl (aj (lu) (hc:=(cQ (t.zs.getD i default) (t.zs.getD i default).o 2 hzi hzl))),ah,ah,trivial⟩ ?_;iterate 30 refine ab ?_
     refine ak (0) [_] [_] ?_;exact congrArg tf (iX (j:=i) (by omega) (lq h1 h2 (by rw [show bI (zAt t k) (t.zs.getD i default).o=[] from Decidable.not_not.1 (of_decide_eq_false h6_6),eS];rfl))).symm
  ·
   iterate 8 refine ab ?_
   refine ai rfl rfl (ca [] [_,_,_,_]) ?_;refine ai rfl rfl (aj (lu) (hA:=by exact ⟨dG rfl (fG (by omega)),xn trivial ⟨jp rfl .box rfl rfl rfl,jp rfl .box rfl rfl rfl,jp rfl .box (by simp [AV.oks,AV.ok,Nat.ble_eq]) rfl rfl,jp rfl .box rfl rfl rfl,trivial⟩,trivial⟩) (hc:=(cA (zAt t k).rs 0 0 (lu+1) [.fp (lu+1) (zoC (zAt t k)),.fp (lu+1) (trC t),.fp (lu+1) [.fz lu up.length (cl ic up)],.fp (lu+1) [i64 k]] (fK t up k (zAt t k)) (by omega) (by simp [AV.oks,AV.ok,Nat.ble_eq]<;>omega) (fun r hr=>pd t up k (zAt t k) r (lu+1) lu ht hzk (hzk.2.2 r hr) hu (by omega))))) ?_;iterate 4 refine ab ?_
   refine ak (0) [_] [_] ?_;obtain rfl:i=t.zs.length:=by omega
   exact congrArg tf (by rw [ki,cd.2 hc,Bool.true_and])
theorem rm (t:Tr) (ht:cx t):AC Tryz.prog 33 [.agg (trC t)] emp (Ret (tf (nH t))):=by
 have hb1:=ht.1;have hb2:=ht.2.2.1;refine AC.intro te_ok (fn:=Tryz.f33) ⟨Tryz.func33,rfl,rfl⟩ (aE rfl) ?_;iterate 2 refine ab ?_
 refine ai rfl rfl (aS 100) ?_;iterate 4 refine ab ?_
 refine ai rfl rfl (gQ 200 cm (fun b:Bool=>tf b)) ?_;iterate 11 refine ab ?_
 refine AWp.loopR (α:=Nat×List (Int×Bool)) [2,5,6,11,12,13,14,15,16,17,18,19,20,21,22,23,24,25,26,27,28,29,30,31,32,33,34,35,36,37,38,39] (fun x_=>[(11,i64 (x_.1))]) (fun x_=>[(200,.map (me cm (fun b:Bool=>tf b) (x_.2)))]) (fun x_=>(x_.1)≤t.ss.length∧MetA t (x_.1) (x_.2)∧∀ j,j<(x_.1)→svO t j=true) (fun x_=>t.ss.length-(x_.1)) (0,[]) ?_ (Back.mk' (HasT.cons HasT.nil) (HasH.cons HasH.nil (h2:=by exact cg (fun _=>rfl)) )) ?_
 ·
  exact ⟨Nat.zero_le _,MetA.start t,fun j hj=>absurd hj (Nat.not_lt_zero j)⟩
 ·
  rintro ⟨i,m⟩ hI3;change i≤t.ss.length∧MetA t i m∧∀ j,j<i→svO t j=true at hI3;obtain ⟨hi,hm,hc⟩:=hI3;refine AWp.as (s':=AS.over _ [2,5,6,11,12,13,14,15,16,17,18,19,20,21,22,23,24,25,26,27,28,29,30,31,32,33,34,35,36,37,38,39] [(11,i64 i)] [(200,.map (me cm (fun b:Bool=>tf b) m))]) rfl ?_;iterate 2 refine ab ?_
  refine am (fun h3_0=>?_) (fun h3_0=>?_)
  ·
   iterate 8 refine ab ?_
   have hsz:=ht.2.2.2 _ (aq (l:=t.ss) (i:=i) (by omega));iterate 2 refine ab ?_
   refine ai rfl rfl (ap 502) ?_;iterate 4 refine ab ?_
   refine ai rfl rfl (ca [] [_]) ?_;iterate 7 refine ab ?_
   refine am (fun h6_2=>?_) (fun h6_2=>?_)
   ·
    iterate 24 refine ab ?_
    refine ak (0) [_] [_] ?_;exact congrArg tf (gD (j:=i) (by omega) (Dj h6_2)).symm
   ·
    iterate 3 refine ab ?_
    refine am (fun h6_6=>?_) (fun h6_6=>?_)
    ·
     iterate 20 refine ab ?_
     refine ak (0) [_] [_] ?_;exact congrArg tf (gD (j:=i) (by omega) (Di h6_6)).symm
    ·
     iterate 5 refine ab ?_
     refine AOps.gbool rfl rfl rfl rfl rfl (ey cm) (fun h6_12=>?_) (fun h6_12=>?_)
     ·
      iterate 14 refine ab ?_
      refine ak (0) [_] [_] ?_;exact congrArg tf (gD (j:=i) (by omega) (Gc hm h6_12)).symm
     ·
      iterate 5 refine ab ?_
      refine AOps.gbool rfl rfl rfl rfl rfl (aj (0) (hc:=(eQ (t.ss.getD i default).zs 0 0 1 [.fp 1 (trC t)] (lO t) (by omega) rfl (fun j hj=>pc j t 1 ht)))) (fun h6_18=>?_) (fun h6_18=>?_)
      ·
       iterate 8 refine ab ?_
       refine ak (0) [_] [_] ?_;exact congrArg tf (gD (j:=i) (by omega) (zg h6_18)).symm
      ·
       iterate 8 refine ab ?_
       refine ai rfl rfl (gf cm true) ?_;iterate 5 refine ab ?_
       refine ⟨(i+1,cp m (t.ss.getD i default).ad true),?_,Back.mk' (HasT.cons HasT.nil) (HasH.cons HasH.nil (h2:=by exact cg (fun _=>rfl)) ),?_⟩
       ·
        try dsimp only
        exact ⟨by omega,hm.step (by omega),dh hc (Bu hm h6_2 h6_6 h6_12 h6_18)⟩
       ·
        try dsimp only
        first|omega|(simp;omega)
  ·
   iterate 9 refine ab ?_
   refine ai rfl rfl (iN) ?_;iterate 3 refine ab ?_
   refine ak (0) [_] [_] ?_;obtain rfl:i=t.ss.length:=by omega
   exact congrArg tf (by rw [u5 hc];exact decide_eq_decide.2 (by omega))
theorem rp (z:Zo) (r:Rr) (hz:eR z) (hr:r.nm.length≤140737488351232) (hd:r.da.length≤140737488351232):AC Tryz.prog 38 [.agg (zoC z),.agg (rrc r)] emp (Ret (tf (inZ z r))):=by
 have hol:=hz.1;have hrl:z.rs.length*64≤140737488351232:=hz.2.1.1;have hcl:=eC hz r.nm;refine AC.intro te_ok (fn:=Tryz.f38) ⟨Tryz.func38,rfl,rfl⟩ (aE rfl) ?_;iterate 2 refine ab ?_
 refine ai rfl rfl (aS 100) ?_;refine ai rfl rfl (aS 101) ?_;iterate 9 refine ab ?_
 refine AOps.bool rfl rfl (aj (0) (hc:=(df r.nm z.o (by omega) (by omega)))) (fun h1_4=>?_) (fun h1_4=>?_)
 ·
  iterate 4 refine ab ?_
  refine am (fun h1_9=>?_) (fun h1_9=>?_)
  ·
   iterate 36 refine ab ?_
   refine ak (0) [_] [_] ?_;exact congrArg tf (by simp [inZ,i7,cO,cq,gt, *];try omega)
  ·
   iterate 4 refine ab ?_
   refine am (fun h1_14=>?_) (fun h1_14=>?_)
   ·
    iterate 31 refine ab ?_
    refine ak (0) [_] [_] ?_;exact congrArg tf (by simp [inZ,i7,cO,cq,gt, *];try omega)
   ·
    iterate 4 refine ab ?_
    refine am (fun h1_19=>?_) (fun h1_19=>?_)
    ·
     iterate 26 refine ab ?_
     refine ak (0) [_] [_] ?_;exact congrArg tf (by simp [inZ,i7,cO,cq,gt, *];try omega)
    ·
     iterate 4 refine ab ?_
     refine am (fun h1_24=>?_) (fun h1_24=>?_)
     ·
      iterate 21 refine ab ?_
      refine ak (0) [_] [_] ?_;exact congrArg tf (by simp [inZ,i7,cO,cq,gt, *];try omega)
     ·
      iterate 4 refine ab ?_
      refine am (fun h1_29=>?_) (fun h1_29=>?_)
      ·
       iterate 16 refine ab ?_
       refine ak (0) [_] [_] ?_;exact congrArg tf (by simp [inZ,i7,cO,cq,gt, *];try omega)
      ·
       iterate 6 refine ab ?_
       refine AOps.gbool rfl rfl rfl rfl rfl (aj (0) (hc:=(wz r.ty r.da 0 hd))) (fun h1_36=>?_) (fun h1_36=>?_)
       ·
        iterate 7 refine ab ?_
        have hbase:=sm h1_4 h1_9 h1_14 h1_19 h1_24 h1_29 h1_36;iterate 3 refine ab ?_
        refine ai rfl rfl (aj (0) (hc:=(jx z r.nm hz hr))) ?_;iterate 2 refine ab ?_
        refine AOps.bool rfl rfl (bM) (fun h3_6=>?_) (fun h3_6=>?_)
        ·
         iterate 12 refine ab ?_
         refine am (fun h5_0=>?_) (fun h5_0=>?_)
         ·
          iterate 9 refine ab ?_
          refine AOps.bool rfl rfl (aj (0) (hc:=(bT r.nm z.o (by omega) (by omega)))) (fun h6_4=>?_) (fun h6_4=>?_)
          ·
           iterate 7 refine ab ?_
           have hc6:bI z r.nm≠[]:=of_decide_eq_true h3_6
           clear h3_6
           refine ak (0) [_] [_] ?_;exact congrArg tf (by rw [d7 hbase,cq];simp [gt, *];first|done|omega|exact decide_eq_true (by omega)|exact decide_eq_false (by omega))
          ·
           iterate 7 refine ab ?_
           have hc6:bI z r.nm≠[]:=of_decide_eq_true h3_6
           clear h3_6
           refine ak (0) [_] [_] ?_;exact congrArg tf (by rw [d7 hbase,cq];simp [gt, *];first|done|omega|exact decide_eq_true (by omega)|exact decide_eq_false (by omega))
         ·
          iterate 5 refine ab ?_
          refine am (fun h7_0=>?_) (fun h7_0=>?_)
          ·
           iterate 11 refine ab ?_
           refine cw rfl rfl rfl rfl rfl (aj (0) (hc:=(bT (bI z r.nm) r.nm (by omega) (by omega)))) ?_;iterate 4 refine ab ?_
           have hc6:bI z r.nm≠[]:=of_decide_eq_true h3_6
           clear h3_6
           refine ak (0) [_] [_] ?_;exact congrArg tf (by rw [d7 hbase,cq];simp [gt, *];first|done|omega|exact decide_eq_true (by omega)|exact decide_eq_false (by omega))
          ·
           iterate 5 refine ab ?_
           refine am (fun h9_0=>?_) (fun h9_0=>?_)
           ·
            iterate 8 refine ab ?_
            have hc6:bI z r.nm≠[]:=of_decide_eq_true h3_6
            clear h3_6
            refine ak (0) [_] [_] ?_;exact congrArg tf (by rw [d7 hbase,cq];simp [gt, *];first|done|omega|exact decide_eq_true (by omega)|exact decide_eq_false (by omega))
           ·
            iterate 5 refine ab ?_
            refine am (fun h11_0=>?_) (fun h11_0=>?_)
            ·
             iterate 16 refine ab ?_
             refine AWp.loopR (α:=Nat) [7,9,86,87,88,89,90,91,92,93,94,95,96,97] (fun i=>[(86,i64 i),(7,i64 ((z.rs.take i).filter fun o=>bi o.nm r.nm).length)]) (fun i=>[]) (fun i=>i≤z.rs.length) (fun i=>z.rs.length-i) 0 ?_ (Back.mk' (HasT.cons (HasT.cons HasT.nil)) HasH.nil) ?_
             ·
              exact Nat.zero_le _
             ·
              rintro i hi;have hfl:=m0 (fun o:Rr=>bi o.nm r.nm) z.rs i;iterate 2 refine ab ?_
              refine am (fun h14_0=>?_) (fun h14_0=>?_)
              ·
               iterate 8 refine ab ?_
               have hri:=hz.2.2 _ (aq (l:=z.rs) (i:=i) (by omega));iterate 2 refine ab ?_
               refine ai rfl rfl (ap 1602) ?_;iterate 8 refine ab ?_
               refine AOps.bool rfl rfl (aj (0) (hc:=(bT (z.rs.getD i default).nm r.nm (by omega) (by omega)))) (fun h16_4=>?_) (fun h16_4=>?_)
               ·
                iterate 11 refine ab ?_
                refine ⟨i+1,?_,Back.mk' (HasT.cons (HasT.cons HasT.nil (h1:=by exact ci (by rw [nk (by omega),if_pos h16_4];omega)) )) HasH.nil,?_⟩
                ·
                 first|assumption|omega|decide|(simp;omega)|(simp [*];done)
                ·
                 first|omega|(simp;omega)
               ·
                iterate 7 refine ab ?_
                refine ⟨i+1,?_,Back.mk' (HasT.cons (HasT.cons HasT.nil (h1:=by exact ci (by rw [nk (by omega),if_neg (by rw [h16_4];decide)];omega)) )) HasH.nil,?_⟩
                ·
                 first|assumption|omega|decide|(simp;omega)|(simp [*];done)
                ·
                 first|omega|(simp;omega)
              ·
               iterate 6 refine ab ?_
               obtain rfl:i=z.rs.length:=by omega
               rw [List.take_length];refine ab ?_;refine am (fun h19_1=>?_) (fun h19_1=>?_)
               ·
                iterate 7 refine ab ?_
                have hc6:bI z r.nm≠[]:=of_decide_eq_true h3_6
                clear h3_6
                refine ak (0) [_] [_] ?_;exact congrArg tf (by rw [d7 hbase,cq];simp [gt, *];first|done|omega|exact decide_eq_true (by omega)|exact decide_eq_false (by omega))
               ·
                iterate 7 refine ab ?_
                have hc6:bI z r.nm≠[]:=of_decide_eq_true h3_6
                clear h3_6
                refine ak (0) [_] [_] ?_;exact congrArg tf (by rw [d7 hbase,cq];simp [gt, *];first|done|omega|exact decide_eq_true (by omega)|exact decide_eq_false (by omega))
            ·
             iterate 11 refine ab ?_
             have hc6:bI z r.nm≠[]:=of_decide_eq_true h3_6
             clear h3_6
             refine ak (0) [_] [_] ?_;exact congrArg tf (by rw [d7 hbase,cq];simp [gt, *];first|done|omega|exact decide_eq_true (by omega)|exact decide_eq_false (by omega))
        ·
         iterate 12 refine ab ?_
         refine am (fun h5_0=>?_) (fun h5_0=>?_)
         ·
          iterate 9 refine ab ?_
          refine AOps.bool rfl rfl (aj (0) (hc:=(bT r.nm z.o (by omega) (by omega)))) (fun h6_4=>?_) (fun h6_4=>?_)
          ·
           iterate 7 refine ab ?_
           have hc6:bI z r.nm=[]:=Decidable.not_not.1 (of_decide_eq_false h3_6)
           clear h3_6
           refine ak (0) [_] [_] ?_;exact congrArg tf (by rw [d7 hbase,cq];simp [gt,eS, *];first|done|omega|exact decide_eq_true (by omega)|exact decide_eq_false (by omega))
          ·
           iterate 7 refine ab ?_
           have hc6:bI z r.nm=[]:=Decidable.not_not.1 (of_decide_eq_false h3_6)
           clear h3_6
           refine ak (0) [_] [_] ?_;exact congrArg tf (by rw [d7 hbase,cq];simp [gt,eS, *];first|done|omega|exact decide_eq_true (by omega)|exact decide_eq_false (by omega))
         ·
          iterate 5 refine ab ?_
          refine am (fun h7_0=>?_) (fun h7_0=>?_)
          ·
           iterate 16 refine ab ?_
           have hc6:bI z r.nm=[]:=Decidable.not_not.1 (of_decide_eq_false h3_6)
           clear h3_6
           refine ak (0) [_] [_] ?_;exact congrArg tf (by rw [d7 hbase,cq];simp [gt,eS, *];first|done|omega|exact decide_eq_true (by omega)|exact decide_eq_false (by omega))
          ·
           iterate 5 refine ab ?_
           refine am (fun h9_0=>?_) (fun h9_0=>?_)
           ·
            iterate 8 refine ab ?_
            have hc6:bI z r.nm=[]:=Decidable.not_not.1 (of_decide_eq_false h3_6)
            clear h3_6
            refine ak (0) [_] [_] ?_;exact congrArg tf (by rw [d7 hbase,cq];simp [gt,eS, *];first|done|omega|exact decide_eq_true (by omega)|exact decide_eq_false (by omega))
           ·
            iterate 5 refine ab ?_
            refine am (fun h11_0=>?_) (fun h11_0=>?_)
            ·
             iterate 16 refine ab ?_
             refine AWp.loopR (α:=Nat) [7,9,86,87,88,89,90,91,92,93,94,95,96,97] (fun i=>[(86,i64 i),(7,i64 ((z.rs.take i).filter fun o=>bi o.nm r.nm).length)]) (fun i=>[]) (fun i=>i≤z.rs.length) (fun i=>z.rs.length-i) 0 ?_ (Back.mk' (HasT.cons (HasT.cons HasT.nil)) HasH.nil) ?_
             ·
              exact Nat.zero_le _
             ·
              rintro i hi;have hfl:=m0 (fun o:Rr=>bi o.nm r.nm) z.rs i;iterate 2 refine ab ?_
              refine am (fun h14_0=>?_) (fun h14_0=>?_)
              ·
               iterate 8 refine ab ?_
               have hri:=hz.2.2 _ (aq (l:=z.rs) (i:=i) (by omega));iterate 2 refine ab ?_
               refine ai rfl rfl (ap 1602) ?_;iterate 8 refine ab ?_
               refine AOps.bool rfl rfl (aj (0) (hc:=(bT (z.rs.getD i default).nm r.nm (by omega) (by omega)))) (fun h16_4=>?_) (fun h16_4=>?_)
               ·
                iterate 11 refine ab ?_
                refine ⟨i+1,?_,Back.mk' (HasT.cons (HasT.cons HasT.nil (h1:=by exact ci (by rw [nk (by omega),if_pos h16_4];omega)) )) HasH.nil,?_⟩
                ·
                 first|assumption|omega|decide|(simp;omega)|(simp [*];done)
                ·
                 first|omega|(simp;omega)
               ·
                iterate 7 refine ab ?_
                refine ⟨i+1,?_,Back.mk' (HasT.cons (HasT.cons HasT.nil (h1:=by exact ci (by rw [nk (by omega),if_neg (by rw [h16_4];decide)];omega)) )) HasH.nil,?_⟩
                ·
                 first|assumption|omega|decide|(simp;omega)|(simp [*];done)
                ·
                 first|omega|(simp;omega)
              ·
               iterate 6 refine ab ?_
               obtain rfl:i=z.rs.length:=by omega
               rw [List.take_length];refine ab ?_;refine am (fun h19_1=>?_) (fun h19_1=>?_)
               ·
                iterate 7 refine ab ?_
                have hc6:bI z r.nm=[]:=Decidable.not_not.1 (of_decide_eq_false h3_6)
                clear h3_6
                refine ak (0) [_] [_] ?_;exact congrArg tf (by rw [d7 hbase,cq];simp [gt,eS, *];first|done|omega|exact decide_eq_true (by omega)|exact decide_eq_false (by omega))
               ·
                iterate 7 refine ab ?_
                have hc6:bI z r.nm=[]:=Decidable.not_not.1 (of_decide_eq_false h3_6)
                clear h3_6
                refine ak (0) [_] [_] ?_;exact congrArg tf (by rw [d7 hbase,cq];simp [gt,eS, *];first|done|omega|exact decide_eq_true (by omega)|exact decide_eq_false (by omega))
            ·
             iterate 11 refine ab ?_
             have hc6:bI z r.nm=[]:=Decidable.not_not.1 (of_decide_eq_false h3_6)
             clear h3_6
             refine ak (0) [_] [_] ?_;exact congrArg tf (by rw [d7 hbase,cq];simp [gt,eS, *];first|done|omega|exact decide_eq_true (by omega)|exact decide_eq_false (by omega))
       ·
        iterate 9 refine ab ?_
        refine ak (0) [_] [_] ?_;exact congrArg tf (by simp [inZ,i7,cO,cq,gt, *];try omega)
 ·
  iterate 41 refine ab ?_
  refine ak (0) [_] [_] ?_;exact congrArg tf (by simp [inZ,i7,cO,cq,gt, *];try omega)
end
section
attribute [local irreducible] AWp AOps
theorem kh {n:List UInt8}:eK n=[]↔bm n=false:=by
 unfold eK;cases h:bm n with
 | false=>simp
 | true=>simp [tu h]
def MetL (t:Tr) (i:Nat) (m:List (List UInt8×Bool)):Prop:=∀ a,(bg m a).getD false=decide (a∈(t.zs.take i).map fun z=>eK z.o)
theorem MetL.start (t:Tr):MetL t 0 []:=fun a=>by simp [bg]
theorem MetL.step {t:Tr} {i:Nat} {m:List (List UInt8×Bool)} (h:MetL t i m) (hi:i<t.zs.length):MetL t (i+1) (cp m (eK (t.zs.getD i default).o) true):=fun a=>by
 rw [iR,iS hi];obtain ⟨x,hx⟩:∃ x,x=eK (t.zs.getD i default).o:=⟨_,rfl⟩;rw [← hx];by_cases e:x=a
 · rw [if_pos e];simp [e]
 · rw [if_neg e,h a]
   have e2:¬ a=x:=fun k=>e k.symm
   simp [e2]
theorem MetL.any {t:Tr} {i:Nat} {m:List (List UInt8×Bool)} (h:MetL t i m) {n:List UInt8} (hn:bm n=true):(bg m (eK n)).getD false=(t.zs.take i).any fun o=>bi o.o n:=by
 rw [h,Bool.eq_iff_iff,decide_eq_true_iff,List.any_eq_true,List.mem_map];constructor
 · rintro ⟨z,h1,h2⟩
   have hc:bm z.o=true:=by
    cases hc:bm z.o with
    | true=>rfl
    | false=>rw [kh.2 hc] at h2;rw [kh.1 h2.symm] at hn;cases hn
   exact ⟨z,h1,by simp [bi,hc,hn,h2]⟩
 · rintro ⟨z,h1,h2⟩
   unfold bi at h2;simp only [Bool.and_eq_true,decide_eq_true_eq] at h2;exact ⟨z,h1,h2.2⟩
theorem E8 {l:List Zo} (h:∀ z∈l,eR z):i6 l≤l.length*2199023255552:=by
 induction l with
 | nil=>simp [i6]
 | cons z l ih=>
  have h1:=(h z (by simp)).2.1.1;have h2:=ih fun y hy=>h y (by simp [hy])
  have h3:i6 (z::l)=z.rs.length+i6 l:=by simp [i6]
  rw [h3,List.length_cons,Nat.succ_mul];omega
theorem tW {t:Tr} (ht:cx t) (i:Nat):i6 (t.zs.take i)≤i*2199023255552:=by
 have h1:=E8 (l:=t.zs.take i) fun z hz=>ht.2.1 z (List.mem_of_mem_take hz)
 have h2:=List.length_take_le i t.zs;exact Nat.le_trans h1 (Nat.mul_le_mul_right _ h2)
section
variable {t:Tr}
theorem B3 (h:(t.zs.length:Int)<1):dZ t=false:=by rw [dZ,decide_eq_false (by omega)];rfl
theorem AZ (h:20<(t.zs.length:Int)):dZ t=false:=by rw [dZ,decide_eq_false (p:=t.zs.length≤20) (by omega),Bool.and_false];rfl
theorem AY (h:¬ (t.zs.getD 0 default).o=[0]):dZ t=false:=by rw [dZ,decide_eq_false (p:=(t.zs.getD 0 default).o=[0]) h,Bool.and_false];rfl
theorem AX (h:nH t=false):dZ t=false:=by rw [dZ,h,Bool.and_false];rfl
theorem tp {j:Nat} (hj:j<t.zs.length) (h:nS t j=false):dZ t=false:=by rw [dZ,fm hj h,Bool.and_false];rfl
theorem AW (h:400<(i6 t.zs:Int)):dZ t=false:=by rw [dZ,decide_eq_false (p:=i6 t.zs≤400) (by omega),Bool.and_false];rfl
theorem my {j:Nat} (hj:j<t.zs.length) (h:mC t j=false):dZ t=false:=by rw [dZ,fm hj h,Bool.and_false]
theorem uZ (h1:¬ (t.zs.length:Int)<1) (h2:¬ 20<(t.zs.length:Int)) (h3:¬ ¬ (t.zs.getD 0 default).o=[0]) (h4:nH t=true) (h5:∀ j,j<t.zs.length→nS t j=true) (h6:¬ 400<(i6 t.zs:Int)) (h7:∀ j,j<t.zs.length→mC t j=true):dZ t=true:=by
 rw [Decidable.not_not] at h3;rw [dZ,decide_eq_true (p:=1≤t.zs.length) (by omega),decide_eq_true (p:=t.zs.length≤20) (by omega),decide_eq_true h3,h4,cd.2 h5,decide_eq_true (p:=i6 t.zs≤400) (by omega),cd.2 h7];rfl
theorem xM {α:Type} {p:α→Bool} {l:List α}:(l.any fun x=>!p x)=!l.all p:=by
 induction l with
 | nil=>rfl
 | cons a l ih=>rw [List.any_cons,List.all_cons,ih,Bool.not_and]
end
theorem tx (r:Rr) (z:Zo) (lv:Nat) (hz:eR z) (hr:r.nm.length≤140737488351232) (hd:r.da.length≤140737488351232):AC Tryz.prog 37 [.agg (rrc r),.fp lv (zoC z)] emp (Ret (tf (!inZ z r))):=by
 refine AC.intro te_ok (fn:=Tryz.f37) ⟨Tryz.func37,rfl,rfl⟩ (aE rfl) ?_;iterate 2 refine ab ?_
 refine ai rfl rfl (aS 100) ?_;iterate 6 refine ab ?_
 refine ai rfl rfl (aj (lv) (hc:=(rp z r hz hr hd))) ?_;iterate 4 refine ab ?_
 refine ak (0) [_] [_] ?_;rfl
theorem mz (t:Tr) (ht:cx t):AC Tryz.prog 15 [.agg (trC t)] emp (Ret (tf (dZ t))):=by
 have hb1:=ht.1;have hsum:=tW ht;refine AC.intro te_ok (fn:=Tryz.f15) ⟨Tryz.func15,rfl,rfl⟩ (aE rfl) ?_;iterate 2 refine ab ?_
 refine ai rfl rfl (aS 100) ?_;iterate 8 refine ab ?_
 refine am (fun h1_3=>?_) (fun h1_3=>?_)
 ·
  iterate 26 refine ab ?_
  refine ak (0) [_] [_] ?_;exact congrArg tf (B3 h1_3).symm
 ·
  iterate 4 refine ab ?_
  refine am (fun h1_8=>?_) (fun h1_8=>?_)
  ·
   iterate 21 refine ab ?_
   refine ak (0) [_] [_] ?_;exact congrArg tf (AZ h1_8).symm
  ·
   iterate 7 refine ab ?_
   refine am (fun h1_16=>?_) (fun h1_16=>?_)
   ·
    iterate 13 refine ab ?_
    refine ak (0) [_] [_] ?_;exact congrArg tf (AY h1_16).symm
   ·
    iterate 3 refine ab ?_
    refine AOps.gbool rfl rfl rfl rfl rfl (aj (0) (hc:=(rm t ht))) (fun h1_20=>?_) (fun h1_20=>?_)
    ·
     iterate 7 refine ab ?_
     refine ai rfl rfl (gQ 400 fI (fun b:Bool=>tf b)) ?_;iterate 15 refine ab ?_
     refine AWp.loopR (α:=Nat×List (List UInt8×Bool)) [2,4,6,7,38,39,40,41,42,43,44,45,46,47,48,49,50,51,52,53,54,55,56,57,58,59] (fun x_=>[(38,i64 (x_.1)),(4,i64 (i6 (t.zs.take (x_.1))))]) (fun x_=>[(400,.map (me fI (fun b:Bool=>tf b) (x_.2)))]) (fun x_=>(x_.1)≤t.zs.length∧MetL t (x_.1) (x_.2)∧∀ j,j<(x_.1)→nS t j=true) (fun x_=>t.zs.length-(x_.1)) (0,[]) ?_ (Back.mk' (HasT.cons (HasT.cons HasT.nil)) (HasH.cons HasH.nil (h2:=by exact cg (fun _=>rfl)) )) ?_
     ·
      exact ⟨Nat.zero_le _,MetL.start t,fun j hj=>absurd hj (Nat.not_lt_zero j)⟩
     ·
      rintro ⟨i,m⟩ hI6;change i≤t.zs.length∧MetL t i m∧∀ j,j<i→nS t j=true at hI6;obtain ⟨hi,hm,hc⟩:=hI6;refine AWp.as (s':=AS.over _ [2,4,6,7,38,39,40,41,42,43,44,45,46,47,48,49,50,51,52,53,54,55,56,57,58,59] [(38,i64 i),(4,i64 (i6 (t.zs.take i)))] [(400,.map (me fI (fun b:Bool=>tf b) m))]) rfl ?_;have hsi:=hsum i;iterate 2 refine ab ?_
      refine am (fun h6_0=>?_) (fun h6_0=>?_)
      ·
       iterate 10 refine ab ?_
       refine ai rfl rfl (ap 802) ?_;iterate 4 refine ab ?_
       have hzi:=ht.2.1 _ (aq (l:=t.zs) (i:=i) (by omega));have hzl:=hzi.1;iterate 2 refine ab ?_
       refine ai rfl rfl (aj (0) (hc:=(gO (t.zs.getD i default).o (by omega)))) ?_;iterate 6 refine ab ?_
       refine am (fun h9_1=>?_) (fun h9_1=>?_)
       ·
        iterate 12 refine ab ?_
        refine ak (0) [_] [_] ?_;exact congrArg tf (tp (j:=i) (by omega) (by rw [nS,kh.1 h9_1];rfl)).symm
       ·
        iterate 3 refine ab ?_
        refine AOps.gbool rfl rfl rfl rfl rfl (ey fI) (fun h9_5=>?_) (fun h9_5=>?_)
        ·
         iterate 8 refine ab ?_
         refine ak (0) [_] [_] ?_;have hcn:bm (t.zs.getD i default).o=true:=by
          cases hcn:bm (t.zs.getD i default).o with
          | true=>rfl
          | false=>exact absurd (kh.2 hcn) h9_1
         exact congrArg tf (tp (j:=i) (by omega) (by rw [nS,← hm.any hcn,h9_5,Bool.not_true,Bool.and_false])).symm
        ·
         iterate 6 refine ab ?_
         have hcn:bm (t.zs.getD i default).o=true:=by
          cases hcn:bm (t.zs.getD i default).o with
          | true=>rfl
          | false=>exact absurd (kh.2 hcn) h9_1
         iterate 2 refine ab ?_
         refine ai rfl rfl (gf fI true) ?_;iterate 2 refine ab ?_
         have hrl:(t.zs.getD i default).rs.length*64≤140737488351232:=hzi.2.1.1;have hrl2:(t.zs[i]?.getD default).rs.length*64≤140737488351232:=by rw [← List.getD_eq_getElem?_getD];exact hrl
         have hrl3:(t.zs.getD (i:Int).toNat default).rs.length=(t.zs.getD i default).rs.length:=rfl;iterate 11 refine ab ?_
         refine ⟨(i+1,cp m (eK (t.zs.getD i default).o) true),?_,Back.mk' (HasT.cons (HasT.cons HasT.nil (h1:=by exact ci (by rw [tX (by omega)];omega)) )) (HasH.cons HasH.nil (h2:=by exact cg (fun _=>rfl)) ),?_⟩
         ·
          try dsimp only
          exact ⟨by omega,hm.step (by omega),dh hc (by rw [nS,hcn,← hm.any hcn,h9_5];rfl)⟩
         ·
          try dsimp only
          first|omega|(simp;omega)
      ·
       iterate 7 refine ab ?_
       obtain rfl:i=t.zs.length:=by omega
       rw [List.take_length];refine ab ?_;refine am (fun h14_1=>?_) (fun h14_1=>?_)
       ·
        iterate 7 refine ab ?_
        refine ak (0) [_] [_] ?_;exact congrArg tf (AW h14_1).symm
       ·
        iterate 6 refine ab ?_
        refine ai rfl rfl (aj (0) (hc:=(qP t ht))) ?_;iterate 11 refine ab ?_
        refine AWp.loopR (α:=Nat) [2,9,10,67,68,69,70,71,72,73,74,75,76,77,78,79,80,81,82,83,84,85,86,87,88,89,90,91,92,93,94,95,96,97] (fun i=>[(67,i64 i)]) (fun i=>[]) (fun i=>i≤t.zs.length∧∀ j,j<i→mC t j=true) (fun i=>t.zs.length-i) 0 ?_ (Back.mk' (HasT.cons HasT.nil) HasH.nil) ?_
        ·
         exact ⟨Nat.zero_le _,fun j hj=>absurd hj (Nat.not_lt_zero j)⟩
        ·
         rintro i ⟨hi,hz⟩;iterate 2 refine ab ?_
         refine am (fun h18_0=>?_) (fun h18_0=>?_)
         ·
          iterate 8 refine ab ?_
          have hzi:=ht.2.1 _ (aq (l:=t.zs) (i:=i) (by omega));have hzl:=hzi.1;have hrl:(t.zs.getD i default).rs.length*64≤140737488351232:=hzi.2.1.1;iterate 3 refine ab ?_
          refine ai rfl rfl (ap 2003) ?_;iterate 8 refine ab ?_
          refine ai rfl rfl (ca [] [_]) ?_;refine AOps.bool rfl rfl (aj (0) (hc:=(cA (t.zs.getD i default).rs 0 0 1 [.fp 1 (zoC (t.zs.getD i default))] (fun r=>!inZ (t.zs.getD i default) r) (by omega) rfl (fun r hr=>tx r (t.zs.getD i default) 1 hzi (hzi.2.2 r hr) (hzi.2.1.2 r hr))))) (fun h20_3=>?_) (fun h20_3=>?_)
          ·
           iterate 7 refine ab ?_
           refine ak (0) [_] [_] ?_;have hall:(t.zs.getD i default).rs.all (inZ (t.zs.getD i default))=false:=by rw [xM] at h20_3;simpa using h20_3
           exact congrArg tf (my (j:=i) (by omega) (by rw [mC,hall];rfl)).symm
          ·
           iterate 5 refine ab ?_
           have hall:(t.zs.getD i default).rs.all (inZ (t.zs.getD i default))=true:=by rw [xM] at h20_3;simpa using h20_3
           iterate 3 refine ab ?_
           refine ai rfl rfl (aj (0) (hc:=(cQ (t.zs.getD i default) (t.zs.getD i default).o 6 hzi hzl))) ?_;refine ab ?_;refine am (fun h22_5=>?_) (fun h22_5=>?_)
           ·
            iterate 22 refine ab ?_
            refine ak (0) [_] [_] ?_;exact congrArg tf (my (j:=i) (by omega) (by rw [mC,decide_eq_false (p:=(atZ (t.zs.getD i default) (t.zs.getD i default).o 6).length=1) (by omega),Bool.and_false];rfl)).symm
           ·
            iterate 4 refine ab ?_
            refine cw rfl rfl rfl rfl rfl (aj (0) (hc:=(cQ (t.zs.getD i default) (t.zs.getD i default).o 2 hzi hzl))) ?_;refine ab ?_;refine am (fun h22_12=>?_) (fun h22_12=>?_)
            ·
             iterate 15 refine ab ?_
             refine ak (0) [_] [_] ?_;exact congrArg tf (my (j:=i) (by omega) (by rw [mC,decide_eq_false (p:=1≤(atZ (t.zs.getD i default) (t.zs.getD i default).o 2).length) (by omega),Bool.and_false];rfl)).symm
            ·
             iterate 5 refine ab ?_
             refine AOps.gbool rfl rfl rfl rfl rfl (aj (0) (hc:=(ro t (ka t) i 0 ht (zK t) ⟨by omega,by omega⟩))) (fun h22_18=>?_) (fun h22_18=>?_)
             ·
              iterate 9 refine ab ?_
              refine ⟨i+1,?_,Back.mk' (HasT.cons HasT.nil) HasH.nil,?_⟩
              ·
               exact ⟨by omega,dh hz (by rw [mC,hall,decide_eq_true (by omega),decide_eq_true (by omega),h22_18];rfl)⟩
              ·
               first|omega|(simp;omega)
             ·
              iterate 9 refine ab ?_
              refine ak (0) [_] [_] ?_;exact congrArg tf (my (j:=i) (by omega) (by rw [mC,h22_18,Bool.and_false])).symm
         ·
          iterate 9 refine ab ?_
          refine ak (0) [_] [_] ?_;obtain rfl:i=t.zs.length:=by omega
          exact congrArg tf (uZ h1_3 h1_8 h1_16 h1_20 hc h14_1 hz).symm
    ·
     iterate 9 refine ab ?_
     refine ak (0) [_] [_] ?_;exact congrArg tf (AX h1_20).symm
end
section
attribute [local irreducible] AWp AOps
def nw (a b:List UInt8):Bool:=bQ a b&&!bi a b
theorem D6 {n:List UInt8} {t:Int} {r:Rr} (h:bi r.nm n=false):atP n t r=false:=by rw [atP,h,Bool.and_false]
theorem D5 {n:List UInt8} {t:Int} {r:Rr} (h:¬ r.ty=t):atP n t r=false:=by rw [atP,decide_eq_false h,Bool.false_and]
theorem D4 {n:List UInt8} {t:Int} {r:Rr} (h:bi r.nm n=true) (h2:r.ty=t):atP n t r=true:=by rw [atP,h,decide_eq_true h2];rfl
theorem AO {z:Zo} {n:List UInt8} {r:Rr} (h:nw r.nm z.o=false):i9 z n r=false:=by
 unfold nw at h;unfold i9;cases hw:bQ r.nm z.o with
 | false=>simp
 | true=>rw [hw,Bool.true_and] at h;rw [h];simp
theorem yE {z:Zo} {n:List UInt8} {r:Rr} (h1:¬ ¬ r.ty=2) (h:nw r.nm z.o=true) (h4:bQ n r.nm=true):i9 z n r=true:=by
 unfold nw at h;simp only [Bool.and_eq_true] at h;rw [Decidable.not_not] at h1;rw [i9,decide_eq_true h1,h.1,h.2,h4];rfl
theorem dc {α:Type} [Inhabited α] {p:α→Bool} {l:List α} {i:Nat} (h:i<l.length):(l.take (i+1)).any p=((l.take i).any p || p (l.getD i default)):=by
 rw [bK h,List.any_append];simp [List.any_cons,List.any_nil]
theorem jD {α:Type} [Inhabited α] {p:α→Bool} {l:List α} {i:Nat} (h:i<l.length) (h1:(l.take i).any p=false) (h2:p (l.getD i default)=false):(l.take (i+1)).any p=false:=by rw [dc h,h1,h2];rfl
theorem jC {α:Type} [Inhabited α] {p:α→Bool} {l:List α} {i:Nat} (h:i<l.length) (h2:p (l.getD i default)=true):l.any p=true:=List.any_eq_true.2 ⟨_,aq h,h2⟩
theorem ea {α:Type} [Inhabited α] {p:α→Bool} {l:List α} {i:Nat} (h:i<l.length) (h1:(l.take i).all p=true) (h2:p (l.getD i default)=true):(l.take (i+1)).all p=true:=by
 rw [bK h,List.all_append,h1];simp only [List.all_cons,List.all_nil,h2,Bool.and_true]
theorem eu {α:Type} [Inhabited α] {p:α→Bool} {l:List α} {i:Nat} (h:i<l.length) (h2:p (l.getD i default)=false):l.all p=false:=by
 cases hx:l.all p with
 | false=>rfl
 | true=>rw [List.all_eq_true.1 hx _ (aq h)] at h2;cases h2
theorem CC (n:List UInt8):0≤dt n:=by unfold dt;omega
theorem Gt (w:Bool) (a b:Prop) [Decidable a] [Decidable b]:w=false∨(w=true∧a)∨(w=true∧¬ a∧b)∨(w=true∧¬ a∧¬ b):=by
 cases w
 · exact .inl rfl
 · by_cases h1:a
   · exact .inr (.inl ⟨rfl,h1⟩)
   · by_cases h2:b
     · exact .inr (.inr (.inl ⟨rfl,h1,h2⟩))
     · exact .inr (.inr (.inr ⟨rfl,h1,h2⟩))
theorem yi {t:Tr} {b:Int} (h:b<0) (n:List UInt8):mU t b<dt n:=by
 have:=CC n;rw [mU,if_pos h];omega
def uh (t:Tr) (z:Zo) (k:Nat):List Int:=(eO k).filter fun j=>nw z.o (zAt t j).o
theorem rQ {t:Tr} {z:Zo} {k:Nat}:uh t z (k+1)=uh t z k++(if nw z.o (zAt t k).o then [(k:Int)] else []):=by
 rw [uh,oR,List.filter_append];congr 1;cases h:nw z.o (zAt t k).o<;>simp [List.filter,h]
theorem kg {t:Tr} {p q:Zo→Bool}:∀ {w:List Int} {b:Int},(w.filter fun j=>q (zAt t j)&&p (zAt t j)).foldl (eZ t q) b=w.foldl (eZ t fun z=>q z&&p z) b
 | [],b=>rfl
 | i::w,b=>by
  rw [List.filter_cons,List.foldl_cons];cases h:(q (zAt t i)&&p (zAt t i)) with
  | false=>
   rw [if_neg (by simp)];have e:eZ t (fun z=>q z&&p z) b i=b:=qr (p:=fun z=>q z&&p z) h;rw [e];exact kg
  | true=>
   rw [if_pos rfl,List.foldl_cons];have hq:q (zAt t i)=true:=by simp only [Bool.and_eq_true] at h;exact h.1
   have e:eZ t (fun z=>q z&&p z) b i=eZ t q b i:=by
    show (if ((q (zAt t i)&&p (zAt t i))&&decide (mU t b<dt (zAt t i).o))=true then i else b)=_;rw [h,eZ,hq]
   rw [e];exact kg
theorem y9 (t:Tr) (z:Zo):fL t (uh t z t.zs.length) z.o=kd t z:=kg (p:=fun o=>!bi z.o o.o) (q:=fun o=>bQ z.o o.o)
theorem BT {t:Tr} {z:Zo} {k:Nat} (hk:k≤t.zs.length):∀ i∈uh t z k,0≤i∧i<t.zs.length:=fun i hi=>by
 have:=sa (List.mem_filter.1 hi).1;omega
theorem zN {t:Tr} {z:Zo} {k:Nat}:(uh t z k).length≤k:=by
 have h1:=List.length_filter_le (fun j=>nw z.o (zAt t j).o) (eO k);rw [fU] at h1;exact h1
theorem jy (r:Rr) (hd:r.da.length≤140737488351232):AC Tryz.prog 14 [.agg (rrc r)] emp (Ret (.agg (rrc r))):=by
 refine AC.intro te_ok (fn:=Tryz.f14) ⟨Tryz.func14,rfl,rfl⟩ (aE rfl) ?_;iterate 2 refine ab ?_
 refine ai rfl rfl (aS 100) ?_;refine ai rfl rfl (ap 101) ?_;iterate 3 refine ab ?_
 refine ai rfl rfl (bO 200 bc [] []) ?_;iterate 2 refine ab ?_
 refine ai rfl rfl (vS (l:=([]:List UInt8)) (m:=r.da)) ?_;iterate 9 refine ab ?_
 refine ak (0) [_] [_] ?_;rfl
theorem j1 (z:Zo) (n:List UInt8) (t:Int) (hz:eR z) (hn:n.length≤140737488351232):AC Tryz.prog 84 [.agg (zoC z),str n,i64 t] emp (Ret (.fz 0 (atZ z n t).length (cl rrc (atZ z n t)))):=by
 have hrl:z.rs.length*64≤140737488351232:=hz.2.1.1;have hol:=hz.1;refine AC.intro te_ok (fn:=Tryz.f84) ⟨Tryz.func84,rfl,rfl⟩ (aE rfl) ?_;iterate 2 refine ab ?_
 refine ai rfl rfl (aS 100) ?_;iterate 4 refine ab ?_
 refine ai rfl rfl (bD 200 5 rrc) ?_;iterate 10 refine ab ?_
 refine AWp.loopR (α:=Nat×List Rr×Nat) [7,9,13,14,15,16,17,18,19,20,21,22,23,24,25,26,27,28,29,30,31,32] (fun x_=>[(13,i64 (x_.1)),(7,.sl 200 (x_.2.2) 0 (x_.2.1).length 5)]) (fun x_=>[(200,.row (cl rrc (x_.2.1)) 5 (x_.2.2))]) (fun x_=>(x_.1)≤z.rs.length∧(x_.2.1)=(z.rs.take (x_.1)).filter (atP n t)) (fun x_=>z.rs.length-(x_.1)) (0,[],0) ?_ (Back.mk' (HasT.cons (HasT.cons HasT.nil)) (HasH.cons HasH.nil)) ?_
 ·
  exact ⟨Nat.zero_le _,rfl⟩
 ·
  rintro ⟨i,acc,v⟩ hI3;change i≤z.rs.length∧acc=(z.rs.take i).filter (atP n t) at hI3;obtain ⟨hi,ha⟩:=hI3;refine AWp.as (s':=AS.over _ [7,9,13,14,15,16,17,18,19,20,21,22,23,24,25,26,27,28,29,30,31,32] [(13,i64 i),(7,.sl 200 v 0 acc.length 5)] [(200,.row (cl rrc acc) 5 v)]) rfl ?_;have hal:=qY ha;iterate 2 refine ab ?_
  refine am (fun h3_0=>?_) (fun h3_0=>?_)
  ·
   iterate 8 refine ab ?_
   have hr:=hz.2.2 _ (aq (l:=z.rs) (i:=i) (by omega));have hrd:=hz.2.1.2 _ (aq (l:=z.rs) (i:=i) (by omega));iterate 2 refine ab ?_
   refine ai rfl rfl (ap 502) ?_;iterate 7 refine ab ?_
   refine AOps.bool rfl rfl (aj (0) (hc:=(az (z.rs.getD i default).nm n (by omega) (by omega)))) (fun h5_3=>?_) (fun h5_3=>?_)
   ·
    iterate 4 refine ab ?_
    refine am (fun h5_8=>?_) (fun h5_8=>?_)
    ·
     iterate 6 refine ab ?_
     refine ai rfl rfl (aj (0) (hc:=(jy (z.rs.getD i default) hrd))) ?_;refine ai rfl rfl (bO 703 rrc [_] [(_,_)]) ?_;iterate 7 refine ab ?_
     refine ⟨(i+1,acc++[z.rs.getD i default],v+1),?_,Back.mk' (HasT.cons (HasT.cons HasT.nil)) (HasH.cons HasH.nil),?_⟩
     ·
      try dsimp only
      exact ⟨by omega,by rw [qG (i:=i) (by omega) (D4 h5_3 h5_8),← ha]⟩
     ·
      try dsimp only
      first|omega|(simp;omega)
    ·
     iterate 8 refine ab ?_
     refine ⟨(i+1,acc,v),?_,Back.mk' (HasT.cons (HasT.cons HasT.nil)) (HasH.cons HasH.nil),?_⟩
     ·
      try dsimp only
      exact ⟨by omega,by rw [o9 (i:=i) (by omega) (D5 h5_8),← ha]⟩
     ·
      try dsimp only
      first|omega|(simp;omega)
   ·
    iterate 13 refine ab ?_
    refine ⟨(i+1,acc,v),?_,Back.mk' (HasT.cons (HasT.cons HasT.nil)) (HasH.cons HasH.nil),?_⟩
    ·
     try dsimp only
     exact ⟨by omega,by rw [o9 (by omega) (D6 h5_3),← ha]⟩
    ·
     try dsimp only
     first|omega|(simp;omega)
  ·
   iterate 10 refine ab ?_
   obtain rfl:i=z.rs.length:=by omega
   rw [List.take_length] at ha;obtain rfl:acc=atZ z n t:=ha;refine ak (0) [_] [_] ?_;rfl
theorem dW (a b:List UInt8) (ha:a.length≤140737488351232) (hb:b.length≤140737488351232):AC Tryz.prog 128 [str a,str b] emp (Ret (tf (nw a b))):=by
 refine AC.intro te_ok (fn:=Tryz.f128) ⟨Tryz.func128,rfl,rfl⟩ (aE rfl) ?_;iterate 8 refine ab ?_
 refine AOps.bool rfl rfl (aj (0) (hc:=(be a b (by omega) (by omega)))) (fun h1_2=>?_) (fun h1_2=>?_)
 ·
  iterate 3 refine ab ?_
  refine cw rfl rfl rfl rfl rfl (aj (0) (hc:=(az a b (by omega) (by omega)))) ?_;iterate 5 refine ab ?_
  refine ak (0) [_] [_] ?_;exact congrArg tf (by simp_all [nw])
 ·
  iterate 9 refine ab ?_
  refine ak (0) [_] [_] ?_;exact congrArg tf (by simp_all [nw])
theorem kK (z:Zo) (n:List UInt8) (hz:eR z) (hn:n.length≤140737488351232):AC Tryz.prog 83 [.agg (zoC z),str n] emp (Ret (str (bI z n))):=by
 have hrl:z.rs.length*64≤140737488351232:=hz.2.1.1;have hol:=hz.1;refine AC.intro te_ok (fn:=Tryz.f83) ⟨Tryz.func83,rfl,rfl⟩ (aE rfl) ?_;iterate 2 refine ab ?_
 refine ai rfl rfl (aS 100) ?_;iterate 15 refine ab ?_
 refine AWp.loopR (α:=Nat×List UInt8) [5,7,11,12,13,14,15,16,17,18,19,20,21,22,23,24,25,26,27,28,29,30,31,32,33,34,35,36,37,38,39,40,41,42,43,44,45] (fun x_=>[(11,i64 (x_.1)),(5,str (x_.2))]) (fun x_=>[]) (fun x_=>(x_.1)≤z.rs.length∧(z.rs.take (x_.1)).foldl (kG z n) []=(x_.2)) (fun x_=>z.rs.length-(x_.1)) (0,[]) ?_ (Back.mk' (HasT.cons (HasT.cons HasT.nil)) HasH.nil) ?_
 ·
  exact ⟨Nat.zero_le _,rfl⟩
 ·
  rintro ⟨i,b⟩ hI3;change i≤z.rs.length∧(z.rs.take i).foldl (kG z n) []=b at hI3;obtain ⟨hi,hb⟩:=hI3;refine AWp.as (s':=AS.over _ [5,7,11,12,13,14,15,16,17,18,19,20,21,22,23,24,25,26,27,28,29,30,31,32,33,34,35,36,37,38,39,40,41,42,43,44,45] [(11,i64 i),(5,str b)] []) rfl ?_;have hbl:=ni hz n i;rw [hb] at hbl;iterate 2 refine ab ?_
  refine am (fun h3_0=>?_) (fun h3_0=>?_)
  ·
   iterate 8 refine ab ?_
   have hr:=hz.2.2 _ (aq (l:=z.rs) (i:=i) (by omega));have hrd:=hz.2.1.2 _ (aq (l:=z.rs) (i:=i) (by omega));iterate 2 refine ab ?_
   refine ai rfl rfl (ap 502) ?_;iterate 7 refine ab ?_
   refine am (fun h5_2=>?_) (fun h5_2=>?_)
   ·
    iterate 22 refine ab ?_
    refine ⟨(i+1,b),?_,Back.mk' (HasT.cons (HasT.cons HasT.nil)) HasH.nil,?_⟩
    ·
     try dsimp only
     exact ⟨by omega,by rw [bG (by omega),hb];exact ju (uT h5_2)⟩
    ·
     try dsimp only
     first|omega|(simp;omega)
   ·
    iterate 5 refine ab ?_
    refine AOps.gbool rfl rfl rfl rfl rfl (aj (0) (hc:=(dW (z.rs.getD i default).nm z.o (by omega) (by omega)))) (fun h5_8=>?_) (fun h5_8=>?_)
    ·
     iterate 6 refine ab ?_
     refine AOps.gbool rfl rfl rfl rfl rfl (aj (0) (hc:=(be n (z.rs.getD i default).nm (by omega) (by omega)))) (fun h5_15=>?_) (fun h5_15=>?_)
     ·
      iterate 7 refine ab ?_
      have hP:i9 z n (z.rs.getD i default)=true:=yE h5_2 h5_8 h5_15;refine ab ?_;refine am (fun h6_1=>?_) (fun h6_1=>?_)
      ·
       iterate 19 refine ab ?_
       refine ⟨(i+1,(z.rs.getD i default).nm),?_,Back.mk' (HasT.cons (HasT.cons HasT.nil)) HasH.nil,?_⟩
       ·
        try dsimp only
        exact ⟨by omega,by rw [bG (by omega),hb];exact lD hP (.inl h6_1)⟩
       ·
        try dsimp only
        first|omega|(simp;omega)
      ·
       iterate 3 refine ab ?_
       refine cw rfl rfl rfl rfl rfl (aj (0) (hc:=(bA (z.rs.getD i default).nm (by omega)))) ?_;refine ab ?_;refine cw rfl rfl rfl rfl rfl (aj (0) (hc:=(bA b (by omega)))) ?_;refine am (fun h6_8=>?_) (fun h6_8=>?_)
       ·
        iterate 12 refine ab ?_
        refine ⟨(i+1,(z.rs.getD i default).nm),?_,Back.mk' (HasT.cons (HasT.cons HasT.nil)) HasH.nil,?_⟩
        ·
         try dsimp only
         exact ⟨by omega,by rw [bG (by omega),hb];exact lD hP (.inr h6_8)⟩
        ·
         try dsimp only
         first|omega|(simp;omega)
       ·
        iterate 8 refine ab ?_
        refine ⟨(i+1,b),?_,Back.mk' (HasT.cons (HasT.cons HasT.nil)) HasH.nil,?_⟩
        ·
         try dsimp only
         exact ⟨by omega,by rw [bG (by omega),hb];exact sf h6_1 h6_8⟩
        ·
         try dsimp only
         first|omega|(simp;omega)
     ·
      iterate 9 refine ab ?_
      refine ⟨(i+1,b),?_,Back.mk' (HasT.cons (HasT.cons HasT.nil)) HasH.nil,?_⟩
      ·
       try dsimp only
       exact ⟨by omega,by rw [bG (by omega),hb];exact ju (uS h5_15)⟩
      ·
       try dsimp only
       first|omega|(simp;omega)
    ·
     iterate 16 refine ab ?_
     refine ⟨(i+1,b),?_,Back.mk' (HasT.cons (HasT.cons HasT.nil)) HasH.nil,?_⟩
     ·
      try dsimp only
      exact ⟨by omega,by rw [bG (by omega),hb];exact ju (AO h5_8)⟩
     ·
      try dsimp only
      first|omega|(simp;omega)
  ·
   iterate 10 refine ab ?_
   obtain rfl:i=z.rs.length:=by omega
   rw [List.take_length] at hb;obtain rfl:b=bI z n:=hb.symm;refine ak (0) [_] [_] ?_;rfl
theorem ve (z:Zo) (n:List UInt8) (hz:eR z) (hn:n.length≤140737488351232):AC Tryz.prog 109 [.agg (zoC z),str n] emp (Ret (tf (nE z n))):=by
 have hrl:z.rs.length*64≤140737488351232:=hz.2.1.1;have hol:=hz.1;have hcl:=eC hz n;refine AC.intro te_ok (fn:=Tryz.f109) ⟨Tryz.func109,rfl,rfl⟩ (aE rfl) ?_;iterate 2 refine ab ?_
 refine ai rfl rfl (aS 100) ?_;iterate 6 refine ab ?_
 refine ai rfl rfl (aj (0) (hc:=(kK z n hz hn))) ?_;iterate 6 refine ab ?_
 refine am (fun h2_1=>?_) (fun h2_1=>?_)
 ·
  iterate 3 refine ab ?_
  refine AOps.gbool rfl rfl rfl rfl rfl (aj (0) (hc:=(az (bI z n) n (by omega) (by omega)))) (fun h2_5=>?_) (fun h2_5=>?_)
  ·
   iterate 8 refine ab ?_
   have hh:lM z n=false:=by rw [lM,h2_5,Bool.not_true,Bool.and_false]
   iterate 6 refine ab ?_
   refine AWp.loopR (α:=Nat) [4,7,8,23,24,25,26,27,28,29,30,31,32,33,34,35,36,37,38,39,40,41,42,43,44,45] (fun i=>[(23,i64 i)]) (fun i=>[]) (fun i=>i≤z.rs.length∧(z.rs.take i).any (thP z n)=false) (fun i=>z.rs.length-i) 0 ?_ (Back.mk' (HasT.cons HasT.nil) HasH.nil) ?_
   ·
    exact ⟨Nat.zero_le _,rfl⟩
   ·
    rintro i ⟨hi,ha⟩;iterate 2 refine ab ?_
    refine am (fun h5_0=>?_) (fun h5_0=>?_)
    ·
     iterate 8 refine ab ?_
     have hr:=hz.2.2 _ (aq (l:=z.rs) (i:=i) (by omega));have hrd:=hz.2.1.2 _ (aq (l:=z.rs) (i:=i) (by omega));have hcr:=eC hz (z.rs.getD i default).nm;iterate 2 refine ab ?_
     refine ai rfl rfl (ap 702) ?_;iterate 7 refine ab ?_
     refine ai rfl rfl (aj (0) (hc:=(kK z (z.rs.getD i default).nm hz hr))) ?_;iterate 7 refine ab ?_
     refine AOps.bool rfl rfl (aj (0) (hc:=(be (z.rs.getD i default).nm n (by omega) (by omega)))) (fun h8_3=>?_) (fun h8_3=>?_)
     ·
      iterate 2 refine ab ?_
      refine am (fun h8_6=>?_) (fun h8_6=>?_)
      ·
       iterate 14 refine ab ?_
       refine ak (0) [_] [_] ?_;exact congrArg tf (by rw [nE,hh,jC (i:=i) (by omega) (by rw [thP,h8_3,lM,decide_eq_false (not_not_intro h8_6)];rfl)];rfl)
      ·
       iterate 4 refine ab ?_
       refine AOps.gbool rfl rfl rfl rfl rfl (aj (0) (hc:=(az (bI z (z.rs.getD i default).nm) (z.rs.getD i default).nm (by omega) (by omega)))) (fun h8_11=>?_) (fun h8_11=>?_)
       ·
        iterate 9 refine ab ?_
        refine ak (0) [_] [_] ?_;exact congrArg tf (by rw [nE,hh,jC (i:=i) (by omega) (by rw [thP,h8_3,lM,h8_11,Bool.not_true,Bool.and_false];rfl)];rfl)
       ·
        iterate 9 refine ab ?_
        refine ⟨i+1,?_,Back.mk' (HasT.cons HasT.nil) HasH.nil,?_⟩
        ·
         exact ⟨by omega,jD (by omega) ha (by rw [thP,lM,decide_eq_true h8_6,h8_11,Bool.not_false,Bool.and_true,Bool.not_true,Bool.and_false])⟩
        ·
         first|omega|(simp;omega)
     ·
      iterate 4 refine ab ?_
      refine AOps.gskipu rfl rfl rfl rfl rfl rfl rfl ?_;refine AOps.gskipu rfl rfl rfl rfl rfl rfl rfl ?_;refine AOps.gskipu rfl rfl rfl rfl rfl rfl rfl ?_;refine AOps.gskipu rfl rfl rfl rfl rfl rfl rfl ?_;iterate 9 refine ab ?_
      refine ⟨i+1,?_,Back.mk' (HasT.cons HasT.nil) HasH.nil,?_⟩
      ·
       exact ⟨by omega,jD (by omega) ha (by rw [thP,h8_3,Bool.false_and])⟩
      ·
       first|omega|(simp;omega)
    ·
     iterate 9 refine ab ?_
     refine ak (0) [_] [_] ?_;obtain rfl:i=z.rs.length:=by omega
     rw [List.take_length] at ha;exact congrArg tf (by rw [nE,ha,Bool.and_false])
  ·
   iterate 9 refine ab ?_
   refine ak (0) [_] [_] ?_;exact congrArg tf (by rw [nE,lM,decide_eq_true h2_1,h2_5];rfl)
 ·
  iterate 12 refine ab ?_
  have hh:lM z n=false:=by rw [lM,decide_eq_false h2_1,Bool.false_and]
  iterate 6 refine ab ?_
  refine AWp.loopR (α:=Nat) [4,7,8,23,24,25,26,27,28,29,30,31,32,33,34,35,36,37,38,39,40,41,42,43,44,45] (fun i=>[(23,i64 i)]) (fun i=>[]) (fun i=>i≤z.rs.length∧(z.rs.take i).any (thP z n)=false) (fun i=>z.rs.length-i) 0 ?_ (Back.mk' (HasT.cons HasT.nil) HasH.nil) ?_
  ·
   exact ⟨Nat.zero_le _,rfl⟩
  ·
   rintro i ⟨hi,ha⟩;iterate 2 refine ab ?_
   refine am (fun h5_0=>?_) (fun h5_0=>?_)
   ·
    iterate 8 refine ab ?_
    have hr:=hz.2.2 _ (aq (l:=z.rs) (i:=i) (by omega));have hrd:=hz.2.1.2 _ (aq (l:=z.rs) (i:=i) (by omega));have hcr:=eC hz (z.rs.getD i default).nm;iterate 2 refine ab ?_
    refine ai rfl rfl (ap 702) ?_;iterate 7 refine ab ?_
    refine ai rfl rfl (aj (0) (hc:=(kK z (z.rs.getD i default).nm hz hr))) ?_;iterate 7 refine ab ?_
    refine AOps.bool rfl rfl (aj (0) (hc:=(be (z.rs.getD i default).nm n (by omega) (by omega)))) (fun h8_3=>?_) (fun h8_3=>?_)
    ·
     iterate 2 refine ab ?_
     refine am (fun h8_6=>?_) (fun h8_6=>?_)
     ·
      iterate 14 refine ab ?_
      refine ak (0) [_] [_] ?_;exact congrArg tf (by rw [nE,hh,jC (i:=i) (by omega) (by rw [thP,h8_3,lM,decide_eq_false (not_not_intro h8_6)];rfl)];rfl)
     ·
      iterate 4 refine ab ?_
      refine AOps.gbool rfl rfl rfl rfl rfl (aj (0) (hc:=(az (bI z (z.rs.getD i default).nm) (z.rs.getD i default).nm (by omega) (by omega)))) (fun h8_11=>?_) (fun h8_11=>?_)
      ·
       iterate 9 refine ab ?_
       refine ak (0) [_] [_] ?_;exact congrArg tf (by rw [nE,hh,jC (i:=i) (by omega) (by rw [thP,h8_3,lM,h8_11,Bool.not_true,Bool.and_false];rfl)];rfl)
      ·
       iterate 9 refine ab ?_
       refine ⟨i+1,?_,Back.mk' (HasT.cons HasT.nil) HasH.nil,?_⟩
       ·
        exact ⟨by omega,jD (by omega) ha (by rw [thP,lM,decide_eq_true h8_6,h8_11,Bool.not_false,Bool.and_true,Bool.not_true,Bool.and_false])⟩
       ·
        first|omega|(simp;omega)
    ·
     iterate 4 refine ab ?_
     refine AOps.gskipu rfl rfl rfl rfl rfl rfl rfl ?_;refine AOps.gskipu rfl rfl rfl rfl rfl rfl rfl ?_;refine AOps.gskipu rfl rfl rfl rfl rfl rfl rfl ?_;refine AOps.gskipu rfl rfl rfl rfl rfl rfl rfl ?_;iterate 9 refine ab ?_
     refine ⟨i+1,?_,Back.mk' (HasT.cons HasT.nil) HasH.nil,?_⟩
     ·
      exact ⟨by omega,jD (by omega) ha (by rw [thP,h8_3,Bool.false_and])⟩
     ·
      first|omega|(simp;omega)
   ·
    iterate 9 refine ab ?_
    refine ak (0) [_] [_] ?_;obtain rfl:i=z.rs.length:=by omega
    rw [List.take_length] at ha;exact congrArg tf (by rw [nE,ha,Bool.and_false])
theorem fe (t:Tr) (w:List Int) (lw:Nat) (n:List UInt8) (ht:cx t) (hw:w.length≤140737488351232) (hin:∀ i∈w,0≤i∧i<t.zs.length) (hn:n.length≤140737488351232):AC Tryz.prog 63 [.agg (trC t),.fz lw w.length (cl ic w),str n] emp (Ret (i64 (fL t w n))):=by
 have hb1:=ht.1;refine AC.intro te_ok (fn:=Tryz.f63) ⟨Tryz.func63,rfl,rfl⟩ (aE rfl) ?_;iterate 2 refine ab ?_
 refine ai rfl rfl (aS 100) ?_;iterate 14 refine ab ?_
 refine AWp.loopR (α:=Nat×Int) [7,9,12,13,14,15,16,17,18,19,20,21,22,23,24,25,26,27,28,29,30,31,32,33,34,35,36,37,38,39,40,41,42,43,44,45,46] (fun x_=>[(12,i64 (x_.1)),(7,i64 (x_.2))]) (fun x_=>[]) (fun x_=>(x_.1)≤w.length∧(w.take (x_.1)).foldl (eZ t fun z=>bQ n z.o) (-1)=(x_.2)∧-1≤(x_.2)∧(x_.2)<t.zs.length) (fun x_=>w.length-(x_.1)) (0,-1) ?_ (Back.mk' (HasT.cons (HasT.cons HasT.nil)) HasH.nil) ?_
 ·
  exact ⟨Nat.zero_le _,rfl,by omega,by omega⟩
 ·
  rintro ⟨i,b⟩ hI3;change i≤w.length∧(w.take i).foldl (eZ t fun z=>bQ n z.o) (-1)=b∧-1≤b∧b<t.zs.length at hI3;obtain ⟨hi,hb,hb1,hb2⟩:=hI3;refine AWp.as (s':=AS.over _ [7,9,12,13,14,15,16,17,18,19,20,21,22,23,24,25,26,27,28,29,30,31,32,33,34,35,36,37,38,39,40,41,42,43,44,45,46] [(12,i64 i),(7,i64 b)] []) rfl ?_;iterate 2 refine ab ?_
  refine am (fun h3_0=>?_) (fun h3_0=>?_)
  ·
   iterate 13 refine ab ?_
   have hj:=hin _ (aq (l:=w) (i:=i) (by omega));have hj2:0≤w[i]?.getD 0∧w[i]?.getD 0<t.zs.length:=by have h:=hj;rw [List.getD_eq_getElem?_getD] at h;exact h
   have hzo:=jT ht hj;have hol:=hzo.1;rcases Gt (bQ n (zAt t (w.getD i default)).o) (b<0) (dt (zAt t b).o<dt (zAt t (w.getD i default)).o) with h1|⟨h1,h2⟩|⟨h1,h2,h3⟩|⟨h1,h2,h3⟩
   rotate_right 2
   ·
    have hbo:=(jT ht (i:=b) ⟨by omega,hb2⟩).1;refine bj [ag,ag,ag,ag,ag,ag,ag,ag,ag,ag,ag,ag,ag,ag,ag,ag,ag,ag,ag,ag,ag,ag,ag,ag,ag,ag,ag,ag,ag] [af [2] [] 17,af [3] [100] 18,af [17] [100] 19,af [9] [] 20,af [18,19] [] 21,af [20] [] 22,af [21] [] 23,af [16,22] [] 24,af [23] [] 25,af [7,24] [] 26,af [24,25] [] 27,af [24,26] [] 28,af [3,27] [100] 29,af [27,28] [100] 30,af [9,27] [] 31,af [27,29,30] [] 32,af [27,31] [] 33,af [27,32] [] 34,af [27,33] [] 35,af [3,27] [100] 36,af [27,35] [100] 37,af [7,27] [] 38,af [27,36,37] [] 39,af [27,38] [] 40,af [27,39] [] 41,af [27,40] [] 42,af [27,34,41] [] 43,af [24,27,42] [] 44,af [24,43] [] 45] rfl ⟨ah,ah,ah,ah,ah,ah,ah,aC fun _=>aN rfl rfl ((OpOk.bool_is (c:=true) (aj (lw) (hc:=(be n (zAt t (w.getD i default)).o (by omega) (by omega)))) (h1))),ah,ah,aC fun _=>dV rfl rfl rfl rfl rfl ((OpOk.dec_f (e8) (h2))),ah,ah,ah,ah,ah,ah,ah,aC fun _=>dV rfl rfl rfl rfl rfl (aj (lw) (hc:=(bA (zAt t (w.getD i default)).o (by omega)))),ah,ah,ah,ah,ah,ah,aC fun _=>dV rfl rfl rfl rfl rfl (aj (lw) (hc:=(bA (zAt t b).o (by omega)))),aC fun _=>dV rfl rfl rfl rfl rfl ((OpOk.dec_t (gW) (h3))),ah,ah,trivial⟩ ?_;iterate 9 refine ab ?_
    refine ⟨(i+1,w.getD i default),?_,Back.mk' (HasT.cons (HasT.cons HasT.nil)) HasH.nil,?_⟩
    ·
     try dsimp only
     exact ⟨by omega,by rw [bG (by omega),hb];exact mq (p:=fun z=>bQ n z.o) h1 (by rw [qv (by omega)];exact h3),by omega,by omega⟩
    ·
     try dsimp only
     first|omega|(simp;omega)
   ·
    have hbo:=(jT ht (i:=b) ⟨by omega,hb2⟩).1;refine bj [ag,ag,ag,ag,ag,ag,ag,ag,ag,ag,ag,ag,ag,ag,ag,ag,ag,ag,ag,ag,ag,ag,ag,ag,ag,ag,ag,ag,ag] [af [2] [] 17,af [3] [100] 18,af [17] [100] 19,af [9] [] 20,af [18,19] [] 21,af [20] [] 22,af [21] [] 23,af [16,22] [] 24,af [23] [] 25,af [7,24] [] 26,af [24,25] [] 27,af [24,26] [] 28,af [3,27] [100] 29,af [27,28] [100] 30,af [9,27] [] 31,af [27,29,30] [] 32,af [27,31] [] 33,af [27,32] [] 34,af [27,33] [] 35,af [3,27] [100] 36,af [27,35] [100] 37,af [7,27] [] 38,af [27,36,37] [] 39,af [27,38] [] 40,af [27,39] [] 41,af [27,40] [] 42,af [27,34,41] [] 43,af [24,27,42] [] 44,af [24,43] [] 45] rfl ⟨ah,ah,ah,ah,ah,ah,ah,aC fun _=>aN rfl rfl ((OpOk.bool_is (c:=true) (aj (lw) (hc:=(be n (zAt t (w.getD i default)).o (by omega) (by omega)))) (h1))),ah,ah,aC fun _=>dV rfl rfl rfl rfl rfl ((OpOk.dec_f (e8) (h2))),ah,ah,ah,ah,ah,ah,ah,aC fun _=>dV rfl rfl rfl rfl rfl (aj (lw) (hc:=(bA (zAt t (w.getD i default)).o (by omega)))),ah,ah,ah,ah,ah,ah,aC fun _=>dV rfl rfl rfl rfl rfl (aj (lw) (hc:=(bA (zAt t b).o (by omega)))),aC fun _=>dV rfl rfl rfl rfl rfl ((OpOk.dec_f (gW) (h3))),ah,ah,trivial⟩ ?_;iterate 6 refine ab ?_
    refine ⟨(i+1,b),?_,Back.mk' (HasT.cons (HasT.cons HasT.nil)) HasH.nil,?_⟩
    ·
     try dsimp only
     exact ⟨by omega,by rw [bG (by omega),hb];exact qt (by rw [qv (by omega)];exact h3),hb1,hb2⟩
    ·
     try dsimp only
     first|omega|(simp;omega)
   ·
    refine bj [ag,ag,ag,ag,ag,ag,ag,ag,ag,ag,ag,ag,ag,ag,ag,ag,ag,ag,ag,ag,ag,ag,ag,ag,ag,ag,ag,ag,ag] [af [2] [] 17,af [3] [100] 18,af [17] [100] 19,af [9] [] 20,af [18,19] [] 21,af [20] [] 22,af [21] [] 23,af [16,22] [] 24,af [23] [] 25,af [24] [] 26,af [24] [] 27,af [24] [] 28,af [27] [] 29,af [27] [] 30,af [27] [] 31,af [27] [] 32,af [27] [] 33,af [27] [] 34,af [27] [] 35,af [27] [] 36,af [27] [] 37,af [27] [] 38,af [27] [] 39,af [27] [] 40,af [27] [] 41,af [27] [] 42,af [27] [] 43,af [24] [] 44,af [24,43] [] 45] rfl ⟨ah,ah,ah,ah,ah,ah,ah,aC fun _=>aN rfl rfl ((OpOk.bool_is (c:=false) (aj (lw) (hc:=(be n (zAt t (w.getD i default)).o (by omega) (by omega)))) (h1))),ah,ah,ah,ah,DS.ok_over fun s0=>OpAt.gskipu rfl rfl rfl rfl rfl rfl rfl,DS.ok_over fun s0=>OpAt.gskipu rfl rfl rfl rfl rfl rfl rfl,DS.ok_over fun s0=>OpAt.gskipu rfl rfl rfl rfl rfl rfl rfl,DS.ok_over fun s0=>OpAt.gskipu rfl rfl rfl rfl rfl rfl rfl,DS.ok_over fun s0=>OpAt.gskipu rfl rfl rfl rfl rfl rfl rfl,DS.ok_over fun s0=>OpAt.gskipu rfl rfl rfl rfl rfl rfl rfl,DS.ok_over fun s0=>OpAt.gskipu rfl rfl rfl rfl rfl rfl rfl,DS.ok_over fun s0=>OpAt.gskipu rfl rfl rfl rfl rfl rfl rfl,DS.ok_over fun s0=>OpAt.gskipu rfl rfl rfl rfl rfl rfl rfl,DS.ok_over fun s0=>OpAt.gskipu rfl rfl rfl rfl rfl rfl rfl,DS.ok_over fun s0=>OpAt.gskipu rfl rfl rfl rfl rfl rfl rfl,DS.ok_over fun s0=>OpAt.gskipu rfl rfl rfl rfl rfl rfl rfl,DS.ok_over fun s0=>OpAt.gskipu rfl rfl rfl rfl rfl rfl rfl,DS.ok_over fun s0=>OpAt.gskipu rfl rfl rfl rfl rfl rfl rfl,DS.ok_over fun s0=>OpAt.gskipu rfl rfl rfl rfl rfl rfl rfl,ah,ah,trivial⟩ ?_;iterate 6 refine ab ?_
    refine ⟨(i+1,b),?_,Back.mk' (HasT.cons (HasT.cons HasT.nil)) HasH.nil,?_⟩
    ·
     try dsimp only
     exact ⟨by omega,by rw [bG (by omega),hb];exact qr (p:=fun z=>bQ n z.o) h1,hb1,hb2⟩
    ·
     try dsimp only
     first|omega|(simp;omega)
   ·
    refine bj [ag,ag,ag,ag,ag,ag,ag,ag,ag,ag,ag,ag,ag,ag,ag,ag,ag,ag,ag,ag,ag,ag,ag,ag,ag,ag,ag,ag,ag] [af [2] [] 17,af [3] [100] 18,af [17] [100] 19,af [9] [] 20,af [18,19] [] 21,af [20] [] 22,af [21] [] 23,af [16,22] [] 24,af [23] [] 25,af [7,24] [] 26,af [24,25] [] 27,af [24,26] [] 28,af [27] [] 29,af [27] [] 30,af [27] [] 31,af [27] [] 32,af [27] [] 33,af [27] [] 34,af [27] [] 35,af [27] [] 36,af [27] [] 37,af [27] [] 38,af [27] [] 39,af [27] [] 40,af [27] [] 41,af [27] [] 42,af [27] [] 43,af [24,27,42] [] 44,af [24,43] [] 45] rfl ⟨ah,ah,ah,ah,ah,ah,ah,aC fun _=>aN rfl rfl ((OpOk.bool_is (c:=true) (aj (lw) (hc:=(be n (zAt t (w.getD i default)).o (by omega) (by omega)))) (h1))),ah,ah,aC fun _=>dV rfl rfl rfl rfl rfl ((OpOk.dec_t (e8) (h2))),ah,ah,ah,ah,ah,ah,ah,ah,ah,ah,ah,ah,ah,ah,ah,ah,ah,ah,trivial⟩ ?_;iterate 9 refine ab ?_
    refine ⟨(i+1,w.getD i default),?_,Back.mk' (HasT.cons (HasT.cons HasT.nil)) HasH.nil,?_⟩
    ·
     try dsimp only
     exact ⟨by omega,by rw [bG (by omega),hb];exact mq (p:=fun z=>bQ n z.o) h1 (yi h2 _),by omega,by omega⟩
    ·
     try dsimp only
     first|omega|(simp;omega)
  ·
   iterate 10 refine ab ?_
   obtain rfl:i=w.length:=by omega
   rw [List.take_length] at hb;obtain rfl:b=fL t w n:=hb.symm;refine ak (0) [_] [_] ?_;rfl
end
end Go.Proofs.YthnfcmgpedppaaaGreat.Fw
