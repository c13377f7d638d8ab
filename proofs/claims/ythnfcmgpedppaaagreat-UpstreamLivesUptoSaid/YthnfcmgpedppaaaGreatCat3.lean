/- The texts W01, W01b, W01c, W03, W03b, W03c, W03d, Ws, M0, M1, M2, V02, V04a, V04b, V04c, V04d, V04e, L04p, V04f, V04g, V04h, V04i, one behind the other: what the walks and plain laws need; conditions stand with each theorem. -/
import Derived.Test.YthnfcmgpedppaaaGreatCat2
set_option linter.unusedVariables false
set_option linter.unusedSimpArgs false
set_option linter.unusedSectionVars false
set_option maxRecDepth 20000
set_option maxHeartbeats 4000000
namespace Go.Proofs.YthnfcmgpedppaaaGreat.Fw
open Go.RowKit
def gN (n:List UInt8):Option (List (List UInt8)):=
 match n with
 | []=>none
 | k::r=>if k=0 then (if r=[] then some [] else none) else if 63<k.toNat∨r.length<k.toNat then none else (gN (r.drop k.toNat)).map (r.take k.toNat::·)
termination_by n.length
decreasing_by simp;omega
def aw (ls:List (List UInt8)):List UInt8:=ls.flatMap (fun l=>ct (l.length:Int)::l)++[0]
def GoodN (ls:List (List UInt8)):Prop:=∀ l∈ls,1≤l.length∧l.length≤63
theorem fb:aw []=[0]:=rfl
theorem b7 (l:List UInt8) (ls:List (List UInt8)):aw (l::ls)=ct (l.length:Int)::(l++aw ls):=by simp [aw,List.append_assoc]
theorem Bc {k:Nat} (h:k<256):(ct (k:Int)).toNat=k:=by
 have:=bV (k:Int);omega
theorem gn {l:List UInt8} (h:l.length≤63):(ct (l.length:Int)).toNat=l.length:=Bc (by omega)
theorem CJ {l:List UInt8} (h:1≤l.length∧l.length≤63):ct (l.length:Int)≠0:=fun e=>by
 have:=gn h.2;rw [e] at this;simp at this;omega
theorem GoodN.tail {l:List UInt8} {ls:List (List UInt8)} (h:GoodN (l::ls)):GoodN ls:=fun x hx=>h x (by simp [hx])
theorem GoodN.head {l:List UInt8} {ls:List (List UInt8)} (h:GoodN (l::ls)):1≤l.length∧l.length≤63:=h l (by simp)
theorem GoodN.nil:GoodN []:=fun x hx=>by cases hx
theorem iV:∀ {ls:List (List UInt8)},GoodN ls→gN (aw ls)=some ls
 | [],_=>by rw [fb,gN];rfl
 | l::ls,h=>by
  have h1:=gn h.head.2;rw [b7,gN,if_neg (CJ h.head),h1,if_neg (by simp;have:=h.head;omega),List.drop_left,List.take_left,iV h.tail];rfl
theorem yl:∀ {n:List UInt8} {ls:List (List UInt8)},gN n=some ls→n=aw ls∧GoodN ls:=by
 intro n;induction h:n.length using Nat.strongRecOn generalizing n with
 | ind m ih=>
  intro ls hl
  match n,h,hl with
  | [],_,hl=>rw [gN] at hl;cases hl
  | k::r,h,hl=>
   rw [gN] at hl;by_cases hk:k=0
   · rw [if_pos hk] at hl
     by_cases hr:r=[]
     · rw [if_pos hr] at hl
       cases hl;exact ⟨by rw [hk,hr];rfl,GoodN.nil⟩
     · rw [if_neg hr] at hl;cases hl
   · rw [if_neg hk] at hl
     have hkp:0<k.toNat:=by
      rcases Nat.eq_zero_or_pos k.toNat with e|e
      · exact absurd (UInt8.toNat_inj.1 (by simpa using e)) hk
      · exact e
     split at hl
     · cases hl
     · rename_i hc
       obtain ⟨q,hq,rfl⟩:=Option.map_eq_some_iff.1 hl;obtain ⟨e,g⟩:=ih (r.drop k.toNat).length (by rw [← h];simp;omega) rfl hq;have hlen:(r.take k.toNat).length=k.toNat:=by rw [List.length_take];omega
       refine ⟨?_,fun x hx=>?_⟩
       · rw [b7,← e,List.take_append_drop,hlen,mb]
       · rcases List.mem_cons.1 hx with rfl|hx
         · omega
         · exact g x hx
theorem yp {a b:List (List UInt8)} (ha:GoodN a) (hb:GoodN b) (h:aw a=aw b):a=b:=by
 have h1:=iV ha;have h2:=iV hb;rw [h,h2] at h1;exact (Option.some.inj h1).symm
def bm (n:List UInt8):Bool:=(gN n).isSome&&decide (n.length≤255)
def aP (n:List UInt8):List (List UInt8):=if bm n then (gN n).getD [] else []
theorem d9 {n:List UInt8}:bm n=true↔∃ ls,GoodN ls∧n=aw ls∧(aw ls).length≤255:=by
 simp only [bm,Bool.and_eq_true,decide_eq_true_eq];constructor
 · rintro ⟨h1,h2⟩
   obtain ⟨ls,hl⟩:=Option.isSome_iff_exists.1 h1;obtain ⟨rfl,g⟩:=yl hl;exact ⟨ls,g,rfl,h2⟩
 · rintro ⟨ls,g,rfl,h⟩
   exact ⟨by rw [iV g];rfl,h⟩
theorem dr {ls:List (List UInt8)} (g:GoodN ls) (h:(aw ls).length≤255):aP (aw ls)=ls:=by
 rw [aP,if_pos (d9.2 ⟨ls,g,rfl,h⟩),iV g];rfl
theorem mY {n:List UInt8} (h:bm n=false):aP n=[]:=by rw [aP,if_neg (by simp [h])]
theorem cK (ls:List (List UInt8)):ls.length<(aw ls).length:=by
 induction ls with
 | nil=>simp [aw]
 | cons l ls ih=>rw [b7];simp;omega
theorem i0 {l:List UInt8} {ls:List (List UInt8)}:(aw ls).length<(aw (l::ls)).length:=by rw [b7];simp;omega
theorem iW (n:List UInt8):(aP n).length≤254:=by
 cases h:bm n with
 | false=>simp [mY h]
 | true=>
  obtain ⟨ls,g,rfl,hl⟩:=d9.1 h;have:=cK ls;rw [dr g hl];omega
def cr (n:List UInt8):Bool:=decide (n.length=0∨(n.getD 0 0).toNat=0∨63<(n.getD 0 0).toNat∨n.length<2+(n.getD 0 0).toNat)
def oM (n:List UInt8):List UInt8:=if cr n then [] else (n.take (1+(n.getD 0 0).toNat)).drop 1
def eY (n:List UInt8):List UInt8:=if cr n then n else n.drop (1+(n.getD 0 0).toNat)
theorem nX {l:List UInt8} {ls:List (List UInt8)} (g:GoodN (l::ls)):cr (aw (l::ls))=false∧oM (aw (l::ls))=l∧eY (aw (l::ls))=aw ls:=by
 have h1:=gn g.head.2;have h0:(aw (l::ls)).getD 0 0=ct (l.length:Int):=by rw [b7];rfl
 have hl:=cK ls;have hb:cr (aw (l::ls))=false:=by
  have:=g.head;simp only [cr,h0,h1,decide_eq_false_iff_not];rw [b7,List.length_cons,List.length_append];omega
 refine ⟨hb,?_,?_⟩
 · rw [oM,hb,h0,h1,b7,Nat.add_comm,List.take_succ_cons,List.drop_succ_cons,List.drop_zero,List.take_left]
   rfl
 · rw [eY,hb,h0,h1,b7,Nat.add_comm,List.drop_succ_cons,List.drop_left]
   rfl
theorem ye:cr (aw [])=true:=by simp [cr,aw]
theorem iQ {n:List UInt8} (h:cr n=false):(eY n).length<n.length:=by
 have h1:=h;simp only [cr,decide_eq_false_iff_not] at h1;rw [eY,h];simp only [Bool.false_eq_true,if_false,List.length_drop];omega
def p9 (n:List UInt8):List UInt8:=if h:cr n=true then n else p9 (eY n)
termination_by n.length
decreasing_by exact iQ (by simpa using h)
theorem o8 {n:List UInt8} (h:cr n=true):p9 n=n:=by rw [p9,dif_pos h]
theorem s8 {n:List UInt8} (h:cr n=false):p9 n=p9 (eY n):=by rw [p9,dif_neg (by simp [h])]
theorem yk {n:List UInt8} (h:cr n=false):(gN n).isSome=(gN (eY n)).isSome:=by
 have h1:=h;simp only [cr,decide_eq_false_iff_not] at h1
 match n,h,h1 with
 | [],_,h1=>simp at h1
 | k::r,h,h1=>
  simp only [List.getD_cons_zero,List.length_cons] at h1;have hk:k≠0:=fun e=>by subst e;simp at h1
  rw [eY,h,gN,if_neg hk,if_neg (by omega)];simp only [Bool.false_eq_true,if_false,List.getD_cons_zero,Option.isSome_map];rw [Nat.add_comm,List.drop_succ_cons]
theorem yj {n:List UInt8} (h:cr n=true):(gN n).isSome=decide (n=[0]):=by
 simp only [cr,decide_eq_true_eq] at h
 match n,h with
 | [],_=>rw [gN];rfl
 | k::r,h=>
  simp only [List.getD_cons_zero,List.length_cons] at h;rw [gN];by_cases hk:k=0
  · subst hk
    rw [if_pos rfl];by_cases hr:r=[]
    · simp [hr]
    · simp [hr]
  · rw [if_neg hk]
    have hkp:0<k.toNat:=by
     rcases Nat.eq_zero_or_pos k.toNat with e|e
     · exact absurd (UInt8.toNat_inj.1 (by simpa using e)) hk
     · exact e
    rw [decide_eq_false (by simp [hk])];split
    · rfl
    · rename_i hc
      have:r.drop k.toNat=[]:=List.drop_eq_nil_of_le (by omega);rw [this,gN];rfl
theorem Ay (n:List UInt8):decide (p9 n=[0])=(gN n).isSome:=by
 induction h:n.length using Nat.strongRecOn generalizing n with
 | ind m ih=>
  cases hb:cr n with
  | true=>rw [o8 hb,yj hb]
  | false=>rw [s8 hb,yk hb,ih (eY n).length (by rw [← h];exact iQ hb) _ rfl]
def i8 (c:UInt8):UInt8:=if 65≤c.toNat∧c.toNat≤90 then c ||| 32 else c
def eK (n:List UInt8):List UInt8:=if bm n then n.map i8 else []
theorem Af:∀ c:UInt8,65≤c.toNat∧c.toNat≤90→c+32=c ||| 32:=by
 have h:∀ k:_root_.Fin 256,65≤k.val∧k.val≤90→UInt8.ofNat k.val+32=UInt8.ofNat k.val ||| 32:=by decide
 intro c hc;have:=h ⟨c.toNat,c.toNat_lt⟩ hc
 simpa using this
theorem wg {c:UInt8} (h:c.toNat≤64):i8 c=c:=if_neg (by omega)
def sX (ls:List (List UInt8)):List (List UInt8):=ls.map (·.map i8)
theorem uy {ls:List (List UInt8)} (g:GoodN ls):(aw ls).map i8=aw (sX ls):=by
 induction ls with
 | nil=>rfl
 | cons l ls ih=>
  have h1:i8 (ct (l.length:Int))=ct (l.length:Int):=wg (by rw [gn g.head.2];have:=g.head;omega);rw [b7,List.map_cons,List.map_append,ih g.tail,h1];simp [sX,b7]
theorem we {ls:List (List UInt8)} (g:GoodN ls):(aw (sX ls)).length=(aw ls).length:=by rw [← uy g,List.length_map]
theorem yi {ls:List (List UInt8)} (g:GoodN ls) (h:(aw ls).length≤255):eK (aw ls)=aw (sX ls):=by
 rw [eK,if_pos (d9.2 ⟨ls,g,rfl,h⟩),uy g]
theorem uY {ls:List (List UInt8)} (g:GoodN ls) (h:(aw ls).length≤255):bm (aw ls)=true:=d9.2 ⟨ls,g,rfl,h⟩
def bi (a b:List UInt8):Bool:=bm a&&bm b&&decide (eK a=eK b)
def dt (n:List UInt8):Int:=(aP n).length
def Eo (n:List UInt8):List UInt8:=aw ((aP n).drop 1)
def qC (n:List UInt8):Bool:=decide (aP n≠[])
def sP (n:List UInt8):List UInt8:=if qC n then Eo n else []
def mG (n:List UInt8) (k:Int):List UInt8:=if bm n then aw ((aP n).drop ((aP n).length-min (max k 0).toNat (aP n).length)) else []
def bQ (n z:List UInt8):Bool:=bm n&&bm z&&decide (dt z≤dt n)&&bi (mG n (dt z)) z
theorem ip {n:List UInt8} (h:cr n=true):oM n=[]∧eY n=n:=by simp [oM,eY,h]
theorem zX {n:List UInt8} (h:cr n=false):oM n=(n.take (1+(n.getD 0 0).toNat)).drop 1∧eY n=n.drop (1+(n.getD 0 0).toNat):=by simp [oM,eY,h]
theorem xz (n:List UInt8):bm n=(decide (p9 n=[0])&&decide (n.length≤255)):=by rw [bm,Ay]
theorem rY {m:List UInt8} (h:bm m=true) (hb:cr m=false):aP m=oM m::aP (eY m)∧bm (eY m)=true:=by
 obtain ⟨ls,g,rfl,hl⟩:=d9.1 h
 match ls,g,hl,hb with
 | [],_,_,hb=>rw [ye] at hb;cases hb
 | l::ls,g,hl,hb=>
  obtain ⟨_,e1,e2⟩:=nX g;have hl2:(aw ls).length≤255:=by have:=i0 (l:=l) (ls:=ls);omega
  rw [e1,e2,dr g hl,dr g.tail hl2];exact ⟨rfl,uY g.tail hl2⟩
theorem uD {m:List UInt8} (h:bm m=true) (hb:cr m=true):aP m=[]∧m=[0]:=by
 obtain ⟨ls,g,rfl,hl⟩:=d9.1 h
 match ls,g,hl,hb with
 | [],g,hl,_=>exact ⟨dr g hl,rfl⟩
 | l::ls,g,_,hb=>rw [(nX g).1] at hb;cases hb
theorem qN {n:List UInt8} (h:bm n=true):n.length≤255:=by
 simp only [bm,Bool.and_eq_true,decide_eq_true_eq] at h;exact h.2
theorem y7 {n:List UInt8} (h:bm n=true) (hb:cr n=false):sP n=eY n∧qC n=true:=by
 obtain ⟨e1,e2⟩:=rY h hb;have hp:qC n=true:=by simp [qC,e1]
 refine ⟨?_,hp⟩;rw [sP,if_pos hp,Eo,e1,List.drop_succ_cons,List.drop_zero];obtain ⟨ls,g,e,hl⟩:=d9.1 e2;rw [e,dr g hl]
theorem sO {n:List UInt8} (h:aP n=[]):sP n=[]∧qC n=false:=by
 have hp:qC n=false:=by simp [qC,h]
 exact ⟨by rw [sP,if_neg (by simp [hp])],hp⟩
theorem nG {n:List UInt8} (h:bm n=true) {j:Nat} (hj:j<(aP n).length):eY (aw ((aP n).drop j))=aw ((aP n).drop (j+1))∧(aw ((aP n).drop j)).length≤255:=by
 obtain ⟨ls,g,rfl,hl⟩:=d9.1 h;rw [dr g hl] at hj ⊢;have gd:∀ j,GoodN (ls.drop j):=fun j x hx=>g x (List.mem_of_mem_drop hx)
 have hlen:∀ j,(aw (ls.drop j)).length≤255:=by
  intro j;have:∀ (ls:List (List UInt8)) (j:Nat),(aw (ls.drop j)).length≤(aw ls).length:=by
   intro ls;induction ls with
   | nil=>intro j;simp
   | cons l ls ih=>
    intro j;cases j with
    | zero=>simp
    | succ j=>
     have:=ih j;have:=i0 (l:=l) (ls:=ls);simp only [List.drop_succ_cons];omega
  have:=this ls j;omega
 refine ⟨?_,hlen j⟩;have e:=List.drop_eq_getElem_cons hj;have gj:=gd j;rw [e] at gj ⊢;exact (nX gj).2.2
theorem vH {n:List UInt8} (h:bm n=true):n=aw ((aP n).drop 0):=by
 obtain ⟨ls,g,rfl,hl⟩:=d9.1 h;rw [dr g hl,List.drop_zero]
theorem mr {n b:List UInt8} {i:Nat} (hi:i<n.length) (hb:b=(n.take i).map i8++n.drop i):b.getD i default=n.getD i default∧b.set i (i8 (n.getD i default))=(n.take (i+1)).map i8++n.drop (i+1):=by
 have hl:((n.take i).map i8).length=i:=by simp;omega
 have e:=List.drop_eq_getElem_cons hi;have hg:n.getD i default=n[i]:=by simp [List.getD_eq_getElem?_getD,List.getElem?_eq_getElem hi]
 rw [hg];subst hb;refine ⟨?_,?_⟩
 · rw [List.getD_eq_getElem?_getD,List.getElem?_append_right (by omega),hl,e,Nat.sub_self]
   rfl
 · rw [List.set_append_right _ _ (by omega),hl,Nat.sub_self,e,List.set_cons_zero,List.take_succ_eq_append_getElem hi,List.map_append,List.append_assoc]
   rfl
theorem jl {n b:List UInt8} {i:Nat} (hi:i<n.length) (hb:b=(n.take i).map i8++n.drop i) (hc:i8 (n.getD i default)=n.getD i default):b=(n.take (i+1)).map i8++n.drop (i+1):=by
 obtain ⟨e1,e2⟩:=mr hi hb;rw [hc] at e2;rw [← e2];have hlt:i<b.length:=by rw [hb];simp;omega
 apply List.ext_getElem?
 intro j;rw [List.getElem?_set];split
 · rename_i h
   subst h;rw [← e1,List.getD_eq_getElem?_getD,List.getElem?_eq_getElem hlt];rfl
 · rfl
theorem rW {n b:List UInt8} {i:Nat} (hi:i≤n.length) (hb:b=(n.take i).map i8++n.drop i):b.length=n.length:=by
 rw [hb];simp;omega
theorem iC (n:List UInt8) (h:n.length≤140737488355328):AC Tryz.prog 111 [str n] emp (Ret (.tup [str (oM n),str (eY n),tf (!cr n)])):=by
 refine AC.intro te_ok (fn:=Tryz.f111) ⟨Tryz.func111,rfl,rfl⟩ (aE rfl) ?_;iterate 11 refine ab ?_
 refine am (fun h1_2=>?_) (fun h1_2=>?_)
 ·
  iterate 29 refine ab ?_
  refine ak (0) [_,_,_] [_,_,_] ?_;have hb:cr n=true:=by simp only [cr,decide_eq_true_eq];omega
  rw [(ip hb).1,(ip hb).2,hb];rfl
 ·
  iterate 2 refine ab ?_
  refine cw rfl rfl rfl rfl rfl (lV) ?_;refine am (fun h1_6=>?_) (fun h1_6=>?_)
  ·
   iterate 25 refine ab ?_
   refine ak (0) [_,_,_] [_,_,_] ?_;have hb:cr n=true:=by simp only [cr,decide_eq_true_eq];simp at *;omega
   rw [(ip hb).1,(ip hb).2,hb];rfl
  ·
   iterate 3 refine ab ?_
   refine cw rfl rfl rfl rfl rfl (lV) ?_;refine am (fun h1_11=>?_) (fun h1_11=>?_)
   ·
    iterate 20 refine ab ?_
    refine ak (0) [_,_,_] [_,_,_] ?_;have hb:cr n=true:=by simp only [cr,decide_eq_true_eq];simp at *;omega
    rw [(ip hb).1,(ip hb).2,hb];rfl
   ·
    iterate 5 refine ab ?_
    refine cw rfl rfl rfl rfl rfl (lV) ?_;iterate 2 refine ab ?_
    refine am (fun h1_20=>?_) (fun h1_20=>?_)
    ·
     iterate 11 refine ab ?_
     refine ak (0) [_,_,_] [_,_,_] ?_;have hb:cr n=true:=by simp only [cr,decide_eq_true_eq];simp at *;omega
     rw [(ip hb).1,(ip hb).2,hb];rfl
    ·
     iterate 6 refine ab ?_
     have k1:¬ ((n.getD 0 0).toNat:Int)=0:=h1_6;have k2:¬ 63<((n.getD 0 0).toNat:Int):=h1_11;have k3:¬ (n.length:Int)<2+((n.getD 0 0).toNat:Int):=h1_20;have hb:cr n=false:=by simp only [cr,decide_eq_false_iff_not];omega
     obtain ⟨e1,e2⟩:=zX hb;have hk:=(n.getD 0 0).toNat_lt;refine ab ?_;refine ai rfl rfl (lV) ?_;iterate 5 refine ab ?_
     refine bj [ag,ag,ag,ag,ag,ag,ag,ag,ag] [af [0] [] 34,af [5] [] 35,af [33,34] [] 36,af [0] [] 37,af [5] [] 38,af [36,37] [] 39,af [35] [] 3,af [38] [] 4,af [] [] 5] rfl ⟨ah,ah,aC fun _=>aN rfl rfl (Dq),ah,ah,aC fun _=>aN rfl rfl (qe),ah,ah,ah,trivial⟩ ?_;refine ab ?_;refine ak (0) [_,_,_] [_,_,_] ?_;have hk2:((1:Int)+((n.getD 0 0).toNat:Int)).toNat=1+(n.getD 0 0).toNat:=by omega
     show bX [str (List.drop 1 (List.take ((1:Int)+((n.getD 0 0).toNat:Int)).toNat n)),str (List.drop ((1:Int)+((n.getD 0 0).toNat:Int)).toNat n),tf true]=_;rw [e1,e2,hb,hk2];rfl
theorem cu (n:List UInt8) (h:n.length≤140737488355328):AC Tryz.prog 67 [str n] emp (Ret (tf (bm n))):=by
 refine AC.intro te_ok (fn:=Tryz.f67) ⟨Tryz.func67,rfl,rfl⟩ (aE rfl) ?_;iterate 4 refine ab ?_
 refine AWp.scope ?_;iterate 6 refine ab ?_
 refine AWp.label ?_;iterate 2 refine ab ?_
 refine AWp.loopR (α:=List UInt8) [3,4,5,6,8,9,10,11,12,13,14,15,16] (fun r=>[(3,str r)]) (fun r=>[]) (fun r=>p9 r=p9 n∧r.length≤n.length) (fun r=>r.length) n ?_ (Back.mk' (HasT.cons HasT.nil) HasH.nil) ?_
 ·
  exact ⟨rfl,Nat.le_refl _⟩
 ·
  rintro r ⟨hf,hl⟩;iterate 4 refine ab ?_
  refine ai rfl rfl (aj (0) (hc:=iC _ bE)) ?_;iterate 3 refine ab ?_
  refine AOps.bool rfl rfl (bM) (fun h2_5=>?_) (fun h2_5=>?_)
  ·
   iterate 16 refine ab ?_
   refine ⟨eY r,?_,Back.mk' (HasT.cons HasT.nil) HasH.nil,?_⟩
   ·
    have hb:cr r=false:=by simpa using h2_5
    have:=iQ hb;exact ⟨by rw [← s8 hb,hf],by omega⟩
   ·
    exact iQ (by simpa using h2_5)
  ·
   iterate 15 refine ab ?_
   refine am (fun h5_1=>?_) (fun h5_1=>?_)
   ·
    iterate 3 refine ab ?_
    refine cw rfl rfl rfl rfl rfl (iN) ?_;iterate 4 refine ab ?_
    refine ak (0) [_] [_] ?_;have e:p9 n=r:=by rw [← hf,o8 (by simpa using h2_5)]
    rw [xz,e,h5_1];simp [bX];omega
   ·
    iterate 8 refine ab ?_
    refine ak (0) [_] [_] ?_;have e:p9 n=r:=by rw [← hf,o8 (by simpa using h2_5)]
    rw [xz,e,decide_eq_false h5_1];rfl
theorem yE (n:List UInt8) (h:n.length≤140737488355328):AC Tryz.prog 148 [str n] (ao []) (bZ (.sl 8 0 0 (aP n).length 1) [(8,.row (cl sc (aP n)) 1 0)]):=by
 refine AC.intro te_ok (fn:=Tryz.f148) ⟨Tryz.func148,rfl,rfl⟩ (aE rfl) ?_;iterate 2 refine ab ?_
 refine ai rfl rfl (aR (0) sc) ?_;iterate 3 refine ab ?_
 refine ai rfl rfl (bD 8 1 sc) ?_;iterate 3 refine ab ?_
 refine AWp.loopR (α:=List UInt8×List (List UInt8)×Nat) [0,3,4,5,6,7,8,9,10,11,12,13,14,15,16,17,18,19,20,21] (fun x_=>[(0,str (x_.1)),(3,.sl 8 (x_.2.2) 0 (x_.2.1).length 1)]) (fun x_=>[(8,.row (cl sc (x_.2.1)) 1 (x_.2.2))]) (fun x_=>aP n=(x_.2.1)++aP (x_.1)∧(x_.1).length≤n.length) (fun x_=>(x_.1).length) (n,[],0) ?_ (Back.mk' (HasT.cons (HasT.cons HasT.nil)) (HasH.cons HasH.nil)) ?_
 ·
  exact ⟨rfl,Nat.le_refl _⟩
 ·
  rintro ⟨m,acc,v⟩ hI2;change aP n=acc++aP m∧m.length≤n.length at hI2;obtain ⟨hI,hm⟩:=hI2;refine AWp.as (s':=AS.over _ [0,3,4,5,6,7,8,9,10,11,12,13,14,15,16,17,18,19,20,21] [(0,str m),(3,.sl 8 v 0 acc.length 1)] [(8,.row (cl sc acc) 1 v)]) rfl ?_;have hll:=iW n;rw [hI,List.length_append] at hll;iterate 4 refine ab ?_
  refine AOps.bool rfl rfl (aj (0) (hc:=cu _ bE)) (fun h2_1=>?_) (fun h2_1=>?_)
  ·
   iterate 7 refine ab ?_
   refine ai rfl rfl (aj (0) (hc:=iC _ bE)) ?_;iterate 3 refine ab ?_
   refine AOps.bool rfl rfl (bM) (fun h3_5=>?_) (fun h3_5=>?_)
   ·
    iterate 15 refine ab ?_
    refine ai rfl rfl (bO 602 sc [_] [(_,_)]) ?_;iterate 5 refine ab ?_
    refine ⟨(eY m,_,_),?_,Back.mk' (HasT.cons (HasT.cons HasT.nil)) (HasH.cons HasH.nil),?_⟩
    ·
     try dsimp only
     have hb:cr m=false:=by simpa using h3_5
     have:=iQ hb;exact ⟨by rw [hI,(rY h2_1 hb).1];simp,by omega⟩
    ·
     try dsimp only
     exact iQ (by simpa using h3_5)
   ·
    iterate 18 refine ab ?_
    obtain rfl:acc=aP n:=by rw [hI,(uD h2_1 (by simpa using h3_5)).1,List.append_nil]
    refine aQ (0) [8] [_] [.sl 8 0 0 _ 1] [(8,.row (cl sc _) 1 0)] ?_;rfl
  ·
   iterate 9 refine ab ?_
   obtain rfl:acc=aP n:=by rw [hI,mY h2_1,List.append_nil]
   refine aQ (0) [8] [_] [.sl 8 0 0 _ 1] [(8,.row (cl sc _) 1 0)] ?_;rfl
theorem gO (n:List UInt8) (h:n.length≤140737488355328):AC Tryz.prog 34 [str n] emp (Ret (str (eK n))):=by
 refine AC.intro te_ok (fn:=Tryz.f34) ⟨Tryz.func34,rfl,rfl⟩ (aE rfl) ?_;iterate 8 refine ab ?_
 refine AOps.bool rfl rfl (aj (0) (hc:=cu _ bE)) (fun h1_1=>?_) (fun h1_1=>?_)
 ·
  iterate 7 refine ab ?_
  refine ai rfl rfl (rN 401) ?_;iterate 10 refine ab ?_
  refine AWp.loopR (α:=Nat×List UInt8) [4,5,13,14,15,16,17,18,19,20,21,22,23,24,25,26,27,28,29] (fun x_=>[(13,i64 (x_.1))]) (fun x_=>[(401,.row (cl bc (x_.2)) 1 0)]) (fun x_=>(x_.1)≤n.length∧(x_.2)=(n.take (x_.1)).map i8++n.drop (x_.1)) (fun x_=>n.length-(x_.1)) (0,n) ?_ (Back.mk' (HasT.cons HasT.nil) (HasH.cons HasH.nil)) ?_
  ·
   exact ⟨Nat.zero_le _,by simp⟩
  ·
   rintro ⟨i,b⟩ hI5;change i≤n.length∧b=(n.take i).map i8++n.drop i at hI5;obtain ⟨hi,hb⟩:=hI5;refine AWp.as (s':=AS.over _ [4,5,13,14,15,16,17,18,19,20,21,22,23,24,25,26,27,28,29] [(13,i64 i)] [(401,.row (cl bc b) 1 0)]) rfl ?_;have hbl:=rW hi hb;iterate 2 refine ab ?_
   refine am (fun h5_0=>?_) (fun h5_0=>?_)
   ·
    iterate 16 refine ab ?_
    have hx:=mr (by omega) hb;refine ab ?_;refine am (fun h7_1=>?_) (fun h7_1=>?_)
    ·
     iterate 2 refine ab ?_
     refine am (fun h7_4=>?_) (fun h7_4=>?_)
     ·
      iterate 7 refine ab ?_
      refine ai rfl rfl (Gl _ 32) ?_;iterate 7 refine ab ?_
      refine ⟨(i+1,_),?_,Back.mk' (HasT.cons HasT.nil) (HasH.cons HasH.nil),?_⟩
      ·
       try dsimp only
       have k1:65≤((b.getD i default).toNat:Int):=h7_1;have k2:((b.getD i default).toNat:Int)≤90:=h7_4;rw [hx.1] at k1 k2;have e:=hx.2;rw [show i8 (n.getD i default)=n.getD i default ||| 32 from (if_pos ⟨by omega,by omega⟩).trans (rfl),← hx.1] at e;exact ⟨by omega,e⟩
      ·
       try dsimp only
       first|omega|(simp;omega)
     ·
      iterate 8 refine ab ?_
      refine ⟨(i+1,_),?_,Back.mk' (HasT.cons HasT.nil) (HasH.cons HasH.nil),?_⟩
      ·
       try dsimp only
       exact ⟨by omega,jl (by omega) hb (if_neg (by have k1:¬ ((b.getD i default).toNat:Int)≤90:=h7_4;rw [hx.1] at k1;omega))⟩
      ·
       try dsimp only
       first|omega|(simp;omega)
    ·
     iterate 11 refine ab ?_
     refine ⟨(i+1,_),?_,Back.mk' (HasT.cons HasT.nil) (HasH.cons HasH.nil),?_⟩
     ·
      try dsimp only
      exact ⟨by omega,jl (by omega) hb (if_neg (by have k1:¬ 65≤((b.getD i default).toNat:Int):=h7_1;rw [hx.1] at k1;omega))⟩
     ·
      try dsimp only
      first|omega|(simp;omega)
   ·
    iterate 6 refine ab ?_
    obtain rfl:i=n.length:=by simp at h5_0;omega
    have hb2:b=n.map i8:=by rw [hb,List.take_length,List.drop_length,List.append_nil]
    subst hb2;refine ab ?_;refine ai rfl rfl (aU) ?_;iterate 3 refine ab ?_
    refine ak (0) [_] [_] ?_;rw [eK,if_pos h1_1];rfl
 ·
  iterate 8 refine ab ?_
  refine ak (0) [_] [_] ?_;rw [eK,if_neg (by simp [h1_1])];rfl
theorem C0 {n:List UInt8} (hc:bm n=true) (h0:¬ n=[0]):cr n=false:=by
 cases hb:cr n with
 | false=>rfl
 | true=>exact absurd (uD hc hb).2 h0
theorem uz (n:List UInt8):(eK n).length≤255:=by
 unfold eK;split
 · rename_i h;rw [List.length_map];exact qN h
 · simp
theorem rH (n:List UInt8) (k:Int):(mG n k).length≤255:=by
 unfold mG;split
 · rename_i h
   by_cases e:(aP n).length-min (max k 0).toNat (aP n).length<(aP n).length
   · exact (nG h e).2
   · rw [List.drop_of_length_le (by omega)];simp [aw]
 · simp
theorem pG (n:List UInt8):0≤dt n∧dt n≤254:=by have:=iW n;unfold dt;omega
theorem bT (a b:List UInt8) (ha:a.length≤140737488355328) (hb:b.length≤140737488355328):AC Tryz.prog 72 [str a,str b] emp (Ret (tf (bi a b))):=by
 have h1:=uz a;have h2:=uz b;refine AC.intro te_ok (fn:=Tryz.f72) ⟨Tryz.func72,rfl,rfl⟩ (aE rfl) ?_;iterate 7 refine ab ?_
 refine AOps.bool rfl rfl (aj (0) (hc:=cu _ bE)) (fun h1_1=>?_) (fun h1_1=>?_)
 ·
  iterate 2 refine ab ?_
  refine AOps.gbool rfl rfl rfl rfl rfl (aj (0) (hc:=cu _ bE)) (fun h1_4=>?_) (fun h1_4=>?_)
  ·
   iterate 3 refine ab ?_
   refine cw rfl rfl rfl rfl rfl (aj (0) (hc:=gO _ bE)) ?_;refine ab ?_;refine cw rfl rfl rfl rfl rfl (aj (0) (hc:=gO _ bE)) ?_;refine cw rfl rfl rfl rfl rfl (qf) ?_;iterate 4 refine ab ?_
   refine ak (0) [_] [_] ?_;simp only [bi,h1_1,h1_4];rfl
  ·
   iterate 11 refine ab ?_
   refine ak (0) [_] [_] ?_;simp only [bi,h1_1,h1_4];rfl
 ·
  iterate 14 refine ab ?_
  refine ak (0) [_] [_] ?_;simp only [bi,h1_1];rfl
theorem cL (n:List UInt8) (h:n.length≤140737488355328):AC Tryz.prog 112 [str n] emp (Ret (i64 (dt n))):=by
 refine AC.intro te_ok (fn:=Tryz.f112) ⟨Tryz.func112,rfl,rfl⟩ (aE rfl) ?_;iterate 7 refine ab ?_
 refine ai rfl rfl (ay (0) [] [(8,2018)] [(_,_)] (hc:=yE _ bE)) ?_;iterate 4 refine ab ?_
 refine ak (0) [_] [_] ?_;rfl
theorem ma (n:List UInt8) (h:n.length≤140737488355328):AC Tryz.prog 144 [str n] emp (Ret (.tup [str (sP n),tf (qC n)])):=by
 refine AC.intro te_ok (fn:=Tryz.f144) ⟨Tryz.func144,rfl,rfl⟩ (aE rfl) ?_;iterate 9 refine ab ?_
 refine AOps.bool rfl rfl (aj (0) (hc:=cu _ bE)) (fun h1_1=>?_) (fun h1_1=>?_)
 ·
  iterate 3 refine ab ?_
  refine am (fun h1_5=>?_) (fun h1_5=>?_)
  ·
   iterate 9 refine ab ?_
   refine ak (0) [_,_] [_,_] ?_;have e:=sO (n:=n) (by rw [h1_5];exact dr GoodN.nil (by decide));rw [e.1,e.2];rfl
  ·
   iterate 7 refine ab ?_
   refine ai rfl rfl (aj (0) (hc:=iC _ bE)) ?_;iterate 16 refine ab ?_
   refine ak (0) [_,_] [_,_] ?_;have hb:=C0 h1_1 h1_5;obtain ⟨e1,e2⟩:=y7 h1_1 hb;rw [e1,e2,hb];rfl
 ·
  iterate 13 refine ab ?_
  refine ak (0) [_,_] [_,_] ?_;rw [(sO (mY h1_1)).1,(sO (mY h1_1)).2];rfl
theorem vt (n:List UInt8) (h:n.length≤140737488355328) (k:Int) (hk:-9223372036854775808≤k∧k≤9223372036854775807):AC Tryz.prog 113 [str n,i64 k] emp (Ret (str (mG n k))):=by
 have hll:=iW n;have hm:max k 0=((max k 0).toNat:Int):=by omega
 refine AC.intro te_ok (fn:=Tryz.f113) ⟨Tryz.func113,rfl,rfl⟩ (aE rfl) ?_;iterate 8 refine ab ?_
 refine AOps.bool rfl rfl (aj (0) (hc:=cu _ bE)) (fun h1_1=>?_) (fun h1_1=>?_)
 ·
  iterate 8 refine ab ?_
  refine ai rfl rfl (aj (0) (hc:=cL _ bE)) ?_;iterate 3 refine ab ?_
  refine AWp.loopR (α:=Nat) [0,5,11,12,13,14,15,16,17,18,19,20,21,22] (fun j=>[(0,str (aw ((aP n).drop j))),(5,i64 ((aP n).length-j))]) (fun j=>[]) (fun j=>j≤(aP n).length-min (max k 0).toNat (aP n).length) (fun j=>(aP n).length-j) 0 ?_ (Back.mk' (HasT.cons (HasT.cons HasT.nil (h1:=by exact ci (by unfold dt;omega)) ) (h1:=by rw [← vH h1_1];rfl) ) HasH.nil) ?_
  ·
   exact Nat.zero_le _
  ·
   rintro j hI4;iterate 5 refine ab ?_
   refine ai rfl rfl (Dt) ?_;refine am (fun h4_3=>?_) (fun h4_3=>?_)
   ·
    iterate 6 refine ab ?_
    have hj2:=(nG h1_1 (j:=j) (by omega)).2;refine ab ?_;refine ai rfl rfl (aj (0) (hc:=iC _ bE)) ?_;iterate 11 refine ab ?_
    have hj:j<(aP n).length:=by omega
    refine ⟨j+1,?_,Back.mk' (HasT.cons (HasT.cons HasT.nil (h1:=by exact ci (by omega)) ) (h1:=by rw [← (nG h1_1 hj).1];rfl) ) HasH.nil,?_⟩
    ·
     omega
    ·
     omega
   ·
    iterate 9 refine ab ?_
    refine ak (0) [_] [_] ?_;rw [mG,if_pos h1_1,show j=(aP n).length-min (max k 0).toNat (aP n).length by omega];rfl
 ·
  iterate 8 refine ab ?_
  refine ak (0) [_] [_] ?_;rw [mG,if_neg (by simp [h1_1])];rfl
theorem df (a b:List UInt8) (ha:a.length≤140737488355328) (hb:b.length≤140737488355328):AC Tryz.prog 71 [str a,str b] emp (Ret (tf (bQ a b))):=by
 have h1:=pG a;have h2:=pG b;have h3:=rH a (dt b);refine AC.intro te_ok (fn:=Tryz.f71) ⟨Tryz.func71,rfl,rfl⟩ (aE rfl) ?_;iterate 7 refine ab ?_
 refine AOps.bool rfl rfl (aj (0) (hc:=cu _ bE)) (fun h1_1=>?_) (fun h1_1=>?_)
 ·
  iterate 2 refine ab ?_
  refine AOps.gbool rfl rfl rfl rfl rfl (aj (0) (hc:=cu _ bE)) (fun h1_4=>?_) (fun h1_4=>?_)
  ·
   iterate 3 refine ab ?_
   refine cw rfl rfl rfl rfl rfl (aj (0) (hc:=cL _ bE)) ?_;refine ab ?_;refine cw rfl rfl rfl rfl rfl (aj (0) (hc:=cL _ bE)) ?_;refine am (fun h1_11=>?_) (fun h1_11=>?_)
   ·
    iterate 4 refine ab ?_
    refine cw rfl rfl rfl rfl rfl (aj (0) (hc:=cL _ bE)) ?_;refine cw rfl rfl rfl rfl rfl (aj (0) (hc:=vt _ bE _ bE)) ?_;refine ab ?_;refine cw rfl rfl rfl rfl rfl (aj (0) (hc:=bT _ _ bE bE)) ?_;iterate 4 refine ab ?_
    refine ak (0) [_] [_] ?_;simp only [bQ,h1_1,h1_4,decide_eq_true (show dt b≤dt a by omega)];rfl
   ·
    iterate 12 refine ab ?_
    refine ak (0) [_] [_] ?_;simp only [bQ,h1_1,h1_4,decide_eq_false (show ¬ dt b≤dt a by omega)];rfl
  ·
   iterate 19 refine ab ?_
   refine ak (0) [_] [_] ?_;simp only [bQ,h1_1,h1_4];rfl
 ·
  iterate 22 refine ab ?_
  refine ak (0) [_] [_] ?_;simp only [bQ,h1_1];rfl
theorem qM {n:List UInt8} (h:bm n=true):GoodN (aP n)∧n=aw (aP n)∧n.length≤255:=by
 obtain ⟨ls,g,rfl,hl⟩:=d9.1 h;rw [dr g hl];exact ⟨g,rfl,hl⟩
theorem uA (n:List UInt8) {i:Nat} (h:n.length≤i):(gN (n.drop i)).isSome=false:=by
 rw [List.drop_of_length_le h,gN];rfl
theorem xd {n:List UInt8} {i:Nat} (hi:i<n.length):(gN (n.drop i)).isSome=if (n.getD i 0).toNat=0 then decide (i+1=n.length) else if 63<(n.getD i 0).toNat then false else (gN (n.drop (i+1+(n.getD i 0).toNat))).isSome:=by
 have hg:n.getD i 0=n[i]:=by rw [List.getD_eq_getElem?_getD,List.getElem?_eq_getElem hi];rfl
 rw [List.drop_eq_getElem_cons hi,gN,← hg];generalize n.getD i 0=k;have hz:k=0↔k.toNat=0:=⟨fun e=>by rw [e];rfl,fun e=>UInt8.toNat_inj.1 (by simpa using e)⟩;by_cases h0:k.toNat=0
 · rw [if_pos (hz.2 h0),if_pos h0]
   by_cases he:i+1=n.length
   · rw [if_pos (List.drop_of_length_le (by omega)),decide_eq_true he];rfl
   · rw [if_neg (fun e=>by have:=congrArg List.length e;simp at this;omega),decide_eq_false he];rfl
 · rw [if_neg (fun e=>h0 (hz.1 e)),if_neg h0]
   by_cases h6:63<k.toNat
   · rw [if_pos (Or.inl h6),if_pos h6];rfl
   · rw [if_neg h6]
     by_cases hr:(n.drop (i+1)).length<k.toNat
     · rw [if_pos (Or.inr hr),uA n (by simp at hr;omega)];rfl
     · rw [if_neg (by omega),Option.isSome_map,List.drop_drop]
theorem D0 {n:List UInt8} {i:Nat} (h:n.drop i=aw []):i<n.length∧(n.getD i 0).toNat=0:=by
 have hl:=congrArg List.length h;rw [fb,List.length_drop] at hl;simp at hl;have hi:i<n.length:=by omega
 refine ⟨hi,?_⟩;rw [List.drop_eq_getElem_cons hi,fb] at h;rw [List.getD_eq_getElem?_getD,List.getElem?_eq_getElem hi,Option.getD_some,(List.cons.inj h).1];rfl
theorem FA {n l:List UInt8} {ls:List (List UInt8)} {i:Nat} (g:GoodN (l::ls)) (h:n.drop i=aw (l::ls)):i<n.length∧(n.getD i 0).toNat=l.length∧i+1+l.length<n.length∧(n.take (i+1+l.length)).drop (i+1)=l∧n.drop (i+1+l.length)=aw ls∧1≤l.length∧l.length≤63:=by
 have hl:=congrArg List.length h;have hp:=cK ls;rw [b7,List.length_drop,List.length_cons,List.length_append] at hl;have hi:i<n.length:=by omega
 have h2:=h;rw [List.drop_eq_getElem_cons hi,b7] at h2;obtain ⟨e1,e2⟩:=List.cons.inj h2;refine ⟨hi,?_,by omega,?_,?_,g.head.1,g.head.2⟩
 · rw [List.getD_eq_getElem?_getD,List.getElem?_eq_getElem hi,Option.getD_some,e1]
   exact gn g.head.2
 · rw [List.drop_take,e2,show i+1+l.length-(i+1)=l.length by omega,List.take_left]
 · rw [← List.drop_drop,e2,List.drop_left]
theorem C7 {n:List UInt8} (h:bm n=true):eK n=aw (sX (aP n))∧(aw (sX (aP n))).length≤255:=by
 obtain ⟨ls,g,rfl,hl⟩:=d9.1 h;rw [dr g hl,yi g hl];exact ⟨rfl,by rw [we g];exact hl⟩
theorem lY:∀ (ls:List (List UInt8)) (j:Nat),(aw (ls.drop j)).length≤(aw ls).length
 | [],j=>by simp
 | l::ls,0=>Nat.le_refl _
 | l::ls,j+1=>by
  have:=lY ls j;have:=i0 (l:=l) (ls:=ls);simp only [List.drop_succ_cons];omega
theorem Cf {ls:List (List UInt8)} {i:Nat} (hi:i<ls.length):aw (ls.drop i)=ct ((ls.getD i default).length:Int)::(ls.getD i default++aw (ls.drop (i+1))):=by
 have e:ls.getD i default=ls[i]:=by rw [List.getD_eq_getElem?_getD,List.getElem?_eq_getElem hi];rfl
 rw [List.drop_eq_getElem_cons hi,b7,e]
theorem lR {α β:Type} [Inhabited α] (f:α→β) {l:List α} {i:Nat} (hi:i<l.length):(l.take (i+1)).map f=(l.take i).map f++[f (l.getD i default)]:=by
 have e:l.getD i default=l[i]:=by rw [List.getD_eq_getElem?_getD,List.getElem?_eq_getElem hi];rfl
 rw [List.take_succ_eq_append_getElem hi,List.map_append,e];rfl
theorem aq {α:Type} [Inhabited α] {l:List α} {i:Nat} (hi:i<l.length):l.getD i default∈l:=by
 rw [List.getD_eq_getElem?_getD,List.getElem?_eq_getElem hi];exact List.getElem_mem hi
theorem aM (n:List UInt8) (h:n.length≤140737488355328):AC Tryz.prog 43 [str n] emp (Ret (tf (bm n))):=by
 refine AC.intro te_ok (fn:=Tryz.f43) ⟨Tryz.func43,rfl,rfl⟩ (aE rfl) ?_;iterate 9 refine ab ?_
 refine am (fun h1_2=>?_) (fun h1_2=>?_)
 ·
  iterate 7 refine ab ?_
  refine ak (0) [_] [_] ?_;have e:bm n=false:=by rw [bm,decide_eq_false (by omega),Bool.and_false]
  rw [e];rfl
 ·
  iterate 9 refine ab ?_
  refine AWp.loopR (α:=Nat) [2,3,4,8,9,10,11,12,13,14,15,16,17,18,19,20,21,22,23,24,25,26,27,28] (fun i=>[(3,i64 i)]) (fun i=>[]) (fun i=>(gN n).isSome=(gN (n.drop i)).isSome∧i≤319) (fun i=>n.length-i) 0 ?_ (Back.mk' (HasT.cons HasT.nil) HasH.nil) ?_
  ·
   exact ⟨rfl,by omega⟩
  ·
   rintro i ⟨hc,hi⟩;iterate 6 refine ab ?_
   refine am (fun h4_3=>?_) (fun h4_3=>?_)
   ·
    iterate 6 refine ab ?_
    have hk:=(n.getD i 0).toNat_lt;iterate 2 refine ab ?_
    refine ai rfl rfl (lV) ?_;iterate 6 refine ab ?_
    have hla:=xd (n:=n) (i:=i) (by omega);refine ab ?_;refine am (fun h6_1=>?_) (fun h6_1=>?_)
    ·
     iterate 8 refine ab ?_
     refine ai rfl rfl (dm) ?_;iterate 3 refine ab ?_
     refine ak (0) [_] [_] ?_;have k1:((n.getD i 0).toNat:Int)=0:=h6_1;rw [if_pos (by omega)] at hla;rw [bm,hc,hla,decide_eq_true (show n.length≤255 by omega),Bool.and_true];exact congrArg tf (decide_eq_decide.2 (by omega))
    ·
     iterate 7 refine ab ?_
     refine am (fun h8_1=>?_) (fun h8_1=>?_)
     ·
      iterate 7 refine ab ?_
      refine ak (0) [_] [_] ?_;have k1:¬ ((n.getD i 0).toNat:Int)=0:=h6_1;have k2:63<((n.getD i 0).toNat:Int):=h8_1;rw [if_neg (by omega),if_pos (by omega)] at hla;rw [bm,hc,hla];rfl
     ·
      iterate 4 refine ab ?_
      have k2:¬ 63<((n.getD i 0).toNat:Int):=h8_1;have hk3:((n.getD (i:Int).toNat 0).toNat:Int)=((n.getD i 0).toNat:Int):=rfl;iterate 6 refine ab ?_
      have k1:¬ ((n.getD i 0).toNat:Int)=0:=h6_1;have k2:¬ 63<((n.getD i 0).toNat:Int):=h8_1;refine ⟨i+1+(n.getD i 0).toNat,?_,Back.mk' (HasT.cons HasT.nil (h1:=by exact ci (by show (i:Int)+(1+((n.getD i 0).toNat:Int))=((i+1+(n.getD i 0).toNat:Nat):Int);omega)) ) HasH.nil,?_⟩
      ·
       exact ⟨by rw [hc,xd (by omega),if_neg (by omega),if_neg (by omega)],by omega⟩
      ·
       omega
   ·
    iterate 8 refine ab ?_
    refine ak (0) [_] [_] ?_;have e:bm n=false:=by rw [bm,hc,uA n (by omega)];rfl
    rw [e];rfl
theorem dP (n:List UInt8) (h:n.length≤140737488355328):AC Tryz.prog 121 [str n] emp (Ret (.fz 0 (aP n).length (cl sc (aP n)))):=by
 refine AC.intro te_ok (fn:=Tryz.f121) ⟨Tryz.func121,rfl,rfl⟩ (aE rfl) ?_;iterate 2 refine ab ?_
 refine ai rfl rfl (aR (0) sc) ?_;iterate 5 refine ab ?_
 refine AOps.bool rfl rfl (aj (0) (hc:=aM _ bE)) (fun h1_1=>?_) (fun h1_1=>?_)
 ·
  iterate 6 refine ab ?_
  refine ai rfl rfl (bD 400 1 sc) ?_;iterate 3 refine ab ?_
  obtain ⟨hg0,hn0,hl0⟩:=qM h1_1;iterate 4 refine ab ?_
  refine AWp.loopR (α:=Nat×List (List UInt8)×Nat×List (List UInt8)) [3,4,5,9,10,11,12,13,14,15,16,17,18,19,20,21,22,23,24,25,26,27,28,29,30,31] (fun x_=>[(4,i64 (x_.1)),(3,.sl 400 (x_.2.2.1) 0 (x_.2.1).length 1)]) (fun x_=>[(400,.row (cl sc (x_.2.1)) 1 (x_.2.2.1))]) (fun x_=>GoodN (x_.2.2.2)∧n.drop (x_.1)=aw (x_.2.2.2)∧aP n=(x_.2.1)++(x_.2.2.2)) (fun x_=>(x_.2.2.2).length) (0,[],0,aP n) ?_ (Back.mk' (HasT.cons (HasT.cons HasT.nil)) (HasH.cons HasH.nil)) ?_
  ·
   exact ⟨hg0,hn0,rfl⟩
  ·
   rintro ⟨i,acc,v,ls⟩ hI5;change GoodN ls∧n.drop i=aw ls∧aP n=acc++ls at hI5;obtain ⟨hg,hd,hI⟩:=hI5;refine AWp.as (s':=AS.over _ [3,4,5,9,10,11,12,13,14,15,16,17,18,19,20,21,22,23,24,25,26,27,28,29,30,31] [(4,i64 i),(3,.sl 400 v 0 acc.length 1)] [(400,.row (cl sc acc) 1 v)]) rfl ?_;have hll:=iW n;rw [hI,List.length_append] at hll;iterate 3 refine ab ?_
   rcases ls with _|⟨l,ls⟩
   ·
    obtain ⟨hr1,hr2⟩:=D0 hd;iterate 2 refine ab ?_
    refine ai rfl rfl (lV) ?_;refine am (fun h5_3=>?_) (fun h5_3=>?_)
    ·
     exfalso;exact absurd (show ((n.getD i 0).toNat:Int)=0 by omega) h5_3
    ·
     iterate 9 refine ab ?_
     obtain rfl:acc=aP n:=by rw [hI,List.append_nil]
     refine ak (0) [_] [_] ?_;rfl
   ·
    obtain ⟨ha1,ha2,ha3,ha4,ha5,ha6,ha7⟩:=FA hg hd;have ha2':((n.getD (i:Int).toNat 0).toNat:Int)=(l.length:Int):=congrArg Int.ofNat ha2;have hsl:(n.take ((i:Int)+1+((n.getD (i:Int).toNat 0).toNat:Int)).toNat).drop ((i:Int)+1).toNat=l:=by rw [ha2',show ((i:Int)+1+(l.length:Int)).toNat=i+1+l.length by omega,show ((i:Int)+1).toNat=i+1 by omega];exact ha4
    rw [List.length_cons] at hll;iterate 2 refine ab ?_
    refine ai rfl rfl (lV) ?_;refine am (fun h5_3=>?_) (fun h5_3=>?_)
    ·
     iterate 8 refine ab ?_
     refine ai rfl rfl (lV) ?_;iterate 13 refine ab ?_
     refine ai rfl rfl (Dq) ?_;refine ai rfl rfl (bO 809 sc [_] [(_,_)]) ?_;iterate 10 refine ab ?_
     refine ⟨(i+1+l.length,_,_,ls),?_,Back.mk' (HasT.cons (HasT.cons HasT.nil) (h1:=by exact ci (by rw [ha2'];omega)) ) (HasH.cons HasH.nil),?_⟩
     ·
      try dsimp only
      exact ⟨hg.tail,ha5,by rw [hI,hsl];simp⟩
     ·
      try dsimp only
      simp
    ·
     exfalso;exact h5_3 (show ¬ ((n.getD i 0).toNat:Int)=0 by omega)
 ·
  iterate 5 refine ab ?_
  refine ai rfl rfl (aR (0) sc) ?_;iterate 2 refine ab ?_
  refine ak (0) [_] [_] ?_;rw [mY h1_1];rfl
theorem gm (ls:List (List UInt8)) (lv:Nat) (hj:(aw ls).length≤140737488351232):AC Tryz.prog 123 [.fz lv ls.length (cl sc ls)] emp (Ret (str (aw ls))):=by
 refine AC.intro te_ok (fn:=Tryz.f123) ⟨Tryz.func123,rfl,rfl⟩ (aE rfl) ?_;iterate 16 refine ab ?_
 refine AWp.loopR (α:=Nat×List UInt8) [3,5,8,9,10,11,12,13,14,15,16,17,18,19,20,21] (fun x_=>[(8,i64 (x_.1)),(3,str (x_.2))]) (fun x_=>[]) (fun x_=>(x_.1)≤ls.length∧(x_.2)++aw (ls.drop (x_.1))=aw ls) (fun x_=>ls.length-(x_.1)) (0,[]) ?_ (Back.mk' (HasT.cons (HasT.cons HasT.nil)) HasH.nil) ?_
 ·
  exact ⟨Nat.zero_le _,rfl⟩
 ·
  rintro ⟨i,acc⟩ hI3;change i≤ls.length∧acc++aw (ls.drop i)=aw ls at hI3;obtain ⟨hi,hI⟩:=hI3;refine AWp.as (s':=AS.over _ [3,5,8,9,10,11,12,13,14,15,16,17,18,19,20,21] [(8,i64 i),(3,str acc)] []) rfl ?_;have hll:=congrArg List.length hI;rw [List.length_append] at hll;iterate 2 refine ab ?_
  refine am (fun h3_0=>?_) (fun h3_0=>?_)
  ·
   iterate 8 refine ab ?_
   have hja:=Cf (ls:=ls) (i:=i) (by omega);rw [hja,List.length_cons,List.length_append] at hll;have hll2:acc.length+((ls.getD (i:Int).toNat default).length+(aw (ls.drop (i+1))).length+1)=(aw ls).length:=hll;have hg3:(ls[i]?.getD default).length=(ls.getD (i:Int).toNat default).length:=congrArg List.length (List.getD_eq_getElem?_getD).symm;have hg4:=cK ls;iterate 9 refine ab ?_
   refine ai rfl rfl (bO 604 bc [_] [(_,_)]) ?_;refine ai rfl rfl (aU) ?_;refine ab ?_;refine ai rfl rfl (jg) ?_;refine ai rfl rfl (jg) ?_;iterate 6 refine ab ?_
   refine ⟨(i+1,_),?_,Back.mk' (HasT.cons (HasT.cons HasT.nil)) HasH.nil,?_⟩
   ·
    try dsimp only
    exact ⟨by omega,by rw [← hI,hja];simp⟩
   ·
    try dsimp only
    first|omega|(simp;omega)
  ·
   iterate 7 refine ab ?_
   refine ai rfl rfl (jg) ?_;iterate 3 refine ab ?_
   obtain rfl:i=ls.length:=by omega
   rw [List.drop_length,fb] at hI;refine ak (0) [_] [_] ?_;exact congrArg (fun x=>str x) hI
theorem jS (n:List UInt8) (h:n.length≤140737488355328):AC Tryz.prog 122 [str n] emp (Ret (str (n.map i8))):=by
 refine AC.intro te_ok (fn:=Tryz.f122) ⟨Tryz.func122,rfl,rfl⟩ (aE rfl) ?_;iterate 7 refine ab ?_
 refine ai rfl rfl (rN 201) ?_;iterate 10 refine ab ?_
 refine AWp.loopR (α:=Nat×List UInt8) [4,5,10,11,12,13,14,15,16,17,18,19,20,21,22,23,24,25,26] (fun x_=>[(10,i64 (x_.1))]) (fun x_=>[(201,.row (cl bc (x_.2)) 1 0)]) (fun x_=>(x_.1)≤n.length∧(x_.2)=(n.take (x_.1)).map i8++n.drop (x_.1)) (fun x_=>n.length-(x_.1)) (0,n) ?_ (Back.mk' (HasT.cons HasT.nil) (HasH.cons HasH.nil)) ?_
 ·
  exact ⟨Nat.zero_le _,by simp⟩
 ·
  rintro ⟨i,b⟩ hI3;change i≤n.length∧b=(n.take i).map i8++n.drop i at hI3;obtain ⟨hi,hb⟩:=hI3;refine AWp.as (s':=AS.over _ [4,5,10,11,12,13,14,15,16,17,18,19,20,21,22,23,24,25,26] [(10,i64 i)] [(201,.row (cl bc b) 1 0)]) rfl ?_;have hbl:=rW hi hb;iterate 2 refine ab ?_
  refine am (fun h3_0=>?_) (fun h3_0=>?_)
  ·
   iterate 16 refine ab ?_
   have hx:=mr (by omega) hb;refine ab ?_;refine am (fun h5_1=>?_) (fun h5_1=>?_)
   ·
    iterate 2 refine ab ?_
    refine am (fun h5_4=>?_) (fun h5_4=>?_)
    ·
     iterate 7 refine ab ?_
     refine ai rfl rfl (En _ 32) ?_;iterate 7 refine ab ?_
     refine ⟨(i+1,_),?_,Back.mk' (HasT.cons HasT.nil) (HasH.cons HasH.nil),?_⟩
     ·
      try dsimp only
      have k1:65≤((b.getD i default).toNat:Int):=h5_1;have k2:((b.getD i default).toNat:Int)≤90:=h5_4;rw [hx.1] at k1 k2;have e:=hx.2;rw [show i8 (n.getD i default)=n.getD i default+32 from (if_pos ⟨by omega,by omega⟩).trans ((Af _ ⟨by omega,by omega⟩).symm),← hx.1] at e;exact ⟨by omega,e⟩
     ·
      try dsimp only
      first|omega|(simp;omega)
    ·
     iterate 8 refine ab ?_
     refine ⟨(i+1,_),?_,Back.mk' (HasT.cons HasT.nil) (HasH.cons HasH.nil),?_⟩
     ·
      try dsimp only
      exact ⟨by omega,jl (by omega) hb (if_neg (by have k1:¬ ((b.getD i default).toNat:Int)≤90:=h5_4;rw [hx.1] at k1;omega))⟩
     ·
      try dsimp only
      first|omega|(simp;omega)
   ·
    iterate 11 refine ab ?_
    refine ⟨(i+1,_),?_,Back.mk' (HasT.cons HasT.nil) (HasH.cons HasH.nil),?_⟩
    ·
     try dsimp only
     exact ⟨by omega,jl (by omega) hb (if_neg (by have k1:¬ 65≤((b.getD i default).toNat:Int):=h5_1;rw [hx.1] at k1;omega))⟩
    ·
     try dsimp only
     first|omega|(simp;omega)
  ·
   iterate 6 refine ab ?_
   obtain rfl:i=n.length:=by simp at h3_0;omega
   have hb2:b=n.map i8:=by rw [hb,List.take_length,List.drop_length,List.append_nil]
   subst hb2;refine ab ?_;refine ai rfl rfl (aU) ?_;iterate 3 refine ab ?_
   refine ak (0) [_] [_] ?_;rfl
theorem fP (n:List UInt8) (h:n.length≤140737488355328):AC Tryz.prog 80 [str n] emp (Ret (str (eK n))):=by
 refine AC.intro te_ok (fn:=Tryz.f80) ⟨Tryz.func80,rfl,rfl⟩ (aE rfl) ?_;iterate 8 refine ab ?_
 refine AOps.bool rfl rfl (aj (0) (hc:=aM _ bE)) (fun h1_1=>?_) (fun h1_1=>?_)
 ·
  iterate 6 refine ab ?_
  refine ai rfl rfl (bD 400 1 sc) ?_;iterate 4 refine ab ?_
  obtain ⟨hg0,hn0,hl0⟩:=qM h1_1;obtain ⟨hw1,hw2⟩:=C7 h1_1;have hll:=iW n;refine ab ?_;refine ai rfl rfl (aj (0) (hc:=dP _ bE)) ?_;iterate 4 refine ab ?_
  refine AWp.loopR (α:=Nat×List (List UInt8)×Nat) [3,5,12,13,14,15,16,17,18,19,20,21] (fun x_=>[(12,i64 (x_.1)),(3,.sl 400 (x_.2.2) 0 (x_.2.1).length 1)]) (fun x_=>[(400,.row (cl sc (x_.2.1)) 1 (x_.2.2))]) (fun x_=>(x_.1)≤(aP n).length∧(x_.2.1)=sX ((aP n).take (x_.1))) (fun x_=>(aP n).length-(x_.1)) (0,[],0) ?_ (Back.mk' (HasT.cons (HasT.cons HasT.nil)) (HasH.cons HasH.nil)) ?_
  ·
   exact ⟨Nat.zero_le _,rfl⟩
  ·
   rintro ⟨i,acc,v⟩ hI5;change i≤(aP n).length∧acc=sX ((aP n).take i) at hI5;obtain ⟨hi,hacc⟩:=hI5;refine AWp.as (s':=AS.over _ [3,5,12,13,14,15,16,17,18,19,20,21] [(12,i64 i),(3,.sl 400 v 0 acc.length 1)] [(400,.row (cl sc acc) 1 v)]) rfl ?_;have hal:acc.length=i:=by rw [hacc];simp [sX];omega
   iterate 2 refine ab ?_
   refine am (fun h5_0=>?_) (fun h5_0=>?_)
   ·
    iterate 8 refine ab ?_
    have hm:=hg0 _ (aq (l:=aP n) (i:=i) (by omega));have hm2:((aP n).getD (i:Int).toNat default).length≤63:=hm.2;iterate 7 refine ab ?_
    refine ai rfl rfl (aj (0) (hc:=jS _ bE)) ?_;refine ai rfl rfl (bO 803 sc [_] [(_,_)]) ?_;iterate 7 refine ab ?_
    refine ⟨(i+1,_,_),?_,Back.mk' (HasT.cons (HasT.cons HasT.nil)) (HasH.cons HasH.nil),?_⟩
    ·
     try dsimp only
     exact ⟨by omega,by rw [hacc];exact (lR _ (by omega)).symm⟩
    ·
     try dsimp only
     first|omega|(simp;omega)
   ·
    iterate 6 refine ab ?_
    obtain rfl:i=(aP n).length:=by omega
    rw [List.take_length] at hacc;subst hacc;refine ab ?_;refine ai rfl rfl (aj (0) (hc:=(gm _ _ (by first|omega|(simp;omega))))) ?_;iterate 3 refine ab ?_
    refine ak (0) [_] [_] ?_;rw [hw1];rfl
 ·
  iterate 8 refine ab ?_
  refine ak (0) [_] [_] ?_;rw [eK,if_neg (by simp [h1_1])];rfl
theorem az (a b:List UInt8) (ha:a.length≤140737488355328) (hb:b.length≤140737488355328):AC Tryz.prog 42 [str a,str b] emp (Ret (tf (bi a b))):=by
 refine AC.intro te_ok (fn:=Tryz.f42) ⟨Tryz.func42,rfl,rfl⟩ (aE rfl) ?_;iterate 7 refine ab ?_
 refine AOps.bool rfl rfl (aj (0) (hc:=aM _ bE)) (fun h1_1=>?_) (fun h1_1=>?_)
 ·
  iterate 2 refine ab ?_
  refine AOps.gbool rfl rfl rfl rfl rfl (aj (0) (hc:=aM _ bE)) (fun h1_4=>?_) (fun h1_4=>?_)
  ·
   iterate 3 refine ab ?_
   refine cw rfl rfl rfl rfl rfl (aj (0) (hc:=fP _ bE)) ?_;refine ab ?_;refine cw rfl rfl rfl rfl rfl (aj (0) (hc:=fP _ bE)) ?_;refine cw rfl rfl rfl rfl rfl (qf) ?_;iterate 4 refine ab ?_
   refine ak (0) [_] [_] ?_;simp only [bi,h1_1,h1_4];rfl
  ·
   iterate 11 refine ab ?_
   refine ak (0) [_] [_] ?_;simp only [bi,h1_1,h1_4];rfl
 ·
  iterate 14 refine ab ?_
  refine ak (0) [_] [_] ?_;simp only [bi,h1_1];rfl
theorem bA (n:List UInt8) (h:n.length≤140737488355328):AC Tryz.prog 107 [str n] emp (Ret (i64 (dt n))):=by
 refine AC.intro te_ok (fn:=Tryz.f107) ⟨Tryz.func107,rfl,rfl⟩ (aE rfl) ?_;iterate 7 refine ab ?_
 refine ai rfl rfl (aj (0) (hc:=dP _ bE)) ?_;iterate 4 refine ab ?_
 refine ak (0) [_] [_] ?_;rfl
theorem kN (n:List UInt8) (h:n.length≤140737488355328) (k:Int) (hk:-9223372036854775808≤k∧k≤9223372036854775807):AC Tryz.prog 124 [str n,i64 k] emp (Ret (str (mG n k))):=by
 refine AC.intro te_ok (fn:=Tryz.f124) ⟨Tryz.func124,rfl,rfl⟩ (aE rfl) ?_;iterate 8 refine ab ?_
 refine AOps.bool rfl rfl (aj (0) (hc:=aM _ bE)) (fun h1_1=>?_) (fun h1_1=>?_)
 ·
  iterate 7 refine ab ?_
  refine ai rfl rfl (aj (0) (hc:=dP _ bE)) ?_;iterate 4 refine ab ?_
  obtain ⟨hg0,hn0,hl0⟩:=qM h1_1;have hll:=iW n;have hjd:=lY (aP n) (((aP n).length:Int)-min (max k 0) ((aP n).length:Int)).toNat;rw [← hn0] at hjd;refine ab ?_;refine ai rfl rfl (Dt) ?_;iterate 2 refine ab ?_
  refine ai rfl rfl (Gm) ?_;iterate 10 refine ab ?_
  refine ai rfl rfl (aj (0) (hc:=(gm _ _ (by omega)))) ?_;iterate 3 refine ab ?_
  refine ak (0) [_] [_] ?_;rw [mG,if_pos h1_1,show (aP n).length-min (max k 0).toNat (aP n).length=(((aP n).length:Int)-min (max k 0) ((aP n).length:Int)).toNat by omega];rfl
 ·
  iterate 8 refine ab ?_
  refine ak (0) [_] [_] ?_;rw [mG,if_neg (by simp [h1_1])];rfl
theorem be (a b:List UInt8) (ha:a.length≤140737488355328) (hb:b.length≤140737488355328):AC Tryz.prog 81 [str a,str b] emp (Ret (tf (bQ a b))):=by
 have h1:=pG a;have h2:=pG b;have h3:=rH a (dt b);refine AC.intro te_ok (fn:=Tryz.f81) ⟨Tryz.func81,rfl,rfl⟩ (aE rfl) ?_;iterate 7 refine ab ?_
 refine AOps.bool rfl rfl (aj (0) (hc:=aM _ bE)) (fun h1_1=>?_) (fun h1_1=>?_)
 ·
  iterate 2 refine ab ?_
  refine AOps.gbool rfl rfl rfl rfl rfl (aj (0) (hc:=aM _ bE)) (fun h1_4=>?_) (fun h1_4=>?_)
  ·
   iterate 3 refine ab ?_
   refine cw rfl rfl rfl rfl rfl (aj (0) (hc:=bA _ bE)) ?_;refine ab ?_;refine cw rfl rfl rfl rfl rfl (aj (0) (hc:=bA _ bE)) ?_;refine am (fun h1_11=>?_) (fun h1_11=>?_)
   ·
    iterate 4 refine ab ?_
    refine cw rfl rfl rfl rfl rfl (aj (0) (hc:=bA _ bE)) ?_;refine cw rfl rfl rfl rfl rfl (aj (0) (hc:=kN _ bE _ bE)) ?_;refine ab ?_;refine cw rfl rfl rfl rfl rfl (aj (0) (hc:=az _ _ bE bE)) ?_;iterate 4 refine ab ?_
    refine ak (0) [_] [_] ?_;simp only [bQ,h1_1,h1_4,decide_eq_true (show dt b≤dt a by omega)];rfl
   ·
    iterate 12 refine ab ?_
    refine ak (0) [_] [_] ?_;simp only [bQ,h1_1,h1_4,decide_eq_false (show ¬ dt b≤dt a by omega)];rfl
  ·
   iterate 19 refine ab ?_
   refine ak (0) [_] [_] ?_;simp only [bQ,h1_1,h1_4];rfl
 ·
  iterate 22 refine ab ?_
  refine ak (0) [_] [_] ?_;simp only [bQ,h1_1];rfl
def nA (b:List UInt8):Bool:=if h:0<b.length then (if 1+(b.getD 0 default).toNat≤b.length then nA (b.drop (1+(b.getD 0 default).toNat)) else false) else true
termination_by b.length
decreasing_by simp;omega
def tT (b:List UInt8):Bool:=decide (0<b.length)&&nA b
def lK (b:List UInt8):Nat:=4+((b.getD 2 default).toNat*256+(b.getD 3 default).toNat)
def mo (b:List UInt8):Bool:=if h:0<b.length then (if 4≤b.length∧lK b≤b.length then mo (b.drop (lK b)) else false) else true
termination_by b.length
decreasing_by simp [lK];omega
theorem tS {b:List UInt8} (h:b.length=0):nA b=true:=by rw [nA,dif_neg (by omega)]
theorem rG {b:List UInt8} (h:0<b.length) (h2:1+(b.getD 0 default).toNat≤b.length):nA b=nA (b.drop (1+(b.getD 0 default).toNat)):=by rw [nA,dif_pos h,if_pos h2]
theorem wG {b:List UInt8} (h:0<b.length) (h2:b.length<1+(b.getD 0 default).toNat):nA b=false:=by rw [nA,dif_pos h,if_neg (by omega)]
theorem ui {b:List UInt8} (h:b.length=0):mo b=true:=by rw [mo,dif_neg (by omega)]
theorem rR {b:List UInt8} (h:0<b.length) (h4:4≤b.length) (h2:lK b≤b.length):mo b=mo (b.drop (lK b)):=by rw [mo,dif_pos h,if_pos ⟨h4,h2⟩]
theorem pu {b:List UInt8} (h:0<b.length) (h2:b.length<4∨b.length<lK b):mo b=false:=by rw [mo,dif_pos h,if_neg (by omega)]
def dU (t:Int) (d:List UInt8):Bool:=
 if t<0∨65535<t∨65535<d.length then false else if t=1 then decide (d.length=4) else if t=28 then decide (d.length=16) else if t=2∨t=5∨t=12 then bm d
 else if t=15 then decide (2<d.length)&&bm (d.drop 2) else if t=16 then tT d else if t=41 then mo d else true
theorem xC {t:Int} {b:List UInt8} (e:t=15) (h:dU t b=true):2<b.length:=by
 subst e;simp [dU] at h;omega
def gq (t:Int) (d:List UInt8):List (List UInt8):=if dU t d then (if t=2∨t=5∨t=12 then [d] else if t=15 then [d.drop 2] else []) else []
theorem fX (b:List UInt8) (lv:Nat) (h:b.length≤140737488351232):AC Tryz.prog 114 [.fz lv b.length (cl bc b)] emp (Ret (tf (bm b))):=by
 refine AC.intro te_ok (fn:=Tryz.f114) ⟨Tryz.func114,rfl,rfl⟩ (aE rfl) ?_;iterate 7 refine ab ?_
 refine AOps.cons rfl rfl (by first|exact b9|exact aU) ?_;refine ai rfl rfl (aj (0) (hc:=cu _ bE)) ?_;iterate 3 refine ab ?_
 refine ak (0) [_] [_] ?_;first|rfl|(simp;done)
theorem tE (b:List UInt8) (lv:Nat) (h:b.length≤140737488351232):AC Tryz.prog 115 [.fz lv b.length (cl bc b)] emp (Ret (tf (decide (2<b.length)&&bm (b.drop 2)))):=by
 refine AC.intro te_ok (fn:=Tryz.f115) ⟨Tryz.func115,rfl,rfl⟩ (aE rfl) ?_;iterate 8 refine ab ?_
 refine am (fun h1_2=>?_) (fun h1_2=>?_)
 ·
  iterate 3 refine ab ?_
  refine cw rfl rfl rfl rfl rfl (aj (lv) (hc:=fX _ _ bE)) ?_;iterate 4 refine ab ?_
  refine ak (0) [_] [_] ?_;rw [decide_eq_true (show 2<b.length by omega)];rfl
 ·
  iterate 8 refine ab ?_
  refine ak (0) [_] [_] ?_;rw [decide_eq_false (show ¬ 2<b.length by omega)];rfl
theorem ru (b:List UInt8) (lv:Nat) (h:b.length≤140737488351232):AC Tryz.prog 116 [.fz lv b.length (cl bc b)] emp (Ret (tf (tT b))):=by
 refine AC.intro te_ok (fn:=Tryz.f116) ⟨Tryz.func116,rfl,rfl⟩ (aE rfl) ?_;iterate 8 refine ab ?_
 refine ai rfl rfl (gW) ?_;iterate 4 refine ab ?_
 refine AWp.loopR (α:=List UInt8) [0,2,4,8,9,10,11,12,13,14,15,16,17,18,19,20,21,22] (fun c=>[(0,.fz lv c.length (cl bc c))]) (fun c=>[]) (fun c=>nA c=nA b∧c.length≤b.length) (fun c=>c.length) b ?_ (Back.mk' (HasT.cons HasT.nil) HasH.nil) ?_
 ·
  exact ⟨rfl,Nat.le_refl _⟩
 ·
  rintro c ⟨hc,hl⟩;iterate 5 refine ab ?_
  refine am (fun h2_2=>?_) (fun h2_2=>?_)
  ·
   iterate 6 refine ab ?_
   have hk:=(c.getD 0 default).toNat_lt;have he:(c.getD (Int.toNat 0) default).toNat=(c.getD 0 default).toNat:=rfl;have hs:(c[0]?.getD default).toNat=(c.getD 0 default).toNat:=congrArg UInt8.toNat (List.getD_eq_getElem?_getD).symm;iterate 13 refine ab ?_
   refine am (fun h4_3=>?_) (fun h4_3=>?_)
   ·
    iterate 7 refine ab ?_
    refine ak (0) [_] [_] ?_;rw [tT,← hc,wG (by omega) (by omega),Bool.and_false];rfl
   ·
    iterate 9 refine ab ?_
    have e1:((1:Int)+((c.getD (Int.toNat 0) default).toNat:Int)).toNat=1+(c.getD 0 default).toNat:=by omega
    refine ⟨_,?_,Back.mk' (HasT.cons HasT.nil) HasH.nil,?_⟩
    ·
     rw [e1];exact ⟨(rG (by omega) (by omega)).symm.trans hc,by rw [List.length_drop];omega⟩
    ·
     rw [e1,List.length_drop];omega
  ·
   iterate 9 refine ab ?_
   refine ak (0) [_] [_] ?_;rw [tT,← hc,tS (by omega),Bool.and_true];exact congrArg tf (decide_eq_decide.2 (by omega))
theorem pf (b:List UInt8) (lv:Nat) (h:b.length≤140737488351232):AC Tryz.prog 117 [.fz lv b.length (cl bc b)] emp (Ret (tf (mo b))):=by
 refine AC.intro te_ok (fn:=Tryz.f117) ⟨Tryz.func117,rfl,rfl⟩ (aE rfl) ?_;iterate 6 refine ab ?_
 refine AWp.loopR (α:=List UInt8) [0,2,3,4,5,6,7,8,9,10,11,12,13,14,15,16,17,18,19,20,21,22,23,24,25,26,27] (fun c=>[(0,.fz lv c.length (cl bc c))]) (fun c=>[]) (fun c=>mo c=mo b∧c.length≤b.length) (fun c=>c.length) b ?_ (Back.mk' (HasT.cons HasT.nil) HasH.nil) ?_
 ·
  exact ⟨rfl,Nat.le_refl _⟩
 ·
  rintro c ⟨hc,hl⟩;iterate 5 refine ab ?_
  refine am (fun h1_2=>?_) (fun h1_2=>?_)
  ·
   iterate 9 refine ab ?_
   refine am (fun h2_2=>?_) (fun h2_2=>?_)
   ·
    iterate 7 refine ab ?_
    refine ak (0) [_] [_] ?_;rw [← hc,pu (by omega) (by omega)];rfl
   ·
    iterate 4 refine ab ?_
    have hk2:=(c.getD 2 default).toNat_lt;have hk3:=(c.getD 3 default).toNat_lt;have he2:(c.getD (Int.toNat 2) default).toNat=(c.getD 2 default).toNat:=rfl;have he3:(c.getD (Int.toNat 3) default).toNat=(c.getD 3 default).toNat:=rfl;have hs2:(c[2]?.getD default).toNat=(c.getD 2 default).toNat:=congrArg UInt8.toNat (List.getD_eq_getElem?_getD).symm;have hs3:(c[3]?.getD default).toNat=(c.getD 3 default).toNat:=congrArg UInt8.toNat (List.getD_eq_getElem?_getD).symm;refine bj [ag,ag,ag,ag,ag,ag,ag,ag,ag,ag,ag,ag] [af [0] [] 11,af [10] [] 12,af [11] [] 13,af [12] [] 14,af [13] [] 15,af [0] [] 16,af [15] [] 17,af [16] [] 18,af [17] [] 19,af [14,18] [] 20,af [19] [] 21,af [20] [] 4] rfl ⟨ah,ah,ah,ah,aC fun _=>aN rfl rfl (ik 8),ah,ah,ah,ah,aC fun _=>aN rfl rfl (rM),ah,ah,trivial⟩ ?_;iterate 6 refine ab ?_
    refine am (fun h5_3=>?_) (fun h5_3=>?_)
    ·
     iterate 7 refine ab ?_
     refine ak (0) [_] [_] ?_;rw [← hc,pu (by omega) (Or.inr (by unfold lK;omega))];rfl
    ·
     iterate 9 refine ab ?_
     have e1:(4+(((c.getD (Int.toNat 2) default).toNat:Int)*256+((c.getD (Int.toNat 3) default).toNat:Int))).toNat=lK c:=by unfold lK;omega
     refine ⟨_,?_,Back.mk' (HasT.cons HasT.nil) HasH.nil,?_⟩
     ·
      rw [e1];exact ⟨(rR (by omega) (by omega) (by unfold lK;omega)).symm.trans hc,by rw [List.length_drop];omega⟩
     ·
      rw [e1,List.length_drop];unfold lK;omega
  ·
   iterate 8 refine ab ?_
   refine ak (0) [_] [_] ?_;rw [← hc,ui (by omega)];rfl
theorem oV (t:Int) (b:List UInt8) (lv:Nat) (h:b.length≤140737488351232) (ht:t≠6):AC Tryz.prog 74 [i64 t,.fz lv b.length (cl bc b)] emp (Ret (tf (dU t b))):=by
 refine AC.intro te_ok (fn:=Tryz.f74) ⟨Tryz.func74,rfl,rfl⟩ (aE rfl) ?_;iterate 8 refine ab ?_
 refine am (fun h1_1=>?_) (fun h1_1=>?_)
 ·
  iterate 16 refine ab ?_
  refine ak (0) [_] [_] ?_;rw [dU,if_pos (by omega)];rfl
 ·
  iterate 2 refine ab ?_
  refine am (fun h1_4=>?_) (fun h1_4=>?_)
  ·
   iterate 13 refine ab ?_
   refine ak (0) [_] [_] ?_;rw [dU,if_pos (by omega)];rfl
  ·
   iterate 4 refine ab ?_
   refine am (fun h1_9=>?_) (fun h1_9=>?_)
   ·
    iterate 8 refine ab ?_
    refine ak (0) [_] [_] ?_;rw [dU,if_pos (by omega)];rfl
   ·
    iterate 12 refine ab ?_
    refine am (fun h4_0=>?_) (fun h4_0=>?_)
    ·
     iterate 7 refine ab ?_
     refine ai rfl rfl (dm) ?_;iterate 3 refine ab ?_
     refine ak (0) [_] [_] ?_;rw [dU,if_neg (by omega),if_pos h4_0];exact congrArg tf (decide_eq_decide.2 (by omega))
    ·
     iterate 5 refine ab ?_
     refine am (fun h6_0=>?_) (fun h6_0=>?_)
     ·
      iterate 7 refine ab ?_
      refine ai rfl rfl (dm) ?_;iterate 3 refine ab ?_
      refine ak (0) [_] [_] ?_;rw [dU,if_neg (by omega),if_neg h4_0,if_pos h6_0];exact congrArg tf (decide_eq_decide.2 (by omega))
     ·
      iterate 6 refine ab ?_
      refine am (fun h8_0=>?_) (fun h8_0=>?_)
      ·
       iterate 8 refine ab ?_
       refine ai rfl rfl (aj (lv) (hc:=fX _ _ bE)) ?_;iterate 3 refine ab ?_
       refine ak (0) [_] [_] ?_;rw [dU,if_neg (by omega),if_neg h4_0,if_neg h6_0,if_pos (by omega)];rfl
      ·
       iterate 5 refine ab ?_
       refine am (fun h9_0=>?_) (fun h9_0=>?_)
       ·
        iterate 8 refine ab ?_
        refine ai rfl rfl (aj (lv) (hc:=fX _ _ bE)) ?_;iterate 3 refine ab ?_
        refine ak (0) [_] [_] ?_;rw [dU,if_neg (by omega),if_neg h4_0,if_neg h6_0,if_pos (by omega)];rfl
       ·
        iterate 4 refine ab ?_
        refine am (fun h10_0=>?_) (fun h10_0=>?_)
        ·
         iterate 6 refine ab ?_
         refine ai rfl rfl (aj (lv) (hc:=fX _ _ bE)) ?_;iterate 3 refine ab ?_
         refine ak (0) [_] [_] ?_;rw [dU,if_neg (by omega),if_neg h4_0,if_neg h6_0,if_pos (by omega)];rfl
        ·
         iterate 5 refine ab ?_
         refine am (fun h12_0=>?_) (fun h12_0=>?_)
         ·
          iterate 6 refine ab ?_
          refine ai rfl rfl (aj (lv) (hc:=tE _ _ bE)) ?_;iterate 3 refine ab ?_
          refine ak (0) [_] [_] ?_;rw [dU,if_neg (by omega),if_neg h4_0,if_neg h6_0,if_neg (by omega),if_pos h12_0];rfl
         ·
          iterate 5 refine ab ?_
          refine am (fun h14_0=>?_) (fun h14_0=>?_)
          ·
           iterate 6 refine ab ?_
           refine ai rfl rfl (aj (lv) (hc:=ru _ _ bE)) ?_;iterate 3 refine ab ?_
           refine ak (0) [_] [_] ?_;rw [dU,if_neg (by omega),if_neg h4_0,if_neg h6_0,if_neg (by omega),if_neg h12_0,if_pos h14_0];rfl
          ·
           iterate 5 refine ab ?_
           refine am (fun h16_0=>?_) (fun h16_0=>?_)
           ·
            iterate 6 refine ab ?_
            refine ai rfl rfl (aj (lv) (hc:=pf _ _ bE)) ?_;iterate 3 refine ab ?_
            refine ak (0) [_] [_] ?_;rw [dU,if_neg (by omega),if_neg h4_0,if_neg h6_0,if_neg (by omega),if_neg h12_0,if_neg h14_0,if_pos h16_0];rfl
           ·
            iterate 5 refine ab ?_
            refine am (fun h18_0=>?_) (fun h18_0=>?_)
            ·
             exfalso;omega
            ·
             iterate 9 refine ab ?_
             refine ak (0) [_] [_] ?_;rw [dU,if_neg (by omega),if_neg h4_0,if_neg h6_0,if_neg (by omega),if_neg h12_0,if_neg h14_0,if_neg h16_0];rfl
theorem rv (t:Int) (b:List UInt8) (lv:Nat) (h:b.length≤140737488351232) (ht:t≠6):AC Tryz.prog 146 [i64 t,.fz lv b.length (cl bc b)] emp (Ret (.fz 0 (gq t b).length (cl sc (gq t b)))):=by
 refine AC.intro te_ok (fn:=Tryz.f146) ⟨Tryz.func146,rfl,rfl⟩ (aE rfl) ?_;iterate 2 refine ab ?_
 refine ai rfl rfl (aR (0) sc) ?_;iterate 6 refine ab ?_
 refine AOps.bool rfl rfl (aj (lv) (hc:=oV _ _ _ bE bE)) (fun h1_2=>?_) (fun h1_2=>?_)
 ·
  iterate 13 refine ab ?_
  refine am (fun h4_0=>?_) (fun h4_0=>?_)
  ·
   iterate 8 refine ab ?_
   refine AOps.cons rfl rfl (by first|exact b9|exact aU) ?_;refine ai rfl rfl (bO 802 sc [_] [(_,_)]) ?_;iterate 3 refine ab ?_
   refine ak (0) [_] [_] ?_;rw [gq,if_pos h1_2,if_pos (by omega)];rfl
  ·
   iterate 5 refine ab ?_
   refine am (fun h5_0=>?_) (fun h5_0=>?_)
   ·
    iterate 8 refine ab ?_
    refine AOps.cons rfl rfl (by first|exact b9|exact aU) ?_;refine ai rfl rfl (bO 802 sc [_] [(_,_)]) ?_;iterate 3 refine ab ?_
    refine ak (0) [_] [_] ?_;rw [gq,if_pos h1_2,if_pos (by omega)];rfl
   ·
    iterate 4 refine ab ?_
    refine am (fun h6_0=>?_) (fun h6_0=>?_)
    ·
     iterate 6 refine ab ?_
     refine AOps.cons rfl rfl (by first|exact b9|exact aU) ?_;refine ai rfl rfl (bO 802 sc [_] [(_,_)]) ?_;iterate 3 refine ab ?_
     refine ak (0) [_] [_] ?_;rw [gq,if_pos h1_2,if_pos (by omega)];rfl
    ·
     iterate 5 refine ab ?_
     refine am (fun h8_0=>?_) (fun h8_0=>?_)
     ·
      iterate 5 refine ab ?_
      have h2:=xC h8_0 h1_2;iterate 2 refine ab ?_
      refine AOps.cons rfl rfl (by first|exact b9|exact aU) ?_;refine ai rfl rfl (bO 1003 sc [_] [(_,_)]) ?_;iterate 3 refine ab ?_
      refine ak (0) [_] [_] ?_;rw [gq,if_pos h1_2,if_neg (by omega),if_pos h8_0];rfl
     ·
      iterate 5 refine ab ?_
      refine am (fun h10_0=>?_) (fun h10_0=>?_)
      ·
       exfalso;omega
      ·
       iterate 6 refine ab ?_
       refine ai rfl rfl (aR (0) sc) ?_;iterate 2 refine ab ?_
       refine ak (0) [_] [_] ?_;rw [gq,if_pos h1_2,if_neg (by omega),if_neg h8_0];rfl
 ·
  iterate 5 refine ab ?_
  refine ai rfl rfl (aR (0) sc) ?_;iterate 2 refine ab ?_
  refine ak (0) [_] [_] ?_;rw [gq,if_neg (by simp [h1_2])];rfl
def zer (b:List UInt8) (i:Nat):Nat:=if h:i<b.length∧¬ (b.getD i default).toNat=0 then zer b (i+1+(b.getD i default).toNat) else i
termination_by b.length-i
decreasing_by omega
theorem tM {b:List UInt8} {i:Nat} (h:i<b.length) (h2:¬ (b.getD i default).toNat=0):zer b i=zer b (i+1+(b.getD i default).toNat):=by rw [zer,dif_pos ⟨h,h2⟩]
theorem sn {b:List UInt8} {i:Nat} (h:¬ (i<b.length∧¬ (b.getD i default).toNat=0)):zer b i=i:=by rw [zer,dif_neg h]
def i3 (b:List UInt8):Bool:=decide (zer b 0<b.length)&&bm (b.take (zer b 0+1))
def eP (b:List UInt8):List UInt8:=if i3 b then b.take (zer b 0+1) else []
def cutR (b:List UInt8):List UInt8:=if i3 b then b.drop (zer b 0+1) else []
theorem jt {b:List UInt8} (h:i3 b=false):eP b=[]∧cutR b=[]:=by simp [eP,cutR,h]
theorem pF (b:List UInt8):(eP b).length≤255∧(cutR b).length≤b.length:=by
 cases h:i3 b with
 | false=>simp [jt h]
 | true=>
  have h2:=h;simp only [i3,Bool.and_eq_true] at h2;rw [eP,cutR,if_pos h,if_pos h];exact ⟨qN h2.2,by simp⟩
theorem tN:∀ {ls:List (List UInt8)} {b r:List UInt8} {i:Nat},GoodN ls→b.drop i=aw ls++r→zer b i+1=i+(aw ls).length
 | [],b,r,i,_,h=>by
  have hl:=congrArg List.length h;simp [fb] at hl;have hi:i<b.length:=by omega
  rw [List.drop_eq_getElem_cons hi,fb,List.singleton_append] at h;have e:(b.getD i default).toNat=0:=by
   rw [List.getD_eq_getElem?_getD,List.getElem?_eq_getElem hi,Option.getD_some,(List.cons.inj h).1];rfl
  rw [sn (by omega)];rfl
 | l::ls,b,r,i,g,h=>by
  have hl:=congrArg List.length h;have hb:=gn g.head.2;have hh:=g.head;simp [b7] at hl;have hi:i<b.length:=by omega
  have h2:=h;rw [List.drop_eq_getElem_cons hi,b7,List.cons_append,List.append_assoc] at h2;obtain ⟨e1,e2⟩:=List.cons.inj h2;have e:(b.getD i default).toNat=l.length:=by
   rw [List.getD_eq_getElem?_getD,List.getElem?_eq_getElem hi,Option.getD_some,e1];exact hb
  have e3:b.drop (i+1+l.length)=aw ls++r:=by rw [← List.drop_drop,e2,List.drop_left]
  rw [tM hi (by omega),e,tN g.tail e3,b7];simp;omega
theorem AJ {b:List UInt8} {k:Nat} (hk:k≤b.length) (h:bm (b.take k)=true):i3 b=true∧eP b=b.take k∧cutR b=b.drop k:=by
 obtain ⟨ls,g,e,hl⟩:=d9.1 h;have hz:zer b 0+1=k:=by
  have hd:b.drop 0=aw ls++b.drop k:=by rw [← e,List.take_append_drop,List.drop_zero]
  have:=tN g hd;have hlen:=congrArg List.length e;rw [List.length_take] at hlen;omega
 have ho:i3 b=true:=by rw [i3,hz,h,decide_eq_true (by omega)];rfl
 rw [eP,cutR,if_pos ho,if_pos ho,hz];exact ⟨ho,rfl,rfl⟩
theorem uQ {b:List UInt8} (h:∀ j,1≤j→j≤b.length→j≤255→bm (b.take j)=false):i3 b=false:=by
 cases ho:i3 b with
 | false=>rfl
 | true=>
  have h2:=ho;simp only [i3,Bool.and_eq_true,decide_eq_true_eq] at h2;have h3:=qN h2.2;rw [List.length_take] at h3;rw [h (zer b 0+1) (by omega) (by omega) (by omega)] at h2;cases h2.2
def num (l:List UInt8):Int:=l.foldl (fun a x=>a*256+(x.toNat:Int)) 0
theorem un (l:List UInt8) (x:UInt8):num (l++[x])=num l*256+x.toNat:=by simp [num,List.foldl_append]
theorem fr {l:List UInt8} {k:Nat} (h:k<l.length):num (l.take (k+1))=num (l.take k)*256+(l.getD k default).toNat:=by
 rw [List.take_succ_eq_append_getElem h,un,List.getD_eq_getElem?_getD,List.getElem?_eq_getElem h];rfl
theorem zT:∀ (k:Nat) (l:List UInt8),l.length=k→0≤num l∧num l<256 ^ k
 | 0,l,h=>by
  obtain rfl:=List.eq_nil_of_length_eq_zero h;simp [num]
 | k+1,l,h=>by
  have hs:l=l.take k++[l.getD k default]:=by
   rw [List.getD_eq_getElem?_getD,List.getElem?_eq_getElem (by omega),Option.getD_some,← List.take_succ_eq_append_getElem (by omega),List.take_of_length_le (by omega)]
  have:=zT k (l.take k) (by rw [List.length_take];omega);have hx:=(l.getD k default).toNat_lt;rw [hs,un,Int.pow_succ];omega
theorem qp {l:List UInt8} {k:Nat} (h:k<4) (hl:l.length=k):0≤num l∧num l≤16777215:=by
 have:=zT k l hl;have e:k=0∨k=1∨k=2∨k=3:=by omega
 rcases e with rfl|rfl|rfl|rfl<;>simp at this<;>omega
def dg (c:List UInt8) (j:Nat):List UInt8:=(c.take (4*(j:Int)+4).toNat).drop (4*(j:Int)).toNat
theorem oe {c:List UInt8} {j:Nat} (hc:c.length=20) (hj:j<5):(dg c j).length=4:=by rw [dg,List.length_drop,List.length_take];omega
def wd (c:List UInt8) (j i:Nat):Int:=if j<i then num ((dg c j).take 4) else 0
structure Soa where
 m:List UInt8
 r:List UInt8
 n1:Int
 n2:Int
 n3:Int
 n4:Int
 n5:Int
def Gc (x:Soa):AV:=.agg [str x.m,str x.r,i64 x.n1,i64 x.n2,i64 x.n3,i64 x.n4,i64 x.n5]
def gH (b:List UInt8):Bool:=i3 b&&(i3 (cutR b)&&decide ((cutR (cutR b)).length=20))
def mj (b:List UInt8):Soa:=if gH b then ⟨eP b,eP (cutR b),wd (cutR (cutR b)) 0 5,wd (cutR (cutR b)) 1 5,wd (cutR (cutR b)) 2 5,wd (cutR (cutR b)) 3 5,wd (cutR (cutR b)) 4 5⟩ else ⟨[],[],0,0,0,0,0⟩
theorem kW {b:List UInt8} (h:gH b=false):mj b=⟨[],[],0,0,0,0,0⟩:=by rw [mj,if_neg (by simp [h])]
theorem Aw {c:List UInt8} {j:Nat} (hc:c.length=20) (hj:j<5):(((((c.getD (4*j) default).toNat:Int)*256+((c.getD (4*j+1) default).toNat:Int))*256+((c.getD (4*j+2) default).toNat:Int))*256+((c.getD (4*j+3) default).toNat:Int))=wd c j 5:=by
 have hl:=oe hc hj;have hg:∀ k,k<4→(dg c j).getD k default=c.getD (4*j+k) default:=by
  intro k hk;rw [dg,List.getD_eq_getElem?_getD,List.getD_eq_getElem?_getD,List.getElem?_drop,List.getElem?_take,if_pos (by omega)];congr 2<;>omega
 rw [wd,if_pos hj,fr (by omega),fr (by omega),fr (by omega),fr (by omega),hg 0 (by omega),hg 1 (by omega),hg 2 (by omega),hg 3 (by omega)];simp [num]
theorem oT (b:List UInt8) (lv:Nat) (h:b.length≤140737488351232):AC Tryz.prog 149 [.fz lv b.length (cl bc b)] emp (Ret (.tup [str (eP b),.fz lv (cutR b).length (cl bc (cutR b)),tf (i3 b)])):=by
 refine AC.intro te_ok (fn:=Tryz.f149) ⟨Tryz.func149,rfl,rfl⟩ (aE rfl) ?_;iterate 3 refine ab ?_
 refine ai rfl rfl (aR (lv) bc) ?_;iterate 8 refine ab ?_
 refine AWp.loopR (α:=Nat) [5,6,7,8,9,10,11,12,13,14,15,16,17,18,19,20,21,22,23,24] (fun i=>[(5,i64 i)]) (fun i=>[]) (fun i=>zer b i=zer b 0∧i≤b.length+255) (fun i=>b.length-i) 0 ?_ (Back.mk' (HasT.cons HasT.nil) HasH.nil) ?_
 ·
  exact ⟨rfl,Nat.zero_le _⟩
 ·
  rintro i ⟨hz,hi⟩;iterate 6 refine ab ?_
  refine am (fun h2_3=>?_) (fun h2_3=>?_)
  ·
   iterate 5 refine ab ?_
   refine am (fun h2_9=>?_) (fun h2_9=>?_)
   ·
    iterate 6 refine ab ?_
    have hk:=(b.getD i default).toNat_lt;have he:(b.getD (i:Int).toNat default).toNat=(b.getD i default).toNat:=rfl;have k9:¬ (b.getD i default).toNat=0:=fun e=>h2_9 (by show ((b.getD i default).toNat:Int)=0;omega)
    iterate 10 refine ab ?_
    refine ⟨i+1+(b.getD i default).toNat,?_,Back.mk' (HasT.cons HasT.nil (h1:=by exact ci (by show (i:Int)+(1+((b.getD i default).toNat:Int))=((i+1+(b.getD i default).toNat:Nat):Int);omega)) ) HasH.nil,?_⟩
    ·
     exact ⟨(tM (by omega) k9).symm.trans hz,by omega⟩
    ·
     omega
   ·
    iterate 7 refine ab ?_
    have k9:((b.getD i default).toNat:Int)=0:=Classical.not_not.1 h2_9;have hz0:zer b 0=i:=by rw [← hz];exact sn (by omega)
    iterate 3 refine ab ?_
    refine am (fun h4_3=>?_) (fun h4_3=>?_)
    ·
     exfalso;omega
    ·
     refine ab ?_;have ei:((i:Int)+1).toNat=i+1:=by omega
     iterate 4 refine ab ?_
     refine AOps.gcons rfl rfl rfl rfl rfl (by first|exact b9|exact aU) ?_;refine AOps.gbool rfl rfl rfl rfl rfl (aj (lv) (hc:=cu _ bE)) (fun h4_10=>?_) (fun h4_10=>?_)
     ·
      iterate 6 refine ab ?_
      refine bj [ag,ag,ag,ag,ag,ag,ag,ag,ag,ag,ag,ag] [af [0] [] 39,af [5] [] 40,af [39] [] 41,af [38,40] [] 42,af [41] [] 43,af [0] [] 44,af [5] [] 45,af [44] [] 46,af [43,45] [] 47,af [42] [] 3,af [46] [] 4,af [] [] 5] rfl ⟨ah,ah,ah,ah,aC fun _=>aN rfl rfl (by first|exact b9|exact aU),ah,ah,ah,ah,ah,ah,ah,trivial⟩ ?_;refine ab ?_;refine ak (lv) [_,_,_] [_,_,_] ?_;rw [ei] at h4_10;obtain ⟨q1,q2,q3⟩:=AJ (b:=b) (k:=i+1) (by omega) h4_10;rw [q1,q2,q3,ei];rfl
     ·
      iterate 7 refine ab ?_
      refine ai rfl rfl (aR (lv) bc) ?_;iterate 3 refine ab ?_
      refine ak (lv) [_,_,_] [_,_,_] ?_;have ho:i3 b=false:=by rw [ei] at h4_10;rw [i3,hz0,h4_10,Bool.and_false]
      rw [(jt ho).1,(jt ho).2,ho];rfl
  ·
   iterate 13 refine ab ?_
   have hz0:zer b 0=i:=by rw [← hz];exact sn (by omega)
   iterate 3 refine ab ?_
   refine am (fun h4_3=>?_) (fun h4_3=>?_)
   ·
    refine ab ?_;have ei:((i:Int)+1).toNat=i+1:=by omega
    iterate 13 refine ab ?_
    refine ai rfl rfl (aR (lv) bc) ?_;iterate 3 refine ab ?_
    refine ak (lv) [_,_,_] [_,_,_] ?_;have ho:i3 b=false:=by rw [i3,hz0,decide_eq_false (by omega)];rfl
    rw [(jt ho).1,(jt ho).2,ho];rfl
   ·
    exfalso;omega
theorem oU (b:List UInt8) (lv:Nat) (h:b.length≤140737488351232):AC Tryz.prog 118 [.fz lv b.length (cl bc b)] emp (Ret (.tup [Gc (mj b),tf (gH b)])):=by
 have hc1:=pF b;have hc2:=pF (cutR b);refine AC.intro te_ok (fn:=Tryz.f118) ⟨Tryz.func118,rfl,rfl⟩ (aE rfl) ?_;iterate 2 refine ab ?_
 refine ai rfl rfl (ap 100) ?_;iterate 4 refine ab ?_
 refine ai rfl rfl (ap 200) ?_;iterate 14 refine ab ?_
 refine ai rfl rfl (aj (lv) (hc:=oT _ _ bE)) ?_;iterate 3 refine ab ?_
 refine AOps.bool rfl rfl (bM) (fun h4_5=>?_) (fun h4_5=>?_)
 ·
  iterate 16 refine ab ?_
  refine ai rfl rfl (aj (lv) (hc:=oT _ _ bE)) ?_;iterate 3 refine ab ?_
  refine AOps.bool rfl rfl (bM) (fun h7_5=>?_) (fun h7_5=>?_)
  ·
   iterate 12 refine ab ?_
   refine am (fun h8_5=>?_) (fun h8_5=>?_)
   ·
    iterate 5 refine ab ?_
    refine ai rfl rfl (aL []) ?_;iterate 4 refine ab ?_
    refine ak (0) [_,_] [_,_] ?_;have ho:gH b=false:=by rw [gH,decide_eq_false (by omega),Bool.and_false,Bool.and_false]
    rw [kW ho,ho];rfl
   ·
    iterate 7 refine ab ?_
    have hc20:(cutR (cutR b)).length=20:=by omega
    have hL5:([2,3,4,5,6]:List Nat).length=5:=rfl;iterate 5 refine ab ?_
    refine ai rfl rfl (bO 1105 (fun k=>[AV.ptr 200 0 k]) [2,3,4,5,6] [(_,_),(_,_),(_,_),(_,_),(_,_)]) ?_;iterate 4 refine ab ?_
    refine AWp.loopR (α:=Nat) [7,8,10,44,45,46,47,48,49,50,51,52,53,54,55,56,57,58,59,60,61,62,63,64,65,66,67,68,69,70,71] (fun i=>[(44,i64 i)]) (fun i=>[(200,.box [str (eP b),str (eP (cutR b)),i64 (wd (cutR (cutR b)) 0 i),i64 (wd (cutR (cutR b)) 1 i),i64 (wd (cutR (cutR b)) 2 i),i64 (wd (cutR (cutR b)) 3 i),i64 (wd (cutR (cutR b)) 4 i)])]) (fun i=>i≤5) (fun i=>5-i) 0 ?_ (Back.mk' (HasT.cons HasT.nil) (HasH.cons HasH.nil)) ?_
    ·
     exact Nat.zero_le _
    ·
     rintro i hi;iterate 2 refine ab ?_
     refine am (fun h11_0=>?_) (fun h11_0=>?_)
     ·
      iterate 8 refine ab ?_
      obtain rfl|rfl|rfl|rfl|rfl:i=0∨i=1∨i=2∨i=3∨i=4:=by omega
      ·
       iterate 2 refine ab ?_
       refine ai rfl rfl (bb (z:=.ptr 200 0 2) (hy:=rfl)) ?_;iterate 16 refine ab ?_
       refine AWp.loopR (α:=Nat) [10,57,58,59,60,61,62,63,64,65,66,67,68,69,70] (fun k=>[(57,i64 k)]) (fun k=>[(200,.box [str (eP b),str (eP (cutR b)),i64 (num ((dg (cutR (cutR b)) 0).take k)),i64 (wd (cutR (cutR b)) 1 0),i64 (wd (cutR (cutR b)) 2 0),i64 (wd (cutR (cutR b)) 3 0),i64 (wd (cutR (cutR b)) 4 0)])]) (fun k=>k≤4) (fun k=>4-k) 0 ?_ (Back.mk' (HasT.cons HasT.nil) (HasH.cons HasH.nil)) ?_
       ·
        exact Nat.zero_le _
       ·
        rintro k hk;have hD:=oe (j:=0) hc20 (by omega);have hn:k<4→0≤num ((dg (cutR (cutR b)) 0).take k)∧num ((dg (cutR (cutR b)) 0).take k)≤16777215:=fun h4=>qp h4 (by rw [List.length_take];omega)
        have hDl:((dg (cutR (cutR b)) 0).length:Int)=4:=by omega
        have hDl2:((List.drop (4*((0:Nat):Int)).toNat (List.take (4*((0:Nat):Int)+4).toNat (cutR (cutR b)))).length:Int)=4:=hDl;have hby:((List.drop (4*((0:Nat):Int)).toNat (List.take (4*((0:Nat):Int)+4).toNat (cutR (cutR b)))).getD (k:Int).toNat default).toNat<256:=((dg (cutR (cutR b)) 0).getD k default).toNat_lt;iterate 2 refine ab ?_
        refine am (fun h14_0=>?_) (fun h14_0=>?_)
        ·
         iterate 17 refine ab ?_
         refine ai rfl rfl (ik 8) ?_;iterate 2 refine ab ?_
         refine ai rfl rfl (rM) ?_;iterate 7 refine ab ?_
         have hst:=fr (l:=dg (cutR (cutR b)) 0) (k:=k) (by omega);refine ⟨k+1,?_,Back.mk' (HasT.cons HasT.nil) (HasH.cons HasH.nil (h1:=by rw [hst];rfl) ),?_⟩
         ·
          omega
         ·
          omega
        ·
         iterate 5 refine ab ?_
         obtain rfl:k=4:=by omega
         iterate 3 refine ab ?_
         refine ⟨1,?_,Back.mk' (HasT.cons HasT.nil) (HasH.cons HasH.nil),?_⟩
         ·
          omega
         ·
          omega
      ·
       iterate 2 refine ab ?_
       refine ai rfl rfl (bb (z:=.ptr 200 0 3) (hy:=rfl)) ?_;iterate 16 refine ab ?_
       refine AWp.loopR (α:=Nat) [10,57,58,59,60,61,62,63,64,65,66,67,68,69,70] (fun k=>[(57,i64 k)]) (fun k=>[(200,.box [str (eP b),str (eP (cutR b)),i64 (wd (cutR (cutR b)) 0 1),i64 (num ((dg (cutR (cutR b)) 1).take k)),i64 (wd (cutR (cutR b)) 2 1),i64 (wd (cutR (cutR b)) 3 1),i64 (wd (cutR (cutR b)) 4 1)])]) (fun k=>k≤4) (fun k=>4-k) 0 ?_ (Back.mk' (HasT.cons HasT.nil) (HasH.cons HasH.nil)) ?_
       ·
        exact Nat.zero_le _
       ·
        rintro k hk;have hD:=oe (j:=1) hc20 (by omega);have hn:k<4→0≤num ((dg (cutR (cutR b)) 1).take k)∧num ((dg (cutR (cutR b)) 1).take k)≤16777215:=fun h4=>qp h4 (by rw [List.length_take];omega)
        have hDl:((dg (cutR (cutR b)) 1).length:Int)=4:=by omega
        have hDl2:((List.drop (4*((1:Nat):Int)).toNat (List.take (4*((1:Nat):Int)+4).toNat (cutR (cutR b)))).length:Int)=4:=hDl;have hby:((List.drop (4*((1:Nat):Int)).toNat (List.take (4*((1:Nat):Int)+4).toNat (cutR (cutR b)))).getD (k:Int).toNat default).toNat<256:=((dg (cutR (cutR b)) 1).getD k default).toNat_lt;iterate 2 refine ab ?_
        refine am (fun h14_0=>?_) (fun h14_0=>?_)
        ·
         iterate 17 refine ab ?_
         refine ai rfl rfl (ik 8) ?_;iterate 2 refine ab ?_
         refine ai rfl rfl (rM) ?_;iterate 7 refine ab ?_
         have hst:=fr (l:=dg (cutR (cutR b)) 1) (k:=k) (by omega);refine ⟨k+1,?_,Back.mk' (HasT.cons HasT.nil) (HasH.cons HasH.nil (h1:=by rw [hst];rfl) ),?_⟩
         ·
          omega
         ·
          omega
        ·
         iterate 5 refine ab ?_
         obtain rfl:k=4:=by omega
         iterate 3 refine ab ?_
         refine ⟨2,?_,Back.mk' (HasT.cons HasT.nil) (HasH.cons HasH.nil),?_⟩
         ·
          omega
         ·
          omega
      ·
       iterate 2 refine ab ?_
       refine ai rfl rfl (bb (z:=.ptr 200 0 4) (hy:=rfl)) ?_;iterate 16 refine ab ?_
       refine AWp.loopR (α:=Nat) [10,57,58,59,60,61,62,63,64,65,66,67,68,69,70] (fun k=>[(57,i64 k)]) (fun k=>[(200,.box [str (eP b),str (eP (cutR b)),i64 (wd (cutR (cutR b)) 0 2),i64 (wd (cutR (cutR b)) 1 2),i64 (num ((dg (cutR (cutR b)) 2).take k)),i64 (wd (cutR (cutR b)) 3 2),i64 (wd (cutR (cutR b)) 4 2)])]) (fun k=>k≤4) (fun k=>4-k) 0 ?_ (Back.mk' (HasT.cons HasT.nil) (HasH.cons HasH.nil)) ?_
       ·
        exact Nat.zero_le _
       ·
        rintro k hk;have hD:=oe (j:=2) hc20 (by omega);have hn:k<4→0≤num ((dg (cutR (cutR b)) 2).take k)∧num ((dg (cutR (cutR b)) 2).take k)≤16777215:=fun h4=>qp h4 (by rw [List.length_take];omega)
        have hDl:((dg (cutR (cutR b)) 2).length:Int)=4:=by omega
        have hDl2:((List.drop (4*((2:Nat):Int)).toNat (List.take (4*((2:Nat):Int)+4).toNat (cutR (cutR b)))).length:Int)=4:=hDl;have hby:((List.drop (4*((2:Nat):Int)).toNat (List.take (4*((2:Nat):Int)+4).toNat (cutR (cutR b)))).getD (k:Int).toNat default).toNat<256:=((dg (cutR (cutR b)) 2).getD k default).toNat_lt;iterate 2 refine ab ?_
        refine am (fun h14_0=>?_) (fun h14_0=>?_)
        ·
         iterate 17 refine ab ?_
         refine ai rfl rfl (ik 8) ?_;iterate 2 refine ab ?_
         refine ai rfl rfl (rM) ?_;iterate 7 refine ab ?_
         have hst:=fr (l:=dg (cutR (cutR b)) 2) (k:=k) (by omega);refine ⟨k+1,?_,Back.mk' (HasT.cons HasT.nil) (HasH.cons HasH.nil (h1:=by rw [hst];rfl) ),?_⟩
         ·
          omega
         ·
          omega
        ·
         iterate 5 refine ab ?_
         obtain rfl:k=4:=by omega
         iterate 3 refine ab ?_
         refine ⟨3,?_,Back.mk' (HasT.cons HasT.nil) (HasH.cons HasH.nil),?_⟩
         ·
          omega
         ·
          omega
      ·
       iterate 2 refine ab ?_
       refine ai rfl rfl (bb (z:=.ptr 200 0 5) (hy:=rfl)) ?_;iterate 16 refine ab ?_
       refine AWp.loopR (α:=Nat) [10,57,58,59,60,61,62,63,64,65,66,67,68,69,70] (fun k=>[(57,i64 k)]) (fun k=>[(200,.box [str (eP b),str (eP (cutR b)),i64 (wd (cutR (cutR b)) 0 3),i64 (wd (cutR (cutR b)) 1 3),i64 (wd (cutR (cutR b)) 2 3),i64 (num ((dg (cutR (cutR b)) 3).take k)),i64 (wd (cutR (cutR b)) 4 3)])]) (fun k=>k≤4) (fun k=>4-k) 0 ?_ (Back.mk' (HasT.cons HasT.nil) (HasH.cons HasH.nil)) ?_
       ·
        exact Nat.zero_le _
       ·
        rintro k hk;have hD:=oe (j:=3) hc20 (by omega);have hn:k<4→0≤num ((dg (cutR (cutR b)) 3).take k)∧num ((dg (cutR (cutR b)) 3).take k)≤16777215:=fun h4=>qp h4 (by rw [List.length_take];omega)
        have hDl:((dg (cutR (cutR b)) 3).length:Int)=4:=by omega
        have hDl2:((List.drop (4*((3:Nat):Int)).toNat (List.take (4*((3:Nat):Int)+4).toNat (cutR (cutR b)))).length:Int)=4:=hDl;have hby:((List.drop (4*((3:Nat):Int)).toNat (List.take (4*((3:Nat):Int)+4).toNat (cutR (cutR b)))).getD (k:Int).toNat default).toNat<256:=((dg (cutR (cutR b)) 3).getD k default).toNat_lt;iterate 2 refine ab ?_
        refine am (fun h14_0=>?_) (fun h14_0=>?_)
        ·
         iterate 17 refine ab ?_
         refine ai rfl rfl (ik 8) ?_;iterate 2 refine ab ?_
         refine ai rfl rfl (rM) ?_;iterate 7 refine ab ?_
         have hst:=fr (l:=dg (cutR (cutR b)) 3) (k:=k) (by omega);refine ⟨k+1,?_,Back.mk' (HasT.cons HasT.nil) (HasH.cons HasH.nil (h1:=by rw [hst];rfl) ),?_⟩
         ·
          omega
         ·
          omega
        ·
         iterate 5 refine ab ?_
         obtain rfl:k=4:=by omega
         iterate 3 refine ab ?_
         refine ⟨4,?_,Back.mk' (HasT.cons HasT.nil) (HasH.cons HasH.nil),?_⟩
         ·
          omega
         ·
          omega
      ·
       iterate 2 refine ab ?_
       refine ai rfl rfl (bb (z:=.ptr 200 0 6) (hy:=rfl)) ?_;iterate 16 refine ab ?_
       refine AWp.loopR (α:=Nat) [10,57,58,59,60,61,62,63,64,65,66,67,68,69,70] (fun k=>[(57,i64 k)]) (fun k=>[(200,.box [str (eP b),str (eP (cutR b)),i64 (wd (cutR (cutR b)) 0 4),i64 (wd (cutR (cutR b)) 1 4),i64 (wd (cutR (cutR b)) 2 4),i64 (wd (cutR (cutR b)) 3 4),i64 (num ((dg (cutR (cutR b)) 4).take k))])]) (fun k=>k≤4) (fun k=>4-k) 0 ?_ (Back.mk' (HasT.cons HasT.nil) (HasH.cons HasH.nil)) ?_
       ·
        exact Nat.zero_le _
       ·
        rintro k hk;have hD:=oe (j:=4) hc20 (by omega);have hn:k<4→0≤num ((dg (cutR (cutR b)) 4).take k)∧num ((dg (cutR (cutR b)) 4).take k)≤16777215:=fun h4=>qp h4 (by rw [List.length_take];omega)
        have hDl:((dg (cutR (cutR b)) 4).length:Int)=4:=by omega
        have hDl2:((List.drop (4*((4:Nat):Int)).toNat (List.take (4*((4:Nat):Int)+4).toNat (cutR (cutR b)))).length:Int)=4:=hDl;have hby:((List.drop (4*((4:Nat):Int)).toNat (List.take (4*((4:Nat):Int)+4).toNat (cutR (cutR b)))).getD (k:Int).toNat default).toNat<256:=((dg (cutR (cutR b)) 4).getD k default).toNat_lt;iterate 2 refine ab ?_
        refine am (fun h14_0=>?_) (fun h14_0=>?_)
        ·
         iterate 17 refine ab ?_
         refine ai rfl rfl (ik 8) ?_;iterate 2 refine ab ?_
         refine ai rfl rfl (rM) ?_;iterate 7 refine ab ?_
         have hst:=fr (l:=dg (cutR (cutR b)) 4) (k:=k) (by omega);refine ⟨k+1,?_,Back.mk' (HasT.cons HasT.nil) (HasH.cons HasH.nil (h1:=by rw [hst];rfl) ),?_⟩
         ·
          omega
         ·
          omega
        ·
         iterate 5 refine ab ?_
         obtain rfl:k=4:=by omega
         iterate 3 refine ab ?_
         refine ⟨5,?_,Back.mk' (HasT.cons HasT.nil) (HasH.cons HasH.nil),?_⟩
         ·
          omega
         ·
          omega
     ·
      iterate 6 refine ab ?_
      obtain rfl:i=5:=by omega
      have ho:gH b=true:=by rw [gH,h4_5,h7_5,decide_eq_true (by omega)];rfl
      have hv:mj b=⟨eP b,eP (cutR b),wd (cutR (cutR b)) 0 5,wd (cutR (cutR b)) 1 5,wd (cutR (cutR b)) 2 5,wd (cutR (cutR b)) 3 5,wd (cutR (cutR b)) 4 5⟩:=by rw [mj,if_pos ho]
      iterate 5 refine ab ?_
      refine ak (0) [_,_] [_,_] ?_;rw [hv,ho];rfl
  ·
   iterate 18 refine ab ?_
   refine ai rfl rfl (aL []) ?_;iterate 4 refine ab ?_
   refine ak (0) [_,_] [_,_] ?_;have ho:gH b=false:=by rw [gH,h7_5,Bool.false_and,Bool.and_false]
   rw [kW ho,ho];rfl
 ·
  iterate 13 refine ab ?_
  refine ai rfl rfl (aL []) ?_;iterate 4 refine ab ?_
  refine ak (0) [_,_] [_,_] ?_;have ho:gH b=false:=by rw [gH,h4_5];rfl
  rw [kW ho,ho];rfl
def oQ (b:List UInt8):Int:=(((((b.getD 0 default).toNat:Int)*256+((b.getD 1 default).toNat:Int))*256+((b.getD 2 default).toNat:Int))*256+((b.getD 3 default).toNat:Int))
theorem i1 {c:List UInt8} {j:Nat} (hc:c.length=20) (hj:j<5):oQ (c.drop (4*j))=wd c j 5:=by
 rw [← Aw hc hj,oQ];have e:∀ k,(c.drop (4*j)).getD k default=c.getD (4*j+k) default:=fun k=>by rw [List.getD_eq_getElem?_getD,List.getD_eq_getElem?_getD,List.getElem?_drop]
 rw [e 0,e 1,e 2,e 3];rfl
def fA (t:Int) (d:List UInt8):Bool:=if t=6 then decide (d.length≤65535)&&gH d else dU t d
def bF (t:Int) (d:List UInt8):List (List UInt8):=if t=6 then (if fA 6 d then [(mj d).m,(mj d).r] else []) else gq t d
theorem c7 {t:Int} {d:List UInt8} (h:t≠6):fA t d=dU t d:=if_neg h
theorem gM {t:Int} {d:List UInt8} (h:t≠6):bF t d=gq t d:=if_neg h
theorem AZ {d:List UInt8} (h:d.length≤65535):fA 6 d=gH d:=by rw [fA,if_pos rfl,decide_eq_true h,Bool.true_and]
theorem xA {d:List UInt8} (h:¬ d.length≤65535):fA 6 d=false:=by rw [fA,if_pos rfl,decide_eq_false h,Bool.false_and]
theorem rx (l m:List UInt8) (lv lw:Nat):AC Tryz.prog 13 [.fz lv l.length (cl bc l),.fz lw m.length (cl bc m)] emp (Ret (tf (decide (l=m)))):=by
 refine AC.intro te_ok (fn:=Tryz.f13) ⟨Tryz.func13,rfl,rfl⟩ (aE rfl) ?_;iterate 7 refine ab ?_
 refine AOps.cons rfl rfl (by first|exact b9|exact aU) ?_;refine ab ?_;refine AOps.cons rfl rfl (by first|exact b9|exact aU) ?_;refine ai rfl rfl (qf) ?_;iterate 3 refine ab ?_
 refine ak (0) [_] [_] ?_;first|rfl|(simp;done)
theorem iI (l:List UInt8) (lv:Nat) (h:l.length≤140737488351232):AC Tryz.prog 19 [.fz lv l.length (cl bc l)] emp (Ret (.fz 0 l.length (cl bc l))):=by
 refine AC.intro te_ok (fn:=Tryz.f19) ⟨Tryz.func19,rfl,rfl⟩ (aE rfl) ?_;iterate 2 refine ab ?_
 refine ai rfl rfl (aR (0) bc) ?_;iterate 5 refine ab ?_
 refine AOps.snil (fun h1_1=>?_) ?_
 ·
  iterate 4 refine ab ?_
  refine ai rfl rfl (aR (0) bc) ?_;iterate 2 refine ab ?_
  refine ak (0) [_] [_] ?_;obtain rfl:=List.eq_nil_of_length_eq_zero h1_1;rfl
 ·
  iterate 5 refine ab ?_
  refine ai rfl rfl (bO 400 bc [] []) ?_;iterate 5 refine ab ?_
  refine ak (0) [_] [_] ?_;rfl
theorem fM (b:List UInt8) (lv:Nat) (h:b.length≤140737488351232):AC Tryz.prog 150 [.fz lv b.length (cl bc b)] emp (Ret (.tup [str (eP b),.fz lv (cutR b).length (cl bc (cutR b)),tf (i3 b)])):=by
 refine AC.intro te_ok (fn:=Tryz.f150) ⟨Tryz.func150,rfl,rfl⟩ (aE rfl) ?_;iterate 3 refine ab ?_
 refine ai rfl rfl (aR (lv) bc) ?_;iterate 8 refine ab ?_
 refine AWp.loopR (α:=Nat) [2,3,4,5,6,7,8,9,10,11,12,13,14,15,16,17,18,19,20,21,22,23,24,25,26,27] (fun k=>[(5,i64 k)]) (fun k=>[]) (fun k=>1≤k∧k≤256∧∀ j,1≤j→j<k→bm (b.take j)=false) (fun k=>256-k) 1 ?_ (Back.mk' (HasT.cons HasT.nil) HasH.nil) ?_
 ·
  exact ⟨by omega,by omega,fun j h1 h2=>by omega⟩
 ·
  rintro k ⟨hk1,hk2,hk⟩;iterate 6 refine ab ?_
  refine am (fun h2_3=>?_) (fun h2_3=>?_)
  ·
   iterate 2 refine ab ?_
   refine am (fun h2_6=>?_) (fun h2_6=>?_)
   ·
    iterate 11 refine ab ?_
    refine AOps.cons rfl rfl (by first|exact b9|exact aU) ?_;refine AOps.bool rfl rfl (aj (lv) (hc:=aM _ bE)) (fun h4_4=>?_) (fun h4_4=>?_)
    ·
     iterate 3 refine ab ?_
     refine bj [ag,ag,ag,ag,ag,ag,ag,ag,ag,ag] [af [0] [] 22,af [5] [] 23,af [21,22] [] 24,af [23] [] 25,af [0] [] 26,af [5] [] 27,af [25,26] [] 28,af [24] [] 3,af [27] [] 4,af [] [] 5] rfl ⟨ah,ah,ah,aC fun _=>aN rfl rfl (by first|exact b9|exact aU),ah,ah,ah,ah,ah,ah,trivial⟩ ?_;refine ab ?_;refine ak (lv) [_,_,_] [_,_,_] ?_;obtain ⟨q1,q2,q3⟩:=AJ (b:=b) (k:=k) (by omega) h4_4;rw [q1,q2,q3];rfl
    ·
     iterate 8 refine ab ?_
     refine ⟨k+1,?_,Back.mk' (HasT.cons HasT.nil) HasH.nil,?_⟩
     ·
      refine ⟨by omega,by omega,fun j h1 h2=>?_⟩;by_cases e:j=k
      · subst e;exact h4_4
      · exact hk j h1 (by omega)
     ·
      omega
   ·
    iterate 7 refine ab ?_
    refine ai rfl rfl (aR (lv) bc) ?_;iterate 3 refine ab ?_
    refine ak (lv) [_,_,_] [_,_,_] ?_;have ho:=uQ (b:=b) (fun j h1 h2 h3=>hk j h1 (by omega));rw [(jt ho).1,(jt ho).2,ho];rfl
  ·
   iterate 10 refine ab ?_
   refine ai rfl rfl (aR (lv) bc) ?_;iterate 3 refine ab ?_
   refine ak (lv) [_,_,_] [_,_,_] ?_;have ho:=uQ (b:=b) (fun j h1 h2 h3=>hk j h1 (by omega));rw [(jt ho).1,(jt ho).2,ho];rfl
theorem cy (b:List UInt8) (lv:Nat) (h:b.length≤140737488351232) (h4:4≤b.length):AC Tryz.prog 151 [.fz lv b.length (cl bc b)] emp (Ret (i64 (oQ b))):=by
 have f0:=(b.getD (Int.toNat 0) default).toNat_lt;have g0:=(b[0]?.getD default).toNat_lt;have f1:=(b.getD (Int.toNat 1) default).toNat_lt;have g1:=(b[1]?.getD default).toNat_lt;have f2:=(b.getD (Int.toNat 2) default).toNat_lt;have g2:=(b[2]?.getD default).toNat_lt;have f3:=(b.getD (Int.toNat 3) default).toNat_lt;have g3:=(b[3]?.getD default).toNat_lt;refine AC.intro te_ok (fn:=Tryz.f151) ⟨Tryz.func151,rfl,rfl⟩ (aE rfl) ?_;iterate 5 refine ab ?_
 refine bj [ag,ag,ag,ag,ag,ag,ag,ag,ag,ag,ag,ag,ag,ag,ag,ag,ag,ag,ag,ag,ag,ag,ag] [af [0] [] 4,af [3] [] 5,af [4] [] 6,af [5] [] 7,af [6] [] 8,af [0] [] 9,af [8] [] 10,af [9] [] 11,af [10] [] 12,af [7,11] [] 13,af [12] [] 14,af [0] [] 15,af [14] [] 16,af [15] [] 17,af [16] [] 18,af [13,17] [] 19,af [18] [] 20,af [0] [] 21,af [20] [] 22,af [21] [] 23,af [22] [] 24,af [19,23] [] 25,af [24] [] 3] rfl ⟨ah,ah,ah,ah,ah,ah,ah,ah,ah,ah,ah,ah,ah,ah,ah,ah,ah,ah,ah,ah,ah,ah,ah,trivial⟩ ?_;refine ab ?_;refine ak (0) [_] [_] ?_;rfl
theorem gC (b:List UInt8) (lv:Nat) (h:b.length≤140737488351232):AC Tryz.prog 125 [.fz lv b.length (cl bc b)] emp (Ret (.tup [Gc (mj b),tf (gH b)])):=by
 have hc1:=pF b;have hc2:=pF (cutR b);refine AC.intro te_ok (fn:=Tryz.f125) ⟨Tryz.func125,rfl,rfl⟩ (aE rfl) ?_;iterate 2 refine ab ?_
 refine ai rfl rfl (ap 100) ?_;iterate 5 refine ab ?_
 refine ai rfl rfl (aj (lv) (hc:=fM _ _ bE)) ?_;iterate 3 refine ab ?_
 refine AOps.bool rfl rfl (bM) (fun h1_5=>?_) (fun h1_5=>?_)
 ·
  iterate 15 refine ab ?_
  refine ai rfl rfl (aj (lv) (hc:=fM _ _ bE)) ?_;iterate 3 refine ab ?_
  refine AOps.bool rfl rfl (bM) (fun h4_5=>?_) (fun h4_5=>?_)
  ·
   iterate 12 refine ab ?_
   refine am (fun h5_5=>?_) (fun h5_5=>?_)
   ·
    iterate 5 refine ab ?_
    refine ai rfl rfl (aL []) ?_;iterate 4 refine ab ?_
    refine ak (0) [_,_] [_,_] ?_;have ho:gH b=false:=by rw [gH,decide_eq_false (by omega),Bool.and_false,Bool.and_false]
    rw [kW ho,ho];rfl
   ·
    iterate 5 refine ab ?_
    have hc20:(cutR (cutR b)).length=20:=by omega
    have ho:gH b=true:=by rw [gH,h1_5,h4_5,decide_eq_true (by omega)];rfl
    have hv:mj b=⟨eP b,eP (cutR b),wd (cutR (cutR b)) 0 5,wd (cutR (cutR b)) 1 5,wd (cutR (cutR b)) 2 5,wd (cutR (cutR b)) 3 5,wd (cutR (cutR b)) 4 5⟩:=by rw [mj,if_pos ho]
    have e0:oQ (cutR (cutR b))=wd (cutR (cutR b)) 0 5:=i1 (j:=0) hc20 (by omega);have e1:oQ ((cutR (cutR b)).drop (Int.toNat 4))=wd (cutR (cutR b)) 1 5:=i1 (j:=1) hc20 (by omega);have e2:oQ ((cutR (cutR b)).drop (Int.toNat 8))=wd (cutR (cutR b)) 2 5:=i1 (j:=2) hc20 (by omega);have e3:oQ ((cutR (cutR b)).drop (Int.toNat 12))=wd (cutR (cutR b)) 3 5:=i1 (j:=3) hc20 (by omega);have e4:oQ ((cutR (cutR b)).drop (Int.toNat 16))=wd (cutR (cutR b)) 4 5:=i1 (j:=4) hc20 (by omega);refine bj [ag,ag,ag,ag,ag,ag,ag,ag,ag,ag,ag,ag,ag,ag,ag,ag,ag,bv [(100,_)],ag] [af [4] [] 32,af [7] [] 33,af [5] [] 34,af [33] [] 35,af [5] [] 36,af [35] [] 37,af [36] [] 38,af [5] [] 39,af [38] [] 40,af [39] [] 41,af [5] [] 42,af [41] [] 43,af [42] [] 44,af [5] [] 45,af [44] [] 46,af [45] [] 47,af [31,32,34,37,40,43,46] [] 48,af [2,47] [100] 0 [100],af [] [] 4] rfl ⟨ah,ah,ah,aC fun _=>aN rfl rfl (aj (lv) (hc:=cy _ _ bE bE)),ah,ah,aC fun _=>aN rfl rfl (aj (lv) (hc:=cy _ _ bE bE)),ah,ah,aC fun _=>aN rfl rfl (aj (lv) (hc:=cy _ _ bE bE)),ah,ah,aC fun _=>aN rfl rfl (aj (lv) (hc:=cy _ _ bE bE)),ah,ah,aC fun _=>aN rfl rfl (aj (lv) (hc:=cy _ _ bE bE)),aC fun _=>aN rfl rfl (aL [(_,_),(_,_),(_,_),(_,_),(_,_),(_,_),(_,_)]),ah,ah,trivial⟩ ?_;refine ab ?_;refine ak (0) [_,_] [_,_] ?_;rw [e0,e1,e2,e3,e4,hv,ho];rfl
  ·
   iterate 18 refine ab ?_
   refine ai rfl rfl (aL []) ?_;iterate 4 refine ab ?_
   refine ak (0) [_,_] [_,_] ?_;have ho:gH b=false:=by rw [gH,h4_5,Bool.false_and,Bool.and_false]
   rw [kW ho,ho];rfl
 ·
  iterate 13 refine ab ?_
  refine ai rfl rfl (aL []) ?_;iterate 4 refine ab ?_
  refine ak (0) [_,_] [_,_] ?_;have ho:gH b=false:=by rw [gH,h1_5];rfl
  rw [kW ho,ho];rfl
theorem jQ (b:List UInt8) (lv:Nat) (h:b.length≤140737488351232):AC Tryz.prog 126 [.fz lv b.length (cl bc b)] emp (Ret (tf (tT b))):=by
 refine AC.intro te_ok (fn:=Tryz.f126) ⟨Tryz.func126,rfl,rfl⟩ (aE rfl) ?_;iterate 9 refine ab ?_
 refine am (fun h1_2=>?_) (fun h1_2=>?_)
 ·
  iterate 7 refine ab ?_
  refine ak (0) [_] [_] ?_;rw [tT,decide_eq_false (by omega)];rfl
 ·
  iterate 5 refine ab ?_
  refine AWp.loopR (α:=List UInt8) [0,2,3,7,8,9,10,11,12,13,14,15,16,17,18,19,20,21,22] (fun c=>[(0,.fz lv c.length (cl bc c))]) (fun c=>[]) (fun c=>nA c=nA b∧c.length≤b.length) (fun c=>c.length) b ?_ (Back.mk' (HasT.cons HasT.nil) HasH.nil) ?_
  ·
   exact ⟨rfl,Nat.le_refl _⟩
  ·
   rintro c ⟨hc,hl⟩;iterate 5 refine ab ?_
   refine am (fun h3_2=>?_) (fun h3_2=>?_)
   ·
    iterate 6 refine ab ?_
    have hk:=(c.getD 0 default).toNat_lt;have he:(c.getD (Int.toNat 0) default).toNat=(c.getD 0 default).toNat:=rfl;have hs:(c[0]?.getD default).toNat=(c.getD 0 default).toNat:=congrArg UInt8.toNat (List.getD_eq_getElem?_getD).symm;iterate 13 refine ab ?_
    refine am (fun h5_4=>?_) (fun h5_4=>?_)
    ·
     iterate 7 refine ab ?_
     refine ak (0) [_] [_] ?_;rw [tT,← hc,wG (by omega) (by omega),Bool.and_false];rfl
    ·
     iterate 10 refine ab ?_
     have e1:((1:Int)+((c.getD (Int.toNat 0) default).toNat:Int)).toNat=1+(c.getD 0 default).toNat:=by omega
     refine ⟨_,?_,Back.mk' (HasT.cons HasT.nil) HasH.nil,?_⟩
     ·
      rw [e1];exact ⟨(rG (by omega) (by omega)).symm.trans hc,by rw [List.length_drop];omega⟩
     ·
      rw [e1,List.length_drop];omega
   ·
    iterate 8 refine ab ?_
    refine ak (0) [_] [_] ?_;rw [tT,← hc,tS (by omega),Bool.and_true,decide_eq_true (by omega)];rfl
theorem j4 (b:List UInt8) (lv:Nat) (h:b.length≤140737488351232):AC Tryz.prog 127 [.fz lv b.length (cl bc b)] emp (Ret (tf (mo b))):=by
 refine AC.intro te_ok (fn:=Tryz.f127) ⟨Tryz.func127,rfl,rfl⟩ (aE rfl) ?_;iterate 6 refine ab ?_
 refine AWp.loopR (α:=List UInt8) [0,2,3,4,5,6,7,8,9,10,11,12,13,14,15,16,17,18,19,20,21,22,23,24,25,26,27,28] (fun c=>[(0,.fz lv c.length (cl bc c))]) (fun c=>[]) (fun c=>mo c=mo b∧c.length≤b.length) (fun c=>c.length) b ?_ (Back.mk' (HasT.cons HasT.nil) HasH.nil) ?_
 ·
  exact ⟨rfl,Nat.le_refl _⟩
 ·
  rintro c ⟨hc,hl⟩;iterate 5 refine ab ?_
  refine am (fun h1_2=>?_) (fun h1_2=>?_)
  ·
   iterate 9 refine ab ?_
   refine am (fun h2_2=>?_) (fun h2_2=>?_)
   ·
    iterate 7 refine ab ?_
    refine ak (0) [_] [_] ?_;rw [← hc,pu (by omega) (by omega)];rfl
   ·
    iterate 4 refine ab ?_
    have hk2:=(c.getD 2 default).toNat_lt;have hk3:=(c.getD 3 default).toNat_lt;have he2:(c.getD (Int.toNat 2) default).toNat=(c.getD 2 default).toNat:=rfl;have he3:(c.getD (Int.toNat 3) default).toNat=(c.getD 3 default).toNat:=rfl;have hs2:(c[2]?.getD default).toNat=(c.getD 2 default).toNat:=congrArg UInt8.toNat (List.getD_eq_getElem?_getD).symm;have hs3:(c[3]?.getD default).toNat=(c.getD 3 default).toNat:=congrArg UInt8.toNat (List.getD_eq_getElem?_getD).symm;refine bj [ag,ag,ag,ag,ag,ag,ag,ag,ag,ag,ag] [af [0] [] 11,af [10] [] 12,af [11] [] 13,af [12] [] 14,af [13] [] 15,af [0] [] 16,af [15] [] 17,af [16] [] 18,af [17] [] 19,af [14,18] [] 20,af [19] [] 4] rfl ⟨ah,ah,ah,ah,ah,ah,ah,ah,ah,ah,ah,trivial⟩ ?_;iterate 7 refine ab ?_
    refine am (fun h5_4=>?_) (fun h5_4=>?_)
    ·
     iterate 7 refine ab ?_
     refine ak (0) [_] [_] ?_;rw [← hc,pu (by omega) (Or.inr (by unfold lK;omega))];rfl
    ·
     iterate 10 refine ab ?_
     have e1:(4+(((c.getD (Int.toNat 2) default).toNat:Int)*256+((c.getD (Int.toNat 3) default).toNat:Int))).toNat=lK c:=by unfold lK;omega
     refine ⟨_,?_,Back.mk' (HasT.cons HasT.nil) HasH.nil,?_⟩
     ·
      rw [e1];exact ⟨(rR (by omega) (by omega) (by unfold lK;omega)).symm.trans hc,by rw [List.length_drop];omega⟩
     ·
      rw [e1,List.length_drop];unfold lK;omega
  ·
   iterate 8 refine ab ?_
   refine ak (0) [_] [_] ?_;rw [← hc,ui (by omega)];rfl
theorem Ba (b:List UInt8) (lv:Nat) (h:b.length≤140737488351232):AC Tryz.prog 74 [i64 6,.fz lv b.length (cl bc b)] emp (Ret (tf (fA 6 b))):=by
 refine AC.intro te_ok (fn:=Tryz.f74) ⟨Tryz.func74,rfl,rfl⟩ (aE rfl) ?_;iterate 8 refine ab ?_
 refine am (fun h1_1=>?_) (fun h1_1=>?_)
 ·
  exfalso;omega
 ·
  iterate 2 refine ab ?_
  refine am (fun h1_4=>?_) (fun h1_4=>?_)
  ·
   exfalso;omega
  ·
   iterate 4 refine ab ?_
   refine am (fun h1_9=>?_) (fun h1_9=>?_)
   ·
    iterate 8 refine ab ?_
    refine ak (0) [_] [_] ?_;rw [xA (by omega)];rfl
   ·
    iterate 12 refine ab ?_
    refine am (fun h4_0=>?_) (fun h4_0=>?_)
    ·
     exfalso;omega
    ·
     iterate 5 refine ab ?_
     refine am (fun h6_0=>?_) (fun h6_0=>?_)
     ·
      exfalso;omega
     ·
      iterate 6 refine ab ?_
      refine am (fun h8_0=>?_) (fun h8_0=>?_)
      ·
       exfalso;omega
      ·
       iterate 5 refine ab ?_
       refine am (fun h9_0=>?_) (fun h9_0=>?_)
       ·
        exfalso;omega
       ·
        iterate 4 refine ab ?_
        refine am (fun h10_0=>?_) (fun h10_0=>?_)
        ·
         exfalso;omega
        ·
         iterate 5 refine ab ?_
         refine am (fun h12_0=>?_) (fun h12_0=>?_)
         ·
          exfalso;omega
         ·
          iterate 5 refine ab ?_
          refine am (fun h14_0=>?_) (fun h14_0=>?_)
          ·
           exfalso;omega
          ·
           iterate 5 refine ab ?_
           refine am (fun h16_0=>?_) (fun h16_0=>?_)
           ·
            exfalso;omega
           ·
            iterate 5 refine ab ?_
            refine am (fun h18_0=>?_) (fun h18_0=>?_)
            ·
             iterate 6 refine ab ?_
             refine ai rfl rfl (aj (lv) (hc:=oU _ _ bE)) ?_;iterate 3 refine ab ?_
             refine ai rfl rfl (ap 2005) ?_;iterate 9 refine ab ?_
             refine ak (0) [_] [_] ?_;rw [AZ (by omega)];rfl
            ·
             exfalso;omega
theorem B7 (b:List UInt8) (lv:Nat) (h:b.length≤140737488351232):AC Tryz.prog 146 [i64 6,.fz lv b.length (cl bc b)] emp (Ret (.fz 0 (bF 6 b).length (cl sc (bF 6 b)))):=by
 refine AC.intro te_ok (fn:=Tryz.f146) ⟨Tryz.func146,rfl,rfl⟩ (aE rfl) ?_;iterate 2 refine ab ?_
 refine ai rfl rfl (aR (0) sc) ?_;iterate 6 refine ab ?_
 refine AOps.bool rfl rfl (aj (lv) (hc:=Ba b lv h)) (fun h1_2=>?_) (fun h1_2=>?_)
 ·
  iterate 13 refine ab ?_
  refine am (fun h4_0=>?_) (fun h4_0=>?_)
  ·
   exfalso;omega
  ·
   iterate 5 refine ab ?_
   refine am (fun h5_0=>?_) (fun h5_0=>?_)
   ·
    exfalso;omega
   ·
    iterate 4 refine ab ?_
    refine am (fun h6_0=>?_) (fun h6_0=>?_)
    ·
     exfalso;omega
    ·
     iterate 5 refine ab ?_
     refine am (fun h8_0=>?_) (fun h8_0=>?_)
     ·
      exfalso;omega
     ·
      iterate 5 refine ab ?_
      refine am (fun h10_0=>?_) (fun h10_0=>?_)
      ·
       iterate 6 refine ab ?_
       refine ai rfl rfl (aj (lv) (hc:=oU _ _ bE)) ?_;iterate 3 refine ab ?_
       refine ai rfl rfl (ap 1205) ?_;iterate 9 refine ab ?_
       refine ai rfl rfl (bO 1304 sc [_,_] [(_,_),(_,_)]) ?_;iterate 3 refine ab ?_
       refine ak (0) [_] [_] ?_;rw [bF,if_pos rfl,if_pos h1_2];rfl
      ·
       exfalso;omega
 ·
  iterate 5 refine ab ?_
  refine ai rfl rfl (aR (0) sc) ?_;iterate 2 refine ab ?_
  refine ak (0) [_] [_] ?_;rw [bF,if_pos rfl,if_neg (by simp [h1_2])];rfl
theorem uR {b:List UInt8} (h:i3 b=true):b=eP b++cutR b∧bm (eP b)=true:=by
 rw [eP,cutR,if_pos h,if_pos h,List.take_append_drop];simp only [i3,Bool.and_eq_true] at h;exact ⟨rfl,h.2⟩
theorem C2 (t:Int) (d:List UInt8):(gq t d).length≤1:=by
 unfold gq;split
 · split
   · simp
   · split<;>simp
 · simp
theorem sU (t:Int) (d:List UInt8):(bF t d).length≤2:=by
 have:=C2 t d;unfold bF;split
 · split<;>simp
 · omega
theorem di (t:Int) (b:List UInt8) (lv:Nat) (h:b.length≤140737488351232):AC Tryz.prog 82 [i64 t,.fz lv b.length (cl bc b)] emp (Ret (tf (fA t b))):=by
 refine AC.intro te_ok (fn:=Tryz.f82) ⟨Tryz.func82,rfl,rfl⟩ (aE rfl) ?_;iterate 8 refine ab ?_
 refine am (fun h1_1=>?_) (fun h1_1=>?_)
 ·
  iterate 16 refine ab ?_
  refine ak (0) [_] [_] ?_;rw [c7 (by omega),dU,if_pos (by omega)];rfl
 ·
  iterate 2 refine ab ?_
  refine am (fun h1_4=>?_) (fun h1_4=>?_)
  ·
   iterate 13 refine ab ?_
   refine ak (0) [_] [_] ?_;rw [c7 (by omega),dU,if_pos (by omega)];rfl
  ·
   iterate 4 refine ab ?_
   refine am (fun h1_9=>?_) (fun h1_9=>?_)
   ·
    iterate 8 refine ab ?_
    refine ak (0) [_] [_] ?_;by_cases h6:t=6
    · subst h6;rw [xA (by omega)];rfl
    · rw [c7 h6,dU,if_pos (by omega)];rfl
   ·
    iterate 7 refine ab ?_
    have hne:t≠6→fA t b=dU t b:=c7;iterate 5 refine ab ?_
    refine am (fun h4_0=>?_) (fun h4_0=>?_)
    ·
     iterate 7 refine ab ?_
     refine ai rfl rfl (dm) ?_;iterate 3 refine ab ?_
     refine ak (0) [_] [_] ?_;rw [c7 (by omega),dU,if_neg (by omega),if_pos h4_0];exact congrArg tf (decide_eq_decide.2 (by omega))
    ·
     iterate 5 refine ab ?_
     refine am (fun h6_0=>?_) (fun h6_0=>?_)
     ·
      iterate 7 refine ab ?_
      refine ai rfl rfl (dm) ?_;iterate 3 refine ab ?_
      refine ak (0) [_] [_] ?_;rw [c7 (by omega),dU,if_neg (by omega),if_neg h4_0,if_pos h6_0];exact congrArg tf (decide_eq_decide.2 (by omega))
     ·
      iterate 6 refine ab ?_
      refine am (fun h8_0=>?_) (fun h8_0=>?_)
      ·
       iterate 8 refine ab ?_
       refine AOps.cons rfl rfl (by first|exact b9|exact aU) ?_;refine ai rfl rfl (aj (lv) (hc:=aM _ bE)) ?_;iterate 3 refine ab ?_
       refine ak (0) [_] [_] ?_;rw [c7 (by omega),dU,if_neg (by omega),if_neg h4_0,if_neg h6_0,if_pos (by omega)];rfl
      ·
       iterate 5 refine ab ?_
       refine am (fun h9_0=>?_) (fun h9_0=>?_)
       ·
        iterate 8 refine ab ?_
        refine AOps.cons rfl rfl (by first|exact b9|exact aU) ?_;refine ai rfl rfl (aj (lv) (hc:=aM _ bE)) ?_;iterate 3 refine ab ?_
        refine ak (0) [_] [_] ?_;rw [c7 (by omega),dU,if_neg (by omega),if_neg h4_0,if_neg h6_0,if_pos (by omega)];rfl
       ·
        iterate 4 refine ab ?_
        refine am (fun h10_0=>?_) (fun h10_0=>?_)
        ·
         iterate 6 refine ab ?_
         refine AOps.cons rfl rfl (by first|exact b9|exact aU) ?_;refine ai rfl rfl (aj (lv) (hc:=aM _ bE)) ?_;iterate 3 refine ab ?_
         refine ak (0) [_] [_] ?_;rw [c7 (by omega),dU,if_neg (by omega),if_neg h4_0,if_neg h6_0,if_pos (by omega)];rfl
        ·
         iterate 5 refine ab ?_
         refine am (fun h12_0=>?_) (fun h12_0=>?_)
         ·
          iterate 7 refine ab ?_
          refine am (fun h13_2=>?_) (fun h13_2=>?_)
          ·
           iterate 3 refine ab ?_
           refine AOps.gcons rfl rfl rfl rfl rfl (by first|exact b9|exact aU) ?_;refine cw rfl rfl rfl rfl rfl (aj (lv) (hc:=aM _ bE)) ?_;iterate 4 refine ab ?_
           refine ak (0) [_] [_] ?_;rw [c7 (by omega),dU,if_neg (by omega),if_neg h4_0,if_neg h6_0,if_neg (by omega),if_pos h12_0,decide_eq_true (by omega)];rfl
          ·
           iterate 9 refine ab ?_
           refine ak (0) [_] [_] ?_;rw [c7 (by omega),dU,if_neg (by omega),if_neg h4_0,if_neg h6_0,if_neg (by omega),if_pos h12_0,decide_eq_false (by omega)];rfl
         ·
          iterate 5 refine ab ?_
          refine am (fun h14_0=>?_) (fun h14_0=>?_)
          ·
           iterate 6 refine ab ?_
           refine ai rfl rfl (aj (lv) (hc:=gC _ _ bE)) ?_;iterate 3 refine ab ?_
           refine ai rfl rfl (ap 1605) ?_;iterate 9 refine ab ?_
           refine ak (0) [_] [_] ?_;obtain rfl:t=6:=h14_0;rw [AZ (by omega)];rfl
          ·
           iterate 5 refine ab ?_
           refine am (fun h17_0=>?_) (fun h17_0=>?_)
           ·
            iterate 6 refine ab ?_
            refine ai rfl rfl (aj (lv) (hc:=jQ _ _ bE)) ?_;iterate 3 refine ab ?_
            refine ak (0) [_] [_] ?_;rw [c7 (by omega),dU,if_neg (by omega),if_neg h4_0,if_neg h6_0,if_neg (by omega),if_neg h12_0,if_pos h17_0];rfl
           ·
            iterate 5 refine ab ?_
            refine am (fun h19_0=>?_) (fun h19_0=>?_)
            ·
             iterate 6 refine ab ?_
             refine ai rfl rfl (aj (lv) (hc:=j4 _ _ bE)) ?_;iterate 3 refine ab ?_
             refine ak (0) [_] [_] ?_;rw [c7 (by omega),dU,if_neg (by omega),if_neg h4_0,if_neg h6_0,if_neg (by omega),if_neg h12_0,if_neg h17_0,if_pos h19_0];rfl
            ·
             iterate 9 refine ab ?_
             refine ak (0) [_] [_] ?_;rw [c7 (by omega),dU,if_neg (by omega),if_neg h4_0,if_neg h6_0,if_neg (by omega),if_neg h12_0,if_neg h17_0,if_neg h19_0];rfl
theorem jR (t:Int) (b:List UInt8) (lv:Nat) (h:b.length≤140737488351232):AC Tryz.prog 91 [i64 t,.fz lv b.length (cl bc b)] emp (Ret (.fz 0 (bF t b).length (cl sc (bF t b)))):=by
 refine AC.intro te_ok (fn:=Tryz.f91) ⟨Tryz.func91,rfl,rfl⟩ (aE rfl) ?_;iterate 2 refine ab ?_
 refine ai rfl rfl (aR (0) sc) ?_;iterate 6 refine ab ?_
 refine AOps.bool rfl rfl (aj (lv) (hc:=di _ _ _ bE)) (fun h1_2=>?_) (fun h1_2=>?_)
 ·
  iterate 13 refine ab ?_
  refine am (fun h4_0=>?_) (fun h4_0=>?_)
  ·
   iterate 8 refine ab ?_
   refine AOps.cons rfl rfl (by first|exact b9|exact aU) ?_;refine ai rfl rfl (bO 802 sc [_] [(_,_)]) ?_;iterate 3 refine ab ?_
   refine ak (0) [_] [_] ?_;rw [c7 (by omega)] at h1_2;rw [gM (by omega),gq,if_pos h1_2,if_pos (by omega)];rfl
  ·
   iterate 5 refine ab ?_
   refine am (fun h5_0=>?_) (fun h5_0=>?_)
   ·
    iterate 8 refine ab ?_
    refine AOps.cons rfl rfl (by first|exact b9|exact aU) ?_;refine ai rfl rfl (bO 802 sc [_] [(_,_)]) ?_;iterate 3 refine ab ?_
    refine ak (0) [_] [_] ?_;rw [c7 (by omega)] at h1_2;rw [gM (by omega),gq,if_pos h1_2,if_pos (by omega)];rfl
   ·
    iterate 4 refine ab ?_
    refine am (fun h6_0=>?_) (fun h6_0=>?_)
    ·
     iterate 6 refine ab ?_
     refine AOps.cons rfl rfl (by first|exact b9|exact aU) ?_;refine ai rfl rfl (bO 802 sc [_] [(_,_)]) ?_;iterate 3 refine ab ?_
     refine ak (0) [_] [_] ?_;rw [c7 (by omega)] at h1_2;rw [gM (by omega),gq,if_pos h1_2,if_pos (by omega)];rfl
    ·
     iterate 5 refine ab ?_
     refine am (fun h8_0=>?_) (fun h8_0=>?_)
     ·
      iterate 5 refine ab ?_
      have hm:=h1_2;rw [c7 (by omega)] at hm;have h2:=xC h8_0 hm;iterate 2 refine ab ?_
      refine AOps.cons rfl rfl (by first|exact b9|exact aU) ?_;refine ai rfl rfl (bO 1003 sc [_] [(_,_)]) ?_;iterate 3 refine ab ?_
      refine ak (0) [_] [_] ?_;rw [gM (by omega),gq,if_pos hm,if_neg (by omega),if_pos h8_0];rfl
     ·
      iterate 5 refine ab ?_
      refine am (fun h10_0=>?_) (fun h10_0=>?_)
      ·
       iterate 6 refine ab ?_
       refine ai rfl rfl (aj (lv) (hc:=gC _ _ bE)) ?_;iterate 3 refine ab ?_
       refine ai rfl rfl (ap 1205) ?_;iterate 9 refine ab ?_
       refine ai rfl rfl (bO 1304 sc [_,_] [(_,_),(_,_)]) ?_;iterate 3 refine ab ?_
       refine ak (0) [_] [_] ?_;obtain rfl:t=6:=h10_0;rw [bF,if_pos rfl,if_pos h1_2];rfl
      ·
       iterate 6 refine ab ?_
       refine ai rfl rfl (aR (0) sc) ?_;iterate 2 refine ab ?_
       refine ak (0) [_] [_] ?_;rw [c7 h10_0] at h1_2;rw [gM h10_0,gq,if_pos h1_2,if_neg (by omega),if_neg h8_0];rfl
 ·
  iterate 5 refine ab ?_
  refine ai rfl rfl (aR (0) sc) ?_;iterate 2 refine ab ?_
  refine ak (0) [_] [_] ?_;by_cases h6:t=6
  · subst h6;rw [bF,if_pos rfl,if_neg (by simp [h1_2])];rfl
  · rw [c7 h6] at h1_2;rw [gM h6,gq,if_neg (by simp [h1_2])];rfl
def idx {α:Type} (g:α→Bool):List α→Int
 | []=>-1
 | a::l=>if g a then 0 else if idx g l=-1 then -1 else idx g l+1
theorem Ap {α:Type} (g:α→Bool):∀ l,-1≤idx g l
 | []=>by simp [idx]
 | a::l=>by
  have:=Ap g l;simp only [idx];split
  · omega
  · split<;>omega
theorem kj {α:Type} {g:α→Bool}:∀ {l:List α},(∀ x∈l,g x=false)→idx g l=-1
 | [],_=>rfl
 | a::l,h=>by
  simp [idx,h a (by simp),kj (l:=l) fun x hx=>h x (by simp [hx])]
theorem qB {α:Type} [Inhabited α] {g:α→Bool}:∀ {l:List α} {i:Nat},i<l.length→(∀ x∈l.take i,g x=false)→g (l.getD i default)=true→idx g l=i
 | [],i,h,_,_=>by simp at h
 | a::l,0,_,_,h=>by
  have:g a=true:=by simpa using h
  simp [idx,this]
 | a::l,i+1,h,h1,h2=>by
  have h3:g a=false:=h1 a (by simp);have h4:=qB (l:=l) (i:=i) (g:=g) (by simpa using h) (fun x hx=>h1 x (by simp [hx])) (by simpa using h2);simp only [idx,h3,Bool.false_eq_true,if_false,h4];rw [if_neg (by omega)];omega
theorem n6 {α:Type} [Inhabited α] {g:α→Bool} {l:List α} {i:Nat} (h:i<l.length) (h1:∀ x∈l.take i,g x=false) (h2:g (l.getD i default)=false):∀ x∈l.take (i+1),g x=false:=by
 intro x hx;rw [List.take_succ_eq_append_getElem h] at hx;rcases List.mem_append.1 hx with hx|hx
 · exact h1 x hx
 · simp only [List.mem_singleton] at hx
   subst hx
   simpa [List.getD_eq_getElem?_getD,List.getElem?_eq_getElem h] using h2
theorem oN {α:Type} {g:α→Bool}:∀ {l:List α},0≤idx g l↔l.any g=true
 | []=>by simp [idx]
 | a::l=>by
  have h1:=Ap g l;have h2:=oN (g:=g) (l:=l);unfold idx;rw [List.any_cons];by_cases ha:g a=true
  · simp [ha]
  · rw [if_neg ha]
    simp only [Bool.not_eq_true] at ha;rw [ha,Bool.false_or,← h2];split<;>omega
theorem py {α:Type} {g:α→Bool} {l:List α}:decide (0≤idx g l)=l.any g:=by
 rw [Bool.eq_iff_iff,decide_eq_true_iff];exact oN
theorem kl {h:aX} {lo hi l:Nat} {a b:AV} {caps:List AV} (e:lP h lo hi a b) (hl:l≤lo) (hc:AV.oks l caps=true):FVals h lo hi (a::caps) (b::caps):=⟨e,Au (AV.oks_mono hl hc)⟩
theorem pk (l:List (Int)) (lv lv' lw:Nat) (caps:List AV) (g:Int→Bool) {fid:Nat} (hl:l.length≤140737488351232) (hcaps:AV.oks lw caps=true) (hg:∀ x∈l,AC Tryz.prog fid (i64 x::caps) emp (Ret (tf (g x)))):AC Tryz.prog 110 [.fz lv l.length (cl (ic) l),.fn (.func fid) [] caps] emp (Ret (i64 (idx g l))):=by
 refine AC.intro te_ok (fn:=Tryz.f110) ⟨Tryz.func110,rfl,rfl⟩ (aE rfl) ?_;iterate 12 refine ab ?_
 refine AWp.loopR (α:=Nat) [4,5,8,9,10,11,12,13,14,15,16,17,18] (fun i=>[(8,i64 i)]) (fun i=>[]) (fun i=>i≤l.length∧∀ x∈l.take i,g x=false) (fun i=>l.length-i) 0 ?_ (Back.mk' (HasT.cons HasT.nil) HasH.nil) ?_
 ·
  exact ⟨Nat.zero_le _,by simp⟩
 ·
  rintro i ⟨hi,hI⟩;iterate 2 refine ab ?_
  refine am (fun h2_0=>?_) (fun h2_0=>?_)
  ·
   iterate 18 refine ab ?_
   refine AOps.bool rfl rfl (aj (lv+lv'+lw) (hA:=by exact kl (l:=lw) (dG rfl (by first|rfl|exact fG (by omega)|(simp [AV.ok,AV.oks];done))) (by omega) hcaps) (hc:=(hg _ (dT (i:=i) (by omega))))) (fun h4_5=>?_) (fun h4_5=>?_)
   ·
    iterate 8 refine ab ?_
    refine ak (0) [_] [_] ?_;exact ci (qB (by omega) hI h4_5).symm
   ·
    iterate 7 refine ab ?_
    refine ⟨i+1,?_,Back.mk' (HasT.cons HasT.nil) HasH.nil,?_⟩
    ·
     exact ⟨by omega,n6 (by omega) hI h4_5⟩
    ·
     first|omega|(simp;omega)
  ·
   iterate 9 refine ab ?_
   refine ak (0) [_] [_] ?_;exact ci (kj (by rwa [List.take_of_length_le (by omega)] at hI)).symm
theorem eQ (l:List (Int)) (lv lv' lw:Nat) (caps:List AV) (g:Int→Bool) {fid:Nat} (hl:l.length≤140737488351232) (hcaps:AV.oks lw caps=true) (hg:∀ x∈l,AC Tryz.prog fid (i64 x::caps) emp (Ret (tf (g x)))):AC Tryz.prog 66 [.fz lv l.length (cl (ic) l),.fn (.func fid) [] caps] emp (Ret (tf (l.any g))):=by
 refine AC.intro te_ok (fn:=Tryz.f66) ⟨Tryz.func66,rfl,rfl⟩ (aE rfl) ?_;iterate 8 refine ab ?_
 refine ai rfl rfl (aj (lv+lv'+lw) (hA:=by exact ⟨dG rfl (fG (by omega)),dG (b:=.fn (.func fid) [] caps) rfl (by simp [AV.ok,AV.oks,AV.oks_mono (show lw≤lv+lv'+lw by omega) hcaps]),trivial⟩) (hc:=(pk l lv lv' lw caps g hl hcaps hg))) ?_;refine ai rfl rfl (gX) ?_;iterate 3 refine ab ?_
 refine ak (0) [_] [_] ?_;exact congrArg tf py
structure Rr where
 nm:List UInt8
 ty:Int
 cs:Int
 ttl:Int
 da:List UInt8
 deriving Inhabited,DecidableEq
structure Qu where
 nm:List UInt8
 ty:Int
 cs:Int
 deriving Inhabited,DecidableEq
structure Hdr where
 id:Int
 resp:Bool
 op:Int
 aa:Bool
 tc:Bool
 rd:Bool
 ra:Bool
 code:Int
 deriving Inhabited,DecidableEq
structure Msg where
 h:Hdr
 qs:List Qu
 an:List Rr
 au:List Rr
 ad:List Rr
 deriving Inhabited,DecidableEq
def rrc (x:Rr):List AV:=[str x.nm,i64 x.ty,i64 x.cs,i64 x.ttl,.fz 0 x.da.length (cl bc x.da)]
def quc (x:Qu):List AV:=[str x.nm,i64 x.ty,i64 x.cs]
def dn (m:Msg):List AV:=[i64 m.h.id,tf m.h.resp,i64 m.h.op,tf m.h.aa,tf m.h.tc,tf m.h.rd,tf m.h.ra,i64 m.h.code,.fz 0 m.qs.length (cl quc m.qs),.fz 0 m.an.length (cl rrc m.an),.fz 0 m.au.length (cl rrc m.au),.fz 0 m.ad.length (cl rrc m.ad)]
def RrsOk (l:List Rr):Prop:=l.length*64≤140737488351232∧∀ x∈l,x.da.length≤140737488351232
def gp (m:Msg):Prop:=m.qs.length*32≤140737488351232∧RrsOk m.an∧RrsOk m.au∧RrsOk m.ad
theorem bK {α:Type} [Inhabited α] {l:List α} {i:Nat} (hi:i<l.length):l.take (i+1)=l.take i++[l.getD i default]:=by
 have:=lR (fun y=>y) (l:=l) hi
 simpa using this

section
variable {d:Nat} {s n b u:TypeId} {is in' ib iu:TI}
theorem Cl {t:TypeId} {it:TI} {cs:List AV} (h:Has te (d+1) t cs) (ht:te.get t=some it) (kt:it.k=.struct [(0,n),(1,b),(2,n),(3,b),(4,b),(5,b),(6,b),(7,n)]) (hn:te.get n=some in') (kn:in'.k=.int .i64) (hb:te.get b=some ib) (kb:ib.k=.bool) :
 ∃ x:Hdr,cs=[i64 x.id,tf x.resp,i64 x.op,tf x.aa,tf x.tc,tf x.rd,tf x.ra,i64 x.code]∧(-9223372036854775808≤x.id∧x.id≤9223372036854775807)∧(-9223372036854775808≤x.op∧x.op≤9223372036854775807)∧(-9223372036854775808≤x.code∧x.code≤9223372036854775807):=by
 obtain ⟨_,w,rfl,q,hh⟩:=has_struct h ht kt;obtain ⟨a1,rfl,b1⟩:=has_int q hn kn;obtain ⟨_,w,rfl,q,hh⟩:=hh;obtain ⟨a2,rfl⟩:=has_bool q hb kb;obtain ⟨_,w,rfl,q,hh⟩:=hh;obtain ⟨a3,rfl,b3⟩:=has_int q hn kn;obtain ⟨_,w,rfl,q,hh⟩:=hh;obtain ⟨a4,rfl⟩:=has_bool q hb kb;obtain ⟨_,w,rfl,q,hh⟩:=hh;obtain ⟨a5,rfl⟩:=has_bool q hb kb;obtain ⟨_,w,rfl,q,hh⟩:=hh;obtain ⟨a6,rfl⟩:=has_bool q hb kb;obtain ⟨_,w,rfl,q,hh⟩:=hh;obtain ⟨a7,rfl⟩:=has_bool q hb kb;obtain ⟨_,w,rfl,q,hh⟩:=hh;obtain ⟨a8,rfl,b8⟩:=has_int q hn kn;cases hh;exact ⟨⟨a1,a2,a3,a4,a5,a6,a7,a8⟩,rfl,b1,b3,b8⟩
end
theorem or8 (a b:UInt8):((((a.toNat:Int)*2 ^ 8).toNat ||| ((b.toNat:Int)).toNat:Nat):Int)=((a.toNat*256+b.toNat:Nat):Int):=by
 have hb:=b.toNat_lt;have e:((a.toNat:Int)*2 ^ 8).toNat=2 ^ 8*a.toNat:=by omega
 rw [e,Int.toNat_natCast,← Nat.two_pow_add_eq_or_of_lt (by omega:b.toNat<2 ^ 8) a.toNat];omega
theorem qg {n:Nat} {s:AS} {o:Oper} {d:Option Tmp} {t u:TypeId} {x y:Operand} {p q:UInt8} (ho:o.op=.binOp .or t x y u:=by exact rfl) (hx:s.ev x=i64 ((p.toNat:Int)*2 ^ 8):=by exact rfl) (hy:s.ev y=i64 q.toNat:=by exact rfl)
 (hdd:o.dst=d:=by conv=>lhs;whnf) (hd:d.all (Nat.blt · n)=true:=by exact rfl):OpOk Tryz.prog n o s (s.put d (i64 ((p.toNat*256+q.toNat:Nat):Int))):=by
 have hp:=p.toNat_lt;have hq:=q.toNat_lt;rw [← or8];exact vP ho hx hy (by omega) (by omega) hdd hd
def eh (b:Nat) (n:Int):Bool:=decide (n<0) || decide (n ≥ 1*2 ^ b)
theorem DU {n:Int}:eh 4 n=false↔0≤n∧n≤15:=by simp [eh];omega
theorem Bo {n:Int}:eh 16 n=false↔0≤n∧n≤65535:=by simp [eh];omega
theorem zI {b:Nat} (hb:b≤16):0≤(2:Int) ^ b∧(2:Int) ^ b≤65536:=by
 have h:∀ b:_root_.Fin 17,0≤(2:Int) ^ b.val∧(2:Int) ^ b.val≤65536:=by decide
 exact h ⟨b,by omega⟩
structure Hd where
 id:Int
 resp:Bool
 op:Int
 aa:Bool
 tc:Bool
 rd:Bool
 ra:Bool
 code:Int
abbrev Hd.cells (h:Hd):List AV:=[i64 h.id,tf h.resp,i64 h.op,tf h.aa,tf h.tc,tf h.rd,tf h.ra,i64 h.code]
def Hd.can (h:Hd) (c0 c1 c2 c3:Int):Prop:=(0≤h.id∧h.id≤65535)∧(0≤h.op∧h.op≤15)∧(0≤h.code∧h.code≤15)∧(0≤c0∧c0≤65535)∧(0≤c1∧c1≤65535)∧(0≤c2∧c2≤65535)∧(0≤c3∧c3≤65535)
instance (h:Hd) (c0 c1 c2 c3:Int):Decidable (h.can c0 c1 c2 c3):=by unfold Hd.can;infer_instance
def Hd.flN (h:Hd) (i:Nat):Int:=h.op*2048+h.code+(if 0<i∧h.resp=true then 32768 else 0)+(if 1<i∧h.aa=true then 1024 else 0)+(if 2<i∧h.tc=true then 512 else 0)+(if 3<i∧h.rd=true then 256 else 0)+(if 4<i∧h.ra=true then 128 else 0)
def two (n:Int):List UInt8:=[ct (n / 2 ^ 8),ct n]
def Hd.nums (h:Hd) (c0 c1 c2 c3:Int):List Int:=[h.id,h.flN 5,c0,c1,c2,c3]
def Hd.bytes (h:Hd) (c0 c1 c2 c3:Int):List UInt8:=(h.nums c0 c1 c2 c3).flatMap two
theorem Hd.bytes_length (h:Hd) (c0 c1 c2 c3:Int):(h.bytes c0 c1 c2 c3).length=12:=rfl
theorem pI {h:Hd} {c0 c1 c2 c3:Int}:h.can c0 c1 c2 c3↔eh 16 h.id=false∧(eh 4 h.op=false∧eh 4 h.code=false)∧eh 16 c0=false∧eh 16 c1=false∧eh 16 c2=false∧eh 16 c3=false:=by
 simp only [Bo,DU,Hd.can,and_assoc]
theorem Er (x k:Nat) (h:x / 2 ^ k%2=0):x ||| 2 ^ k=x+2 ^ k:=by
 have h1:x=2 ^ (k+1)*(x / 2 ^ (k+1))+x%2 ^ k:=by
  have e1:=Nat.div_add_mod x (2 ^ k);have e2:=Nat.div_add_mod (x / 2 ^ k) 2;rw [h,Nat.add_zero,Nat.div_div_eq_div_mul,← Nat.pow_succ] at e2;rw [Nat.pow_succ,Nat.mul_assoc,← Nat.pow_succ,e2];exact e1.symm
 have hlt:x%2 ^ k<2 ^ k:=Nat.mod_lt _ (Nat.two_pow_pos k);generalize hq:x / 2 ^ (k+1)=q at h1;generalize hr:x%2 ^ k=r at h1 hlt;subst h1;have e3:2 ^ (k+1)=2 ^ k*2:=Nat.pow_succ ..;rw [Nat.two_pow_add_eq_or_of_lt (by omega:r<2 ^ (k+1)) q,Nat.or_assoc];have e4:r ||| 2 ^ k=2 ^ k*1+r:=by
  rw [Nat.two_pow_add_eq_or_of_lt hlt 1,Nat.mul_one,Nat.or_comm]
 rw [e4,← Nat.two_pow_add_eq_or_of_lt (by omega:2 ^ k*1+r<2 ^ (k+1)) q,← Nat.two_pow_add_eq_or_of_lt (by omega:r<2 ^ (k+1)) q];omega
theorem qm {x:Int} {k:Nat} {m:Int} (h0:0≤x) (hm:m=2 ^ k) (h:x.toNat / 2 ^ k%2=0):((x.toNat ||| m.toNat:Nat):Int)=x+m:=by
 subst hm;have:((2:Int) ^ k).toNat=2 ^ k:=by
  have:(2:Int) ^ k=((2 ^ k:Nat):Int):=by simp
  rw [this,Int.toNat_natCast]
 rw [this,Er _ _ h];simp;omega
theorem Ax {h:Hd} (hop:0≤h.op∧h.op≤15) (hco:0≤h.code∧h.code≤15):(((h.op*2 ^ 11).toNat ||| h.code.toNat:Nat):Int)=h.op*2048+h.code:=by
 have e:(h.op*2 ^ 11).toNat=2 ^ 11*h.op.toNat:=by omega
 rw [e,← Nat.two_pow_add_eq_or_of_lt (by omega:h.code.toNat<2 ^ 11) h.op.toNat];omega
theorem yy {h:Hd} (hop:0≤h.op∧h.op≤15) (hco:0≤h.code∧h.code≤15):(((h.op*2 ^ 11).toNat ||| h.code.toNat:Nat):Int)=h.flN 0:=by
 rw [Ax hop hco];simp [Hd.flN]
theorem Hd.fl_pos {h:Hd} (hop:0≤h.op∧h.op≤15) (hco:0≤h.code∧h.code≤15) (i:Nat):0≤h.flN i∧h.flN i≤65535:=by
 unfold Hd.flN
 repeat' split
 all_goals omega
theorem Hd.fl0 {h:Hd} (hop:0≤h.op∧h.op≤15) (hco:0≤h.code∧h.code≤15) (hb:h.resp=true):(((h.flN 0).toNat ||| (32768:Int).toNat:Nat):Int)=h.flN 1:=by
 rw [qm (k:=15) (hop.1 |> fun _=>(Hd.fl_pos hop hco 0).1) (by decide) (by simp [Hd.flN];omega)];simp [Hd.flN,hb]
theorem Hd.fl1 {h:Hd} (hop:0≤h.op∧h.op≤15) (hco:0≤h.code∧h.code≤15) (hb:h.aa=true):(((h.flN 1).toNat ||| (1024:Int).toNat:Nat):Int)=h.flN 2:=by
 rw [qm (k:=10) (Hd.fl_pos hop hco 1).1 (by decide) (by cases hr:h.resp<;>simp [Hd.flN,hr]<;>omega)];simp [Hd.flN,hb]
theorem Hd.fl2 {h:Hd} (hop:0≤h.op∧h.op≤15) (hco:0≤h.code∧h.code≤15) (hb:h.tc=true):(((h.flN 2).toNat ||| (512:Int).toNat:Nat):Int)=h.flN 3:=by
 rw [qm (k:=9) (Hd.fl_pos hop hco 2).1 (by decide) (by cases hr:h.resp<;>cases ha:h.aa<;>simp [Hd.flN,hr,ha]<;>omega)];simp [Hd.flN,hb]
theorem Hd.fl3 {h:Hd} (hop:0≤h.op∧h.op≤15) (hco:0≤h.code∧h.code≤15) (hb:h.rd=true):(((h.flN 3).toNat ||| (256:Int).toNat:Nat):Int)=h.flN 4:=by
 rw [qm (k:=8) (Hd.fl_pos hop hco 3).1 (by decide) (by cases hr:h.resp<;>cases ha:h.aa<;>cases ht:h.tc<;>simp [Hd.flN,hr,ha,ht]<;>omega)];simp [Hd.flN,hb]
theorem Hd.fl4 {h:Hd} (hop:0≤h.op∧h.op≤15) (hco:0≤h.code∧h.code≤15) (hb:h.ra=true):(((h.flN 4).toNat ||| (128:Int).toNat:Nat):Int)=h.flN 5:=by
 rw [qm (k:=7) (Hd.fl_pos hop hco 4).1 (by decide) (by cases hr:h.resp<;>cases ha:h.aa<;>cases ht:h.tc<;>cases hd:h.rd<;>simp [Hd.flN,hr,ha,ht,hd]<;>omega)];simp [Hd.flN,hb]
theorem Hd.fl_skip {h:Hd} (i:Nat) (hb:(i=0→h.resp=false)∧(i=1→h.aa=false)∧(i=2→h.tc=false)∧(i=3→h.rd=false)∧(i=4→h.ra=false)):h.flN i=h.flN (i+1):=by
 obtain ⟨h0,h1,h2,h3,h4⟩:=hb;rcases i with _|_|_|_|_|i
 · simp [Hd.flN,h0 rfl]
 · simp [Hd.flN,h1 rfl]
 · simp [Hd.flN,h2 rfl]
 · simp [Hd.flN,h3 rfl]
 · simp [Hd.flN,h4 rfl]
 · simp [Hd.flN]
def hB (h:Hd) (c0 c1 c2 c3:Int):List UInt8:=if h.can c0 c1 c2 c3 then h.bytes c0 c1 c2 c3 else []
def hE (h:Hd) (c0 c1 c2 c3:Int):Int:=if h.can c0 c1 c2 c3 then 0 else 1
theorem qE {h:Hd} {c0 c1 c2 c3:Int} (k:h.can c0 c1 c2 c3):hB h c0 c1 c2 c3=h.bytes c0 c1 c2 c3:=if_pos k
theorem As {h:Hd} {c0 c1 c2 c3:Int} (k:h.can c0 c1 c2 c3):hE h c0 c1 c2 c3=0:=if_pos k
theorem xj {h:Hd} {c0 c1 c2 c3:Int} (k:¬ h.can c0 c1 c2 c3):hB h c0 c1 c2 c3=[]:=if_neg k
theorem xi {h:Hd} {c0 c1 c2 c3:Int} (k:¬ h.can c0 c1 c2 c3):hE h c0 c1 c2 c3=1:=if_neg k
abbrev Hd.flags (h:Hd):List Bool:=[h.resp,h.aa,h.tc,h.rd,h.ra]
abbrev Ab:List Int:=[32768,1024,512,256,128]
theorem Aa (i:Nat):0≤Ab.getD i default∧Ab.getD i default≤32768:=by
 match i with
 | 0|1|2|3|4=>simp
 | i+5=>simp
theorem Hd.fl_on {h:Hd} (hop:0≤h.op∧h.op≤15) (hco:0≤h.code∧h.code≤15) {i:Nat} (hi:i<5) (hb:h.flags.getD i default=true):(((h.flN i).toNat ||| (Ab.getD i default).toNat:Nat):Int)=h.flN (i+1):=by
 match i,hi,hb with
 | 0,_,hb=>exact Hd.fl0 hop hco hb
 | 1,_,hb=>exact Hd.fl1 hop hco hb
 | 2,_,hb=>exact Hd.fl2 hop hco hb
 | 3,_,hb=>exact Hd.fl3 hop hco hb
 | 4,_,hb=>exact Hd.fl4 hop hco hb
theorem Hd.fl_off {h:Hd} {i:Nat} (hi:i<5) (hb:h.flags.getD i default=false):h.flN i=h.flN (i+1):=by
 match i,hi,hb with
 | 0,_,hb=>exact Hd.fl_skip 0 (by simp_all)
 | 1,_,hb=>exact Hd.fl_skip 1 (by simp_all)
 | 2,_,hb=>exact Hd.fl_skip 2 (by simp_all)
 | 3,_,hb=>exact Hd.fl_skip 3 (by simp_all)
 | 4,_,hb=>exact Hd.fl_skip 4 (by simp_all)
theorem tU {l:List Int} {j:Nat} (hj:j<l.length):(l.take (j+1)).flatMap two=(l.take j).flatMap two++[ct (l.getD j default / 2 ^ 8),ct (l.getD j default)]:=by
 rw [List.take_succ_eq_append_getElem hj,List.flatMap_append];simp [two,List.getD_eq_getElem?_getD,List.getElem?_eq_getElem hj]
theorem EP (h:Hd):(if h.resp then (2:Int) ^ 15 else 0)+h.op*2 ^ 11+(if h.aa then (2:Int) ^ 10 else 0)+(if h.tc then (2:Int) ^ 9 else 0)+(if h.rd then (2:Int) ^ 8 else 0)+(if h.ra then (2:Int) ^ 7 else 0)+h.code=h.flN 5:=by
 simp [Hd.flN];omega
theorem zQ {h:Hd} {c0 c1 c2 c3:Int} (k:h.can c0 c1 c2 c3) (j:Nat):0≤(h.nums c0 c1 c2 c3).getD j default∧(h.nums c0 c1 c2 c3).getD j default≤65535:=by
 obtain ⟨hid,hop,hco,hc0,hc1,hc2,hc3⟩:=k;have hf:=Hd.fl_pos hop hco 5
 match j with
 | 0=>exact hid
 | 1=>exact hf
 | 2=>exact hc0
 | 3=>exact hc1
 | 4=>exact hc2
 | 5=>exact hc3
 | j+6=>simp [Hd.nums]
theorem sr:∀ l:List Int,(l.flatMap two).length=2*l.length
 | []=>rfl
 | a::l=>by rw [List.flatMap_cons,List.length_append,sr l,List.length_cons];simp [two];omega
theorem Hd.can_of {h:Hd} {c0 c1 c2 c3:Int} (h1:[h.id].any (eh 16)=false) (h2:[h.op,h.code].any (eh 4)=false) (h3:[c0,c1,c2,c3].any (eh 16)=false):h.can c0 c1 c2 c3:=by
 simp only [List.any_cons,List.any_nil,Bool.or_false,Bool.or_eq_false_iff] at h1 h2 h3;exact pI.2 ⟨h1,h2,h3⟩
theorem Hd.not_can1 {h:Hd} {c0 c1 c2 c3:Int} (h1:[h.id].any (eh 16)=true):¬ h.can c0 c1 c2 c3:=fun hc=>by
 obtain ⟨q1,_⟩:=pI.1 hc;simp [q1] at h1
theorem Hd.not_can2 {h:Hd} {c0 c1 c2 c3:Int} (h1:[h.op,h.code].any (eh 4)=true):¬ h.can c0 c1 c2 c3:=fun hc=>by
 obtain ⟨_,⟨q1,q2⟩,_⟩:=pI.1 hc;simp [q1,q2] at h1
theorem Hd.not_can3 {h:Hd} {c0 c1 c2 c3:Int} (h1:[c0,c1,c2,c3].any (eh 16)=true):¬ h.can c0 c1 c2 c3:=fun hc=>by
 obtain ⟨_,_,q1,q2,q3,q4⟩:=pI.1 hc;simp [q1,q2,q3,q4] at h1
theorem ph (n:Int) (b lv:Nat) (hb:b≤16):AC Tryz.prog 157 [i64 n,.fp lv [i64 b]] emp (Ret (tf (eh b n))):=by
 have hp:=zI hb;refine AC.intro te_ok (fn:=Tryz.f157) ⟨Tryz.func157,rfl,rfl⟩ (aE rfl) ?_;iterate 7 refine ab ?_
 refine am (fun h1_1=>?_) (fun h1_1=>?_)
 ·
  iterate 9 refine ab ?_
  refine ak (0) [_] [_] ?_;simp [eh,h1_1,bX]
 ·
  iterate 3 refine ab ?_
  refine cw rfl rfl rfl rfl rfl (ik b) ?_;refine cw rfl rfl rfl rfl rfl (gX) ?_;iterate 4 refine ab ?_
  refine ak (0) [_] [_] ?_;simp [eh,h1_1,bX]
theorem iH (b:Nat) (l:List Int) (lv:Nat) (hb:b≤16) (hl:l.length≤140737488351232):AC Tryz.prog 143 [i64 b,.fz lv l.length (cl ic l)] emp (Ret (tf (l.any (eh b)))):=by
 refine AC.intro te_ok (fn:=Tryz.f143) ⟨Tryz.func143,rfl,rfl⟩ (aE rfl) ?_;iterate 2 refine ab ?_
 refine ai rfl rfl (aS 100) ?_;iterate 5 refine ab ?_
 refine ai rfl rfl (ca [] [_]) ?_;refine ai rfl rfl (aj (lv) (hc:=(eQ l lv 0 (lv+1) _ (eh b) hl (by simp [AV.oks,AV.ok]) (fun n _=>ph n b _ hb)))) ?_;iterate 3 refine ab ?_
 refine ak (0) [_] [_] ?_;rfl
theorem j0 (h:Hd) (c0 c1 c2 c3:Int):AC Tryz.prog 98 [.agg [i64 h.id,tf h.resp,i64 h.op,tf h.aa,tf h.tc,tf h.rd,tf h.ra,i64 h.code],.agg [i64 c0,i64 c1,i64 c2,i64 c3]] (ao []) (bZ (.tup [.sl 8 0 0 (hB h c0 c1 c2 c3).length 1,i64 (hE h c0 c1 c2 c3)]) [(8,.row (cl bc (hB h c0 c1 c2 c3)) 1 0)]):=by
 refine AC.intro te_ok (fn:=Tryz.f98) ⟨Tryz.func98,rfl,rfl⟩ (aE rfl) ?_;iterate 2 refine ab ?_
 refine ai rfl rfl (aS 100) ?_;refine ai rfl rfl (aS 101) ?_;refine ai rfl rfl (aR (0) bc) ?_;iterate 7 refine ab ?_
 refine ai rfl rfl (bO 202 ic [_] [(_,_)]) ?_;refine AOps.bool rfl rfl (aj (0) (hc:=(iH 16 [h.id] _ (by decide) (by simp)))) (fun h1_3=>?_) (fun h1_3=>?_)
 ·
  iterate 16 refine ab ?_
  refine ai rfl rfl (bD 8 1 bc) ?_;iterate 3 refine ab ?_
  rw [xj (Hd.not_can1 h1_3),xi (Hd.not_can1 h1_3)];refine aQ (0) [8] [_,_] [.sl 8 0 0 _ 1,_] [(8,.row (cl bc _) 1 0)] ?_;rfl
 ·
  iterate 5 refine ab ?_
  refine cw rfl rfl rfl rfl rfl (bO 209 ic [_,_] [(_,_),(_,_)]) ?_;refine AOps.gbool rfl rfl rfl rfl rfl (aj (0) (hc:=(iH 4 [h.op,h.code] _ (by decide) (by simp)))) (fun h1_10=>?_) (fun h1_10=>?_)
  ·
   iterate 9 refine ab ?_
   refine ai rfl rfl (bD 8 1 bc) ?_;iterate 3 refine ab ?_
   rw [xj (Hd.not_can2 h1_10),xi (Hd.not_can2 h1_10)];refine aQ (0) [8] [_,_] [.sl 8 0 0 _ 1,_] [(8,.row (cl bc _) 1 0)] ?_;rfl
  ·
   iterate 2 refine ab ?_
   refine cw rfl rfl rfl rfl rfl (Dr) ?_;refine AOps.gbool rfl rfl rfl rfl rfl (aj (0) (hA:=by exact ⟨km rfl,wl rfl rfl rfl (aE rfl) (by decide) rfl,trivial⟩) (hc:=(iH 16 [c0,c1,c2,c3] _ (by decide) (by simp)))) (fun h1_14=>?_) (fun h1_14=>?_)
   ·
    iterate 5 refine ab ?_
    refine ai rfl rfl (bD 8 1 bc) ?_;iterate 3 refine ab ?_
    rw [xj (Hd.not_can3 h1_14),xi (Hd.not_can3 h1_14)];refine aQ (0) [8] [_,_] [.sl 8 0 0 _ 1,_] [(8,.row (cl bc _) 1 0)] ?_;rfl
   ·
    iterate 6 refine ab ?_
    have hcan:h.can c0 c1 c2 c3:=Hd.can_of h1_3 h1_10 h1_14;obtain ⟨hid,hop,hco,hc0,hc1,hc2,hc3⟩:=id hcan;iterate 2 refine ab ?_
    refine ai rfl rfl (ik 11) ?_;iterate 2 refine ab ?_
    refine ai rfl rfl (vP) ?_;iterate 4 refine ab ?_
    refine ai rfl rfl (cb ic [32768,1024,512,256,128] [(_,_),(_,_),(_,_),(_,_),(_,_)]) ?_;refine ai rfl rfl (ap 501) ?_;iterate 15 refine ab ?_
    refine ai rfl rfl (cb tc [_,_,_,_,_] [(_,_),(_,_),(_,_),(_,_),(_,_)]) ?_;iterate 3 refine ab ?_
    refine AWp.loopR (α:=Nat) [6,8,9,47,48,49,50,51,52,53,54,55,56,57] (fun i=>[(47,i64 i),(6,i64 (h.flN i))]) (fun i=>[]) (fun i=>i≤5) (fun i=>5-i) 0 ?_ (Back.mk' (HasT.cons (HasT.cons HasT.nil (h1:=by exact ci (yy hop hco)) )) HasH.nil) ?_
    ·
     decide
    ·
     rintro i hi;iterate 2 refine ab ?_
     refine am (fun h6_0=>?_) (fun h6_0=>?_)
     ·
      iterate 9 refine ab ?_
      refine AOps.bool rfl rfl (sJ) (fun h7_1=>?_) (fun h7_1=>?_)
      ·
       iterate 9 refine ab ?_
       have hfl:=Hd.fl_pos hop hco i;have hm:0≤([32768,1024,512,256,128]:List Int).getD (i:Int).toNat default∧([32768,1024,512,256,128]:List Int).getD (i:Int).toNat default≤32768:=Aa i;iterate 4 refine ab ?_
       refine ai rfl rfl (vP) ?_;iterate 6 refine ab ?_
       refine ⟨i+1,?_,Back.mk' (HasT.cons (HasT.cons HasT.nil (h1:=by exact ci (Hd.fl_on hop hco (by omega) h7_1)) )) HasH.nil,?_⟩
       ·
        omega
       ·
        first|omega|(simp;omega)
      ·
       iterate 13 refine ab ?_
       refine ⟨i+1,?_,Back.mk' (HasT.cons (HasT.cons HasT.nil (h1:=by exact ci (Hd.fl_off (by omega) h7_1)) )) HasH.nil,?_⟩
       ·
        omega
       ·
        first|omega|(simp;omega)
     ·
      iterate 6 refine ab ?_
      obtain rfl:i=5:=by omega
      refine ai rfl rfl (bD 8 1 bc) ?_;iterate 15 refine ab ?_
      refine ai rfl rfl (cb ic [_,_,_,_,_,_] [(_,_),(_,_),(_,_),(_,_),(_,_),(_,_)]) ?_;iterate 3 refine ab ?_
      refine AWp.loopR (α:=Nat×List UInt8×Nat) [10,12,70,71,72,73,74,75,76,77,78,79,80,81] (fun x_=>[(70,i64 (x_.1)),(10,.sl 8 (x_.2.2) 0 (x_.2.1).length 1)]) (fun x_=>[(8,.row (cl bc (x_.2.1)) 1 (x_.2.2))]) (fun x_=>(x_.1)≤6∧(x_.2.1)=((h.nums c0 c1 c2 c3).take (x_.1)).flatMap two) (fun x_=>6-(x_.1)) (0,[],0) ?_ (Back.mk' (HasT.cons (HasT.cons HasT.nil)) (HasH.cons HasH.nil)) ?_
      ·
       exact ⟨by decide,rfl⟩
      ·
       rintro ⟨j,acc,v⟩ hI13;change j≤6∧acc=((h.nums c0 c1 c2 c3).take j).flatMap two at hI13;obtain ⟨hj,hacc⟩:=hI13;refine AWp.as (s':=AS.over _ [10,12,70,71,72,73,74,75,76,77,78,79,80,81] [(70,i64 j),(10,.sl 8 v 0 acc.length 1)] [(8,.row (cl bc acc) 1 v)]) rfl ?_;have hal:acc.length≤1000:=by rw [hacc,sr,List.length_take];omega
       iterate 2 refine ab ?_
       refine am (fun h13_0=>?_) (fun h13_0=>?_)
       ·
        iterate 8 refine ab ?_
        refine ai rfl rfl (sJ) ?_;iterate 5 refine ab ?_
        refine ai rfl rfl (ge 8) ?_;iterate 3 refine ab ?_
        refine ai rfl rfl (bO 1606 bc [_,_] [(_,_),(_,_)]) ?_;iterate 7 refine ab ?_
        refine ⟨(j+1,_,_),?_,Back.mk' (HasT.cons (HasT.cons HasT.nil)) (HasH.cons HasH.nil),?_⟩
        ·
         try dsimp only
         exact ⟨by omega,by rw [tU (by show j<6;omega),hacc];rfl⟩
        ·
         try dsimp only
         first|omega|(simp;omega)
       ·
        iterate 11 refine ab ?_
        obtain rfl:j=6:=by omega
        obtain rfl:acc=h.bytes c0 c1 c2 c3:=hacc;rw [qE hcan,As hcan];refine aQ (0) [8] [_,_] [.sl 8 0 0 _ 1,_] [(8,.row (cl bc _) 1 0)] ?_;rfl
theorem pi (h:Hd) (c0 c1 c2 c3:Int):AC Tryz.prog 98 [.agg h.cells,.agg [i64 c0,i64 c1,i64 c2,i64 c3]] emp (Ret (.tup [.fz 0 (hB h c0 c1 c2 c3).length (cl bc (hB h c0 c1 c2 c3)),i64 (hE h c0 c1 c2 c3)])):=
 (j0 h c0 c1 c2 c3).fz 0 (wk ⟨pA rfl .row (fun _=>rfl) (by decide) (fun _=>rfl),km rfl,trivial⟩)
theorem fN (n:Int):AC Tryz.prog 129 [i64 n] emp (Ret (tf (decide (0≤n∧n≤65535)))):=by
 refine AC.intro te_ok (fn:=Tryz.f129) ⟨Tryz.func129,rfl,rfl⟩ (aE rfl) ?_;iterate 7 refine ab ?_
 refine am (fun h1_1=>?_) (fun h1_1=>?_)
 ·
  iterate 2 refine ab ?_
  refine cw rfl rfl rfl rfl rfl (iN) ?_;iterate 4 refine ab ?_
  refine ak (0) [_] [_] ?_;simp [bX];omega
 ·
  iterate 7 refine ab ?_
  refine ak (0) [_] [_] ?_;simp [bX];omega
theorem cH (b:Bool) (m:Nat) (hm:m≤16):AC Tryz.prog 89 [tf b,i64 m] emp (Ret (i64 (if b then 2 ^ m else 0))):=by
 have hp:=zI hm;refine AC.intro te_ok (fn:=Tryz.f89) ⟨Tryz.func89,rfl,rfl⟩ (aE rfl) ?_;iterate 7 refine ab ?_
 refine AOps.bool rfl rfl (aA) (fun h1_0=>?_) (fun h1_0=>?_)
 ·
  iterate 5 refine ab ?_
  refine ai rfl rfl (ik m) ?_;iterate 3 refine ab ?_
  refine ak (0) [_] [_] ?_;simp [bX,h1_0]
 ·
  iterate 8 refine ab ?_
  refine ak (0) [_] [_] ?_;simp [bX,h1_0]
theorem er (h:Hd) (c0 c1 c2 c3:Int):AC Tryz.prog 87 [.agg [i64 h.id,tf h.resp,i64 h.op,tf h.aa,tf h.tc,tf h.rd,tf h.ra,i64 h.code],.agg [i64 c0,i64 c1,i64 c2,i64 c3]] emp (Ret (tf (decide (h.can c0 c1 c2 c3)))):=by
 refine AC.intro te_ok (fn:=Tryz.f87) ⟨Tryz.func87,rfl,rfl⟩ (aE rfl) ?_;iterate 2 refine ab ?_
 refine ai rfl rfl (aS 100) ?_;refine ai rfl rfl (aS 101) ?_;iterate 9 refine ab ?_
 refine AWp.loopR (α:=Nat) [4,6,7,8,9,10,11,12,13,14] (fun i=>[(8,i64 i),(7,.agg (cl ic [c0,c1,c2,c3]))]) (fun i=>[]) (fun i=>i≤4∧∀ k,k<i→0≤([c0,c1,c2,c3]:List Int).getD k default∧([c0,c1,c2,c3]:List Int).getD k default≤65535) (fun i=>4-i) 0 ?_ (Back.mk' (HasT.cons (HasT.cons HasT.nil)) HasH.nil) ?_
 ·
  exact ⟨by omega,fun k hk=>by omega⟩
 ·
  rintro i ⟨hi,hI⟩;iterate 2 refine ab ?_
  refine am (fun h2_0=>?_) (fun h2_0=>?_)
  ·
   iterate 8 refine ab ?_
   refine ai rfl rfl (sJ) ?_;iterate 5 refine ab ?_
   refine AOps.dec rfl rfl (aj (0) (hc:=fN _)) (fun h4_1=>?_) (fun h4_1=>?_)
   ·
    iterate 8 refine ab ?_
    refine ⟨i+1,?_,Back.mk' (HasT.cons (HasT.cons HasT.nil)) HasH.nil,?_⟩
    ·
     refine ⟨by omega,fun k hk=>?_⟩;rcases Nat.lt_or_ge k i with h|h
     · exact hI k h
     · obtain rfl:k=i:=by omega
       exact h4_1
    ·
     first|omega|(simp;omega)
   ·
    iterate 8 refine ab ?_
    refine ak (0) [_] [_] ?_;refine nF ⟨fun hh=>(by cases hh),fun hc=>absurd ?_ h4_1⟩;obtain rfl|rfl|rfl|rfl:i=0∨i=1∨i=2∨i=3:=by omega
    all_goals (simp [Hd.can] at hc ⊢;omega)
  ·
   iterate 8 refine ab ?_
   refine AOps.dec rfl rfl (aj (0) (hc:=fN _)) (fun h7_2=>?_) (fun h7_2=>?_)
   ·
    iterate 3 refine ab ?_
    refine am (fun h7_6=>?_) (fun h7_6=>?_)
    ·
     iterate 4 refine ab ?_
     refine am (fun h7_11=>?_) (fun h7_11=>?_)
     ·
      iterate 4 refine ab ?_
      refine am (fun h7_16=>?_) (fun h7_16=>?_)
      ·
       iterate 4 refine ab ?_
       refine cw rfl rfl rfl rfl rfl (iN) ?_;iterate 4 refine ab ?_
       refine ak (0) [_] [_] ?_;obtain rfl:i=4:=by omega
       have k0:=hI 0 (by omega);have k1:=hI 1 (by omega);have k2:=hI 2 (by omega);have k3:=hI 3 (by omega);simp at k0 k1 k2 k3;exact nF (by simp [Hd.can];omega)
      ·
       iterate 9 refine ab ?_
       refine ak (0) [_] [_] ?_;obtain rfl:i=4:=by omega
       have k0:=hI 0 (by omega);have k1:=hI 1 (by omega);have k2:=hI 2 (by omega);have k3:=hI 3 (by omega);simp at k0 k1 k2 k3;exact nF (by simp [Hd.can];omega)
     ·
      iterate 14 refine ab ?_
      refine ak (0) [_] [_] ?_;obtain rfl:i=4:=by omega
      have k0:=hI 0 (by omega);have k1:=hI 1 (by omega);have k2:=hI 2 (by omega);have k3:=hI 3 (by omega);simp at k0 k1 k2 k3;exact nF (by simp [Hd.can];omega)
    ·
     iterate 19 refine ab ?_
     refine ak (0) [_] [_] ?_;obtain rfl:i=4:=by omega
     have k0:=hI 0 (by omega);have k1:=hI 1 (by omega);have k2:=hI 2 (by omega);have k3:=hI 3 (by omega);simp at k0 k1 k2 k3;exact nF (by simp [Hd.can];omega)
   ·
    iterate 23 refine ab ?_
    refine ak (0) [_] [_] ?_;obtain rfl:i=4:=by omega
    have k0:=hI 0 (by omega);have k1:=hI 1 (by omega);have k2:=hI 2 (by omega);have k3:=hI 3 (by omega);simp at k0 k1 k2 k3;exact nF (by simp [Hd.can];omega)
theorem pa (h:Hd) (c0 c1 c2 c3:Int):AC Tryz.prog 48 [.agg [i64 h.id,tf h.resp,i64 h.op,tf h.aa,tf h.tc,tf h.rd,tf h.ra,i64 h.code],.agg [i64 c0,i64 c1,i64 c2,i64 c3]] (ao []) (bZ (.tup [.sl 8 0 0 (hB h c0 c1 c2 c3).length 1,i64 (hE h c0 c1 c2 c3)]) [(8,.row (cl bc (hB h c0 c1 c2 c3)) 1 0)]):=by
 refine AC.intro te_ok (fn:=Tryz.f48) ⟨Tryz.func48,rfl,rfl⟩ (aE rfl) ?_;iterate 2 refine ab ?_
 refine ai rfl rfl (aS 100) ?_;refine ai rfl rfl (aS 101) ?_;refine ai rfl rfl (aR (0) bc) ?_;iterate 7 refine ab ?_
 refine AOps.dec rfl rfl (aj (0) (hc:=(er h c0 c1 c2 c3))) (fun h1_2=>?_) (fun h1_2=>?_)
 ·
  iterate 5 refine ab ?_
  obtain ⟨hid,hop,hco,hc0,hc1,hc2,hc3⟩:=id h1_2;have b1:0≤(if h.resp then (2:Int) ^ 15 else 0)∧(if h.resp then (2:Int) ^ 15 else 0)≤65536:=by split<;>decide
  have b2:0≤(if h.aa then (2:Int) ^ 10 else 0)∧(if h.aa then (2:Int) ^ 10 else 0)≤65536:=by split<;>decide
  have b3:0≤(if h.tc then (2:Int) ^ 9 else 0)∧(if h.tc then (2:Int) ^ 9 else 0)≤65536:=by split<;>decide
  have b4:0≤(if h.rd then (2:Int) ^ 8 else 0)∧(if h.rd then (2:Int) ^ 8 else 0)≤65536:=by split<;>decide
  have b5:0≤(if h.ra then (2:Int) ^ 7 else 0)∧(if h.ra then (2:Int) ^ 7 else 0)≤65536:=by split<;>decide
  refine bj [ag,ag,ag,ag,ag,ag,ag,ag,ag,ag,ag,ag,ag,ag,ag,ag,ag,ag,ag,ag,ag,ag,ag,ag,ag,ag,ag] [af [2] [100] 15,af [14] [100] 16,af [15] [] 17,af [2] [100] 18,af [17] [100] 19,af [18] [] 20,af [16,19] [] 21,af [2] [100] 22,af [21] [100] 23,af [22] [] 24,af [20,23] [] 25,af [2] [100] 26,af [25] [100] 27,af [26] [] 28,af [24,27] [] 29,af [2] [100] 30,af [29] [100] 31,af [30] [] 32,af [28,31] [] 33,af [2] [100] 34,af [33] [100] 35,af [34] [] 36,af [32,35] [] 37,af [2] [100] 38,af [37] [100] 39,af [36,38] [] 40,af [39] [] 7] rfl ⟨ah,ah,aC fun _=>aN rfl rfl (aj (0) (hc:=(cH h.resp 15 (by decide)))),ah,ah,aC fun _=>aN rfl rfl (ik 11),ah,ah,ah,aC fun _=>aN rfl rfl (aj (0) (hc:=(cH h.aa 10 (by decide)))),ah,ah,ah,aC fun _=>aN rfl rfl (aj (0) (hc:=(cH h.tc 9 (by decide)))),ah,ah,ah,aC fun _=>aN rfl rfl (aj (0) (hc:=(cH h.rd 8 (by decide)))),ah,ah,ah,aC fun _=>aN rfl rfl (aj (0) (hc:=(cH h.ra 7 (by decide)))),ah,ah,ah,ah,ah,trivial⟩ ?_;iterate 2 refine ab ?_
  rw [EP h];refine ai rfl rfl (bD 8 1 bc) ?_;iterate 15 refine ab ?_
  refine ai rfl rfl (bO 611 ic [_,_,_,_,_,_] [(_,_),(_,_),(_,_),(_,_),(_,_),(_,_)]) ?_;iterate 4 refine ab ?_
  refine AWp.loopR (α:=Nat×List UInt8×Nat) [7,9,53,54,55,56,57,58,59,60,61,62,63,64,65,66] (fun x_=>[(53,i64 (x_.1)),(7,.sl 8 (x_.2.2) 0 (x_.2.1).length 1)]) (fun x_=>[(8,.row (cl bc (x_.2.1)) 1 (x_.2.2))]) (fun x_=>(x_.1)≤6∧(x_.2.1)=((h.nums c0 c1 c2 c3).take (x_.1)).flatMap two) (fun x_=>6-(x_.1)) (0,[],0) ?_ (Back.mk' (HasT.cons (HasT.cons HasT.nil)) (HasH.cons HasH.nil)) ?_
  ·
   exact ⟨by decide,rfl⟩
  ·
   rintro ⟨j,acc,v⟩ hI6;change j≤6∧acc=((h.nums c0 c1 c2 c3).take j).flatMap two at hI6;obtain ⟨hj,hacc⟩:=hI6;refine AWp.as (s':=AS.over _ [7,9,53,54,55,56,57,58,59,60,61,62,63,64,65,66] [(53,i64 j),(7,.sl 8 v 0 acc.length 1)] [(8,.row (cl bc acc) 1 v)]) rfl ?_;have hal:acc.length≤1000:=by rw [hacc,sr,List.length_take];omega
   iterate 2 refine ab ?_
   refine am (fun h6_0=>?_) (fun h6_0=>?_)
   ·
    iterate 8 refine ab ?_
    have hj6:j<6:=by simp at h6_0;omega
    iterate 5 refine ab ?_
    have hnn:0≤([h.id,h.flN 5,c0,c1,c2,c3]:List Int).getD (j:Int).toNat default∧([h.id,h.flN 5,c0,c1,c2,c3]:List Int).getD (j:Int).toNat default≤65535:=zQ h1_2 j;iterate 2 refine ab ?_
    refine ai rfl rfl (Ds) ?_;iterate 2 refine ab ?_
    refine ai rfl rfl (zC) ?_;refine ab ?_;refine ai rfl rfl (bO 907 bc [_,_] [(_,_),(_,_)]) ?_;iterate 7 refine ab ?_
    refine ⟨(j+1,_,_),?_,Back.mk' (HasT.cons (HasT.cons HasT.nil)) (HasH.cons HasH.nil),?_⟩
    ·
     try dsimp only
     exact ⟨by omega,by rw [tU (by show j<6;omega),hacc];simp only [vy];rfl⟩
    ·
     try dsimp only
     first|omega|(simp;omega)
   ·
    iterate 11 refine ab ?_
    obtain rfl:j=6:=by simp at h6_0;omega
    obtain rfl:acc=h.bytes c0 c1 c2 c3:=hacc;rw [qE h1_2,As h1_2];refine aQ (0) [8] [_,_] [.sl 8 0 0 _ 1,_] [(8,.row (cl bc _) 1 0)] ?_;rfl
 ·
  iterate 5 refine ab ?_
  refine ai rfl rfl (bD 8 1 bc) ?_;iterate 3 refine ab ?_
  rw [xj h1_2,xi h1_2];refine aQ (0) [8] [_,_] [.sl 8 0 0 _ 1,_] [(8,.row (cl bc _) 1 0)] ?_;rfl
def cV (b:List UInt8) (j:Nat):Int:=((b.getD (2*j) default).toNat*256+(b.getD (2*j+1) default).toNat:Nat)
theorem jk (b:List UInt8) (j:Nat):0≤cV b j∧cV b j≤65535:=by
 unfold cV;have h0:=(b.getD (2*j) default).toNat_lt;have h1:=(b.getD (2*j+1) default).toNat_lt;omega
def cX (f:Int) (k:Nat):Bool:=decide (f / 2 ^ k%2=1)
def dE (b:List UInt8):Int:=if b.length<12 then 20 else if cV b 1 / 16%8=0 then 0 else 21
def dH (b:List UInt8):Hd:=if dE b=0 then ⟨cV b 0,cX (cV b 1) 15,cV b 1 / 2048%16,cX (cV b 1) 10,cX (cV b 1) 9,cX (cV b 1) 8,cX (cV b 1) 7,cV b 1%16⟩ else ⟨0,false,0,false,false,false,false,0⟩
def dC (b:List UInt8) (j:Nat):Int:=if dE b=0 then cV b j else 0
theorem qK {b:List UInt8} (h:b.length<12):dE b=20:=if_pos h
theorem xw {b:List UInt8} (h:¬ b.length<12) (k:¬ cV b 1 / 16%8=0):dE b=21:=by rw [dE,if_neg h,if_neg k]
theorem AG {b:List UInt8} (h:¬ b.length<12) (k:cV b 1 / 16%8=0):dE b=0:=by rw [dE,if_neg h,if_pos k]
theorem vC (x m k:Nat):x &&& (m*2 ^ k)=(x / 2 ^ k &&& m)*2 ^ k:=by
 apply Nat.eq_of_testBit_eq
 intro i;simp only [Nat.testBit_and,Nat.testBit_mul_two_pow,Nat.testBit_div_two_pow];by_cases h:k≤i
 · simp only [h,decide_true,Bool.true_and]
   rw [show i-k+k=i by omega]
 · simp [h]
theorem D8 (f:Int) (h:0≤f) (k:Nat) {m:Int} (hm:m=2 ^ k):((f.toNat &&& m.toNat:Nat):Int)=f / 2 ^ k%2*2 ^ k:=by
 subst hm;have e:((2:Int) ^ k).toNat=1*2 ^ k:=by
  have:(2:Int) ^ k=((2 ^ k:Nat):Int):=by simp
  rw [this,Int.toNat_natCast,Nat.one_mul]
 rw [e,vC,Nat.and_one_is_mod];obtain ⟨f,rfl⟩:=Int.eq_ofNat_of_zero_le h;simp
theorem nh (f:Int) (h:0≤f) (k:Nat) {m:Int} (hm:m=2 ^ k):decide (¬ ((f.toNat &&& m.toNat:Nat):Int)=0)=cX f k:=by
 rw [D8 f h k hm,cX];have hp:(0:Int)<2 ^ k:=Int.pow_pos (by decide);generalize f / 2 ^ k=y;rcases (show y%2=0∨y%2=1 by omega) with hz|hz
 · simp [hz]
 · have hne:¬ (1:Int)*2 ^ k=0:=by omega
   simp [hz];omega
theorem tK (f:Int) (h:0≤f):((f.toNat &&& (15:Int).toNat:Nat):Int)=f%16:=by
 obtain ⟨f,rfl⟩:=Int.eq_ofNat_of_zero_le h;have:=Nat.and_two_pow_sub_one_eq_mod f 4;simp at this ⊢;omega
theorem DL (f:Int) (h:0≤f):((f.toNat &&& (7:Int).toNat:Nat):Int)=f%8:=by
 obtain ⟨f,rfl⟩:=Int.eq_ofNat_of_zero_le h;have:=Nat.and_two_pow_sub_one_eq_mod f 3;simp at this ⊢;omega
theorem GE (f:Int) (h:0≤f):((f.toNat &&& (1:Int).toNat:Nat):Int)=f%2:=by
 obtain ⟨f,rfl⟩:=Int.eq_ofNat_of_zero_le h;have:=Nat.and_two_pow_sub_one_eq_mod f 1;simp at this ⊢
theorem xM (f:Int) (h:0≤f):((f.toNat &&& (112:Int).toNat:Nat):Int)=f / 16%8*16:=by
 obtain ⟨f,rfl⟩:=Int.eq_ofNat_of_zero_le h;have e:=vC f 7 4;have:=Nat.and_two_pow_sub_one_eq_mod (f / 16) 3;simp at e this ⊢;rw [e,this];omega
theorem Dx {ns:List Int} {b:List UInt8} (h:ns.length=6) (k:∀ j,j<6→ns.getD j default=cV b j):ns=[cV b 0,cV b 1,cV b 2,cV b 3,cV b 4,cV b 5]:=by
 match ns,h,k with
 | [a0,a1,a2,a3,a4,a5],_,k=>
  have h0:=k 0 (by omega);have h1:=k 1 (by omega);have h2:=k 2 (by omega);have h3:=k 3 (by omega);have h4:=k 4 (by omega);have h5:=k 5 (by omega);simp at h0 h1 h2 h3 h4 h5;rw [h0,h1,h2,h3,h4,h5]
theorem uH {ns:List Int} {b:List UInt8} {i:Nat} {v:Int} (hl:ns.length=6) (hi:i<6) (hI:∀ k,k<i→ns.getD k default=cV b k) (hv:v=cV b i):∀ k,k<i+1→(ns.set i v).getD k default=cV b k:=by
 intro k hk;rcases Nat.lt_or_ge k i with h|h
 · rw [← hI k h]
   simp [List.getD_eq_getElem?_getD,List.getElem?_set,show i≠k by omega]
 · obtain rfl:k=i:=by omega
   simp [List.getD_eq_getElem?_getD,hl,hi,hv]
theorem Cx (n0 f:Int) (h:0≤f):(⟨n0,cX f 15,f / 2048%16,cX f 10,cX f 9,cX f 8,cX f 7,f%16⟩:Hd) =
 ⟨n0,decide (¬ ((f.toNat &&& (32768:Int).toNat:Nat):Int)=0),(((f / 2 ^ 11).toNat &&& (15:Int).toNat:Nat):Int),decide (¬ ((f.toNat &&& (1024:Int).toNat:Nat):Int)=0),decide (¬ ((f.toNat &&& (512:Int).toNat:Nat):Int)=0),decide (¬ ((f.toNat &&& (256:Int).toNat:Nat):Int)=0),decide (¬ ((f.toNat &&& (128:Int).toNat:Nat):Int)=0),((f.toNat &&& (15:Int).toNat:Nat):Int)⟩:=by
 rw [nh f h 15 (by decide),nh f h 10 (by decide),nh f h 9 (by decide),nh f h 8 (by decide),nh f h 7 (by decide),tK f h,tK (f / 2 ^ 11) (by omega)];simp
theorem qX (f:Int) (h:0≤f) (k:Nat):decide ((((f / 2 ^ k).toNat &&& (1:Int).toNat:Nat):Int)=1)=cX f k:=by
 rw [GE (f / 2 ^ k) (Int.ediv_nonneg h (Int.le_of_lt (Int.pow_pos (by decide)))),cX]
theorem EY (n0 f:Int) (h:0≤f):(⟨n0,cX f 15,f / 2048%16,cX f 10,cX f 9,cX f 8,cX f 7,f%16⟩:Hd) =
 ⟨n0,decide ((((f / 2 ^ 15).toNat &&& (1:Int).toNat:Nat):Int)=1),(((f / 2 ^ 11).toNat &&& (15:Int).toNat:Nat):Int),decide ((((f / 2 ^ 10).toNat &&& (1:Int).toNat:Nat):Int)=1),decide ((((f / 2 ^ 9).toNat &&& (1:Int).toNat:Nat):Int)=1),decide ((((f / 2 ^ 8).toNat &&& (1:Int).toNat:Nat):Int)=1),decide ((((f / 2 ^ 7).toNat &&& (1:Int).toNat:Nat):Int)=1),((f.toNat &&& (15:Int).toNat:Nat):Int)⟩:=by
 rw [qX f h 15,qX f h 10,qX f h 9,qX f h 8,qX f h 7,tK f h,tK (f / 2 ^ 11) (by omega)];simp
theorem xt {b:List UInt8} (h:dE b=0):dH b=⟨cV b 0,cX (cV b 1) 15,cV b 1 / 2048%16,cX (cV b 1) 10,cX (cV b 1) 9,cX (cV b 1) 8,cX (cV b 1) 7,cV b 1%16⟩:=if_pos h
theorem xu {b:List UInt8} (h:¬ dE b=0):dH b=⟨0,false,0,false,false,false,false,0⟩:=if_neg h
theorem gw {b:List UInt8} (h:dE b=0) (j:Nat):dC b j=cV b j:=if_pos h
theorem gy {b:List UInt8} (h:¬ dE b=0) (j:Nat):dC b j=0:=if_neg h
theorem pj (b:List UInt8) (lv:Nat) (hl:b.length≤140737488355328):AC Tryz.prog 131 [.fz lv b.length (cl bc b)] emp (Ret (.tup [.agg (dH b).cells,.agg [i64 (dC b 2),i64 (dC b 3),i64 (dC b 4),i64 (dC b 5)],i64 (dE b)])):=by
 refine AC.intro te_ok (fn:=Tryz.f131) ⟨Tryz.func131,rfl,rfl⟩ (aE rfl) ?_;iterate 2 refine ab ?_
 refine ai rfl rfl (ap 100) ?_;refine ai rfl rfl (ap 101) ?_;iterate 7 refine ab ?_
 refine am (fun h1_2=>?_) (fun h1_2=>?_)
 ·
  iterate 4 refine ab ?_
  refine ai rfl rfl (aL []) ?_;refine ai rfl rfl (cb ic [0,0,0,0] []) ?_;iterate 5 refine ab ?_
  have e:=qK (b:=b) (by omega);rw [xu (by omega),gy (by omega),gy (by omega),gy (by omega),gy (by omega),e];refine ak (0) [_,_,_] [_,_,_] ?_;rfl
 ·
  iterate 5 refine ab ?_
  refine ai rfl rfl (ap 400) ?_;iterate 7 refine ab ?_
  refine AWp.loopR (α:=Nat×List Int) [6,14,15,16,17,18,19,20,21,22,23,24,25,26,27,28,29,30,31,32,33,34] (fun x_=>[(14,i64 (x_.1))]) (fun x_=>[(400,.box (cl ic (x_.2)))]) (fun x_=>(x_.1)≤6∧(x_.2).length=6∧∀ k,k<(x_.1)→(x_.2).getD k default=cV b k) (fun x_=>6-(x_.1)) (0,[0,0,0,0,0,0]) ?_ (Back.mk' (HasT.cons HasT.nil) (HasH.cons HasH.nil)) ?_
  ·
   exact ⟨by omega,rfl,fun k hk=>by omega⟩
  ·
   rintro ⟨i,ns⟩ hI5;change i≤6∧ns.length=6∧∀ k,k<i→ns.getD k default=cV b k at hI5;obtain ⟨hi,hns,hI⟩:=hI5;refine AWp.as (s':=AS.over _ [6,14,15,16,17,18,19,20,21,22,23,24,25,26,27,28,29,30,31,32,33,34] [(14,i64 i)] [(400,.box (cl ic ns))]) rfl ?_;iterate 2 refine ab ?_
   refine am (fun h5_0=>?_) (fun h5_0=>?_)
   ·
    iterate 8 refine ab ?_
    have h0:=(b.getD (2*(i:Int)).toNat default).toNat_lt;have h1:=(b.getD (2*(i:Int)+1).toNat default).toNat_lt;iterate 3 refine ab ?_
    refine bj [ag,ag,ag,ag,ag,ag,ag,ag,ag,ag,ag,ag,ag,ag,ag,ag,ag,bv [(400,_)]] [af [6] [] 18,af [0] [] 19,af [6] [] 20,af [19] [] 21,af [18,20] [] 22,af [21] [] 23,af [22] [] 24,af [23] [] 25,af [0] [] 26,af [6] [] 27,af [26] [] 28,af [27] [] 29,af [25,28] [] 30,af [29] [] 31,af [30] [] 32,af [24,31] [] 33,af [5,17] [400] 34,af [32,33] [400] 0 [400]] rfl ⟨ah,ah,ah,ah,ah,ah,ah,aC fun _=>aN rfl rfl (ik 8),ah,ah,ah,ah,ah,ah,ah,aC fun _=>aN rfl rfl (qg),ah,ah,trivial⟩ ?_;iterate 4 refine ab ?_
    refine ⟨(i+1,_),?_,Back.mk' (HasT.cons HasT.nil) (HasH.cons HasH.nil),?_⟩
    ·
     try dsimp only
     exact ⟨by omega,by simp [hns],uH hns (by omega) hI (by simp only [cV];rfl)⟩
    ·
     try dsimp only
     first|omega|(simp;omega)
   ·
    iterate 6 refine ab ?_
    obtain rfl:i=6:=by omega
    obtain rfl:=Dx hns hI;have hf:=jk b 1;iterate 8 refine ab ?_
    refine ai rfl rfl (fo) ?_;refine am (fun h10_2=>?_) (fun h10_2=>?_)
    ·
     iterate 4 refine ab ?_
     refine ai rfl rfl (aL []) ?_;refine ai rfl rfl (cb ic [0,0,0,0] []) ?_;iterate 5 refine ab ?_
     have e:=xw (b:=b) (by omega) (by rw [xM _ hf.1] at h10_2;omega);rw [xu (by omega),gy (by omega),gy (by omega),gy (by omega),gy (by omega),e];refine ak (0) [_,_,_] [_,_,_] ?_;rfl
    ·
     iterate 8 refine ab ?_
     refine ai rfl rfl (fo) ?_;refine ai rfl rfl (gV) ?_;refine ab ?_;refine ai rfl rfl (ge 11) ?_;refine ai rfl rfl (fo) ?_;refine ab ?_;refine ai rfl rfl (fo) ?_;refine ai rfl rfl (gV) ?_;refine ab ?_;refine ai rfl rfl (fo) ?_;refine ai rfl rfl (gV) ?_;refine ab ?_;refine ai rfl rfl (fo) ?_;refine ai rfl rfl (gV) ?_;refine ab ?_;refine ai rfl rfl (fo) ?_;refine ai rfl rfl (gV) ?_;refine ab ?_;refine ai rfl rfl (fo) ?_;refine ai rfl rfl (aL [(_,_),(_,_),(_,_),(_,_),(_,_),(_,_),(_,_),(_,_)]) ?_;refine ai rfl rfl (ap 1323) ?_;iterate 3 refine ab ?_
     refine bj [ag,ag,ag,ag,bv [(100,_)],bv [(101,_)],ag] [af [8] [1323] 66,af [5] [400] 67,af [66] [400] 68,af [67] [400] 69,af [2,65] [100] 0 [100],af [3,68] [101] 0 [101],af [] [] 5] rfl ⟨ah,aC fun _=>aN rfl rfl (Dr),aC fun _=>aN rfl rfl (zH),ah,ah,ah,ah,trivial⟩ ?_;refine ab ?_;have e:=AG (b:=b) (by omega) (by rw [xM _ hf.1] at h10_2;omega);rw [xt e,gw e,gw e,gw e,gw e,e];refine ak (0) [_,_,_] [_,_,_] ?_;rw [Cx _ _ hf.1];rfl
theorem jz (b:List UInt8) (lv:Nat) (hl:b.length≤140737488355328):AC Tryz.prog 60 [.fz lv b.length (cl bc b)] emp (Ret (.tup [.agg (dH b).cells,.agg [i64 (dC b 2),i64 (dC b 3),i64 (dC b 4),i64 (dC b 5)],i64 (dE b)])):=by
 refine AC.intro te_ok (fn:=Tryz.f60) ⟨Tryz.func60,rfl,rfl⟩ (aE rfl) ?_;iterate 2 refine ab ?_
 refine ai rfl rfl (ap 100) ?_;refine ai rfl rfl (ap 101) ?_;iterate 7 refine ab ?_
 refine am (fun h1_2=>?_) (fun h1_2=>?_)
 ·
  iterate 4 refine ab ?_
  refine ai rfl rfl (aL []) ?_;refine ai rfl rfl (cb ic [0,0,0,0] []) ?_;iterate 5 refine ab ?_
  have e:=qK (b:=b) (by omega);rw [xu (by omega),gy (by omega),gy (by omega),gy (by omega),gy (by omega),e];refine ak (0) [_,_,_] [_,_,_] ?_;rfl
 ·
  iterate 5 refine ab ?_
  refine ai rfl rfl (ap 400) ?_;iterate 7 refine ab ?_
  refine AWp.loopR (α:=Nat×List Int) [6,14,15,16,17,18,19,20,21,22,23,24,25,26,27,28,29,30,31,32,33,34] (fun x_=>[(14,i64 (x_.1))]) (fun x_=>[(400,.box (cl ic (x_.2)))]) (fun x_=>(x_.1)≤6∧(x_.2).length=6∧∀ k,k<(x_.1)→(x_.2).getD k default=cV b k) (fun x_=>6-(x_.1)) (0,[0,0,0,0,0,0]) ?_ (Back.mk' (HasT.cons HasT.nil) (HasH.cons HasH.nil)) ?_
  ·
   exact ⟨by omega,rfl,fun k hk=>by omega⟩
  ·
   rintro ⟨i,ns⟩ hI5;change i≤6∧ns.length=6∧∀ k,k<i→ns.getD k default=cV b k at hI5;obtain ⟨hi,hns,hI⟩:=hI5;refine AWp.as (s':=AS.over _ [6,14,15,16,17,18,19,20,21,22,23,24,25,26,27,28,29,30,31,32,33,34] [(14,i64 i)] [(400,.box (cl ic ns))]) rfl ?_;iterate 2 refine ab ?_
   refine am (fun h5_0=>?_) (fun h5_0=>?_)
   ·
    iterate 8 refine ab ?_
    have h0:=(b.getD (2*(i:Int)).toNat default).toNat_lt;have h1:=(b.getD (2*(i:Int)+1).toNat default).toNat_lt;iterate 3 refine ab ?_
    refine bj [ag,ag,ag,ag,ag,ag,ag,ag,ag,ag,ag,ag,ag,ag,ag,ag,ag,bv [(400,_)]] [af [6] [] 18,af [0] [] 19,af [6] [] 20,af [19] [] 21,af [18,20] [] 22,af [21] [] 23,af [22] [] 24,af [23] [] 25,af [0] [] 26,af [6] [] 27,af [26] [] 28,af [27] [] 29,af [25,28] [] 30,af [29] [] 31,af [30] [] 32,af [24,31] [] 33,af [5,17] [400] 34,af [32,33] [400] 0 [400]] rfl ⟨ah,ah,ah,ah,ah,ah,ah,ah,ah,ah,ah,ah,ah,ah,ah,ah,ah,ah,trivial⟩ ?_;iterate 4 refine ab ?_
    refine ⟨(i+1,_),?_,Back.mk' (HasT.cons HasT.nil) (HasH.cons HasH.nil),?_⟩
    ·
     try dsimp only
     exact ⟨by omega,by simp [hns],uH hns (by omega) hI (by simp only [cV];norm_cast)⟩
    ·
     try dsimp only
     first|omega|(simp;omega)
   ·
    iterate 6 refine ab ?_
    obtain rfl:i=6:=by omega
    obtain rfl:=Dx hns hI;have hf:=jk b 1;iterate 8 refine ab ?_
    refine ai rfl rfl (ge 4) ?_;refine ai rfl rfl (fo) ?_;refine am (fun h10_3=>?_) (fun h10_3=>?_)
    ·
     iterate 4 refine ab ?_
     refine ai rfl rfl (aL []) ?_;refine ai rfl rfl (cb ic [0,0,0,0] []) ?_;iterate 5 refine ab ?_
     have e:=xw (b:=b) (by omega) (by rw [DL _ (by omega)] at h10_3;omega);rw [xu (by omega),gy (by omega),gy (by omega),gy (by omega),gy (by omega),e];refine ak (0) [_,_,_] [_,_,_] ?_;rfl
    ·
     iterate 8 refine ab ?_
     refine ai rfl rfl (ge 15) ?_;refine ai rfl rfl (fo) ?_;refine ai rfl rfl (dm) ?_;refine ab ?_;refine ai rfl rfl (ge 11) ?_;refine ai rfl rfl (fo) ?_;refine ab ?_;refine ai rfl rfl (ge 10) ?_;refine ai rfl rfl (fo) ?_;refine ai rfl rfl (dm) ?_;refine ab ?_;refine ai rfl rfl (ge 9) ?_;refine ai rfl rfl (fo) ?_;refine ai rfl rfl (dm) ?_;refine ab ?_;refine ai rfl rfl (ge 8) ?_;refine ai rfl rfl (fo) ?_;refine ai rfl rfl (dm) ?_;refine ab ?_;refine ai rfl rfl (ge 7) ?_;refine ai rfl rfl (fo) ?_;refine ai rfl rfl (dm) ?_;refine ab ?_;refine ai rfl rfl (fo) ?_;refine ai rfl rfl (aL [(_,_),(_,_),(_,_),(_,_),(_,_),(_,_),(_,_),(_,_)]) ?_;refine ai rfl rfl (ap 1328) ?_;iterate 3 refine ab ?_
     refine bj [ag,ag,ag,ag,ag,ag,ag,ag,ag,ag,bv [(100,_)],bv [(101,_)],ag] [af [8] [1328] 72,af [5] [400] 73,af [72] [400] 74,af [5] [400] 75,af [74] [400] 76,af [5] [400] 77,af [76] [400] 78,af [5] [400] 79,af [78] [400] 80,af [73,75,77,79] [] 81,af [2,71] [100] 0 [100],af [3,80] [101] 0 [101],af [] [] 5] rfl ⟨ah,ah,ah,ah,ah,ah,ah,ah,ah,aC fun _=>aN rfl rfl (cb ic [_,_,_,_] [(_,_),(_,_),(_,_),(_,_)]),ah,ah,ah,trivial⟩ ?_;refine ab ?_;have e:=AG (b:=b) (by omega) (by rw [DL _ (by omega)] at h10_3;omega);rw [xt e,gw e,gw e,gw e,gw e,e];refine ak (0) [_,_,_] [_,_,_] ?_;rw [EY _ _ hf.1];rfl
def nD (h:Hdr):Hd:=⟨h.id,h.resp,h.op,h.aa,h.tc,h.rd,h.ra,h.code⟩
def shB (n:Int):Bool:=decide (0≤n)&&decide (n≤65535)
def wB (n:Int):Bool:=decide (n<0) || decide (65536≤n)
theorem CZ (n:Int):wB n=!shB n:=by
 unfold wB shB;by_cases h1:n<0<;>by_cases h2:65536≤n<;>simp [h1,h2]<;>omega
def rb (l:List Int):Bool:=!(l.any wB)
theorem iL (a b:Int):rb [a,b]=(shB a&&shB b):=by
 simp [rb,CZ]
def qOk (q:Qu):Bool:=bm q.nm&&rb [q.ty,q.cs]
def rOk (r:Rr):Bool:=bm r.nm&&rb [r.ty,r.cs]&&!decide (r.ttl<0)&&!decide (4294967296≤r.ttl)&&fA r.ty r.da
def Msg.rrs (m:Msg):List Rr:=m.an++m.au++m.ad
def hdO (m:Msg):Prop:=(nD m.h).can m.qs.length m.an.length m.au.length m.ad.length
instance (m:Msg):Decidable (hdO m):=by unfold hdO;infer_instance
def jO (m:Msg):Bool:=decide (hdO m)&&!(m.qs.any fun q=>!qOk q)&&!(m.rrs.any fun r=>!rOk r)
theorem j8 {α:Type} {p:α→Bool} {l:List α}:(!(l.any fun x=>!p x))=l.all p:=by
 induction l with
 | nil=>rfl
 | cons a l ih=>rw [List.any_cons,List.all_cons,← ih,Bool.not_or,Bool.not_not]
theorem wz (t:Int) (b:List UInt8) (lv:Nat) (h:b.length≤140737488351232):AC Tryz.prog 74 [i64 t,.fz lv b.length (cl bc b)] emp (Ret (tf (fA t b))):=by
 by_cases h6:t=6
 · subst h6;exact Ba b lv h
 · rw [c7 h6];exact oV t b lv h h6
theorem d8 {α:Type} [Inhabited α] {L:List (List α)} {i:Nat} (h:i<L.length):(L.take (i+1)).flatten=(L.take i).flatten++L.getD i default:=by
 rw [bK h];simp
theorem d0 {α:Type} (L:List (List α)) (i:Nat):(L.take i).flatten.length≤L.flatten.length:=by
 have:L.flatten=(L.take i).flatten++(L.drop i).flatten:=by rw [← List.flatten_append,List.take_append_drop]
 rw [this,List.length_append];omega
theorem yU (m:Nat) (h:m*64≤140737488351232):AC Tryz.prog 145 [.v (.slice none 0 0),i64 m] (ao []) (bZ (.sl 8 0 0 0 5) [(8,.row (cl rrc []) 5 0)]):=by
 refine AC.intro te_ok (fn:=Tryz.f145) ⟨Tryz.func145,rfl,rfl⟩ (aE rfl) ?_;iterate 8 refine ab ?_
 refine am (fun h1_1=>?_) (fun h1_1=>?_)
 ·
  exfalso;omega
 ·
  iterate 8 refine ab ?_
  refine ai rfl rfl (rO) ?_;iterate 9 refine ab ?_
  refine am (fun h4_1=>?_) (fun h4_1=>?_)
  ·
   iterate 5 refine ab ?_
   refine ai rfl rfl (rO) ?_;refine ai rfl rfl (zA) ?_;refine ab ?_;refine ai rfl rfl (vT 8 m rrc (esz:=5)) ?_;iterate 11 refine ab ?_
   refine aQ (0) [] [_] [.sl 8 0 0 0 5] [(8,.row (cl rrc []) 5 0)] ?_;rfl
  ·
   iterate 7 refine ab ?_
   refine AOps.weak (Weak.niltmp 4 8 5 rrc) ?_;iterate 2 refine ab ?_
   refine aQ (0) [] [_] [.sl 8 0 0 0 5] [(8,.row (cl rrc []) 5 0)] ?_;rfl
theorem oX (L:List (List Rr)) (lv:Nat) (hL:L.length≤1000) (h:L.flatten.length*64≤140737488351232):AC Tryz.prog 102 [.fz lv L.length (cl (lc 0 rrc) L)] emp (Ret (.fz 0 L.flatten.length (cl rrc L.flatten))):=by
 refine AC.intro te_ok (fn:=Tryz.f102) ⟨Tryz.func102,rfl,rfl⟩ (aE rfl) ?_;iterate 16 refine ab ?_
 refine AWp.loopR (α:=Nat) [3,5,11,12,13,14,15,16,17,18,19,20,21,22] (fun i=>[(11,i64 i),(3,i64 (L.take i).flatten.length)]) (fun i=>[]) (fun i=>i≤L.length) (fun i=>L.length-i) 0 ?_ (Back.mk' (HasT.cons (HasT.cons HasT.nil)) HasH.nil) ?_
 ·
  exact Nat.zero_le _
 ·
  rintro i hi;have hle:=d0 L i;have hle2:=d0 L (i+1);iterate 2 refine ab ?_
  refine am (fun h3_0=>?_) (fun h3_0=>?_)
  ·
   iterate 14 refine ab ?_
   have hst:=d8 (L:=L) (i:=i) (by omega);rw [hst,List.length_append] at hle2;have hgl:(L[i]?.getD default).length=(L.getD i default).length:=by rw [← List.getD_eq_getElem?_getD]
   have hgt:(L.getD (i:Int).toNat default).length=(L.getD i default).length:=rfl;iterate 9 refine ab ?_
   refine am (fun h6_1=>?_) (fun h6_1=>?_)
   ·
    exfalso;omega
   ·
    iterate 7 refine ab ?_
    refine ⟨i+1,?_,Back.mk' (HasT.cons (HasT.cons HasT.nil (h1:=by exact ci (by rw [d8 (by omega),List.length_append];rfl)) )) HasH.nil,?_⟩
    ·
     first|assumption|omega|decide|(simp;omega)|(simp [*];done)
    ·
     first|omega|(simp;omega)
  ·
   iterate 6 refine ab ?_
   obtain rfl:i=L.length:=by omega
   rw [List.take_length];refine ab ?_;refine ai rfl rfl (ay (0) [] [(8,10018)] [(_,_)] (hc:=(yU L.flatten.length h))) ?_;iterate 10 refine ab ?_
   refine AWp.loopR (α:=Nat×List Rr×Nat) [6,8,27,28,29,30,31,32,33,34] (fun x_=>[(27,i64 (x_.1)),(6,.sl 10018 (x_.2.2) 0 (x_.2.1).length 5)]) (fun x_=>[(10018,.row (cl rrc (x_.2.1)) 5 (x_.2.2))]) (fun x_=>(x_.1)≤L.length∧(x_.2.1)=(L.take (x_.1)).flatten) (fun x_=>L.length-(x_.1)) (0,[],0) ?_ (Back.mk' (HasT.cons (HasT.cons HasT.nil)) (HasH.cons HasH.nil)) ?_
   ·
    exact ⟨Nat.zero_le _,rfl⟩
   ·
    rintro ⟨i,acc,v⟩ hI11;change i≤L.length∧acc=(L.take i).flatten at hI11;obtain ⟨hi,ha⟩:=hI11;refine AWp.as (s':=AS.over _ [6,8,27,28,29,30,31,32,33,34] [(27,i64 i),(6,.sl 10018 v 0 acc.length 5)] [(10018,.row (cl rrc acc) 5 v)]) rfl ?_;have hle:=d0 L i;have hle2:=d0 L (i+1);have hal:=congrArg List.length ha;iterate 2 refine ab ?_
    refine am (fun h11_0=>?_) (fun h11_0=>?_)
    ·
     iterate 13 refine ab ?_
     have hst:=d8 (L:=L) (i:=i) (by omega);rw [hst,List.length_append] at hle2;have hgl:(L[i]?.getD default).length=(L.getD i default).length:=by rw [← List.getD_eq_getElem?_getD]
     have hgt:(L.getD (i:Int).toNat default).length=(L.getD i default).length:=rfl;iterate 9 refine ab ?_
     refine ⟨(i+1,acc++L.getD i default,v+1),?_,Back.mk' (HasT.cons (HasT.cons HasT.nil)) (HasH.cons HasH.nil),?_⟩
     ·
      try dsimp only
      exact ⟨by omega,by rw [ha,d8 (by omega)]⟩
     ·
      try dsimp only
      first|omega|(simp;omega)
    ·
     iterate 10 refine ab ?_
     obtain rfl:i=L.length:=by omega
     rw [List.take_length] at ha;subst ha;refine ak (0) [_] [_] ?_;rfl
theorem tz (n:Int):AC Tryz.prog 156 [i64 n] emp (Ret (tf (wB n))):=by
 refine AC.intro te_ok (fn:=Tryz.f156) ⟨Tryz.func156,rfl,rfl⟩ (aE rfl) ?_;iterate 7 refine ab ?_
 refine am (fun h1_1=>?_) (fun h1_1=>?_)
 ·
  iterate 7 refine ab ?_
  refine ak (0) [_] [_] ?_;exact congrArg tf (by simp [wB, *])
 ·
  iterate 2 refine ab ?_
  refine cw rfl rfl rfl rfl rfl (gX) ?_;iterate 4 refine ab ?_
  refine ak (0) [_] [_] ?_;exact congrArg tf (by simp [wB, *])
theorem qS (l:List Int) (lv:Nat) (hl:l.length≤140737488351232):AC Tryz.prog 141 [.fz lv l.length (cl ic l)] emp (Ret (tf (rb l))):=by
 refine AC.intro te_ok (fn:=Tryz.f141) ⟨Tryz.func141,rfl,rfl⟩ (aE rfl) ?_;iterate 7 refine ab ?_
 refine ai rfl rfl (aj (lv) (hc:=(eQ l lv 0 (lv+1) [] wB hl rfl (fun n _=>tz n)))) ?_;iterate 4 refine ab ?_
 refine ak (0) [_] [_] ?_;rfl
theorem tB (q:Qu) (h:q.nm.length≤140737488351232):AC Tryz.prog 140 [.agg (quc q)] emp (Ret (tf (!qOk q))):=by
 refine AC.intro te_ok (fn:=Tryz.f140) ⟨Tryz.func140,rfl,rfl⟩ (aE rfl) ?_;iterate 2 refine ab ?_
 refine ai rfl rfl (aS 100) ?_;iterate 6 refine ab ?_
 refine AOps.bool rfl rfl (aj (0) (hc:=(cu q.nm (by omega)))) (fun h1_2=>?_) (fun h1_2=>?_)
 ·
  iterate 6 refine ab ?_
  refine cw rfl rfl rfl rfl rfl (bO 209 ic [_,_] [(_,_),(_,_)]) ?_;refine cw rfl rfl rfl rfl rfl (aj (0) (hc:=(qS [q.ty,q.cs] 1 (by simp)))) ?_;iterate 5 refine ab ?_
  refine ak (0) [_] [_] ?_;exact congrArg tf (by simp [qOk, *])
 ·
  iterate 13 refine ab ?_
  refine ak (0) [_] [_] ?_;exact congrArg tf (by simp [qOk, *])
theorem tA (r:Rr) (h:r.nm.length≤140737488351232) (hd:r.da.length≤140737488351232):AC Tryz.prog 142 [.agg (rrc r)] emp (Ret (tf (!rOk r))):=by
 refine AC.intro te_ok (fn:=Tryz.f142) ⟨Tryz.func142,rfl,rfl⟩ (aE rfl) ?_;iterate 2 refine ab ?_
 refine ai rfl rfl (aS 100) ?_;iterate 6 refine ab ?_
 refine AOps.bool rfl rfl (aj (0) (hc:=(cu r.nm (by omega)))) (fun h1_2=>?_) (fun h1_2=>?_)
 ·
  iterate 6 refine ab ?_
  refine cw rfl rfl rfl rfl rfl (bO 209 ic [_,_] [(_,_),(_,_)]) ?_;refine AOps.gbool rfl rfl rfl rfl rfl (aj (0) (hc:=(qS [r.ty,r.cs] 1 (by simp)))) (fun h1_10=>?_) (fun h1_10=>?_)
  ·
   iterate 5 refine ab ?_
   refine am (fun h1_16=>?_) (fun h1_16=>?_)
   ·
    iterate 17 refine ab ?_
    refine ak (0) [_] [_] ?_;exact congrArg tf (by simp [rOk, *])
   ·
    iterate 4 refine ab ?_
    refine am (fun h1_21=>?_) (fun h1_21=>?_)
    ·
     iterate 12 refine ab ?_
     refine ak (0) [_] [_] ?_;exact congrArg tf (by simp [rOk, *])
    ·
     iterate 6 refine ab ?_
     refine cw rfl rfl rfl rfl rfl (aj (0) (hc:=(wz r.ty r.da _ hd))) ?_;iterate 5 refine ab ?_
     refine ak (0) [_] [_] ?_;exact congrArg tf (by simp [rOk, *])
  ·
   iterate 23 refine ab ?_
   refine ak (0) [_] [_] ?_;exact congrArg tf (by simp [rOk, *])
 ·
  iterate 31 refine ab ?_
  refine ak (0) [_] [_] ?_;exact congrArg tf (by simp [rOk, *])
def oB (m:Msg):Prop:=(∀ x∈m.qs,x.nm.length≤140737488351232)∧∀ x∈m.rrs,x.nm.length≤140737488351232
theorem t6 {h:Hd} {c0 c1 c2 c3:Int}:hE h c0 c1 c2 c3=0↔h.can c0 c1 c2 c3:=by
 unfold hE;split<;>simp [*]
theorem eM {m:Msg} (h:hdO m):m.qs.length≤65535∧m.an.length≤65535∧m.au.length≤65535∧m.ad.length≤65535:=by
 obtain ⟨_,_,_,a,b,c,d⟩:=h;exact ⟨by omega,by omega,by omega,by omega⟩
theorem mK (m:Msg):[m.an,m.au,m.ad].flatten=m.rrs:=by simp [Msg.rrs]
theorem zt {m:Msg} (h:gp m):∀ x∈m.rrs,x.da.length≤140737488351232:=by
 obtain ⟨_,h1,h2,h3⟩:=h;intro x hx;simp only [Msg.rrs,List.mem_append] at hx;rcases hx with (hx|hx)|hx
 · exact h1.2 x hx
 · exact h2.2 x hx
 · exact h3.2 x hx
theorem qW (l:List (Qu)) (lv lv' lw:Nat) (caps:List AV) (g:Qu→Bool) {fid:Nat} (hl:l.length≤140737488351232) (hcaps:AV.oks lw caps=true) (hg:∀ x∈l,AC Tryz.prog fid (.agg (quc x)::caps) emp (Ret (tf (g x)))):AC Tryz.prog 155 [.fz lv l.length (cl (quc) l),.fn (.func fid) [] caps] emp (Ret (i64 (idx g l))):=by
 refine AC.intro te_ok (fn:=Tryz.f155) ⟨Tryz.func155,rfl,rfl⟩ (aE rfl) ?_;iterate 12 refine ab ?_
 refine AWp.loopR (α:=Nat) [4,5,8,9,10,11,12,13,14,15,16,17,18] (fun i=>[(8,i64 i)]) (fun i=>[]) (fun i=>i≤l.length∧∀ x∈l.take i,g x=false) (fun i=>l.length-i) 0 ?_ (Back.mk' (HasT.cons HasT.nil) HasH.nil) ?_
 ·
  exact ⟨Nat.zero_le _,by simp⟩
 ·
  rintro i ⟨hi,hI⟩;iterate 2 refine ab ?_
  refine am (fun h2_0=>?_) (fun h2_0=>?_)
  ·
   iterate 18 refine ab ?_
   refine AOps.bool rfl rfl (aj (lv+lv'+lw) (hA:=by exact kl (l:=lw) (dG rfl (by first|rfl|exact fG (by omega)|(simp [AV.ok,AV.oks];done))) (by omega) hcaps) (hc:=(hg _ (dT (i:=i) (by omega))))) (fun h4_5=>?_) (fun h4_5=>?_)
   ·
    iterate 8 refine ab ?_
    refine ak (0) [_] [_] ?_;exact ci (qB (by omega) hI h4_5).symm
   ·
    iterate 7 refine ab ?_
    refine ⟨i+1,?_,Back.mk' (HasT.cons HasT.nil) HasH.nil,?_⟩
    ·
     exact ⟨by omega,n6 (by omega) hI h4_5⟩
    ·
     first|omega|(simp;omega)
  ·
   iterate 9 refine ab ?_
   refine ak (0) [_] [_] ?_;exact ci (kj (by rwa [List.take_of_length_le (by omega)] at hI)).symm
theorem nu (l:List (Qu)) (lv lv' lw:Nat) (caps:List AV) (g:Qu→Bool) {fid:Nat} (hl:l.length≤140737488351232) (hcaps:AV.oks lw caps=true) (hg:∀ x∈l,AC Tryz.prog fid (.agg (quc x)::caps) emp (Ret (tf (g x)))):AC Tryz.prog 139 [.fz lv l.length (cl (quc) l),.fn (.func fid) [] caps] emp (Ret (tf (l.any g))):=by
 refine AC.intro te_ok (fn:=Tryz.f139) ⟨Tryz.func139,rfl,rfl⟩ (aE rfl) ?_;iterate 8 refine ab ?_
 refine ai rfl rfl (aj (lv+lv'+lw) (hA:=by exact ⟨dG rfl (fG (by omega)),dG (b:=.fn (.func fid) [] caps) rfl (by simp [AV.ok,AV.oks,AV.oks_mono (show lw≤lv+lv'+lw by omega) hcaps]),trivial⟩) (hc:=(qW l lv lv' lw caps g hl hcaps hg))) ?_;refine ai rfl rfl (gX) ?_;iterate 3 refine ab ?_
 refine ak (0) [_] [_] ?_;exact congrArg tf py
theorem qV (l:List (Rr)) (lv lv' lw:Nat) (caps:List AV) (g:Rr→Bool) {fid:Nat} (hl:l.length≤140737488351232) (hcaps:AV.oks lw caps=true) (hg:∀ x∈l,AC Tryz.prog fid (.agg (rrc x)::caps) emp (Ret (tf (g x)))):AC Tryz.prog 73 [.fz lv l.length (cl (rrc) l),.fn (.func fid) [] caps] emp (Ret (i64 (idx g l))):=by
 refine AC.intro te_ok (fn:=Tryz.f73) ⟨Tryz.func73,rfl,rfl⟩ (aE rfl) ?_;iterate 12 refine ab ?_
 refine AWp.loopR (α:=Nat) [4,5,8,9,10,11,12,13,14,15,16,17,18] (fun i=>[(8,i64 i)]) (fun i=>[]) (fun i=>i≤l.length∧∀ x∈l.take i,g x=false) (fun i=>l.length-i) 0 ?_ (Back.mk' (HasT.cons HasT.nil) HasH.nil) ?_
 ·
  exact ⟨Nat.zero_le _,by simp⟩
 ·
  rintro i ⟨hi,hI⟩;iterate 2 refine ab ?_
  refine am (fun h2_0=>?_) (fun h2_0=>?_)
  ·
   iterate 18 refine ab ?_
   refine AOps.bool rfl rfl (aj (lv+lv'+lw) (hA:=by exact kl (l:=lw) (dG rfl (by first|rfl|exact fG (by omega)|(simp [AV.ok,AV.oks];done))) (by omega) hcaps) (hc:=(hg _ (dT (i:=i) (by omega))))) (fun h4_5=>?_) (fun h4_5=>?_)
   ·
    iterate 8 refine ab ?_
    refine ak (0) [_] [_] ?_;exact ci (qB (by omega) hI h4_5).symm
   ·
    iterate 7 refine ab ?_
    refine ⟨i+1,?_,Back.mk' (HasT.cons HasT.nil) HasH.nil,?_⟩
    ·
     exact ⟨by omega,n6 (by omega) hI h4_5⟩
    ·
     first|omega|(simp;omega)
  ·
   iterate 9 refine ab ?_
   refine ak (0) [_] [_] ?_;exact ci (kj (by rwa [List.take_of_length_le (by omega)] at hI)).symm
theorem cA (l:List (Rr)) (lv lv' lw:Nat) (caps:List AV) (g:Rr→Bool) {fid:Nat} (hl:l.length≤140737488351232) (hcaps:AV.oks lw caps=true) (hg:∀ x∈l,AC Tryz.prog fid (.agg (rrc x)::caps) emp (Ret (tf (g x)))):AC Tryz.prog 36 [.fz lv l.length (cl (rrc) l),.fn (.func fid) [] caps] emp (Ret (tf (l.any g))):=by
 refine AC.intro te_ok (fn:=Tryz.f36) ⟨Tryz.func36,rfl,rfl⟩ (aE rfl) ?_;iterate 8 refine ab ?_
 refine ai rfl rfl (aj (lv+lv'+lw) (hA:=by exact ⟨dG rfl (fG (by omega)),dG (b:=.fn (.func fid) [] caps) rfl (by simp [AV.ok,AV.oks,AV.oks_mono (show lw≤lv+lv'+lw by omega) hcaps]),trivial⟩) (hc:=(qV l lv lv' lw caps g hl hcaps hg))) ?_;refine ai rfl rfl (gX) ?_;iterate 3 refine ab ?_
 refine ak (0) [_] [_] ?_;exact congrArg tf py
theorem m9 (m:Msg):AC Tryz.prog 99 [.agg (dn m)] emp (Ret (.agg [i64 m.qs.length,i64 m.an.length,i64 m.au.length,i64 m.ad.length])):=by
 refine AC.intro te_ok (fn:=Tryz.f99) ⟨Tryz.func99,rfl,rfl⟩ (aE rfl) ?_;iterate 2 refine ab ?_
 refine ai rfl rfl (aS 100) ?_;refine ai rfl rfl (ap 101) ?_;iterate 15 refine ab ?_
 refine ai rfl rfl (cb ic [_,_,_,_] [(_,_),(_,_),(_,_),(_,_)]) ?_;iterate 3 refine ab ?_
 refine ak (0) [_] [_] ?_;rfl
theorem wt (m:Msg) (h:gp m) (hn:oB m):AC Tryz.prog 97 [.agg (dn m)] emp (Ret (tf (jO m))):=by
 obtain ⟨q1,q2,q3,q4⟩:=id h;obtain ⟨n1,n2⟩:=id hn;have q5:=zt h;refine AC.intro te_ok (fn:=Tryz.f97) ⟨Tryz.func97,rfl,rfl⟩ (aE rfl) ?_;iterate 2 refine ab ?_
 refine ai rfl rfl (aS 100) ?_;iterate 4 refine ab ?_
 refine bj [ag,ag,ag,ag,ag,ag,ag,ag,ag,ag] [af [1] [100] 8,af [7] [100] 9,af [1] [100] 10,af [9] [] 11,af [8,10] [] 12,af [11] [] 7,af [6] [] 13,af [6] [] 14,af [12] [] 4,af [13] [] 5] rfl ⟨ah,ah,ah,aC fun _=>aN rfl rfl (aj (0) (hc:=(m9 m))),aC fun _=>aN rfl rfl (aj (0) (hc:=(pi (nD m.h) m.qs.length m.an.length m.au.length m.ad.length))),ah,ah,ah,ah,ah,trivial⟩ ?_;iterate 3 refine ab ?_
 refine am (fun h2_1=>?_) (fun h2_1=>?_)
 ·
  iterate 7 refine ab ?_
  have hO:¬ hdO m:=fun e=>h2_1 (t6.2 e)
  refine ak (0) [_] [_] ?_;exact congrArg tf (by simp [jO,hO])
 ·
  iterate 6 refine ab ?_
  have hO:hdO m:=t6.1 (by omega);obtain ⟨k1,k2,k3,k4⟩:=eM hO;iterate 2 refine ab ?_
  refine AOps.bool rfl rfl (aj (0) (hc:=(nu m.qs 0 0 0 [] (fun q=>!qOk q) (by omega) rfl (fun q hq=>tB q (n1 q hq))))) (fun h4_2=>?_) (fun h4_2=>?_)
  ·
   iterate 7 refine ab ?_
   refine ak (0) [_] [_] ?_;exact congrArg tf (by rw [jO,h4_2];simp)
  ·
   iterate 15 refine ab ?_
   refine ai rfl rfl (bO 806 (lc 0 rrc) [m.an,m.au,m.ad] [(_,_),(_,_),(_,_)]) ?_;refine ai rfl rfl (aj (0) (hc:=(oX [m.an,m.au,m.ad] 1 (by simp) (by simp;omega)))) ?_;refine ab ?_;refine ai rfl rfl (aj (0) (hc:=(cA [m.an,m.au,m.ad].flatten 0 0 0 [] (fun r=>!rOk r) (by simp;omega) rfl (fun r hr=>tA r (n2 r (by rw [← mK];exact hr)) (q5 r (by rw [← mK];exact hr)))))) ?_;iterate 4 refine ab ?_
   refine ak (0) [_] [_] ?_;rw [mK];exact congrArg tf (by rw [jO,h4_2,decide_eq_true hO];simp)
def Nm (ls:List (List UInt8)):Prop:=GoodN ls∧(aw ls).length≤255
theorem AR {n:List UInt8} (h:bm n=true):∃ ls,Nm ls∧n=aw ls:=by
 obtain ⟨ls,g,e,hl⟩:=d9.1 h;exact ⟨ls,⟨g,hl⟩,e⟩
theorem Nm.lab {ls:List (List UInt8)} (h:Nm ls):aP (aw ls)=ls:=dr h.1 h.2
theorem Nm.cnt {ls:List (List UInt8)} (h:Nm ls):dt (aw ls)=ls.length:=by rw [dt,h.lab]
theorem Nm.par {a:List (List UInt8)} (ha:Nm a):sP (aw a)=(if a=[] then [] else aw (a.drop 1))∧qC (aw a)=decide (a≠[]):=by
 have h:qC (aw a)=decide (a≠[]):=by rw [qC,ha.lab]
 refine ⟨?_,h⟩;rw [sP,h,Eo,ha.lab];by_cases e:a=[]<;>simp [e]
structure Wr where
 b:List UInt8
 m:List (List UInt8×Int)
 deriving Inhabited
def Wr.put (w:Wr) (l:List UInt8) (ls:List (List UInt8)):Wr:=⟨w.b++(ct (l.length:Int)::l),if (w.b.length:Int)<16384 then cp w.m (aw (l::ls)) w.b.length else w.m⟩
def aG:List (List UInt8)→Wr→Wr
 | [],w=>⟨w.b++[0],w.m⟩
 | l::ls,w=>match bg w.m (aw (l::ls)) with
  | some a=>⟨w.b++two (49152+a),w.m⟩
  | none=>aG ls (w.put l ls)
def nmC:List (List UInt8)→Wr→Nat
 | [],w=>1
 | l::ls,w=>match bg w.m (aw (l::ls)) with
  | some a=>1
  | none=>1+nmC ls (w.put l ls)
theorem dx {l:List UInt8} {ls:List (List UInt8)} {w:Wr} {a:Int} (h:bg w.m (aw (l::ls))=some a):aG (l::ls) w=⟨w.b++two (49152+a),w.m⟩∧nmC (l::ls) w=1:=by simp [aG,nmC,h]
theorem cP {l:List UInt8} {ls:List (List UInt8)} {w:Wr} (h:bg w.m (aw (l::ls))=none):aG (l::ls) w=aG ls (w.put l ls)∧nmC (l::ls) w=1+nmC ls (w.put l ls):=by simp [aG,nmC,h]
def WOk (w:Wr):Prop:=∀ k a,bg w.m k=some a→0≤a∧a<16384
theorem WOk.put {w:Wr} (h:WOk w) (l:List UInt8) (ls:List (List UInt8)):WOk (w.put l ls):=by
 intro k a hk;unfold Wr.put at hk;split at hk
 · rw [iR] at hk
   split at hk
   · cases hk;omega
   · exact h k a hk
 · exact h k a hk
theorem pO {l:List UInt8} {ls:List (List UInt8)}:(aw (l::ls)).take (((aw (l::ls)).length:Int)-(aw ls).length).toNat=ct (l.length:Int)::l:=by
 have e:(((aw (l::ls)).length:Int)-(aw ls).length).toNat=l.length+1:=by rw [b7];simp;omega
 rw [e,b7];simp
theorem BU {a:Int} (h0:0≤a) (h1:a<16384):(((49152:Int).toNat ||| a.toNat:Nat):Int)=49152+a:=by
 have e:((49152:Int).toNat)=2 ^ 14*3:=by decide
 rw [e,← Nat.two_pow_add_eq_or_of_lt (by omega:a.toNat<2 ^ 14) 3];omega
theorem Gj {n:Nat} {s:AS} {o:Oper} {d:Option Tmp} {t u:TypeId} {x y:Operand} {a:Int} (ho:o.op=.binOp .or t x y u:=by exact rfl) (hx:s.ev x=i64 49152:=by exact rfl) (hy:s.ev y=i64 a:=by exact rfl)
 (h0:0≤a:=by first|omega|(simp [*];done)) (h1:a<16384:=by first|omega|(simp [*];done)) (hdd:o.dst=d:=by conv=>lhs;whnf) (hd:d.all (Nat.blt · n)=true:=by exact rfl):OpOk Tryz.prog n o s (s.put d (i64 (49152+a))):=by
 rw [← BU h0 h1];exact vP ho hx hy (by omega) (by omega) hdd hd
theorem vE {l:List UInt8} {ls:List (List UInt8)} (h:Nm (l::ls)):Nm ls:=⟨h.1.tail,by have:=i0 (l:=l) (ls:=ls);have:=h.2;omega⟩
theorem kw (l:List Int):(l.flatMap two).length=2*l.length:=by
 induction l with
 | nil=>rfl
 | cons a l ih=>rw [List.flatMap_cons,List.length_append,ih,List.length_cons];show 2+_=_;omega
theorem tD (b:List UInt8) (m:List (List UInt8×Int)) (v:Nat) (l:List Int) (lv:Nat) (hb:b.length+2*l.length≤100000000000):AC Tryz.prog 101 [.ptr 0 0 0,.fz lv l.length (cl ic l)] (ao [(0,.box [.sl 1 (v) 0 (b).length 1,.mp 2 0]),(1,.row (cl bc (b)) 1 (v)),(2,.map (me fI (fun b:Int=>i64 b) (m)))]) (bZ (.tup []) [(0,.box [.sl 1 (v+l.length) 0 (b++l.flatMap two).length 1,.mp 2 0]),(1,.row (cl bc (b++l.flatMap two)) 1 (v+l.length)),(2,.map (me fI (fun b:Int=>i64 b) (m)))]):=by
 refine AC.intro te_ok (fn:=Tryz.f101) ⟨Tryz.func101,rfl,rfl⟩ (aE rfl) ?_;iterate 7 refine ab ?_
 refine AWp.loopR (α:=Nat×List UInt8) [5,8,9,10,11,12,13,14,15,16,17,18,19,20,21,22,23,24,25,26] (fun x_=>[(8,i64 (x_.1))]) (fun x_=>[(0,.box [.sl 1 (v+(x_.1)) 0 (x_.2).length 1,.mp 2 0]),(1,.row (cl bc (x_.2)) 1 (v+(x_.1)))]) (fun x_=>(x_.1)≤l.length∧(x_.2)=b++(l.take (x_.1)).flatMap two) (fun x_=>l.length-(x_.1)) (0,b) ?_ (Back.mk' (HasT.cons HasT.nil) (HasH.cons (HasH.cons HasH.nil))) ?_
 ·
  exact ⟨Nat.zero_le _,by simp⟩
 ·
  rintro ⟨i,acc⟩ hI1;change i≤l.length∧acc=b++(l.take i).flatMap two at hI1;obtain ⟨hi,ha⟩:=hI1;refine AWp.as (s':=AS.over _ [5,8,9,10,11,12,13,14,15,16,17,18,19,20,21,22,23,24,25,26] [(8,i64 i)] [(0,.box [.sl 1 (v+i) 0 acc.length 1,.mp 2 0]),(1,.row (cl bc acc) 1 (v+i))]) rfl ?_;have hal:=congrArg List.length ha;rw [List.length_append,kw,List.length_take] at hal;iterate 2 refine ab ?_
  refine am (fun h1_0=>?_) (fun h1_0=>?_)
  ·
   iterate 19 refine ab ?_
   refine ai rfl rfl (ge 8) ?_;iterate 3 refine ab ?_
   refine ai rfl rfl (bO 410 bc [_,_] [(_,_),(_,_)]) ?_;iterate 9 refine ab ?_
   refine ⟨(i+1,acc++two (l.getD i default)),?_,Back.mk' (HasT.cons HasT.nil) (HasH.cons (HasH.cons HasH.nil)),?_⟩
   ·
    try dsimp only
    exact ⟨by omega,by rw [ha,bK (by omega)];simp⟩
   ·
    try dsimp only
    first|omega|(simp;omega)
  ·
   iterate 4 refine ab ?_
   show Fin te Tryz.f101 _ _;obtain rfl:i=l.length:=by omega
   rw [List.take_length] at ha;subst ha;refine aQ (0) [] [] [] [(_,_),(_,_),(_,_)] ?_ (hobj:=by repeat' (first|exact trivial|exact aK rfl|exact bd rfl rfl|exact iv rfl rfl .row rfl|exact aV rfl rfl|exact bw rfl rfl|exact cJ|exact cT rfl rfl .row (fun _=>rfl) (aE rfl) (fun _=>rfl)|exact aF (fun _=>rfl)|exact lobj_rown (fun _=>rfl)|exact dF (fun _=>rfl)|refine ar ?_|refine ⟨rfl,⟨_,rfl,?_⟩,?_⟩|refine ⟨?_,?_⟩));rfl
theorem CE (ls0:List (List UInt8)) (w0:Wr) (v0:Nat) (hn:Nm ls0) (hw:WOk w0) (hb:w0.b.length≤10000000000):AC Tryz.prog 100 [.ptr 0 0 0,str (aw ls0)] (ao [(0,.box [.sl 1 (v0) 0 (w0.b).length 1,.mp 2 0]),(1,.row (cl bc (w0.b)) 1 (v0)),(2,.map (me fI (fun b:Int=>i64 b) (w0.m)))]) (bZ (.tup []) [(0,.box [.sl 1 (v0+nmC ls0 w0) 0 ((aG ls0 w0).b).length 1,.mp 2 0]),(1,.row (cl bc ((aG ls0 w0).b)) 1 (v0+nmC ls0 w0)),(2,.map (me fI (fun b:Int=>i64 b) ((aG ls0 w0).m)))]):=by
 refine AC.intro te_ok (fn:=Tryz.f100) ⟨Tryz.func100,rfl,rfl⟩ (aE rfl) ?_;iterate 2 refine ab ?_
 refine AWp.loopR (α:=List (List UInt8)×Wr×Nat) [1,4,5,6,7,8,9,10,11,12,13,14,15,16,17,18,19,20,21,22,23,24,25,26,27,28,29,30,31,32,33,34,35,36,37,38,39,40,41,42,43,44,45,46,47,48,49,50,51,52,53,54,55,56,57,58,59,60,61,62] (fun x_=>[(1,str (aw (x_.1)))]) (fun x_=>[(0,.box [.sl 1 ((x_.2.2)) 0 ((x_.2.1).b).length 1,.mp 2 0]),(1,.row (cl bc ((x_.2.1).b)) 1 ((x_.2.2))),(2,.map (me fI (fun b:Int=>i64 b) ((x_.2.1).m)))]) (fun x_=>Nm (x_.1)∧WOk (x_.2.1)∧(x_.2.1).b.length+(aw (x_.1)).length≤w0.b.length+255∧aG (x_.1) (x_.2.1)=aG ls0 w0∧(x_.2.2)+nmC (x_.1) (x_.2.1)=v0+nmC ls0 w0) (fun x_=>(x_.1).length) (ls0,w0,v0) ?_ (Back.mk' (HasT.cons HasT.nil) (HasH.cons (HasH.cons (HasH.cons HasH.nil (h2:=by exact cg (fun _=>rfl)) )))) ?_
 ·
  exact ⟨hn,hw,by have:=hn.2;show w0.b.length+(aw ls0).length≤_;omega,rfl,rfl⟩
 ·
  rintro ⟨ls,w,v⟩ hI0;change Nm ls∧WOk w∧w.b.length+(aw ls).length≤w0.b.length+255∧aG ls w=aG ls0 w0∧v+nmC ls w=v0+nmC ls0 w0 at hI0;obtain ⟨hN,hW,hB,hE,hV⟩:=hI0;refine AWp.as (s':=AS.over _ [1,4,5,6,7,8,9,10,11,12,13,14,15,16,17,18,19,20,21,22,23,24,25,26,27,28,29,30,31,32,33,34,35,36,37,38,39,40,41,42,43,44,45,46,47,48,49,50,51,52,53,54,55,56,57,58,59,60,61,62] [(1,str (aw ls))] [(0,.box [.sl 1 (v) 0 (w.b).length 1,.mp 2 0]),(1,.row (cl bc (w.b)) 1 (v)),(2,.map (me fI (fun b:Int=>i64 b) (w.m)))]) rfl ?_;have hc:=hN.cnt;have h255:=hN.2;iterate 4 refine ab ?_
  refine ai rfl rfl (aj (0) (hc:=cL _ bE)) ?_;refine am (fun h0_2=>?_) (fun h0_2=>?_)
  ·
   iterate 7 refine ab ?_
   obtain ⟨l,ls,rfl⟩:∃ l ls',ls=l::ls':=by
    cases ls with
    | nil=>rw [hc] at h0_2;simp at h0_2
    | cons l ls'=>exact ⟨l,ls',rfl⟩
   iterate 5 refine ab ?_
   refine ai rfl rfl (y0 fI) ?_;iterate 2 refine ab ?_
   refine AOps.bool rfl rfl (bM) (fun h1_8=>?_) (fun h1_8=>?_)
   ·
    obtain ⟨a,hm⟩:=Option.isSome_iff_exists.1 h1_8;have ha:=hW _ _ hm;rw [hm];iterate 12 refine ab ?_
    refine ai rfl rfl (Gj (a:=a)) ?_;refine ai rfl rfl (bO 403 ic [_] [(_,_)]) ?_;refine ai rfl rfl (ay (0) [(0,0),(1,1),(2,2)] [] [(_,_),(_,_),(_,_)] (hobj:=by repeat' (first|exact trivial|exact aK rfl|exact bd rfl rfl|exact aV rfl rfl|exact bw rfl rfl|exact aF (fun _=>rfl)|exact dF (fun _=>rfl)|refine ar ?_|refine ⟨rfl,⟨_,rfl,?_⟩,?_⟩|refine ⟨?_,?_⟩)) (hB:=by repeat' (first|exact trivial|exact cU (lv:=0) (fun _=>rfl)|exact n8 (lv:=0) (fun _=>rfl)|exact rfl|refine ⟨rfl,rfl,?_,?_⟩)) (hL:=by repeat' (first|exact trivial|exact em (fun _=>rfl)|exact n7 (fun _=>rfl)|exact ⟨rfl,rfl⟩|refine ⟨?_,?_⟩)) (hc:=(tD w.b w.m v [49152+a] 1 (by simp;omega)))) ?_;iterate 2 refine ab ?_
    rw [← hE,← hV,(dx hm).1,(dx hm).2];refine aQ (0) [] [] [] [(_,_),(_,_),(_,_)] ?_ (hobj:=by repeat' (first|exact trivial|exact aK rfl|exact bd rfl rfl|exact iv rfl rfl .row rfl|exact aV rfl rfl|exact bw rfl rfl|exact cJ|exact cT rfl rfl .row (fun _=>rfl) (aE rfl) (fun _=>rfl)|exact aF (fun _=>rfl)|exact lobj_rown (fun _=>rfl)|exact dF (fun _=>rfl)|refine ar ?_|refine ⟨rfl,⟨_,rfl,?_⟩,?_⟩|refine ⟨?_,?_⟩));rfl
   ·
    iterate 17 refine ab ?_
    refine am (fun h4_5=>?_) (fun h4_5=>?_)
    ·
     iterate 2 refine ab ?_
     have hput:w.put l ls=⟨w.b++(ct (l.length:Int)::l),cp w.m (aw (l::ls)) w.b.length⟩:=by simp only [Wr.put,if_pos h4_5]
     refine bj [ag,ag,ag,ag,ag,ag,ag,ag,ag,ag,bv [(2,_)]] [af [0] [] 33,af [32] [0] 34,af [33] [0] 35,af [34] [0] 36,af [1] [] 37,af [0] [] 38,af [37] [0] 39,af [38] [0] 40,af [39] [0] 41,af [40] [1] 42,af [35,36,41] [2] 0 [2]] rfl ⟨ah,ah,ah,ah,ah,ah,ah,ah,ah,ah,aC fun _=>aN rfl rfl (gf fI _),trivial⟩ ?_;iterate 3 refine ab ?_
     refine ai rfl rfl (aj (0) (hc:=ma _ bE)) ?_;iterate 7 refine ab ?_
     have hp:sP (aw (l::ls))=aw ls:=by rw [hN.par.1,if_neg (by simp)];rfl
     have hN2:Nm ls:=vE hN;have hm:bg w.m (aw (l::ls))=none:=by cases hq:bg w.m (aw (l::ls)) with
      | none=>rfl
      | some _=>rw [hq] at h1_8;cases h1_8
     have hle:=i0 (l:=l) (ls:=ls);have hJ:(aw (l::ls)).length=l.length+1+(aw ls).length:=by rw [b7];simp;omega
     rw [hp];refine bj [ag,ag,ag,ag,ag,ag,ag,ag,ag,ag,ag,ag,bv [(1,_)],ag,ag,bv [(0,_)]] [af [0] [] 48,af [0] [] 49,af [48] [0] 50,af [49] [0] 51,af [50] [0] 52,af [1] [] 53,af [1] [] 54,af [53] [] 55,af [6] [] 56,af [55] [] 57,af [54,56] [] 58,af [52,57] [] 59,af [51,58] [1] 60 [1],af [47] [0] 61,af [60] [0] 62,af [59,61] [0,1] 0 [0]] rfl ⟨ah,ah,ah,ah,ah,ah,ah,ah,ah,ah,ah,aC fun _=>aN rfl rfl (mQ),ah,ah,ah,ah,trivial⟩ ?_;iterate 4 refine ab ?_
     rw [pO];refine ⟨(ls,⟨w.b++(ct (l.length:Int)::l),cp w.m (aw (l::ls)) w.b.length⟩,v+1),?_,Back.mk' (HasT.cons HasT.nil) (HasH.cons (HasH.cons (HasH.cons HasH.nil (h2:=by exact cg (fun _=>rfl)) ))),?_⟩
     ·
      try dsimp only
      rw [← hput];refine ⟨hN2,hW.put l ls,?_,by rw [← hE,(cP hm).1],by rw [← hV,(cP hm).2];try omega⟩;simp only [List.length_append,List.length_cons];try omega
     ·
      try dsimp only
      simp
    ·
     iterate 5 refine ab ?_
     have hput:w.put l ls=⟨w.b++(ct (l.length:Int)::l),w.m⟩:=by simp only [Wr.put,if_neg h4_5]
     refine ab ?_;refine ai rfl rfl (aj (0) (hc:=ma _ bE)) ?_;iterate 7 refine ab ?_
     have hp:sP (aw (l::ls))=aw ls:=by rw [hN.par.1,if_neg (by simp)];rfl
     have hN2:Nm ls:=vE hN;have hm:bg w.m (aw (l::ls))=none:=by cases hq:bg w.m (aw (l::ls)) with
      | none=>rfl
      | some _=>rw [hq] at h1_8;cases h1_8
     have hle:=i0 (l:=l) (ls:=ls);have hJ:(aw (l::ls)).length=l.length+1+(aw ls).length:=by rw [b7];simp;omega
     rw [hp];refine bj [ag,ag,ag,ag,ag,ag,ag,ag,ag,ag,ag,ag,bv [(1,_)],ag,ag,bv [(0,_)]] [af [0] [] 48,af [0] [] 49,af [48] [0] 50,af [49] [0] 51,af [50] [0] 52,af [1] [] 53,af [1] [] 54,af [53] [] 55,af [6] [] 56,af [55] [] 57,af [54,56] [] 58,af [52,57] [] 59,af [51,58] [1] 60 [1],af [47] [0] 61,af [60] [0] 62,af [59,61] [0,1] 0 [0]] rfl ⟨ah,ah,ah,ah,ah,ah,ah,ah,ah,ah,ah,aC fun _=>aN rfl rfl (mQ),ah,ah,ah,ah,trivial⟩ ?_;iterate 4 refine ab ?_
     rw [pO];refine ⟨(ls,⟨w.b++(ct (l.length:Int)::l),w.m⟩,v+1),?_,Back.mk' (HasT.cons HasT.nil) (HasH.cons (HasH.cons (HasH.cons HasH.nil (h2:=by exact cg (fun _=>rfl)) ))),?_⟩
     ·
      try dsimp only
      rw [← hput];refine ⟨hN2,hW.put l ls,?_,by rw [← hE,(cP hm).1],by rw [← hV,(cP hm).2];try omega⟩;simp only [List.length_append,List.length_cons];try omega
     ·
      try dsimp only
      simp
  ·
   iterate 4 refine ab ?_
   obtain rfl:ls=[]:=by
    cases ls with
    | nil=>rfl
    | cons l ls'=>rw [hc] at h0_2;simp at h0_2;try omega
   iterate 5 refine ab ?_
   refine ai rfl rfl (bO 1005 bc [0] [(_,_)]) ?_;iterate 5 refine ab ?_
   show Fin te Tryz.f100 _ _;rw [← hE,← hV];refine aQ (0) [] [] [] [(_,_),(_,_),(_,_)] ?_ (hobj:=by repeat' (first|exact trivial|exact aK rfl|exact bd rfl rfl|exact iv rfl rfl .row rfl|exact aV rfl rfl|exact bw rfl rfl|exact cJ|exact cT rfl rfl .row (fun _=>rfl) (aE rfl) (fun _=>rfl)|exact aF (fun _=>rfl)|exact lobj_rown (fun _=>rfl)|exact dF (fun _=>rfl)|refine ar ?_|refine ⟨rfl,⟨_,rfl,?_⟩,?_⟩|refine ⟨?_,?_⟩));rfl
theorem oi {t:Int} {d:List UInt8} (h:t=2∨t=5∨t=12) (hd:d.length≤65535):dU t d=bm d:=by
 rw [dU,if_neg (by omega),if_neg (by omega),if_neg (by omega),if_pos h]
theorem yf {t:Int} {d:List UInt8} (h:t=2∨t=5∨t=12) (hd:d.length≤65535) (hc:bm d=true):gq t d=[d]:=by
 rw [gq,if_pos (by rw [oi h hd,hc]),if_pos h]
theorem xB {d:List UInt8} (h:d.length≤65535):dU 15 d=(decide (2<d.length)&&bm (d.drop 2)):=by
 rw [dU,if_neg (by omega),if_neg (by decide),if_neg (by decide),if_neg (by decide),if_pos rfl]
def rk (n:Int):Int:=((n.toNat &&& (65535:Int).toNat:Nat):Int)
def cB (t:Int) (d:List UInt8):List UInt8:=if t=15 then d.take 2 else []
def ba:List (List UInt8)→Wr→Wr
 | [],w=>w
 | n::ns,w=>ba ns (aG (aP n) w)
def lL:List (List UInt8)→Wr→Nat
 | [],w=>0
 | n::ns,w=>nmC (aP n) w+lL ns (aG (aP n) w)
theorem tQ (a b:List (List UInt8)) (w:Wr):ba (a++b) w=ba b (ba a w):=by
 induction a generalizing w with
 | nil=>rfl
 | cons n a ih=>exact ih _
theorem zV (a b:List (List UInt8)) (w:Wr):lL (a++b) w=lL a w+lL b (ba a w):=by
 induction a generalizing w with
 | nil=>simp [lL,ba]
 | cons n a ih=>simp only [List.cons_append,lL,ba,ih];omega
theorem mD {L:List (List UInt8)} {i:Nat} (h:i<L.length) (w:Wr):ba (L.take (i+1)) w=aG (aP (L.getD i default)) (ba (L.take i) w)∧lL (L.take (i+1)) w=lL (L.take i) w+nmC (aP (L.getD i default)) (ba (L.take i) w):=by
 rw [bK h,tQ,zV];exact ⟨rfl,rfl⟩
theorem eb:∀ {ls:List (List UInt8)} {w:Wr},Nm ls→WOk w→WOk (aG ls w)∧(aG ls w).b.length≤w.b.length+(aw ls).length∧w.b.length≤(aG ls w).b.length
 | [],w,_,hw=>⟨hw,by simp [aG,fb],by simp [aG]⟩
 | l::ls,w,hn,hw=>by
  have hJ:(aw (l::ls)).length=l.length+1+(aw ls).length:=by rw [b7];simp;omega
  cases hm:bg w.m (aw (l::ls)) with
  | some a=>
   rw [(dx hm).1];refine ⟨hw,?_,by simp⟩;have h1:=hn.1.head;have h2:=cK ls;have h3:(w.b++two (49152+a)).length=w.b.length+2:=by rw [List.length_append];rfl
   show (w.b++two (49152+a)).length≤_;omega
  | none=>
   rw [(cP hm).1];obtain ⟨a,b,c⟩:=eb (vE hn) (hw.put l ls);have e:(w.put l ls).b.length=w.b.length+(l.length+1):=by simp [Wr.put]
   exact ⟨a,by omega,by omega⟩
theorem cj {n:List UInt8} (h:bm n=true):Nm (aP n)∧aw (aP n)=n:=by
 obtain ⟨ls,a,rfl⟩:=AR h;rw [a.lab];exact ⟨a,rfl⟩
theorem qR (n:List UInt8) (w:Wr) (v:Nat) (hn:bm n=true) (hw:WOk w) (hb:w.b.length≤10000000000) :
 AC Tryz.prog 100 [.ptr 0 0 0,str n] (ao [(0,.box [.sl 1 v 0 w.b.length 1,.mp 2 0]),(1,.row (cl bc w.b) 1 v),(2,.map (me fI (fun b:Int=>i64 b) w.m))])
  (bZ (.tup []) [(0,.box [.sl 1 (v+nmC (aP n) w) 0 (aG (aP n) w).b.length 1,.mp 2 0]),(1,.row (cl bc (aG (aP n) w).b) 1 (v+nmC (aP n) w)),(2,.map (me fI (fun b:Int=>i64 b) (aG (aP n) w).m))]):=by
 have h:=CE (aP n) w v (cj hn).1 hw hb;rw [(cj hn).2] at h;exact h
theorem B6 (t:Int) (b:List UInt8) (lv:Nat) (h:b.length≤140737488351232):AC Tryz.prog 146 [i64 t,.fz lv b.length (cl bc b)] emp (Ret (.fz 0 (bF t b).length (cl sc (bF t b)))):=by
 by_cases h6:t=6
 · subst h6;exact B7 b lv h
 · rw [gM h6];exact rv t b lv h h6
theorem js {t:Int} {d:List UInt8} (h:fA t d=true):d.length≤65535∧(t=15→2≤d.length)∧(∀ n∈bF t d,bm n=true)∧cB t d++(bF t d).flatten <+: d:=by
 by_cases h6:t=6
 · subst h6
   have ho:gH d=true∧d.length≤65535:=by
    rw [fA,if_pos rfl,Bool.and_eq_true] at h;exact ⟨h.2,by simpa using h.1⟩
   have hn:bF 6 d=[(mj d).m,(mj d).r]:=by rw [bF,if_pos rfl,if_pos h]
   have hv:(mj d).m=eP d∧(mj d).r=eP (cutR d):=by rw [mj,if_pos ho.1];exact ⟨rfl,rfl⟩
   have h1:i3 d=true∧i3 (cutR d)=true:=by
    have:=ho.1;unfold gH at this;simp only [Bool.and_eq_true] at this;exact ⟨this.1,this.2.1⟩
   obtain ⟨a1,a2⟩:=uR h1.1;obtain ⟨b1,b2⟩:=uR h1.2;refine ⟨ho.2,by omega,?_,?_⟩
   · rw [hn,hv.1,hv.2];intro n hm
     simp only [List.mem_cons,List.not_mem_nil,or_false] at hm;rcases hm with rfl|rfl
     · exact a2
     · exact b2
   · rw [hn,hv.1,hv.2,cB,if_neg (by omega)]
     refine ⟨cutR (cutR d),?_⟩;conv=>rhs;rw [a1,b1]
     simp
 · rw [c7 h6] at h
   rw [gM h6];have hl:d.length≤65535:=by
    unfold dU at h;split at h
    · cases h
    · omega
   by_cases h15:t=15
   · subst h15
     rw [xB hl] at h;simp only [Bool.and_eq_true,decide_eq_true_eq] at h;have hn:gq 15 d=[d.drop 2]:=by rw [gq,xB hl,h.2,decide_eq_true h.1];rfl
     refine ⟨hl,fun _=>by omega,?_,?_⟩
     · rw [hn];intro n hm;simp at hm;subst hm;exact h.2
     · rw [hn,cB,if_pos rfl];simp
   · by_cases hN:t=2∨t=5∨t=12
     · rw [oi hN hl] at h
       rw [yf hN hl h];refine ⟨hl,fun e=>absurd e h15,?_,?_⟩
       · intro n hm;simp at hm;subst hm;exact h
       · rw [cB,if_neg h15];simp
     · have hn:gq t d=[]:=by rw [gq];split<;>simp [hN,h15]
       rw [hn,cB,if_neg h15];exact ⟨hl,fun e=>absurd e h15,by simp,by simp⟩
def jX (r:Rr):List Int:=[r.ty,r.cs,r.ttl / 2 ^ 16,rk r.ttl,0]
def du (r:Rr) (w:Wr):Wr:=⟨(aG (aP r.nm) w).b++(jX r).flatMap two,(aG (aP r.nm) w).m⟩
def lS (b:List UInt8) (n:Nat):List UInt8:=(b.set ((n:Int)-2).toNat (ct (((b.length:Int)-n) / 2 ^ 8))).set ((n:Int)-1).toNat (ct ((b.length:Int)-n))
def dN (r:Rr):Nat:=(cB r.ty r.da).length+(bF r.ty r.da).flatten.length
def lQ (r:Rr) (w1:Wr):Wr:=⟨(ba (bF r.ty r.da) ⟨w1.b++cB r.ty r.da,w1.m⟩).b++r.da.drop (dN r),(ba (bF r.ty r.da) ⟨w1.b++cB r.ty r.da,w1.m⟩).m⟩
def bB (r:Rr) (w:Wr):Wr:=⟨lS (lQ r (du r w)).b (du r w).b.length,(lQ r (du r w)).m⟩
def i5 (r:Rr) (w:Wr):Bool:=decide (((lQ r (du r w)).b.length:Int)-(du r w).b.length<65536)
def xY (r:Rr) (w:Wr):Nat:=nmC (aP r.nm) w+5+(if r.ty=15 then 1 else 0)+lL (bF r.ty r.da) ⟨(du r w).b++cB r.ty r.da,(du r w).m⟩+1
theorem nI (b:List UInt8) (n:Nat):(lS b n).length=b.length:=by simp [lS]
theorem s7 {L:List (List UInt8)} {i:Nat} (h:i<L.length):(L.take (i+1)).flatten.length=(L.take i).flatten.length+(L.getD i default).length:=by
 rw [d8 h,List.length_append]
theorem F1 (r:Rr) (w0:Wr) (v0:Nat) (hr:rOk r=true) (hw:WOk w0) (hb:w0.b.length≤1000000000):AC Tryz.prog 103 [.ptr 0 0 0,.agg (rrc r)] (ao [(0,.box [.sl 1 (v0) 0 (w0.b).length 1,.mp 2 0]),(1,.row (cl bc (w0.b)) 1 (v0)),(2,.map (me fI (fun b:Int=>i64 b) (w0.m)))]) (bZ (tf (i5 r w0)) [(0,.box [.sl 1 (v0+xY r w0) 0 ((bB r w0).b).length 1,.mp 2 0]),(1,.row (cl bc ((bB r w0).b)) 1 (v0+xY r w0)),(2,.map (me fI (fun b:Int=>i64 b) ((bB r w0).m)))]):=by
 obtain ⟨⟨⟨⟨r1,r2⟩,r3⟩,r4⟩,r5⟩:(((bm r.nm=true∧rb [r.ty,r.cs]=true)∧0≤r.ttl)∧r.ttl<4294967296)∧fA r.ty r.da=true:=by simpa [rOk] using hr
 obtain ⟨d1,d2,d3,d4⟩:=js r5;obtain ⟨c1,c2,c3⟩:=eb (cj r1).1 hw;have c4:=(cj r1).1.2;have d5:=sU r.ty r.da;obtain ⟨w1,hw1⟩:∃ w,w=aG (aP r.nm) w0:=⟨_,rfl⟩;have hwn:du r w0=⟨w1.b++(jX r).flatMap two,w1.m⟩:=by rw [hw1];rfl
 rw [← hw1] at c1 c2 c3;refine AC.intro te_ok (fn:=Tryz.f103) ⟨Tryz.func103,rfl,rfl⟩ (aE rfl) ?_;iterate 2 refine ab ?_
 refine ai rfl rfl (aS 100) ?_;iterate 7 refine ab ?_
 refine ai rfl rfl (ay (0) [(0,0),(1,1),(2,2)] [] [(_,_),(_,_),(_,_)] (hobj:=by repeat' (first|exact trivial|exact aK rfl|exact bd rfl rfl|exact aV rfl rfl|exact bw rfl rfl|exact aF (fun _=>rfl)|exact dF (fun _=>rfl)|refine ar ?_|refine ⟨rfl,⟨_,rfl,?_⟩,?_⟩|refine ⟨?_,?_⟩)) (hB:=by repeat' (first|exact trivial|exact cU (lv:=0) (fun _=>rfl)|exact n8 (lv:=0) (fun _=>rfl)|exact rfl|refine ⟨rfl,rfl,?_,?_⟩)) (hL:=by repeat' (first|exact trivial|exact em (fun _=>rfl)|exact n7 (fun _=>rfl)|exact ⟨rfl,rfl⟩|refine ⟨?_,?_⟩)) (hc:=(qR r.nm w0 v0 r1 hw (by omega)))) ?_;iterate 3 refine ab ?_
 rw [← hw1];iterate 7 refine ab ?_
 refine ai rfl rfl (ge 16) ?_;iterate 2 refine ab ?_
 refine ai rfl rfl (fo) ?_;refine ai rfl rfl (bO 311 ic [_,_,_,_,0] [(_,_),(_,_),(_,_),(_,_),(_,_)]) ?_;refine ai rfl rfl (ay (0) [(0,0),(1,1),(2,2)] [] [(_,_),(_,_),(_,_)] (hobj:=by repeat' (first|exact trivial|exact aK rfl|exact bd rfl rfl|exact aV rfl rfl|exact bw rfl rfl|exact aF (fun _=>rfl)|exact dF (fun _=>rfl)|refine ar ?_|refine ⟨rfl,⟨_,rfl,?_⟩,?_⟩|refine ⟨?_,?_⟩)) (hB:=by repeat' (first|exact trivial|exact cU (lv:=0) (fun _=>rfl)|exact n8 (lv:=0) (fun _=>rfl)|exact rfl|refine ⟨rfl,rfl,?_,?_⟩)) (hL:=by repeat' (first|exact trivial|exact em (fun _=>rfl)|exact n7 (fun _=>rfl)|exact ⟨rfl,rfl⟩|refine ⟨?_,?_⟩)) (hc:=(tD w1.b w1.m (v0+nmC (aP r.nm) w0) (jX r) 1 (by show _+2*5≤_;omega)))) ?_;iterate 3 refine ab ?_
 obtain ⟨B1,hB1⟩:∃ b,b=w1.b++(jX r).flatMap two:=⟨_,rfl⟩;rw [← hB1] at hwn;rw [← hB1];have hBl:B1.length=w1.b.length+10:=by rw [hB1,List.length_append,kw];rfl
 have hp:r.ty=15→cB r.ty r.da=r.da.take 2∧(cB r.ty r.da).length=2:=fun e=>by rw [cB,if_pos e];exact ⟨rfl,by rw [List.length_take];have:=d2 e;omega⟩
 have hq:r.ty≠15→cB r.ty r.da=[]:=fun e=>by rw [cB,if_neg e]
 have hd4:(cB r.ty r.da).length+(bF r.ty r.da).flatten.length≤r.da.length:=by have:=d4.length_le;rw [List.length_append] at this;exact this
 iterate 13 refine ab ?_
 refine AWp.cutR (α:=List UInt8×List UInt8×Nat) [6,34,35,36,37,38,39,40,41,42,43,44,45,46,47,48] (fun x_=>[(6,.fz 0 (x_.2.1).length (cl bc (x_.2.1)))]) (fun x_=>[(0,.box [.sl 1 (x_.2.2) 0 (x_.1).length 1,.mp 2 0]),(1,.row (cl bc (x_.1)) 1 (x_.2.2))]) (fun x_=>(x_.1)=B1++cB r.ty r.da∧(x_.2.1)=r.da.drop (cB r.ty r.da).length∧(x_.2.2)=v0+nmC (aP r.nm) w0+5+(if r.ty=15 then 1 else 0)) ?_ ?_
 ·
  iterate 4 refine ab ?_
  refine am (fun h5_2=>?_) (fun h5_2=>?_)
  ·
   iterate 3 refine ab ?_
   refine bj [ag,ag,ag,ag,ag,ag,ag,bv [(1,_)],ag,ag,bv [(0,_)]] [af [0] [] 38,af [0] [] 39,af [38] [0] 40,af [39] [0] 41,af [40] [0] 42,af [6] [] 43,af [42] [] 44,af [41,43] [1] 45 [1],af [37] [0] 46,af [45] [0] 47,af [44,46] [0,1] 0 [0]] rfl ⟨ah,ah,ah,ah,ah,ah,ah,ah,ah,ah,ah,trivial⟩ ?_;iterate 5 refine ab ?_
   refine ⟨(B1++r.da.take 2,r.da.drop 2,v0+nmC (aP r.nm) w0+5+1),?_,Back.mk' (HasT.cons HasT.nil) (HasH.cons (HasH.cons HasH.nil))⟩;try dsimp only
   exact ⟨by rw [(hp h5_2).1],by rw [(hp h5_2).2],by rw [if_pos h5_2]⟩
  ·
   iterate 3 refine ab ?_
   refine ⟨(B1,r.da,v0+nmC (aP r.nm) w0+5),?_,Back.mk' (HasT.cons HasT.nil) (HasH.cons (HasH.cons HasH.nil))⟩;try dsimp only
   exact ⟨by rw [hq h5_2];simp,by rw [hq h5_2];simp,by rw [if_neg h5_2]⟩
 ·
  rintro ⟨b2,D,v2⟩ hC8;change b2=B1++cB r.ty r.da∧D=r.da.drop (cB r.ty r.da).length∧v2=v0+nmC (aP r.nm) w0+5+(if r.ty=15 then 1 else 0) at hC8;obtain ⟨hb2,hD2,hv2⟩:=hC8;refine AWp.as (s':=AS.over _ [6,34,35,36,37,38,39,40,41,42,43,44,45,46,47,48] [(6,.fz 0 D.length (cl bc D))] [(0,.box [.sl 1 v2 0 b2.length 1,.mp 2 0]),(1,.row (cl bc b2) 1 v2)]) rfl ?_;iterate 7 refine ab ?_
  refine ai rfl rfl (aj (0) (hc:=(B6 r.ty r.da 0 (by omega)))) ?_;iterate 4 refine ab ?_
  refine AWp.loopR (α:=Nat×Wr×Nat×List UInt8) [6,8,55,56,57,58,59,60,61,62,63,64,65,66] (fun x_=>[(55,i64 (x_.1)),(6,.fz 0 (x_.2.2.2).length (cl bc (x_.2.2.2)))]) (fun x_=>[(0,.box [.sl 1 ((x_.2.2.1)) 0 ((x_.2.1).b).length 1,.mp 2 0]),(1,.row (cl bc ((x_.2.1).b)) 1 ((x_.2.2.1))),(2,.map (me fI (fun b:Int=>i64 b) ((x_.2.1).m)))]) (fun x_=>(x_.1)≤(bF r.ty r.da).length∧(x_.2.1)=ba ((bF r.ty r.da).take (x_.1)) ⟨b2,w1.m⟩∧(x_.2.2.1)=v2+lL ((bF r.ty r.da).take (x_.1)) ⟨b2,w1.m⟩∧(x_.2.2.2)=r.da.drop ((cB r.ty r.da).length+((bF r.ty r.da).take (x_.1)).flatten.length)∧WOk (x_.2.1)∧(x_.2.1).b.length≤b2.length+255*(x_.1)∧b2.length≤(x_.2.1).b.length) (fun x_=>(bF r.ty r.da).length-(x_.1)) (0,⟨b2,w1.m⟩,v2,D) ?_ (Back.mk' (HasT.cons (HasT.cons HasT.nil)) (HasH.cons (HasH.cons (HasH.cons HasH.nil (h2:=by exact cg (fun _=>rfl)) )))) ?_
  ·
   exact ⟨Nat.zero_le _,rfl,rfl,hD2,c1,Nat.le_refl _,Nat.le_refl _⟩
  ·
   rintro ⟨i,w,v,D⟩ hI9;change i≤(bF r.ty r.da).length∧w=ba ((bF r.ty r.da).take i) ⟨b2,w1.m⟩∧v=v2+lL ((bF r.ty r.da).take i) ⟨b2,w1.m⟩∧D=r.da.drop ((cB r.ty r.da).length+((bF r.ty r.da).take i).flatten.length)∧WOk w∧w.b.length≤b2.length+255*i∧b2.length≤w.b.length at hI9;obtain ⟨hi,hw,hv,hD,hW,hB,hB2⟩:=hI9;refine AWp.as (s':=AS.over _ [6,8,55,56,57,58,59,60,61,62,63,64,65,66] [(55,i64 i),(6,.fz 0 D.length (cl bc D))] [(0,.box [.sl 1 (v) 0 (w.b).length 1,.mp 2 0]),(1,.row (cl bc (w.b)) 1 (v)),(2,.map (me fI (fun b:Int=>i64 b) (w.m)))]) rfl ?_;have hDl:=congrArg List.length hD;rw [List.length_drop] at hDl;have hbl:=congrArg List.length hb2;rw [List.length_append] at hbl;iterate 2 refine ab ?_
   refine am (fun h9_0=>?_) (fun h9_0=>?_)
   ·
    iterate 8 refine ab ?_
    have hmem:(bF r.ty r.da).getD i default∈bF r.ty r.da:=by rw [List.getD_eq_getElem?_getD,List.getElem?_eq_getElem (by omega)];exact List.getElem_mem _
    have hst:=mD (L:=bF r.ty r.da) (i:=i) (by omega) ⟨b2,w1.m⟩;have hfs:=s7 (L:=bF r.ty r.da) (i:=i) (by omega);obtain ⟨k1,k2,k3⟩:=eb (cj (d3 _ hmem)).1 hW;have k4:=(cj (d3 _ hmem)).1.2;have k5:=d0 (bF r.ty r.da) (i+1);have hgl:((bF r.ty r.da)[i]?.getD default).length=((bF r.ty r.da).getD i default).length:=by rw [← List.getD_eq_getElem?_getD]
    have hgt:((bF r.ty r.da).getD (i:Int).toNat default).length=((bF r.ty r.da).getD i default).length:=rfl;iterate 8 refine ab ?_
    refine ai rfl rfl (ay (0) [(0,0),(1,1),(2,2)] [] [(_,_),(_,_),(_,_)] (hobj:=by repeat' (first|exact trivial|exact aK rfl|exact bd rfl rfl|exact aV rfl rfl|exact bw rfl rfl|exact aF (fun _=>rfl)|exact dF (fun _=>rfl)|refine ar ?_|refine ⟨rfl,⟨_,rfl,?_⟩,?_⟩|refine ⟨?_,?_⟩)) (hB:=by repeat' (first|exact trivial|exact cU (lv:=0) (fun _=>rfl)|exact n8 (lv:=0) (fun _=>rfl)|exact rfl|refine ⟨rfl,rfl,?_,?_⟩)) (hL:=by repeat' (first|exact trivial|exact em (fun _=>rfl)|exact n7 (fun _=>rfl)|exact ⟨rfl,rfl⟩|refine ⟨?_,?_⟩)) (hc:=(qR ((bF r.ty r.da).getD i default) w v (d3 _ hmem) hW (by omega)))) ?_;iterate 12 refine ab ?_
    refine ⟨(i+1,aG (aP ((bF r.ty r.da).getD i default)) w,v+nmC (aP ((bF r.ty r.da).getD i default)) w,D.drop ((bF r.ty r.da).getD i default).length),?_,Back.mk' (HasT.cons (HasT.cons HasT.nil)) (HasH.cons (HasH.cons (HasH.cons HasH.nil (h2:=by exact cg (fun _=>rfl)) ))),?_⟩
    ·
     try dsimp only
     exact ⟨by omega,by rw [hst.1,hw],by rw [hst.2,hv,hw];omega,by rw [hfs,hD,List.drop_drop];congr 1;omega,k1,by omega,by omega⟩
    ·
     try dsimp only
     first|omega|(simp;omega)
   ·
    iterate 6 refine ab ?_
    obtain rfl:i=(bF r.ty r.da).length:=by omega
    rw [List.take_length] at hv hD hw hDl;have hwd:lQ r (du r w0)=⟨w.b++D,w.m⟩:=by
     rw [hwn,lQ];show Wr.mk ((ba (bF r.ty r.da) ⟨B1++cB r.ty r.da,w1.m⟩).b++r.da.drop (dN r)) (ba (bF r.ty r.da) ⟨B1++cB r.ty r.da,w1.m⟩).m=_;rw [← hb2,← hw,hD];rfl
    have hr1:(bB r w0).b=lS (w.b++D) B1.length:=by rw [bB,hwd,hwn]
    have hr2:(bB r w0).m=w.m:=by rw [bB,hwd]
    have hr3:(bB r w0).b.length=(w.b++D).length:=by rw [hr1,nI]
    have hr4:v0+xY r w0=v+1:=by
     rw [xY,hwn,hv,hv2];show v0+(_+5+_+lL (bF r.ty r.da) ⟨B1++cB r.ty r.da,w1.m⟩+1)=_;rw [← hb2];omega
    have hr5:i5 r w0=decide (((w.b++D).length:Int)-B1.length<65536):=by rw [i5,hwd,hwn]
    iterate 23 refine ab ?_
    refine bj [ag,ag,ag,ag,ag,ag,ag,ag,ag,ag,ag,ag,ag,ag,ag,ag,ag,ag,bv [(1,_)],ag,bv [(1,_)]] [af [0] [] 84,af [83] [0] 85,af [84] [0] 86,af [85] [0] 87,af [5] [] 88,af [87] [] 89,af [0] [] 90,af [89] [0] 91,af [90] [0] 92,af [91] [0] 93,af [5] [] 94,af [93] [] 95,af [9] [] 96,af [95] [] 97,af [96] [] 98,af [9] [] 99,af [98] [] 100,af [86,88] [1] 101,af [97,100] [1] 0 [1],af [92,94] [1] 102,af [99,101] [1] 0 [1]] rfl ⟨ah,ah,ah,ah,ah,ah,ah,ah,ah,ah,ah,ah,ah,aC fun _=>aN rfl rfl (ge 8),ah,ah,ah,ah,ah,ah,ah,trivial⟩ ?_;iterate 3 refine ab ?_
    refine ai rfl rfl (e8) ?_;iterate 3 refine ab ?_
    rw [hr3,hr1,hr2,hr4,hr5];refine aQ (0) [] [_] [_] [(_,_),(_,_),(_,_)] ?_ (hobj:=by repeat' (first|exact trivial|exact aK rfl|exact bd rfl rfl|exact iv rfl rfl .row rfl|exact aV rfl rfl|exact bw rfl rfl|exact cJ|exact cT rfl rfl .row (fun _=>rfl) (aE rfl) (fun _=>rfl)|exact aF (fun _=>rfl)|exact lobj_rown (fun _=>rfl)|exact dF (fun _=>rfl)|refine ar ?_|refine ⟨rfl,⟨_,rfl,?_⟩,?_⟩|refine ⟨?_,?_⟩));rfl
theorem mg:∀ {L:List (List UInt8)} {w:Wr},(∀ n∈L,bm n=true)→WOk w→WOk (ba L w)∧(ba L w).b.length≤w.b.length+255*L.length∧w.b.length≤(ba L w).b.length
 | [],w,_,hw=>⟨hw,Nat.le_refl _,Nat.le_refl _⟩
 | n::L,w,hn,hw=>by
  obtain ⟨a,b,c⟩:=eb (cj (hn n (by simp))).1 hw;have d:=(cj (hn n (by simp))).1.2;obtain ⟨e,f,g⟩:=mg (L:=L) (fun x hx=>hn x (by simp [hx])) a;simp only [ba,List.length_cons];exact ⟨e,by omega,by omega⟩
theorem pK {r:Rr} {w:Wr} (hr:rOk r=true) (hw:WOk w):WOk (bB r w):=by
 obtain ⟨⟨⟨⟨r1,r2⟩,r3⟩,r4⟩,r5⟩:(((bm r.nm=true∧rb [r.ty,r.cs]=true)∧0≤r.ttl)∧r.ttl<4294967296)∧fA r.ty r.da=true:=by simpa [rOk] using hr
 have h1:=(eb (cj r1).1 hw).1;exact (mg (js r5).2.2.1 (w:=⟨(du r w).b++cB r.ty r.da,(du r w).m⟩) h1).1
def wrQ (q:Qu) (w:Wr):Wr:=⟨(aG (aP q.nm) w).b++[q.ty,q.cs].flatMap two,(aG (aP q.nm) w).m⟩
theorem yY {q:Qu} {w:Wr} (hq:qOk q=true) (hw:WOk w):bm q.nm=true∧WOk (aG (aP q.nm) w)∧WOk (wrQ q w)∧(aG (aP q.nm) w).b.length≤w.b.length+255∧(wrQ q w).b.length≤w.b.length+259:=by
 have hc:bm q.nm=true:=by unfold qOk at hq;simp only [Bool.and_eq_true] at hq;exact hq.1
 obtain ⟨a,b,c⟩:=eb (cj hc).1 hw;have d:=(cj hc).1.2;refine ⟨hc,a,a,by omega,?_⟩;rw [wrQ,List.length_append,kw];simp only [List.length_cons,List.length_nil];omega
def cC (qs:List Qu) (w:Wr):Wr:=qs.foldl (fun w q=>wrQ q w) w
def mJ (p:Wr×Bool) (r:Rr):Wr×Bool:=if p.2 then (bB r p.1,i5 r p.1&&decide (((bB r p.1).b.length:Int)≤65535)) else p
def cz (rs:List Rr) (p:Wr×Bool):Wr×Bool:=rs.foldl mJ p
theorem sd {l:List Qu} {i:Nat} (h:i<l.length) (w:Wr):cC (l.take (i+1)) w=wrQ (l.getD i default) (cC (l.take i) w):=by
 rw [bK h,cC,List.foldl_append];rfl
theorem od {l:List Rr} {i:Nat} (h:i<l.length) (p:Wr×Bool):cz (l.take (i+1)) p=mJ (cz (l.take i) p) (l.getD i default):=by
 rw [bK h,cz,List.foldl_append];rfl
def hdW (m:Msg):Wr:=⟨hB (nD m.h) m.qs.length m.an.length m.au.length m.ad.length,[]⟩
def kF (m:Msg):Wr×Bool:=cz m.rrs (cC m.qs (hdW m),decide (((cC m.qs (hdW m)).b.length:Int)≤65535))
def dI (m:Msg):List UInt8:=if jO m then (if (kF m).2 then (kF m).1.b else []) else []
def gr (m:Msg):Int:=if jO m then (if (kF m).2 then 0 else 42) else 1
theorem jw {m:Msg} (h:jO m=true):hdO m∧(∀ q∈m.qs,qOk q=true)∧∀ r∈m.rrs,rOk r=true:=by
 rw [jO,j8,j8] at h;simp only [Bool.and_eq_true,decide_eq_true_eq,List.all_eq_true] at h;exact ⟨h.1.1,h.1.2,h.2⟩
theorem rr (m:Msg) (h:gp m) (hn:oB m):AC Tryz.prog 58 [.agg (dn m)] emp (Ret (.tup [.fz 0 (dI m).length (cl bc (dI m)),i64 (gr m)])):=by
 refine AC.intro te_ok (fn:=Tryz.f58) ⟨Tryz.func58,rfl,rfl⟩ (aE rfl) ?_;iterate 2 refine ab ?_
 refine ai rfl rfl (aS 100) ?_;refine ai rfl rfl (aR (0) bc) ?_;iterate 6 refine ab ?_
 refine AOps.bool rfl rfl (aj (0) (hc:=(wt m h hn))) (fun h1_1=>?_) (fun h1_1=>?_)
 ·
  iterate 5 refine ab ?_
  have hW0:WOk (hdW m):=fun k a h=>by cases h
  obtain ⟨p1,p2,p3⟩:=jw (m:=m) h1_1;have hz:=t6.2 p1;have hbl:(hdW m).b.length=12:=by
   show (hB (nD m.h) m.qs.length m.an.length m.au.length m.ad.length).length=12;rw [qE p1,Hd.bytes_length]
  obtain ⟨k1,k2,k3,k4⟩:=eM p1;have hrl:m.rrs.length≤196605:=by simp only [Msg.rrs,List.length_append];omega
  refine bj [ag,ag,ag,ag,bv [(4048,_)],ag,ag,ag,ag,ag] [af [1] [100] 17,af [16] [100] 18,af [1] [100] 19,af [18] [] 20,af [17,19] [4048] 21 [4048],af [20] [] 16,af [15] [4048] 22,af [15] [4048] 23,af [21] [] 5,af [22] [] 6] rfl ⟨ah,ah,ah,aC fun _=>aN rfl rfl (aj (0) (hc:=(m9 m))),aC fun _=>aN rfl rfl (ay (0) [] [(8,4048)] [(_,_)] (hobj:=by repeat' (first|exact trivial|exact aK rfl|exact bd rfl rfl|exact aV rfl rfl|exact bw rfl rfl|exact aF (fun _=>rfl)|exact dF (fun _=>rfl)|refine ar ?_|refine ⟨rfl,⟨_,rfl,?_⟩,?_⟩|refine ⟨?_,?_⟩)) (hB:=by repeat' (first|exact trivial|exact cU (lv:=0) (fun _=>rfl)|exact n8 (lv:=0) (fun _=>rfl)|exact rfl|refine ⟨rfl,rfl,?_,?_⟩)) (hL:=by repeat' (first|exact trivial|exact em (fun _=>rfl)|exact n7 (fun _=>rfl)|exact ⟨rfl,rfl⟩|refine ⟨?_,?_⟩)) (hc:=(j0 (nD m.h) m.qs.length m.an.length m.au.length m.ad.length))),ah,ah,ah,ah,ah,trivial⟩ ?_;iterate 4 refine ab ?_
  refine am (fun h4_1=>?_) (fun h4_1=>?_)
  ·
   exfalso;exact h4_1 hz
  ·
   iterate 6 refine ab ?_
   refine ai rfl rfl (gQ 701 fI (fun b:Int=>i64 b)) ?_;refine ai rfl rfl (aL [(_,_),(_,_)]) ?_;refine ai rfl rfl (aS 703) ?_;iterate 11 refine ab ?_
   refine AWp.loopR (α:=Nat×Wr×Nat) [8,33,34,35,36,37,38,39,40,41,42,43,44,45,46,47,48] (fun x_=>[(33,i64 (x_.1))]) (fun x_=>[(703,.box [.sl 4048 ((x_.2.2)) 0 ((x_.2.1).b).length 1,.mp 701 0]),(4048,.row (cl bc ((x_.2.1).b)) 1 ((x_.2.2))),(701,.map (me fI (fun b:Int=>i64 b) ((x_.2.1).m)))]) (fun x_=>(x_.1)≤m.qs.length∧(x_.2.1)=cC (m.qs.take (x_.1)) (hdW m)∧WOk (x_.2.1)∧(x_.2.1).b.length≤12+259*(x_.1)) (fun x_=>m.qs.length-(x_.1)) (0,hdW m,0) ?_ (Back.mk' (HasT.cons HasT.nil) (HasH.cons (HasH.cons (HasH.cons HasH.nil (h2:=by exact cg (fun _=>rfl)) )))) ?_
   ·
    exact ⟨Nat.zero_le _,rfl,hW0,by show (hdW m).b.length≤_;omega⟩
   ·
    rintro ⟨i,w,v⟩ hI8;change i≤m.qs.length∧w=cC (m.qs.take i) (hdW m)∧WOk w∧w.b.length≤12+259*i at hI8;obtain ⟨hi,hw,hW,hB⟩:=hI8;refine AWp.as (s':=AS.over _ [8,33,34,35,36,37,38,39,40,41,42,43,44,45,46,47,48] [(33,i64 i)] [(703,.box [.sl 4048 (v) 0 (w.b).length 1,.mp 701 0]),(4048,.row (cl bc (w.b)) 1 (v)),(701,.map (me fI (fun b:Int=>i64 b) (w.m)))]) rfl ?_;iterate 2 refine ab ?_
    refine am (fun h8_0=>?_) (fun h8_0=>?_)
    ·
     iterate 8 refine ab ?_
     have hq:=yY (p2 _ (dT (i:=i) (by omega))) hW;have hst:=sd (l:=m.qs) (i:=i) (by omega) (hdW m);iterate 2 refine ab ?_
     refine ai rfl rfl (ap 1002) ?_;iterate 7 refine ab ?_
     refine ai rfl rfl (ay (0) [(0,703),(1,4048),(2,701)] [] [(_,_),(_,_),(_,_)] (hobj:=by repeat' (first|exact trivial|exact aK rfl|exact bd rfl rfl|exact aV rfl rfl|exact bw rfl rfl|exact aF (fun _=>rfl)|exact dF (fun _=>rfl)|refine ar ?_|refine ⟨rfl,⟨_,rfl,?_⟩,?_⟩|refine ⟨?_,?_⟩)) (hB:=by repeat' (first|exact trivial|exact cU (lv:=0) (fun _=>rfl)|exact n8 (lv:=0) (fun _=>rfl)|exact rfl|refine ⟨rfl,rfl,?_,?_⟩)) (hL:=by repeat' (first|exact trivial|exact em (fun _=>rfl)|exact n7 (fun _=>rfl)|exact ⟨rfl,rfl⟩|refine ⟨?_,?_⟩)) (hc:=(qR (m.qs.getD i default).nm w v hq.1 hW (by omega)))) ?_;iterate 7 refine ab ?_
     refine ai rfl rfl (bO 1205 ic [_,_] [(_,_),(_,_)]) ?_;refine ai rfl rfl (ay (0) [(0,703),(1,4048),(2,701)] [] [(_,_),(_,_),(_,_)] (hobj:=by repeat' (first|exact trivial|exact aK rfl|exact bd rfl rfl|exact aV rfl rfl|exact bw rfl rfl|exact aF (fun _=>rfl)|exact dF (fun _=>rfl)|refine ar ?_|refine ⟨rfl,⟨_,rfl,?_⟩,?_⟩|refine ⟨?_,?_⟩)) (hB:=by repeat' (first|exact trivial|exact cU (lv:=0) (fun _=>rfl)|exact n8 (lv:=0) (fun _=>rfl)|exact rfl|refine ⟨rfl,rfl,?_,?_⟩)) (hL:=by repeat' (first|exact trivial|exact em (fun _=>rfl)|exact n7 (fun _=>rfl)|exact ⟨rfl,rfl⟩|refine ⟨?_,?_⟩)) (hc:=(tD (aG (aP (m.qs.getD i default).nm) w).b (aG (aP (m.qs.getD i default).nm) w).m (v+nmC (aP (m.qs.getD i default).nm) w) [(m.qs.getD i default).ty,(m.qs.getD i default).cs] 1 (by show _+2*2≤_;omega)))) ?_;iterate 5 refine ab ?_
     refine ⟨(i+1,wrQ (m.qs.getD i default) w,v+nmC (aP (m.qs.getD i default).nm) w+2),?_,Back.mk' (HasT.cons HasT.nil) (HasH.cons (HasH.cons (HasH.cons HasH.nil (h2:=by exact cg (fun _=>rfl)) ))),?_⟩
     ·
      try dsimp only
      exact ⟨by omega,by rw [hst,hw],hq.2.2.1,by have:=hq.2.2.2.2;omega⟩
     ·
      try dsimp only
      first|omega|(simp;omega)
    ·
     iterate 6 refine ab ?_
     obtain rfl:i=m.qs.length:=by omega
     rw [List.take_length] at hw;iterate 5 refine ab ?_
     refine ai rfl rfl (iN) ?_;iterate 11 refine ab ?_
     refine ai rfl rfl (bO 1506 (lc 0 rrc) [m.an,m.au,m.ad] [(_,_),(_,_),(_,_)]) ?_;refine ai rfl rfl (aj (0) (hc:=(oX [m.an,m.au,m.ad] 1 (by simp) (by simp;omega)))) ?_;iterate 2 refine ab ?_
     rw [mK];iterate 2 refine ab ?_
     refine AWp.loopR (α:=Nat×Wr×Nat×Bool) [9,11,64,65,66,67,68,69,70,71,72,73,74,75,76,77,78,79,80,81,82] (fun x_=>[(64,i64 (x_.1)),(9,tf (x_.2.2.2))]) (fun x_=>[(703,.box [.sl 4048 ((x_.2.2.1)) 0 ((x_.2.1).b).length 1,.mp 701 0]),(4048,.row (cl bc ((x_.2.1).b)) 1 ((x_.2.2.1))),(701,.map (me fI (fun b:Int=>i64 b) ((x_.2.1).m)))]) (fun x_=>(x_.1)≤m.rrs.length∧((x_.2.1),(x_.2.2.2))=cz (m.rrs.take (x_.1)) (cC m.qs (hdW m),decide (((cC m.qs (hdW m)).b.length:Int)≤65535))∧WOk (x_.2.1)∧((x_.2.2.2)=true→((x_.2.1).b.length:Int)≤65535)) (fun x_=>m.rrs.length-(x_.1)) (0,w,v,decide ((w.b.length:Int)≤65535)) ?_ (Back.mk' (HasT.cons (HasT.cons HasT.nil)) (HasH.cons (HasH.cons (HasH.cons HasH.nil (h2:=by exact cg (fun _=>rfl)) )))) ?_
     ·
      exact ⟨Nat.zero_le _,by rw [hw];rfl,hW,fun h=>by simpa using h⟩
     ·
      rintro ⟨i,w,v,f⟩ hI15;change i≤m.rrs.length∧(w,f)=cz (m.rrs.take i) (cC m.qs (hdW m),decide (((cC m.qs (hdW m)).b.length:Int)≤65535))∧WOk w∧(f=true→(w.b.length:Int)≤65535) at hI15;obtain ⟨hi,hw,hW,hF⟩:=hI15;refine AWp.as (s':=AS.over _ [9,11,64,65,66,67,68,69,70,71,72,73,74,75,76,77,78,79,80,81,82] [(64,i64 i),(9,tf f)] [(703,.box [.sl 4048 (v) 0 (w.b).length 1,.mp 701 0]),(4048,.row (cl bc (w.b)) 1 (v)),(701,.map (me fI (fun b:Int=>i64 b) (w.m)))]) rfl ?_;iterate 2 refine ab ?_
      refine am (fun h15_0=>?_) (fun h15_0=>?_)
      ·
       iterate 8 refine ab ?_
       have hr:=p3 _ (dT (l:=m.rrs) (i:=i) (by omega));have hst:=od (l:=m.rrs) (i:=i) (by omega) (cC m.qs (hdW m),decide (((cC m.qs (hdW m)).b.length:Int)≤65535));rw [← hw,mJ] at hst;dsimp only at hst;iterate 2 refine ab ?_
       refine ai rfl rfl (ap 1702) ?_;iterate 3 refine ab ?_
       refine AOps.bool rfl rfl (aA) (fun h17_0=>?_) (fun h17_0=>?_)
       ·
        iterate 3 refine ab ?_
        refine cw rfl rfl rfl rfl rfl (ay (0) [(0,703),(1,4048),(2,701)] [] [(_,_),(_,_),(_,_)] (hobj:=by repeat' (first|exact trivial|exact aK rfl|exact bd rfl rfl|exact aV rfl rfl|exact bw rfl rfl|exact aF (fun _=>rfl)|exact dF (fun _=>rfl)|refine ar ?_|refine ⟨rfl,⟨_,rfl,?_⟩,?_⟩|refine ⟨?_,?_⟩)) (hB:=by repeat' (first|exact trivial|exact cU (lv:=0) (fun _=>rfl)|exact n8 (lv:=0) (fun _=>rfl)|exact rfl|refine ⟨rfl,rfl,?_,?_⟩)) (hL:=by repeat' (first|exact trivial|exact em (fun _=>rfl)|exact n7 (fun _=>rfl)|exact ⟨rfl,rfl⟩|refine ⟨?_,?_⟩)) (hc:=(F1 (m.rrs.getD i default) w v hr hW (by have:=hF h17_0;omega)))) ?_;refine ab ?_;refine AOps.bool rfl rfl (aA) (fun h17_6=>?_) (fun h17_6=>?_)
        ·
         iterate 5 refine ab ?_
         refine cw rfl rfl rfl rfl rfl (iN) ?_;iterate 7 refine ab ?_
         refine ⟨(i+1,bB (m.rrs.getD i default) w,v+xY (m.rrs.getD i default) w,decide (((bB (m.rrs.getD i default) w).b.length:Int)≤65535)),?_,Back.mk' (HasT.cons (HasT.cons HasT.nil)) (HasH.cons (HasH.cons (HasH.cons HasH.nil (h2:=by exact cg (fun _=>rfl)) ))),?_⟩
         ·
          try dsimp only
          exact ⟨by omega,by rw [hst,if_pos h17_0,h17_6,Bool.true_and],pK hr hW,fun h=>by simpa using h⟩
         ·
          try dsimp only
          first|omega|(simp;omega)
        ·
         iterate 13 refine ab ?_
         refine ⟨(i+1,bB (m.rrs.getD i default) w,v+xY (m.rrs.getD i default) w,false),?_,Back.mk' (HasT.cons (HasT.cons HasT.nil)) (HasH.cons (HasH.cons (HasH.cons HasH.nil (h2:=by exact cg (fun _=>rfl)) ))),?_⟩
         ·
          try dsimp only
          exact ⟨by omega,by rw [hst,if_pos h17_0,h17_6];rfl,pK hr hW,fun h=>by cases h⟩
         ·
          try dsimp only
          first|omega|(simp;omega)
       ·
        iterate 19 refine ab ?_
        refine ⟨(i+1,w,v,false),?_,Back.mk' (HasT.cons (HasT.cons HasT.nil)) (HasH.cons (HasH.cons (HasH.cons HasH.nil (h2:=by exact cg (fun _=>rfl)) ))),?_⟩
        ·
         try dsimp only
         exact ⟨by omega,by rw [hst,if_neg (by simp [h17_0]),h17_0],hW,fun h=>by cases h⟩
        ·
         try dsimp only
         first|omega|(simp;omega)
      ·
       iterate 7 refine ab ?_
       obtain rfl:i=m.rrs.length:=by omega
       rw [List.take_length] at hw;have hew:kF m=(w,f):=hw.symm;refine AOps.bool rfl rfl (aA) (fun h19_0=>?_) (fun h19_0=>?_)
       ·
        iterate 14 refine ab ?_
        refine ak (0) [_,_] [_,_] ?_;rw [dI,gr,h1_1,hew,h19_0];rfl
       ·
        iterate 5 refine ab ?_
        refine ai rfl rfl (aR (0) bc) ?_;iterate 3 refine ab ?_
        refine ak (0) [_,_] [_,_] ?_;rw [dI,gr,h1_1,hew,h19_0];rfl
 ·
  iterate 5 refine ab ?_
  refine ai rfl rfl (aR (0) bc) ?_;iterate 3 refine ab ?_
  refine ak (0) [_,_] [_,_] ?_;rw [dI,gr,h1_1];rfl
theorem zu {ls:List (List UInt8)}:(aw ls=[0])↔ls=[]:=by
 constructor
 · intro h
   cases ls with
   | nil=>rfl
   | cons l ls=>
    have h1:=congrArg List.length h;have h2:=cK ls;rw [b7] at h1;simp at h1;rw [h1.2] at h2;simp at h2
 · rintro rfl;rfl
def plC (p:List UInt8×Int):List AV:=[str p.1,i64 p.2]
def yx (n:Int):List UInt8:=two (n / 2 ^ 16)++two (rk n)
theorem A3 {m:List (List UInt8×Int)} {n:List UInt8}:∀ {i:Nat},i<m.length→(∀ j,j<i→(m.getD j default).1≠n)→(m.getD i default).1=n→bg m n=some (m.getD i default).2:=by
 induction m with
 | nil=>intro i h;simp at h
 | cons p m ih=>
  obtain ⟨a,b⟩:=p;intro i hi hj he;cases i with
  | zero=>
   have he':a=n:=he;rw [bg,if_pos he'];rfl
  | succ i=>
   have h0:a≠n:=hj 0 (by omega);rw [bg,if_neg h0];exact ih (by simpa using hi) (fun j hj2=>by have:=hj (j+1) (by omega);simpa using this) (by simpa using he)
theorem A4 {m:List (List UInt8×Int)} {n:List UInt8} (h:∀ j,j<m.length→(m.getD j default).1≠n):bg m n=none:=by
 apply rV
 intro hm;obtain ⟨p,hp,e⟩:=List.mem_map.1 hm;obtain ⟨j,hj,e2⟩:=List.mem_iff_getElem.1 hp
 apply h j hj
 rw [List.getD_eq_getElem?_getD,List.getElem?_eq_getElem hj];show (m[j]).1=n;rw [e2,e]
theorem yg {m:List (List UInt8×Int)} {n:List UInt8} {v:Int} (h:bg m n=none):cp m n v=m++[(n,v)]:=by
 rcases ux m n with ⟨_,_,h3,_⟩|h2
 · exact h3 v
 · obtain ⟨i,p,h3⟩:=h2
   simp_all
theorem xe {l:List UInt8} {ls:List (List UInt8)} (g:GoodN (l::ls)):((aw (l::ls)).getD (0:Int).toNat 0).toNat=l.length:=by
 rw [b7];show (ct (l.length:Int)).toNat=l.length;exact gn g.head.2
theorem uB {l:List UInt8} {ls:List (List UInt8)}:(aw (l::ls)).take ((1:Int)+(l.length:Int)).toNat=ct (l.length:Int)::l:=by
 rw [show ((1:Int)+(l.length:Int)).toNat=l.length+1 by omega,b7];simp
theorem uC {l:List UInt8} {ls:List (List UInt8)}:(aw (l::ls)).drop ((1:Int)+(l.length:Int)).toNat=aw ls:=by
 rw [show ((1:Int)+(l.length:Int)).toNat=l.length+1 by omega,b7];simp
theorem Al {l:List UInt8} {ls:List (List UInt8)}:aw (l::ls)≠[0]:=fun h=>by
 have:=zu.1 h;cases this
theorem zq {b:List UInt8} {n a:Nat} (h:n=a+2):(b.set (a:Int).toNat (ct (((b.length:Int)-a-2) / 2 ^ 8))).set ((a:Int)+1).toNat (ct ((b.length:Int)-a-2))=lS b n:=by
 subst h;unfold lS;rw [show (((a+2:Nat):Int)-2).toNat=(a:Int).toNat by omega,show (((a+2:Nat):Int)-1).toNat=((a:Int)+1).toNat by omega,show (b.length:Int)-((a+2:Nat):Int)=(b.length:Int)-a-2 by omega]
def ua (r:Rr) (w:Wr):Nat:=nmC (aP r.nm) w+4+(if r.ty=15 then 1 else 0)+lL (bF r.ty r.da) ⟨(du r w).b++cB r.ty r.da,(du r w).m⟩+1
theorem r7 {α:Type} [Inhabited α] {p:α→Bool} {l:List α} {i:Nat} (h:i<l.length) (h1:(l.take i).all p=true) (h2:p (l.getD i default)=true):(l.take (i+1)).all p=true:=by
 rw [bK h,List.all_append,h1,List.all_cons,List.all_nil,h2];rfl
theorem fH {α:Type} [Inhabited α] {p:α→Bool} {l:List α} {i:Nat} (h:i<l.length) (h2:p (l.getD i default)=false):l.all p=false:=by
 rw [List.all_eq_false];exact ⟨_,dT h,by rw [h2];simp⟩
theorem fB (m:Msg):jO m=(decide (hdO m)&&m.qs.all qOk&&m.rrs.all rOk):=by rw [jO,j8,j8]
theorem sK (q:Qu):qOk q=(bm q.nm&&(decide (0≤q.ty∧q.ty≤65535)&&decide (0≤q.cs∧q.cs≤65535))):=by
 rw [qOk,iL];simp [shB]
theorem mn (r:Rr):rOk r=(bm r.nm&&(decide (0≤r.ty∧r.ty≤65535)&&decide (0≤r.cs∧r.cs≤65535))&&!decide (r.ttl<0)&&!decide (4294967296≤r.ttl)&&fA r.ty r.da):=by
 rw [rOk,iL];simp [shB]
theorem F0 (n:Int):AC Tryz.prog 51 [i64 n] (ao []) (bZ (.sl 8 0 0 (two n).length 1) [(8,.row (cl bc (two n)) 1 0)]):=by
 refine AC.intro te_ok (fn:=Tryz.f51) ⟨Tryz.func51,rfl,rfl⟩ (aE rfl) ?_;iterate 7 refine ab ?_
 refine ai rfl rfl (ge 8) ?_;iterate 3 refine ab ?_
 refine ai rfl rfl (bO 8 bc [_,_] [(_,_),(_,_)]) ?_;iterate 3 refine ab ?_
 refine aQ (0) [8] [_] [.sl 8 0 0 _ 1] [(8,.row (cl bc _) 1 0)] ?_;rfl
theorem si (n:Int):AC Tryz.prog 51 [i64 n] emp (Ret (.fz 0 (two n).length (cl bc (two n)))):=by
 refine AC.intro te_ok (fn:=Tryz.f51) ⟨Tryz.func51,rfl,rfl⟩ (aE rfl) ?_;iterate 7 refine ab ?_
 refine ai rfl rfl (ge 8) ?_;iterate 3 refine ab ?_
 refine ai rfl rfl (bO 205 bc [_,_] [(_,_),(_,_)]) ?_;iterate 3 refine ab ?_
 refine ak (0) [_] [_] ?_;rfl
theorem kM (n:Int) (h:0≤n∧n≤9223372036854775807):AC Tryz.prog 90 [i64 n] emp (Ret (.fz 0 (yx n).length (cl bc (yx n)))):=by
 have t1:(two (n / 2 ^ 16)).length=2:=rfl;have t2:(two (rk n)).length=2:=rfl;have t3:(two (n / 65536)).length=2:=rfl;refine AC.intro te_ok (fn:=Tryz.f90) ⟨Tryz.func90,rfl,rfl⟩ (aE rfl) ?_;iterate 7 refine ab ?_
 refine ai rfl rfl (ge 16) ?_;refine ai rfl rfl (ay (0) [] [(8,2028)] [(_,_)] (hc:=(F0 (n / 2 ^ 16)))) ?_;refine ab ?_;refine ai rfl rfl (fo) ?_;refine ai rfl rfl (aj (0) (hc:=(si (rk n)))) ?_;iterate 4 refine ab ?_
 refine ak (0) [_] [_] ?_;rfl
theorem nt (n:Int):AC Tryz.prog 88 [i64 n] emp (Ret (tf (decide (0≤n∧n≤65535)))):=by
 refine AC.intro te_ok (fn:=Tryz.f88) ⟨Tryz.func88,rfl,rfl⟩ (aE rfl) ?_;iterate 7 refine ab ?_
 refine am (fun h1_1=>?_) (fun h1_1=>?_)
 ·
  iterate 2 refine ab ?_
  refine cw rfl rfl rfl rfl rfl (iN) ?_;iterate 4 refine ab ?_
  refine ak (0) [_] [_] ?_;exact congrArg tf (by simp [*])
 ·
  iterate 7 refine ab ?_
  refine ak (0) [_] [_] ?_;exact congrArg tf (by simp [*];try omega)
theorem dM (m:Msg):AC Tryz.prog 49 [.agg (dn m)] emp (Ret (.agg [i64 m.qs.length,i64 m.an.length,i64 m.au.length,i64 m.ad.length])):=by
 refine AC.intro te_ok (fn:=Tryz.f49) ⟨Tryz.func49,rfl,rfl⟩ (aE rfl) ?_;iterate 2 refine ab ?_
 refine ai rfl rfl (aS 100) ?_;refine ai rfl rfl (ap 101) ?_;iterate 15 refine ab ?_
 refine ai rfl rfl (cb ic [_,_,_,_] [(_,_),(_,_),(_,_),(_,_)]) ?_;iterate 3 refine ab ?_
 refine ak (0) [_] [_] ?_;rfl
theorem gz (m:Msg) (h:gp m) (hO:hdO m):AC Tryz.prog 52 [.agg (dn m)] emp (Ret (.fz 0 m.rrs.length (cl rrc m.rrs))):=by
 obtain ⟨q1,q2,q3,q4⟩:=id h;obtain ⟨k1,k2,k3,k4⟩:=eM hO;refine AC.intro te_ok (fn:=Tryz.f52) ⟨Tryz.func52,rfl,rfl⟩ (aE rfl) ?_;iterate 2 refine ab ?_
 refine ai rfl rfl (aS 100) ?_;iterate 3 refine ab ?_
 refine bj [bv [(200,_)],ag,ag,bv [(200,_)],ag,ag,bv [(200,_)],ag,ag,bv [(200,_)],ag] [af [] [200] 4 [200],af [1] [100] 5,af [4] [100] 6,af [3,5] [200] 7 [200],af [1] [100] 8,af [7] [100] 9,af [6,8] [200] 10 [200],af [1] [100] 11,af [10] [100] 12,af [9,11] [200] 13 [200],af [12] [] 3] rfl ⟨aC fun _=>aN rfl rfl (bO 200 rrc [] []),ah,ah,ah,ah,ah,ah,ah,ah,ah,ah,trivial⟩ ?_;refine ab ?_;rw [Msg.rrs];refine ak (0) [_] [_] ?_;rfl
theorem lN (m:Msg) (h:gp m) (hn:oB m):AC Tryz.prog 47 [.agg (dn m)] emp (Ret (tf (jO m))):=by
 obtain ⟨q1,q2,q3,q4⟩:=id h;obtain ⟨n1,n2⟩:=id hn;have q5:=zt h;refine AC.intro te_ok (fn:=Tryz.f47) ⟨Tryz.func47,rfl,rfl⟩ (aE rfl) ?_;iterate 2 refine ab ?_
 refine ai rfl rfl (aS 100) ?_;iterate 4 refine ab ?_
 by_cases hO:hdO m
 ·
  refine bj [ag,ag,ag,ag,ag,ag] [af [1] [100] 8,af [7] [100] 9,af [1] [100] 10,af [9] [] 11,af [8,10] [] 12,af [11] [] 13] rfl ⟨ah,ah,ah,aC fun _=>aN rfl rfl (aj (0) (hc:=(dM m))),aC fun _=>aN rfl rfl ((OpOk.dec_t (aj (0) (hc:=(er (nD m.h) m.qs.length m.an.length m.au.length m.ad.length))) (hO))),ah,trivial⟩ ?_;iterate 5 refine ab ?_
  obtain ⟨k1,k2,k3,k4⟩:=eM hO;have hrl:m.rrs.length≤196605:=by simp only [Msg.rrs,List.length_append];omega
  iterate 6 refine ab ?_
  refine AWp.loopR (α:=Nat) [2,4,16,17,18,19,20,21,22,23,24,25,26,27,28,29,30,31,32,33,34,35,36] (fun i=>[(16,i64 i)]) (fun i=>[]) (fun i=>i≤m.qs.length∧(m.qs.take i).all qOk=true) (fun i=>m.qs.length-i) 0 ?_ (Back.mk' (HasT.cons HasT.nil) HasH.nil) ?_
  ·
   exact ⟨Nat.zero_le _,rfl⟩
  ·
   rintro i ⟨hi,hI⟩;iterate 2 refine ab ?_
   refine am (fun h4_0=>?_) (fun h4_0=>?_)
   ·
    iterate 8 refine ab ?_
    have hmem:=dT (l:=m.qs) (i:=i) (by omega);iterate 2 refine ab ?_
    refine ai rfl rfl (ap 602) ?_;iterate 6 refine ab ?_
    refine AOps.bool rfl rfl (aj (0) (hc:=(aM (m.qs.getD i default).nm (by have:=n1 _ hmem;omega)))) (fun h6_2=>?_) (fun h6_2=>?_)
    ·
     iterate 4 refine ab ?_
     refine AOps.gbool rfl rfl rfl rfl rfl (aj (0) (hc:=(nt (m.qs.getD i default).ty))) (fun h6_7=>?_) (fun h6_7=>?_)
     ·
      iterate 5 refine ab ?_
      refine AOps.gbool rfl rfl rfl rfl rfl (aj (0) (hc:=(nt (m.qs.getD i default).cs))) (fun h6_13=>?_) (fun h6_13=>?_)
      ·
       iterate 9 refine ab ?_
       refine ⟨i+1,?_,Back.mk' (HasT.cons HasT.nil) HasH.nil,?_⟩
       ·
        exact ⟨by omega,r7 (by omega) hI (by rw [sK];generalize m.qs.getD i default=q at *;simp [*])⟩
       ·
        first|omega|(simp;omega)
      ·
       iterate 9 refine ab ?_
       refine ak (0) [_] [_] ?_;exact congrArg tf (by rw [fB,fH (p:=qOk) (l:=m.qs) (i:=i) (by omega) (by rw [sK];generalize m.qs.getD i default=q at *;simp [*];try omega)];simp)
     ·
      iterate 15 refine ab ?_
      refine ak (0) [_] [_] ?_;exact congrArg tf (by rw [fB,fH (p:=qOk) (l:=m.qs) (i:=i) (by omega) (by rw [sK];generalize m.qs.getD i default=q at *;simp [*];try omega)];simp)
    ·
     iterate 20 refine ab ?_
     refine ak (0) [_] [_] ?_;exact congrArg tf (by rw [fB,fH (p:=qOk) (l:=m.qs) (i:=i) (by omega) (by rw [sK];generalize m.qs.getD i default=q at *;simp [*];try omega)];simp)
   ·
    iterate 7 refine ab ?_
    obtain rfl:i=m.qs.length:=by omega
    rw [List.take_length] at hI;refine ab ?_;refine ai rfl rfl (aj (0) (hc:=(gz m h hO))) ?_;iterate 4 refine ab ?_
    refine AWp.loopR (α:=Nat) [2,6,40,41,42,43,44,45,46,47,48,49,50,51,52,53,54,55,56,57,58,59,60,61,62,63,64,65,66,67,68,69,70,71,72,73,74,75,76,77,78] (fun k=>[(40,i64 k)]) (fun k=>[]) (fun k=>k≤m.rrs.length∧(m.rrs.take k).all rOk=true) (fun k=>m.rrs.length-k) 0 ?_ (Back.mk' (HasT.cons HasT.nil) HasH.nil) ?_
    ·
     exact ⟨Nat.zero_le _,rfl⟩
    ·
     rintro k ⟨hk,hK⟩;iterate 2 refine ab ?_
     refine am (fun h10_0=>?_) (fun h10_0=>?_)
     ·
      iterate 8 refine ab ?_
      have hmem:=dT (l:=m.rrs) (i:=k) (by omega);iterate 2 refine ab ?_
      refine ai rfl rfl (ap 1202) ?_;iterate 6 refine ab ?_
      refine AOps.bool rfl rfl (aj (0) (hc:=(aM (m.rrs.getD k default).nm (by have:=n2 _ hmem;omega)))) (fun h12_2=>?_) (fun h12_2=>?_)
      ·
       iterate 4 refine ab ?_
       refine AOps.gbool rfl rfl rfl rfl rfl (aj (0) (hc:=(nt (m.rrs.getD k default).ty))) (fun h12_7=>?_) (fun h12_7=>?_)
       ·
        iterate 5 refine ab ?_
        refine AOps.gbool rfl rfl rfl rfl rfl (aj (0) (hc:=(nt (m.rrs.getD k default).cs))) (fun h12_13=>?_) (fun h12_13=>?_)
        ·
         iterate 5 refine ab ?_
         refine am (fun h12_19=>?_) (fun h12_19=>?_)
         ·
          iterate 21 refine ab ?_
          refine ak (0) [_] [_] ?_;exact congrArg tf (by rw [fB,fH (p:=rOk) (l:=m.rrs) (i:=k) (by omega) (by rw [mn];(try simp only [Int.toNat_natCast] at *);generalize m.rrs.getD k default=q at *;simp [*];try omega)];simp)
         ·
          iterate 4 refine ab ?_
          refine am (fun h12_24=>?_) (fun h12_24=>?_)
          ·
           iterate 16 refine ab ?_
           refine ak (0) [_] [_] ?_;exact congrArg tf (by rw [fB,fH (p:=rOk) (l:=m.rrs) (i:=k) (by omega) (by rw [mn];(try simp only [Int.toNat_natCast] at *);generalize m.rrs.getD k default=q at *;simp [*];try omega)];simp)
          ·
           iterate 6 refine ab ?_
           refine AOps.gbool rfl rfl rfl rfl rfl (aj (0) (hc:=(di (m.rrs.getD k default).ty (m.rrs.getD k default).da 0 (q5 _ hmem)))) (fun h12_31=>?_) (fun h12_31=>?_)
           ·
            iterate 9 refine ab ?_
            refine ⟨k+1,?_,Back.mk' (HasT.cons HasT.nil) HasH.nil,?_⟩
            ·
             exact ⟨by omega,r7 (by omega) hK (by rw [mn];(try simp only [Int.toNat_natCast] at *);generalize m.rrs.getD k default=q at *;simp [*];try omega)⟩
            ·
             first|omega|(simp;omega)
           ·
            iterate 9 refine ab ?_
            refine ak (0) [_] [_] ?_;exact congrArg tf (by rw [fB,fH (p:=rOk) (l:=m.rrs) (i:=k) (by omega) (by rw [mn];(try simp only [Int.toNat_natCast] at *);generalize m.rrs.getD k default=q at *;simp [*];try omega)];simp)
        ·
         iterate 27 refine ab ?_
         refine ak (0) [_] [_] ?_;exact congrArg tf (by rw [fB,fH (p:=rOk) (l:=m.rrs) (i:=k) (by omega) (by rw [mn];(try simp only [Int.toNat_natCast] at *);generalize m.rrs.getD k default=q at *;simp [*];try omega)];simp)
       ·
        iterate 33 refine ab ?_
        refine ak (0) [_] [_] ?_;exact congrArg tf (by rw [fB,fH (p:=rOk) (l:=m.rrs) (i:=k) (by omega) (by rw [mn];(try simp only [Int.toNat_natCast] at *);generalize m.rrs.getD k default=q at *;simp [*];try omega)];simp)
      ·
       iterate 38 refine ab ?_
       refine ak (0) [_] [_] ?_;exact congrArg tf (by rw [fB,fH (p:=rOk) (l:=m.rrs) (i:=k) (by omega) (by rw [mn];(try simp only [Int.toNat_natCast] at *);generalize m.rrs.getD k default=q at *;simp [*];try omega)];simp)
     ·
      iterate 6 refine ab ?_
      obtain rfl:k=m.rrs.length:=by omega
      rw [List.take_length] at hK;iterate 3 refine ab ?_
      refine ak (0) [_] [_] ?_;exact congrArg tf (by rw [fB,decide_eq_true hO,hI,hK];rfl)
 ·
  refine bj [ag,ag,ag,ag,ag,ag] [af [1] [100] 8,af [7] [100] 9,af [1] [100] 10,af [9] [] 11,af [8,10] [] 12,af [11] [] 13] rfl ⟨ah,ah,ah,aC fun _=>aN rfl rfl (aj (0) (hc:=(dM m))),aC fun _=>aN rfl rfl ((OpOk.dec_f (aj (0) (hc:=(er (nD m.h) m.qs.length m.an.length m.au.length m.ad.length))) (hO))),ah,trivial⟩ ?_;iterate 6 refine ab ?_
  refine ak (0) [_] [_] ?_;exact congrArg tf (by rw [fB,decide_eq_false hO];rfl)
theorem CF (ls0:List (List UInt8)) (w0:Wr) (v0:Nat) (hn:Nm ls0) (hw:WOk w0) (hb:w0.b.length≤10000000000) (hml:w0.m.length≤10000000000):AC Tryz.prog 50 [.ptr 0 0 0,str (aw ls0)] (ao [(0,.box [.sl 1 (v0) 0 (w0.b).length 1,.sl 2 (w0.m.length) 0 (w0.m).length 2]),(1,.row (cl bc (w0.b)) 1 (v0)),(2,.row (cl plC (w0.m)) 2 (w0.m.length))]) (bZ (.tup []) [(0,.box [.sl 1 (v0+nmC ls0 w0) 0 ((aG ls0 w0).b).length 1,.sl 2 ((aG ls0 w0).m.length) 0 ((aG ls0 w0).m).length 2]),(1,.row (cl bc ((aG ls0 w0).b)) 1 (v0+nmC ls0 w0)),(2,.row (cl plC ((aG ls0 w0).m)) 2 ((aG ls0 w0).m.length))]):=by
 refine AC.intro te_ok (fn:=Tryz.f50) ⟨Tryz.func50,rfl,rfl⟩ (aE rfl) ?_;iterate 2 refine ab ?_
 refine AWp.loopR (α:=List (List UInt8)×Wr×Nat×Nat) [1,5,6,7,8,9,10,11,12,13,14,15,16,17,18,19,20,21,22,23,24,25,26,27,28,29,30,31,32,33,34,35,36,37,38,39,40,41,42,43,44,45,46,47,48,49,50,51,52,53,54,55,56,57,58,59,60,61,62,63,64,65,66,67,68,69,70,71,72,73,74,75] (fun x_=>[(1,str (aw (x_.1)))]) (fun x_=>[(0,.box [.sl 1 ((x_.2.2.1)) 0 ((x_.2.1).b).length 1,.sl 2 ((x_.2.2.2)) 0 ((x_.2.1).m).length 2]),(1,.row (cl bc ((x_.2.1).b)) 1 ((x_.2.2.1))),(2,.row (cl plC ((x_.2.1).m)) 2 ((x_.2.2.2)))]) (fun x_=>Nm (x_.1)∧WOk (x_.2.1)∧(x_.2.1).b.length+(aw (x_.1)).length≤w0.b.length+255∧aG (x_.1) (x_.2.1)=aG ls0 w0∧(x_.2.2.1)+nmC (x_.1) (x_.2.1)=v0+nmC ls0 w0∧(x_.2.2.2)=(x_.2.1).m.length∧(x_.2.2.2)+(aw (x_.1)).length≤w0.m.length+255) (fun x_=>(x_.1).length) (ls0,w0,v0,w0.m.length) ?_ (Back.mk' (HasT.cons HasT.nil) (HasH.cons (HasH.cons (HasH.cons HasH.nil)))) ?_
 ·
  exact ⟨hn,hw,by have:=hn.2;show w0.b.length+(aw ls0).length≤_;omega,rfl,rfl,rfl,by have:=hn.2;show w0.m.length+(aw ls0).length≤_;omega⟩
 ·
  rintro ⟨ls,w,v,u⟩ hI0;change Nm ls∧WOk w∧w.b.length+(aw ls).length≤w0.b.length+255∧aG ls w=aG ls0 w0∧v+nmC ls w=v0+nmC ls0 w0∧u=w.m.length∧u+(aw ls).length≤w0.m.length+255 at hI0;obtain ⟨hN,hW,hB,hE,hV,hu,hM⟩:=hI0;refine AWp.as (s':=AS.over _ [1,5,6,7,8,9,10,11,12,13,14,15,16,17,18,19,20,21,22,23,24,25,26,27,28,29,30,31,32,33,34,35,36,37,38,39,40,41,42,43,44,45,46,47,48,49,50,51,52,53,54,55,56,57,58,59,60,61,62,63,64,65,66,67,68,69,70,71,72,73,74,75] [(1,str (aw ls))] [(0,.box [.sl 1 (v) 0 (w.b).length 1,.sl 2 (u) 0 (w.m).length 2]),(1,.row (cl bc (w.b)) 1 (v)),(2,.row (cl plC (w.m)) 2 (u))]) rfl ?_;have h255:=hN.2;iterate 4 refine ab ?_
  refine am (fun h0_1=>?_) (fun h0_1=>?_)
  ·
   iterate 7 refine ab ?_
   obtain ⟨l,ls,rfl⟩:∃ l ls',ls=l::ls':=by
    cases ls with
    | nil=>exact absurd rfl h0_1
    | cons l ls'=>exact ⟨l,ls',rfl⟩
   have hJ:(aw (l::ls)).length=l.length+1+(aw ls).length:=by rw [b7];simp;omega
   have hN2:Nm ls:=vE hN;iterate 8 refine ab ?_
   refine AWp.loopR (α:=Nat) [5,14,15,16,17,18,19,20,21,22,23,24,25,26,27,28,29,30,31,32,33,34] (fun i=>[(14,i64 i)]) (fun i=>[]) (fun i=>i≤w.m.length∧∀ j,j<i→(w.m.getD j default).1≠aw (l::ls)) (fun i=>w.m.length-i) 0 ?_ (Back.mk' (HasT.cons HasT.nil) HasH.nil) ?_
   ·
    exact ⟨Nat.zero_le _,fun j hj=>by omega⟩
   ·
    rintro i ⟨hi,hI⟩;iterate 2 refine ab ?_
    refine am (fun h2_0=>?_) (fun h2_0=>?_)
    ·
     iterate 10 refine ab ?_
     refine ai rfl rfl (ap 402) ?_;iterate 7 refine ab ?_
     refine am (fun h4_3=>?_) (fun h4_3=>?_)
     ·
      iterate 3 refine ab ?_
      have hm:bg w.m (aw (l::ls))=some (w.m.getD i default).2:=A3 (by omega) hI h4_3;have ha:=hW _ _ hm;have ha2:0≤(w.m.getD (i:Int).toNat default).2∧(w.m.getD (i:Int).toNat default).2<16384:=ha;have ht2:(two (49152+(w.m.getD (i:Int).toNat default).2)).length=2:=rfl;refine bj [ag,ag,ag,ag,ag,ag,ag,ag,ag,bv [(1,_)],ag,ag,bv [(0,_)]] [af [0] [] 23,af [0] [] 24,af [23] [0] 25,af [24] [0] 26,af [25] [0] 27,af [5] [402] 28,af [27] [402] 29,af [28] [] 30,af [29] [] 31,af [26,30] [1] 32 [1],af [22] [0] 33,af [32] [0] 34,af [31,33] [0,1] 0 [0]] rfl ⟨ah,ah,ah,ah,ah,ah,ah,ah,aC fun _=>aN rfl rfl (aj (0) (hc:=(si (49152+(w.m.getD i default).2)))),aC fun _=>aN rfl rfl (gY (hb:=by rw [show ∀ n,(two n).length=2 from fun _=>rfl];simp;omega)),ah,ah,ah,trivial⟩ ?_;refine ab ?_;subst hu;rw [← hE,← hV,(dx hm).1,(dx hm).2];refine aQ (0) [] [] [] [(_,_),(_,_),(_,_)] ?_;rfl
     ·
      iterate 7 refine ab ?_
      refine ⟨i+1,?_,Back.mk' (HasT.cons HasT.nil) HasH.nil,?_⟩
      ·
       refine ⟨by omega,fun j hj=>?_⟩;rcases Nat.lt_or_ge j i with h|h
       · exact hI j h
       · obtain rfl:j=i:=by omega
         exact h4_3
      ·
       first|omega|(simp;omega)
    ·
     iterate 7 refine ab ?_
     have hm:bg w.m (aw (l::ls))=none:=A4 (fun j hj=>hI j (by omega));iterate 5 refine ab ?_
     refine am (fun h7_5=>?_) (fun h7_5=>?_)
     ·
      iterate 2 refine ab ?_
      have hput:w.put l ls=⟨w.b++(ct (l.length:Int)::l),w.m++[(aw (l::ls),(w.b.length:Int))]⟩:=by simp only [Wr.put,if_pos h7_5,yg hm]
      refine bj [ag,ag,ag,ag,ag,ag,ag,ag,ag,ag,ag,ag,bv [(912,_)],bv [(2,_)],ag,ag,bv [(0,_)]] [af [0] [] 42,af [0] [] 43,af [42] [0] 44,af [43] [0] 45,af [44] [0] 46,af [1] [] 47,af [0] [] 48,af [47] [0] 49,af [48] [0] 50,af [49] [0] 51,af [50] [1] 52,af [46,51] [] 53,af [52] [912] 54 [912],af [45,53] [2,912] 55 [2],af [41] [0] 56,af [55] [0] 57,af [54,56] [0,2] 0 [0]] rfl ⟨ah,ah,ah,ah,ah,ah,ah,ah,ah,ah,ah,aC fun _=>aN rfl rfl (aL [(_,_),(_,_)]),aC fun _=>aN rfl rfl (bO 912 plC [(aw (l::ls),(w.b.length:Int))] [(_,_)]),ah,ah,ah,ah,trivial⟩ ?_;iterate 3 refine ab ?_
      refine ai rfl rfl (lV) ?_;iterate 4 refine ab ?_
      rw [xe hN.1];refine bj [ag,ag,ag,ag,ag,ag,ag,ag,ag,bv [(1,_)],ag,ag,bv [(0,_)]] [af [0] [] 61,af [0] [] 62,af [61] [0] 63,af [62] [0] 64,af [63] [0] 65,af [1] [] 66,af [6] [] 67,af [66] [] 68,af [65,67] [] 69,af [64,68] [1] 70 [1],af [60] [0] 71,af [70] [0] 72,af [69,71] [0,1] 0 [0]] rfl ⟨ah,ah,ah,ah,ah,ah,ah,ah,aC fun _=>aN rfl rfl (mQ),ah,ah,ah,ah,trivial⟩ ?_;iterate 4 refine ab ?_
      refine ai rfl rfl (qe) ?_;iterate 2 refine ab ?_
      rw [uB,uC];refine ⟨(ls,⟨w.b++(ct (l.length:Int)::l),w.m++[(aw (l::ls),(w.b.length:Int))]⟩,v+1,u+1),?_,Back.mk' (HasT.cons HasT.nil) (HasH.cons (HasH.cons (HasH.cons HasH.nil))),?_⟩
      ·
       try dsimp only
       rw [← hput];refine ⟨hN2,hW.put l ls,?_,by rw [← hE,(cP hm).1],by rw [← hV,(cP hm).2];try omega,?_,?_⟩
       · simp only [List.length_append,List.length_cons];omega
       · rw [List.length_append,hu];rfl
       · omega
      ·
       try dsimp only
       simp
     ·
      iterate 5 refine ab ?_
      have hput:w.put l ls=⟨w.b++(ct (l.length:Int)::l),w.m⟩:=by simp only [Wr.put,if_neg h7_5]
      refine ab ?_;refine ai rfl rfl (lV) ?_;iterate 4 refine ab ?_
      rw [xe hN.1];refine bj [ag,ag,ag,ag,ag,ag,ag,ag,ag,bv [(1,_)],ag,ag,bv [(0,_)]] [af [0] [] 61,af [0] [] 62,af [61] [0] 63,af [62] [0] 64,af [63] [0] 65,af [1] [] 66,af [6] [] 67,af [66] [] 68,af [65,67] [] 69,af [64,68] [1] 70 [1],af [60] [0] 71,af [70] [0] 72,af [69,71] [0,1] 0 [0]] rfl ⟨ah,ah,ah,ah,ah,ah,ah,ah,aC fun _=>aN rfl rfl (mQ),ah,ah,ah,ah,trivial⟩ ?_;iterate 4 refine ab ?_
      refine ai rfl rfl (qe) ?_;iterate 2 refine ab ?_
      rw [uB,uC];refine ⟨(ls,⟨w.b++(ct (l.length:Int)::l),w.m⟩,v+1,u),?_,Back.mk' (HasT.cons HasT.nil) (HasH.cons (HasH.cons (HasH.cons HasH.nil))),?_⟩
      ·
       try dsimp only
       rw [← hput];refine ⟨hN2,hW.put l ls,?_,by rw [← hE,(cP hm).1],by rw [← hV,(cP hm).2];try omega,?_,?_⟩
       · simp only [List.length_append,List.length_cons];omega
       · exact hu
       · omega
      ·
       try dsimp only
       simp
  ·
   iterate 4 refine ab ?_
   obtain rfl:ls=[]:=by
    cases ls with
    | nil=>rfl
    | cons l ls'=>exact absurd (by simpa using h0_1) Al
   iterate 5 refine ab ?_
   refine ai rfl rfl (bO 1305 bc [0] [(_,_)]) ?_;iterate 5 refine ab ?_
   show Fin te Tryz.f50 _ _;subst hu;rw [← hE,← hV];refine aQ (0) [] [] [] [(_,_),(_,_),(_,_)] ?_;rfl
theorem qT (n:List UInt8) (w:Wr) (v:Nat) (hn:bm n=true) (hw:WOk w) (hb:w.b.length≤10000000000) (hml:w.m.length≤10000000000) :
 AC Tryz.prog 50 [.ptr 0 0 0,str n] (ao [(0,.box [.sl 1 v 0 w.b.length 1,.sl 2 w.m.length 0 w.m.length 2]),(1,.row (cl bc w.b) 1 v),(2,.row (cl plC w.m) 2 w.m.length)])
  (bZ (.tup []) [(0,.box [.sl 1 (v+nmC (aP n) w) 0 (aG (aP n) w).b.length 1,.sl 2 (aG (aP n) w).m.length 0 (aG (aP n) w).m.length 2]),(1,.row (cl bc (aG (aP n) w).b) 1 (v+nmC (aP n) w)),(2,.row (cl plC (aG (aP n) w).m) 2 (aG (aP n) w).m.length)]):=by
 have h:=CF (aP n) w v (cj hn).1 hw hb hml;rw [(cj hn).2] at h;exact h
theorem A2 (m:List (List UInt8×Int)) (k:List UInt8) (v:Int):(cp m k v).length≤m.length+1:=by
 induction m with
 | nil=>simp [cp]
 | cons p m ih=>obtain ⟨a,b⟩:=p;simp only [cp];split<;>simp<;>omega
theorem rC:∀ {ls:List (List UInt8)} {w:Wr},(aG ls w).m.length≤w.m.length+ls.length
 | [],w=>by simp [aG]
 | l::ls,w=>by
  cases hm:bg w.m (aw (l::ls)) with
  | some a=>rw [(dx hm).1];simp
  | none=>
   rw [(cP hm).1];have h1:=rC (ls:=ls) (w:=w.put l ls);have h2:(w.put l ls).m.length≤w.m.length+1:=by
    unfold Wr.put;dsimp only;split
    · exact A2 _ _ _
    · omega
   simp only [List.length_cons];omega
theorem uo {n:List UInt8} (h:bm n=true) (w:Wr):(aG (aP n) w).m.length≤w.m.length+255:=by
 have h1:=rC (ls:=aP n) (w:=w);have h2:=cK (aP n);have h3:=(cj h).1.2;omega
theorem pL:∀ {L:List (List UInt8)} {w:Wr},(∀ n∈L,bm n=true)→(ba L w).m.length≤w.m.length+255*L.length
 | [],w,_=>Nat.le_refl _
 | n::L,w,hn=>by
  have h1:=uo (hn n (by simp)) w;have h2:=pL (L:=L) (w:=aG (aP n) w) (fun x hx=>hn x (by simp [hx]));simp only [ba,List.length_cons];omega
theorem rK {r:Rr} (hr:rOk r=true):(((bm r.nm=true∧rb [r.ty,r.cs]=true)∧0≤r.ttl)∧r.ttl<4294967296)∧fA r.ty r.da=true:=by simpa [rOk] using hr
theorem xQ {r:Rr} {w:Wr} (hr:rOk r=true) (hw:WOk w):w.b.length≤(bB r w).b.length∧(bB r w).m.length≤w.m.length+765:=by
 obtain ⟨⟨⟨⟨r1,r2⟩,r3⟩,r4⟩,r5⟩:=rK hr;obtain ⟨a,b,c⟩:=eb (cj r1).1 hw;have h0:(du r w).b.length=(aG (aP r.nm) w).b.length+10:=by rw [du,List.length_append,kw];rfl
 have ha:WOk (⟨(du r w).b++cB r.ty r.da,(du r w).m⟩:Wr):=a;obtain ⟨d,e,f⟩:=mg (js r5).2.2.1 ha;have g:=pL (w:=⟨(du r w).b++cB r.ty r.da,(du r w).m⟩) (js r5).2.2.1;have k:=uo r1 w;have l:=sU r.ty r.da;constructor
 · rw [bB]
   show _≤(lS _ _).length;rw [nI,lQ];show _≤(_++_:List UInt8).length;rw [List.length_append];have f2:((du r w).b++cB r.ty r.da).length≤_:=f;rw [List.length_append] at f2;omega
 · have g2:(bB r w).m.length≤(du r w).m.length+255*(bF r.ty r.da).length:=g
   have k2:(du r w).m.length≤w.m.length+255:=k;omega
theorem qJ:∀ (l:List Rr) (p:Wr×Bool),p.2=false→(cz l p).2=false
 | [],p,h=>h
 | r::l,p,h=>by
  show (cz l (mJ p r)).2=false;rw [mJ,if_neg (by simp [h])];exact qJ l p h
theorem wq (l:List Rr) (i:Nat) (p:Wr×Bool):cz l p=cz (l.drop i) (cz (l.take i) p):=by
 conv=>lhs;rw [← List.take_append_drop i l,cz,List.foldl_append]
 rfl
theorem Bp (x:List UInt8) (a b:Int):x++two a++two b=x++[a,b].flatMap two:=by simp
theorem zS (x:List UInt8) (r:Rr):x++two r.ty++two r.cs++yx r.ttl++[0,0]=x++(jX r).flatMap two:=by
 have:two 0=[0,0]:=by decide
 simp [jX,yx,this]
theorem F2 (r:Rr) (w0:Wr) (v0:Nat) (hr:rOk r=true) (hw:WOk w0) (hb:w0.b.length≤1000000000) (hml:w0.m.length≤1000000000):AC Tryz.prog 53 [.ptr 0 0 0,.agg (rrc r)] (ao [(0,.box [.sl 1 (v0) 0 (w0.b).length 1,.sl 2 (w0.m.length) 0 (w0.m).length 2]),(1,.row (cl bc (w0.b)) 1 (v0)),(2,.row (cl plC (w0.m)) 2 (w0.m.length))]) (bZ (tf (i5 r w0)) [(0,.box [.sl 1 (v0+ua r w0) 0 ((bB r w0).b).length 1,.sl 2 ((bB r w0).m.length) 0 ((bB r w0).m).length 2]),(1,.row (cl bc ((bB r w0).b)) 1 (v0+ua r w0)),(2,.row (cl plC ((bB r w0).m)) 2 ((bB r w0).m.length))]):=by
 obtain ⟨⟨⟨⟨r1,r2⟩,r3⟩,r4⟩,r5⟩:=rK hr;obtain ⟨d1,d2,d3,d4⟩:=js r5;obtain ⟨c1,c2,c3⟩:=eb (cj r1).1 hw;have c4:=(cj r1).1.2;have c5:=uo r1 w0;have d5:=sU r.ty r.da;obtain ⟨w1,hw1⟩:∃ w,w=aG (aP r.nm) w0:=⟨_,rfl⟩;have hwn:du r w0=⟨w1.b++(jX r).flatMap two,w1.m⟩:=by rw [hw1];rfl
 rw [← hw1] at c1 c2 c3 c5;refine AC.intro te_ok (fn:=Tryz.f53) ⟨Tryz.func53,rfl,rfl⟩ (aE rfl) ?_;iterate 2 refine ab ?_
 refine ai rfl rfl (aS 100) ?_;iterate 7 refine ab ?_
 refine ai rfl rfl (ay (0) [(0,0),(1,1),(2,2)] [] [(_,_),(_,_),(_,_)] (hc:=(qT r.nm w0 v0 r1 hw (by omega) (by omega)))) ?_;iterate 2 refine ab ?_
 rw [← hw1];refine bj [ag,ag,ag,ag,ag,ag,ag,ag,bv [(1,_)],ag,ag,ag,bv [(1,_)],ag,ag,ag,bv [(1,_)],ag,ag,bv [(0,_)]] [af [0] [] 15,af [0] [] 16,af [15] [0] 17,af [16] [0] 18,af [17] [0] 19,af [3] [100] 20,af [19] [100] 21,af [20] [] 22,af [18,21] [1] 23 [1],af [3] [100] 24,af [23] [100] 25,af [24] [] 26,af [22,25] [1] 27 [1],af [3] [100] 28,af [27] [100] 29,af [28] [] 30,af [26,29] [1] 31 [1],af [14] [0] 32,af [31] [0] 33,af [30,32] [0,1] 0 [0]] rfl ⟨ah,ah,ah,ah,ah,ah,ah,aC fun _=>aN rfl rfl (aj (0) (hc:=(si r.ty))),aC fun _=>aN rfl rfl (gY (hb:=by rw [show ∀ n,(two n).length=2 from fun _=>rfl];simp;omega)),ah,ah,aC fun _=>aN rfl rfl (aj (0) (hc:=(si r.cs))),aC fun _=>aN rfl rfl (gY (hb:=by rw [List.length_append,show ∀ n,(two n).length=2 from fun _=>rfl,show ∀ n,(two n).length=2 from fun _=>rfl];simp;omega)),ah,ah,aC fun _=>aN rfl rfl (aj (0) (hc:=(kM r.ttl ⟨r3,by omega⟩))),aC fun _=>aN rfl rfl (gY (hb:=by rw [List.length_append,List.length_append,show ∀ n,(two n).length=2 from fun _=>rfl,show ∀ n,(two n).length=2 from fun _=>rfl,show ∀ n,(yx n).length=4 from fun _=>rfl];simp;omega)),ah,ah,ah,trivial⟩ ?_;iterate 2 refine ab ?_
 obtain ⟨B0,hB0⟩:∃ b,b=w1.b++two r.ty++two r.cs++yx r.ttl:=⟨_,rfl⟩;rw [← hB0];have hB0l:B0.length=w1.b.length+8:=by rw [hB0,List.length_append,List.length_append,List.length_append];rfl
 iterate 14 refine ab ?_
 refine ai rfl rfl (bO 505 bc [0,0] [(_,_),(_,_)]) ?_;iterate 7 refine ab ?_
 obtain ⟨B1,hB1⟩:∃ b,b=B0++[0,0]:=⟨_,rfl⟩;rw [← hB1];have hB1w:w1.b++(jX r).flatMap two=B1:=by rw [hB1,hB0,zS]
 rw [hB1w] at hwn;have hBl:B1.length=B0.length+2:=by rw [hB1,List.length_append];rfl
 have hp:r.ty=15→cB r.ty r.da=r.da.take 2∧(cB r.ty r.da).length=2:=fun e=>by rw [cB,if_pos e];exact ⟨rfl,by rw [List.length_take];have:=d2 e;omega⟩
 have hq:r.ty≠15→cB r.ty r.da=[]:=fun e=>by rw [cB,if_neg e]
 have hd4:(cB r.ty r.da).length+(bF r.ty r.da).flatten.length≤r.da.length:=by have:=d4.length_le;rw [List.length_append] at this;exact this
 iterate 4 refine ab ?_
 refine AWp.cutR (α:=List UInt8×List UInt8×Nat) [6,49,50,51,52,53,54,55,56,57,58,59,60,61,62,63] (fun x_=>[(6,.fz 0 (x_.2.1).length (cl bc (x_.2.1)))]) (fun x_=>[(0,.box [.sl 1 (x_.2.2) 0 (x_.1).length 1,.sl 2 w1.m.length 0 w1.m.length 2]),(1,.row (cl bc (x_.1)) 1 (x_.2.2))]) (fun x_=>(x_.1)=B1++cB r.ty r.da∧(x_.2.1)=r.da.drop (cB r.ty r.da).length∧(x_.2.2)=v0+nmC (aP r.nm) w0+4+(if r.ty=15 then 1 else 0)) ?_ ?_
 ·
  iterate 4 refine ab ?_
  refine am (fun h6_2=>?_) (fun h6_2=>?_)
  ·
   iterate 3 refine ab ?_
   refine bj [ag,ag,ag,ag,ag,ag,ag,bv [(1,_)],ag,ag,bv [(0,_)]] [af [0] [] 53,af [0] [] 54,af [53] [0] 55,af [54] [0] 56,af [55] [0] 57,af [6] [] 58,af [57] [] 59,af [56,58] [1] 60 [1],af [52] [0] 61,af [60] [0] 62,af [59,61] [0,1] 0 [0]] rfl ⟨ah,ah,ah,ah,ah,ah,ah,ah,ah,ah,ah,trivial⟩ ?_;iterate 5 refine ab ?_
   refine ⟨(B1++r.da.take 2,r.da.drop 2,v0+nmC (aP r.nm) w0+4+1),?_,Back.mk' (HasT.cons HasT.nil) (HasH.cons (HasH.cons HasH.nil))⟩;try dsimp only
   exact ⟨by rw [(hp h6_2).1],by rw [(hp h6_2).2],by rw [if_pos h6_2]⟩
  ·
   iterate 3 refine ab ?_
   refine ⟨(B1,r.da,v0+nmC (aP r.nm) w0+4),?_,Back.mk' (HasT.cons HasT.nil) (HasH.cons (HasH.cons HasH.nil))⟩;try dsimp only
   exact ⟨by rw [hq h6_2];simp,by rw [hq h6_2];simp,by rw [if_neg h6_2]⟩
 ·
  rintro ⟨b2,D,v2⟩ hC9;change b2=B1++cB r.ty r.da∧D=r.da.drop (cB r.ty r.da).length∧v2=v0+nmC (aP r.nm) w0+4+(if r.ty=15 then 1 else 0) at hC9;obtain ⟨hb2,hD2,hv2⟩:=hC9;refine AWp.as (s':=AS.over _ [6,49,50,51,52,53,54,55,56,57,58,59,60,61,62,63] [(6,.fz 0 D.length (cl bc D))] [(0,.box [.sl 1 v2 0 b2.length 1,.sl 2 w1.m.length 0 w1.m.length 2]),(1,.row (cl bc b2) 1 v2)]) rfl ?_;iterate 7 refine ab ?_
  refine ai rfl rfl (aj (0) (hc:=(jR r.ty r.da 0 (by omega)))) ?_;iterate 4 refine ab ?_
  refine AWp.loopR (α:=Nat×Wr×Nat×List UInt8) [6,8,70,71,72,73,74,75,76,77,78,79,80,81] (fun x_=>[(70,i64 (x_.1)),(6,.fz 0 (x_.2.2.2).length (cl bc (x_.2.2.2)))]) (fun x_=>[(0,.box [.sl 1 ((x_.2.2.1)) 0 ((x_.2.1).b).length 1,.sl 2 ((x_.2.1).m.length) 0 ((x_.2.1).m).length 2]),(1,.row (cl bc ((x_.2.1).b)) 1 ((x_.2.2.1))),(2,.row (cl plC ((x_.2.1).m)) 2 ((x_.2.1).m.length))]) (fun x_=>(x_.1)≤(bF r.ty r.da).length∧(x_.2.1)=ba ((bF r.ty r.da).take (x_.1)) ⟨b2,w1.m⟩∧(x_.2.2.1)=v2+lL ((bF r.ty r.da).take (x_.1)) ⟨b2,w1.m⟩∧(x_.2.2.2)=r.da.drop ((cB r.ty r.da).length+((bF r.ty r.da).take (x_.1)).flatten.length)∧WOk (x_.2.1)∧(x_.2.1).b.length≤b2.length+255*(x_.1)∧b2.length≤(x_.2.1).b.length∧(x_.2.1).m.length≤w1.m.length+255*(x_.1)) (fun x_=>(bF r.ty r.da).length-(x_.1)) (0,⟨b2,w1.m⟩,v2,D) ?_ (Back.mk' (HasT.cons (HasT.cons HasT.nil)) (HasH.cons (HasH.cons (HasH.cons HasH.nil)))) ?_
  ·
   exact ⟨Nat.zero_le _,rfl,rfl,hD2,c1,Nat.le_refl _,Nat.le_refl _,Nat.le_refl _⟩
  ·
   rintro ⟨i,w,v,D⟩ hI10;change i≤(bF r.ty r.da).length∧w=ba ((bF r.ty r.da).take i) ⟨b2,w1.m⟩∧v=v2+lL ((bF r.ty r.da).take i) ⟨b2,w1.m⟩∧D=r.da.drop ((cB r.ty r.da).length+((bF r.ty r.da).take i).flatten.length)∧WOk w∧w.b.length≤b2.length+255*i∧b2.length≤w.b.length∧w.m.length≤w1.m.length+255*i at hI10;obtain ⟨hi,hw,hv,hD,hW,hB,hB2,hM⟩:=hI10;refine AWp.as (s':=AS.over _ [6,8,70,71,72,73,74,75,76,77,78,79,80,81] [(70,i64 i),(6,.fz 0 D.length (cl bc D))] [(0,.box [.sl 1 (v) 0 (w.b).length 1,.sl 2 (w.m.length) 0 (w.m).length 2]),(1,.row (cl bc (w.b)) 1 (v)),(2,.row (cl plC (w.m)) 2 (w.m.length))]) rfl ?_;have hDl:=congrArg List.length hD;rw [List.length_drop] at hDl;have hbl:=congrArg List.length hb2;rw [List.length_append] at hbl;iterate 2 refine ab ?_
   refine am (fun h10_0=>?_) (fun h10_0=>?_)
   ·
    iterate 8 refine ab ?_
    have hmem:(bF r.ty r.da).getD i default∈bF r.ty r.da:=dT (by omega);have hst:=mD (L:=bF r.ty r.da) (i:=i) (by omega) ⟨b2,w1.m⟩;have hfs:=s7 (L:=bF r.ty r.da) (i:=i) (by omega);obtain ⟨k1,k2,k3⟩:=eb (cj (d3 _ hmem)).1 hW;have k4:=(cj (d3 _ hmem)).1.2;have k6:=uo (d3 _ hmem) w;have k5:=d0 (bF r.ty r.da) (i+1);have hgl:((bF r.ty r.da)[i]?.getD default).length=((bF r.ty r.da).getD i default).length:=by rw [← List.getD_eq_getElem?_getD]
    have hgt:((bF r.ty r.da).getD (i:Int).toNat default).length=((bF r.ty r.da).getD i default).length:=rfl;iterate 8 refine ab ?_
    refine ai rfl rfl (ay (0) [(0,0),(1,1),(2,2)] [] [(_,_),(_,_),(_,_)] (hc:=(qT ((bF r.ty r.da).getD i default) w v (d3 _ hmem) hW (by omega) (by omega)))) ?_;iterate 12 refine ab ?_
    refine ⟨(i+1,aG (aP ((bF r.ty r.da).getD i default)) w,v+nmC (aP ((bF r.ty r.da).getD i default)) w,D.drop ((bF r.ty r.da).getD i default).length),?_,Back.mk' (HasT.cons (HasT.cons HasT.nil)) (HasH.cons (HasH.cons (HasH.cons HasH.nil))),?_⟩
    ·
     try dsimp only
     exact ⟨by omega,by rw [hst.1,hw],by rw [hst.2,hv,hw];omega,by rw [hfs,hD,List.drop_drop];congr 1;omega,k1,by omega,by omega,by omega⟩
    ·
     try dsimp only
     first|omega|(simp;omega)
   ·
    iterate 6 refine ab ?_
    obtain rfl:i=(bF r.ty r.da).length:=by omega
    rw [List.take_length] at hv hD hw hDl;have hwd:lQ r (du r w0)=⟨w.b++D,w.m⟩:=by
     rw [hwn,lQ];show Wr.mk ((ba (bF r.ty r.da) ⟨B1++cB r.ty r.da,w1.m⟩).b++r.da.drop (dN r)) (ba (bF r.ty r.da) ⟨B1++cB r.ty r.da,w1.m⟩).m=_;rw [← hb2,← hw,hD];rfl
    have hr1:(bB r w0).b=lS (w.b++D) B1.length:=by rw [bB,hwd,hwn]
    have hr2:(bB r w0).m=w.m:=by rw [bB,hwd]
    have hr3:(bB r w0).b.length=(w.b++D).length:=by rw [hr1,nI]
    have hr4:v0+ua r w0=v+1:=by
     rw [ua,hwn,hv,hv2];show v0+(_+4+_+lL (bF r.ty r.da) ⟨B1++cB r.ty r.da,w1.m⟩+1)=_;rw [← hb2];omega
    have hr5:i5 r w0=decide (((w.b++D).length:Int)-B0.length-2≤65535):=by rw [i5,hwd,hwn];exact decide_eq_decide.2 (by show ((w.b++D).length:Int)-(B1.length:Int)<65536↔_;omega)
    iterate 24 refine ab ?_
    refine bj [ag,ag,ag,ag,ag,ag,ag,ag,ag,ag,ag,ag,ag,ag,ag,ag,ag,bv [(1,_)],ag,bv [(1,_)]] [af [0] [] 100,af [99] [0] 101,af [100] [0] 102,af [101] [0] 103,af [5] [] 104,af [0] [] 105,af [104] [0] 106,af [105] [0] 107,af [106] [0] 108,af [5] [] 109,af [108] [] 110,af [9] [] 111,af [110] [] 112,af [111] [] 113,af [9] [] 114,af [113] [] 115,af [102,103] [1] 116,af [112,115] [1] 0 [1],af [107,109] [1] 117,af [114,116] [1] 0 [1]] rfl ⟨ah,ah,ah,ah,ah,ah,ah,ah,ah,ah,ah,ah,aC fun _=>aN rfl rfl (ge 8),ah,ah,ah,ah,ah,ah,ah,trivial⟩ ?_;iterate 3 refine ab ?_
    refine ai rfl rfl (iN) ?_;iterate 3 refine ab ?_
    rw [zq hBl,hr3,hr1,hr2,hr4,hr5];refine aQ (0) [] [_] [_] [(_,_),(_,_),(_,_)] ?_;rfl
theorem t8 {m:Msg} {i:Nat} (h:jO m=true) (hb:(cz (m.rrs.take i) (cC m.qs (hdW m),decide (((cC m.qs (hdW m)).b.length:Int)≤65535))).2=false):dI m=[]∧gr m=42:=by
 have:(kF m).2=false:=by rw [kF,wq _ i];exact qJ _ _ hb
 rw [dI,gr,if_pos h,if_pos h,if_neg (by simp [this]),if_neg (by simp [this])];exact ⟨rfl,rfl⟩
theorem u4 {m:Msg} {i:Nat} {w:Wr} (hI:(i=0∧w=cC m.qs (hdW m))∨(cz (m.rrs.take i) (cC m.qs (hdW m),decide (((cC m.qs (hdW m)).b.length:Int)≤65535))=(w,true)∧w.b.length≤65535)) (hi:i<m.rrs.length)
 (hb:i5 (m.rrs.getD i default) w=false∨65535<((bB (m.rrs.getD i default) w).b.length:Int)):(cz (m.rrs.take (i+1)) (cC m.qs (hdW m),decide (((cC m.qs (hdW m)).b.length:Int)≤65535))).2=false:=by
 have h1:(cz (m.rrs.take i) (cC m.qs (hdW m),decide (((cC m.qs (hdW m)).b.length:Int)≤65535))).1=w:=by
  rcases hI with ⟨rfl,rfl⟩|⟨e,_⟩
  · rfl
  · rw [e]
 rw [od hi,mJ];split
 · show (i5 _ _&&decide _)=false
   rw [h1];rcases hb with h|h
   · rw [h];rfl
   · rw [decide_eq_false (by omega),Bool.and_false]
 · rename_i h;simpa using h
theorem AB {m:Msg} {w:Wr} (h:jO m=true) (hb:cz m.rrs (cC m.qs (hdW m),decide (((cC m.qs (hdW m)).b.length:Int)≤65535))=(w,true)):dI m=w.b∧gr m=0:=by
 have:kF m=(w,true):=hb;rw [dI,gr,if_pos h,if_pos h,this];exact ⟨rfl,rfl⟩
theorem dO (m:Msg) (h:gp m) (hn:oB m):AC Tryz.prog 22 [.agg (dn m)] emp (Ret (.tup [.fz 0 (dI m).length (cl bc (dI m)),i64 (gr m)])):=by
 refine AC.intro te_ok (fn:=Tryz.f22) ⟨Tryz.func22,rfl,rfl⟩ (aE rfl) ?_;iterate 2 refine ab ?_
 refine ai rfl rfl (aS 100) ?_;refine ai rfl rfl (aR (0) bc) ?_;iterate 6 refine ab ?_
 refine AOps.bool rfl rfl (aj (0) (hc:=(lN m h hn))) (fun h1_1=>?_) (fun h1_1=>?_)
 ·
  iterate 6 refine ab ?_
  obtain ⟨p1,p2,p3⟩:=jw (m:=m) h1_1;have hW0:WOk (hdW m):=fun k a h=>by cases h
  have hz:=t6.2 p1;have hbl:(hdW m).b.length=12:=by
   show (hB (nD m.h) m.qs.length m.an.length m.au.length m.ad.length).length=12;rw [qE p1,Hd.bytes_length]
  obtain ⟨k1,k2,k3,k4⟩:=eM p1;have hrl:m.rrs.length≤196605:=by simp only [Msg.rrs,List.length_append];omega
  refine ai rfl rfl (aL []) ?_;refine ai rfl rfl (aS 401) ?_;iterate 3 refine ab ?_
  refine bj [ag,ag,ag,ag,ag,bv [(5058,_)],ag,ag,ag,ag,ag,bv [(401,_)]] [af [4] [] 16,af [1] [100] 17,af [16] [100] 18,af [1] [100] 19,af [18] [] 20,af [17,19] [5058] 21 [5058],af [20] [] 15,af [14] [5058] 22,af [14] [5058] 23,af [15] [401] 24,af [23] [401] 25,af [21,24] [401] 0 [401]] rfl ⟨ah,ah,ah,ah,aC fun _=>aN rfl rfl (aj (0) (hc:=(dM m))),aC fun _=>aN rfl rfl (ay (0) [] [(8,5058)] [(_,_)] (hc:=(pa (nD m.h) m.qs.length m.an.length m.au.length m.ad.length))),ah,ah,ah,ah,ah,ah,trivial⟩ ?_;iterate 3 refine ab ?_
  refine AOps.weak (Weak.nilcell 401 9000 1 2 plC) ?_;iterate 6 refine ab ?_
  refine AWp.loopR (α:=Nat×Wr×Nat×Nat) [6,28,29,30,31,32,33,34,35,36,37,38,39,40,41,42,43,44,45,46,47,48,49,50,51] (fun x_=>[(28,i64 (x_.1))]) (fun x_=>[(401,.box [.sl 5058 ((x_.2.2.1)) 0 ((x_.2.1).b).length 1,.sl 9000 ((x_.2.2.2)) 0 ((x_.2.1).m).length 2]),(5058,.row (cl bc ((x_.2.1).b)) 1 ((x_.2.2.1))),(9000,.row (cl plC ((x_.2.1).m)) 2 ((x_.2.2.2)))]) (fun x_=>(x_.1)≤m.qs.length∧(x_.2.1)=cC (m.qs.take (x_.1)) (hdW m)∧WOk (x_.2.1)∧(x_.2.1).b.length≤12+259*(x_.1)∧(x_.2.1).m.length≤255*(x_.1)∧(x_.2.2.2)=(x_.2.1).m.length) (fun x_=>m.qs.length-(x_.1)) (0,hdW m,0,0) ?_ (Back.mk' (HasT.cons HasT.nil) (HasH.cons (HasH.cons (HasH.cons HasH.nil)))) ?_
  ·
   exact ⟨Nat.zero_le _,rfl,hW0,by show (hdW m).b.length≤_;omega,Nat.le_refl _,rfl⟩
  ·
   rintro ⟨i,w,v,u⟩ hI6;change i≤m.qs.length∧w=cC (m.qs.take i) (hdW m)∧WOk w∧w.b.length≤12+259*i∧w.m.length≤255*i∧u=w.m.length at hI6;obtain ⟨hi,hw,hW,hB,hM,hu⟩:=hI6;refine AWp.as (s':=AS.over _ [6,28,29,30,31,32,33,34,35,36,37,38,39,40,41,42,43,44,45,46,47,48,49,50,51] [(28,i64 i)] [(401,.box [.sl 5058 (v) 0 (w.b).length 1,.sl 9000 (u) 0 (w.m).length 2]),(5058,.row (cl bc (w.b)) 1 (v)),(9000,.row (cl plC (w.m)) 2 (u))]) rfl ?_;subst hu;iterate 2 refine ab ?_
   refine am (fun h6_0=>?_) (fun h6_0=>?_)
   ·
    iterate 8 refine ab ?_
    have hq:=yY (p2 _ (dT (i:=i) (by omega))) hW;have hqm:=uo hq.1 w;have hst:=sd (l:=m.qs) (i:=i) (by omega) (hdW m);iterate 2 refine ab ?_
    refine ai rfl rfl (ap 802) ?_;iterate 7 refine ab ?_
    refine ai rfl rfl (ay (0) [(0,401),(1,5058),(2,9000)] [] [(_,_),(_,_),(_,_)] (hc:=(qT (m.qs.getD i default).nm w v hq.1 hW (by omega) (by omega)))) ?_;refine ab ?_;refine bj [ag,ag,ag,ag,ag,ag,ag,ag,bv [(5058,_)],ag,ag,ag,bv [(5058,_)],ag,ag,bv [(401,_)]] [af [4] [] 37,af [4] [] 38,af [37] [401] 39,af [38] [401] 40,af [39] [401] 41,af [6] [802] 42,af [41] [802] 43,af [42] [] 44,af [40,43] [5058] 45 [5058],af [6] [802] 46,af [45] [802] 47,af [46] [] 48,af [44,47] [5058] 49 [5058],af [36] [401] 50,af [49] [401] 51,af [48,50] [401,5058] 0 [401]] rfl ⟨ah,ah,ah,ah,ah,ah,ah,aC fun _=>aN rfl rfl (aj (0) (hc:=(si (m.qs.getD i default).ty))),aC fun _=>aN rfl rfl (gY (hb:=by rw [show ∀ n,(two n).length=2 from fun _=>rfl];simp only [Nat.mul_one];omega)),ah,ah,aC fun _=>aN rfl rfl (aj (0) (hc:=(si (m.qs.getD i default).cs))),aC fun _=>aN rfl rfl (gY (hb:=by rw [List.length_append,show ∀ n,(two n).length=2 from fun _=>rfl,show ∀ n,(two n).length=2 from fun _=>rfl];simp only [Nat.mul_one];omega)),ah,ah,ah,trivial⟩ ?_;iterate 4 refine ab ?_
    rw [Bp];refine ⟨(i+1,wrQ (m.qs.getD i default) w,v+nmC (aP (m.qs.getD i default).nm) w+2,(wrQ (m.qs.getD i default) w).m.length),?_,Back.mk' (HasT.cons HasT.nil) (HasH.cons (HasH.cons (HasH.cons HasH.nil))),?_⟩
    ·
     try dsimp only
     exact ⟨by omega,by rw [hst,hw],hq.2.2.1,by have:=hq.2.2.2.2;omega,by have:(wrQ (m.qs.getD i default) w).m.length≤w.m.length+255:=hqm;omega,rfl⟩
    ·
     try dsimp only
     first|omega|(simp;omega)
   ·
    iterate 7 refine ab ?_
    obtain rfl:i=m.qs.length:=by omega
    rw [List.take_length] at hw;refine ab ?_;refine ai rfl rfl (aj (0) (hc:=(gz m h p1))) ?_;iterate 4 refine ab ?_
    refine AWp.loopR (α:=Nat×Wr×Nat×Nat) [2,3,8,55,56,57,58,59,60,61,62,63,64,65,66,67,68,69,70,71] (fun x_=>[(55,i64 (x_.1))]) (fun x_=>[(401,.box [.sl 5058 ((x_.2.2.1)) 0 ((x_.2.1).b).length 1,.sl 9000 ((x_.2.2.2)) 0 ((x_.2.1).m).length 2]),(5058,.row (cl bc ((x_.2.1).b)) 1 ((x_.2.2.1))),(9000,.row (cl plC ((x_.2.1).m)) 2 ((x_.2.2.2)))]) (fun x_=>(x_.1)≤m.rrs.length∧WOk (x_.2.1)∧(x_.2.1).m.length≤255*m.qs.length+765*(x_.1)∧(x_.2.2.2)=(x_.2.1).m.length∧(x_.2.1).b.length≤20000000∧(((x_.1)=0∧(x_.2.1)=cC m.qs (hdW m))∨(cz (m.rrs.take (x_.1)) (cC m.qs (hdW m),decide (((cC m.qs (hdW m)).b.length:Int)≤65535))=((x_.2.1),true)∧(x_.2.1).b.length≤65535))) (fun x_=>m.rrs.length-(x_.1)) (0,w,v,w.m.length) ?_ (Back.mk' (HasT.cons HasT.nil) (HasH.cons (HasH.cons (HasH.cons HasH.nil)))) ?_
    ·
     exact ⟨Nat.zero_le _,hW,by show w.m.length≤_;omega,rfl,by show w.b.length≤_;omega,.inl ⟨rfl,hw⟩⟩
    ·
     rintro ⟨i,w,v,u⟩ hI12;change i≤m.rrs.length∧WOk w∧w.m.length≤255*m.qs.length+765*i∧u=w.m.length∧w.b.length≤20000000∧((i=0∧w=cC m.qs (hdW m))∨(cz (m.rrs.take i) (cC m.qs (hdW m),decide (((cC m.qs (hdW m)).b.length:Int)≤65535))=(w,true)∧w.b.length≤65535)) at hI12;obtain ⟨hi,hW,hM,hu,hB,hI⟩:=hI12;refine AWp.as (s':=AS.over _ [2,3,8,55,56,57,58,59,60,61,62,63,64,65,66,67,68,69,70,71] [(55,i64 i)] [(401,.box [.sl 5058 (v) 0 (w.b).length 1,.sl 9000 (u) 0 (w.m).length 2]),(5058,.row (cl bc (w.b)) 1 (v)),(9000,.row (cl plC (w.m)) 2 (u))]) rfl ?_;subst hu;iterate 2 refine ab ?_
     refine am (fun h12_0=>?_) (fun h12_0=>?_)
     ·
      iterate 8 refine ab ?_
      have hr:=p3 _ (dT (l:=m.rrs) (i:=i) (by omega));have hst:=od (l:=m.rrs) (i:=i) (by omega) (cC m.qs (hdW m),decide (((cC m.qs (hdW m)).b.length:Int)≤65535));rw [mJ] at hst;obtain ⟨l1,l2⟩:=xQ hr hW;iterate 2 refine ab ?_
      refine ai rfl rfl (ap 1402) ?_;iterate 6 refine ab ?_
      refine ai rfl rfl (ay (0) [(0,401),(1,5058),(2,9000)] [] [(_,_),(_,_),(_,_)] (hc:=(F2 (m.rrs.getD i default) w v hr hW (by omega) (by omega)))) ?_;refine ab ?_;refine AOps.bool rfl rfl (aA) (fun h14_4=>?_) (fun h14_4=>?_)
      ·
       iterate 11 refine ab ?_
       refine ai rfl rfl (aR (0) bc) ?_;iterate 3 refine ab ?_
       refine ak (0) [_,_] [_,_] ?_;obtain ⟨e1,e2⟩:=t8 h1_1 (u4 hI (by omega) (.inl (by simpa using h14_4)));rw [e1,e2];rfl
      ·
       iterate 5 refine ab ?_
       refine am (fun h14_10=>?_) (fun h14_10=>?_)
       ·
        iterate 5 refine ab ?_
        refine ai rfl rfl (aR (0) bc) ?_;iterate 3 refine ab ?_
        refine ak (0) [_,_] [_,_] ?_;obtain ⟨e1,e2⟩:=t8 h1_1 (u4 hI (by omega) (.inr (by omega)));rw [e1,e2];rfl
       ·
        iterate 8 refine ab ?_
        refine ⟨(i+1,bB (m.rrs.getD i default) w,v+ua (m.rrs.getD i default) w,(bB (m.rrs.getD i default) w).m.length),?_,Back.mk' (HasT.cons HasT.nil) (HasH.cons (HasH.cons (HasH.cons HasH.nil))),?_⟩
        ·
         try dsimp only
         have hok:i5 (m.rrs.getD i default) w=true:=by simpa using h14_4
         refine ⟨by omega,pK hr hW,by omega,rfl,by omega,.inr ⟨?_,by omega⟩⟩;have hs:cz (m.rrs.take i) (cC m.qs (hdW m),decide (((cC m.qs (hdW m)).b.length:Int)≤65535))=(w,true):=by
          rcases hI with ⟨e1,e2⟩|e1
          · subst e1;rw [← e2];show (w,_)=_;rw [decide_eq_true (by omega)]
          · exact e1.1
         rw [hst,hs];show (if true=true then (bB (m.rrs.getD i default) w,i5 (m.rrs.getD i default) w&&decide (((bB (m.rrs.getD i default) w).b.length:Int)≤65535)) else (w,true))=_;rw [if_pos rfl,hok,Bool.true_and,decide_eq_true (by omega)]
        ·
         try dsimp only
         first|omega|(simp;omega)
     ·
      iterate 7 refine ab ?_
      obtain rfl:i=m.rrs.length:=by omega
      rw [List.take_length] at hI;iterate 5 refine ab ?_
      refine am (fun h17_5=>?_) (fun h17_5=>?_)
      ·
       iterate 4 refine ab ?_
       refine ai rfl rfl (aR (0) bc) ?_;iterate 3 refine ab ?_
       refine ak (0) [_,_] [_,_] ?_;rcases hI with ⟨g1,g2⟩|⟨g1,g2⟩
       · obtain ⟨e1,e2⟩:=t8 (i:=0) h1_1 (by show decide _=false;rw [← g2,decide_eq_false (by omega)])
         rw [e1,e2];rfl
       · omega
      ·
       iterate 13 refine ab ?_
       refine ak (0) [_,_] [_,_] ?_;have hg:cz m.rrs (cC m.qs (hdW m),decide (((cC m.qs (hdW m)).b.length:Int)≤65535))=(w,true):=by
        rcases hI with ⟨g1,g2⟩|⟨g1,g2⟩
        · rw [List.length_eq_zero_iff.1 g1,← g2];show (w,_)=_;rw [decide_eq_true (by omega)]
        · exact g1
       obtain ⟨e1,e2⟩:=AB h1_1 hg;rw [e1,e2];rfl
 ·
  iterate 5 refine ab ?_
  refine ai rfl rfl (aR (0) bc) ?_;iterate 3 refine ab ?_
  refine ak (0) [_,_] [_,_] ?_;rw [dI,gr,h1_1];rfl
def pE (e:Int):Value:=.iface 29 (.int .i64 e)
def pNo (c:Bool) (e:Int):Option Value:=if c then none else some (pE e)
theorem cf {c:Bool} {e:Int} {x:Value} (h:pNo c e=some x):c=false∧pE e=x:=by
 cases c with
 | true=>cases h
 | false=>exact ⟨rfl,by simpa [pNo] using h⟩
theorem d6 {c:Bool} {e:Int} (h:pNo c e=none):c=true:=by
 cases c with
 | true=>rfl
 | false=>simp [pNo] at h
def nP {α:Type}:Except Int α→Option Value
 | .error e=>some (pE e)
 | .ok _=>none
def jL {α:Type} [Inhabited α]:Except Int α→α
 | .error _=>default
 | .ok a=>a
def kB (b:List UInt8) (i:Nat):Nat:=(b.getD i default).toNat
def toI (b:List UInt8) (i:Nat):Nat:=kB b i%64*256+kB b (i+1)
theorem Dy (b:List UInt8) (i:Nat):kB b i<256:=(b.getD i default).toNat_lt
def rdN (b:List UInt8) (sh:Int) (p fi li:Nat) (bh:Option Nat) (n:List UInt8):Except Int (List UInt8×Nat):=
 if h0:li≤p then .error sh
 else if kB b p=0 then (if n.length<255 then .ok (n++[0],bh.getD (p+1)) else .error 11)
 else if 192≤kB b p then
  (if li≤p+1 then .error sh
  else if h:toI b p<fi then rdN b sh (toI b p) (toI b p) b.length (some (bh.getD (p+2))) n
  else .error 40)
 else if 64≤kB b p then .error 10
 else if li<p+1+kB b p then .error sh
 else if (n++(b.take (p+1+kB b p)).drop p).length<255 then rdN b sh (p+1+kB b p) fi li bh (n++(b.take (p+1+kB b p)).drop p)
 else .error 11
termination_by (fi,li-p)
decreasing_by
 · exact Prod.Lex.left _ _ h
 · exact Prod.Lex.right _ (by omega)
section rdN
variable {b:List UInt8} {sh:Int} {p fi li:Nat} {bh:Option Nat} {n:List UInt8}
theorem ec (h:li≤p):rdN b sh p fi li bh n=.error sh:=by rw [rdN,dif_pos h]
theorem eg (h:¬ li≤p) (h1:kB b p=0) (h2:n.length<255):rdN b sh p fi li bh n=.ok (n++[0],bh.getD (p+1)):=by rw [rdN,dif_neg h,if_pos h1,if_pos h2]
theorem dk (h:¬ li≤p) (h1:kB b p=0) (h2:¬ n.length<255):rdN b sh p fi li bh n=.error 11:=by rw [rdN,dif_neg h,if_pos h1,if_neg h2]
theorem dA (h:¬ li≤p) (h1:192≤kB b p) (h2:li≤p+1):rdN b sh p fi li bh n=.error sh:=by rw [rdN,dif_neg h,if_neg (by omega),if_pos h1,if_pos h2]
theorem fk (h:¬ li≤p) (h1:192≤kB b p) (h2:¬ li≤p+1) (h3:¬ toI b p<fi):rdN b sh p fi li bh n=.error 40:=by rw [rdN,dif_neg h,if_neg (by omega),if_pos h1,if_neg h2,dif_neg h3]
theorem ed (h:¬ li≤p) (h1:192≤kB b p) (h2:¬ li≤p+1) (h3:toI b p<fi):rdN b sh p fi li bh n=rdN b sh (toI b p) (toI b p) b.length (some (bh.getD (p+2))) n:=by rw [rdN,dif_neg h,if_neg (by omega),if_pos h1,if_neg h2,dif_pos h3]
theorem ef (h:¬ li≤p) (h1:64≤kB b p) (h2:¬ 192≤kB b p):rdN b sh p fi li bh n=.error 10:=by rw [rdN,dif_neg h,if_neg (by omega),if_neg h2,if_pos h1]
theorem dD (h:¬ li≤p) (h1:kB b p≠0) (h2:¬ 64≤kB b p) (h3:li<p+1+kB b p):rdN b sh p fi li bh n=.error sh:=by rw [rdN,dif_neg h,if_neg h1,if_neg (by omega),if_neg h2,if_pos h3]
theorem ee (h:¬ li≤p) (h1:kB b p≠0) (h2:¬ 64≤kB b p) (h3:¬ li<p+1+kB b p) (h4:¬ (n++(b.take (p+1+kB b p)).drop p).length<255):rdN b sh p fi li bh n=.error 11:=by rw [rdN,dif_neg h,if_neg h1,if_neg (by omega),if_neg h2,if_neg h3,if_neg h4]
theorem fV (h:¬ li≤p) (h1:kB b p≠0) (h2:¬ 64≤kB b p) (h3:¬ li<p+1+kB b p) (h4:(n++(b.take (p+1+kB b p)).drop p).length<255):rdN b sh p fi li bh n=rdN b sh (p+1+kB b p) fi li bh (n++(b.take (p+1+kB b p)).drop p):=by rw [rdN,dif_neg h,if_neg h1,if_neg (by omega),if_neg h2,if_neg h3,if_pos h4]
end rdN
def bhI:Option Nat→Int
 | none=>-1
 | some a=>a
theorem xJ {o:Option Nat} (h:bhI o<0):o=none:=by
 cases o with
 | none=>rfl
 | some a=>simp only [bhI] at h;omega
theorem xI {o:Option Nat} (h:¬ bhI o<0):∃ a,o=some a:=by
 cases o with
 | none=>exact absurd (by decide) h
 | some a=>exact ⟨a,rfl⟩
theorem GF (k:Nat):(((k:Int).toNat &&& (63:Int).toNat:Nat):Int)=((k%64:Nat):Int):=by
 rw [Int.toNat_natCast,show (63:Int).toNat=2 ^ 6-1 by decide,Nat.and_two_pow_sub_one_eq_mod]
theorem Ep (k:Nat) (q:UInt8):((((k%64:Nat):Int)*2 ^ 8).toNat ||| ((q.toNat:Int)).toNat:Nat)=k%64*256+q.toNat:=by
 have hq:=q.toNat_lt;have e:(((k%64:Nat):Int)*2 ^ 8).toNat=2 ^ 8*(k%64):=by omega
 rw [e,Int.toNat_natCast,← Nat.two_pow_add_eq_or_of_lt (by omega:q.toNat<2 ^ 8) (k%64)];omega
theorem BO {n:Nat} {s:AS} {o:Oper} {d:Option Tmp} {t u:TypeId} {x y:Operand} {k:Nat} (ho:o.op=.binOp .and t x y u:=by exact rfl) (hx:s.ev x=i64 k:=by exact rfl) (hy:s.ev y=i64 63:=by exact rfl) (hk:k<256)
 (hdd:o.dst=d:=by conv=>lhs;whnf) (hd:d.all (Nat.blt · n)=true:=by exact rfl):OpOk Tryz.prog n o s (s.put d (i64 ((k%64:Nat):Int))):=by
 rw [← GF];exact fo ho hx hy (by omega) (by omega) hdd hd
theorem Gi {n:Nat} {s:AS} {o:Oper} {d:Option Tmp} {t u:TypeId} {x y:Operand} {k:Nat} {q:UInt8} (ho:o.op=.binOp .or t x y u:=by exact rfl) (hx:s.ev x=i64 (((k%64:Nat):Int)*2 ^ 8):=by exact rfl) (hy:s.ev y=i64 q.toNat:=by exact rfl)
 (hdd:o.dst=d:=by conv=>lhs;whnf) (hd:d.all (Nat.blt · n)=true:=by exact rfl):OpOk Tryz.prog n o s (s.put d (i64 ((k%64*256+q.toNat:Nat):Int))):=by
 have hq:=q.toNat_lt;rw [← Ep];exact vP ho hx hy (by omega) (by omega) hdd hd
theorem co (c:Bool) (e:Int):AC Tryz.prog 130 [tf c,i64 e] (ao []) (oA (pNo c e) (.tup []) [] (fun k=>[])):=by
 refine AC.intro te_ok (fn:=Tryz.f130) ⟨Tryz.func130,rfl,rfl⟩ (aE rfl) ?_;iterate 2 refine ab ?_
 refine AOps.bool rfl rfl (aA) (fun h0_0=>?_) (fun h0_0=>?_)
 ·
  iterate 4 refine ab ?_
  show Fin te Tryz.f130 _ _;obtain rfl:c=true:=by simpa using h0_0
  refine Fin.retP (by rfl) ?_;refine aQ (0) [] [] [] [] ?_;rfl
 ·
  iterate 5 refine ab ?_
  refine ai rfl rfl (zE) ?_;refine AOps.panic ?_;show Post te Tryz.f130 _ (.panic _) _;refine Post.panicH (0) (0) ?_ (by repeat' (first|exact trivial|exact aK rfl|exact bd rfl rfl|exact aV rfl rfl|exact bw rfl rfl|exact aF (fun _=>rfl)|refine ar ?_|refine ⟨rfl,⟨_,rfl,?_⟩,?_⟩|refine ⟨?_,?_⟩)) rfl;rw [show c=false by simpa using h0_0];rfl
theorem qU (b:List UInt8) (sh:Int) (p0 en:Nat) (hb:b.length≤65535) (he:en≤b.length) (hp:p0≤100000):AC Tryz.prog 132 [.ptr 0 0 0,i64 en,i64 sh] (ao [(0,.box [.fz 1 b.length (cl bc b),i64 p0])]) (oA (nP (rdN b sh p0 p0 en none [])) (str (jL (rdN b sh p0 p0 en none [])).1) [(0,.box [.fz 1 b.length (cl bc b),i64 (jL (rdN b sh p0 p0 en none [])).2])] (fun k=>[(0,.box [.fz 1 b.length (cl bc b),i64 k])])):=by
 refine AC.intro te_ok (fn:=Tryz.f132) ⟨Tryz.func132,rfl,rfl⟩ (aE rfl) ?_;iterate 4 refine ab ?_
 refine AWp.jumpsR (α:=Nat×Nat×Nat×Option Nat×List UInt8×Nat) 0 [6,7,8,9,10,11,12,13,14,15,16,17,18,19,20,21,22,23,24,25,26,27,28,29,30,31,32,33,34,35,36,37,38,39,40,41,42,43,44,45,46,47,48,49,50,51,52,53,54,55,56,57,58,59,60,61,62,63,64,65,66,67,68,69,70,71,72,73,74,75,76,77,78,79,80,81,82,83,84,85,86,87,88,89,90,91,92,93,94,95,96,97,98,99,100,101,102,103,104,105,106,107,108,109,110,111,112,113,114,115,116,117,118,119,120,121,122,123] (fun x_=>[(8,i64 (x_.1)),(9,i64 (x_.2.1)),(10,i64 (x_.2.2.1)),(11,i64 (bhI (x_.2.2.2.1))),(7,.sl 200 (x_.2.2.2.2.2) 0 (x_.2.2.2.2.1).length 1)]) (fun x_=>[(200,.row (cl bc (x_.2.2.2.2.1)) 1 (x_.2.2.2.2.2))]) (fun x_=>rdN b sh (x_.1) (x_.2.1) (x_.2.2.1) (x_.2.2.2.1) (x_.2.2.2.2.1)=rdN b sh p0 p0 en none []∧(x_.2.2.1)≤b.length∧(x_.2.2.2.2.1).length<255∧(x_.1)≤200000∧(x_.2.1)≤100000) (fun x_=>(x_.2.1)*(b.length+1)+((x_.2.2.1)-(x_.1))) rfl (fun hj=>?_) ?_
 ·
  iterate 2 refine ab ?_
  refine ai rfl rfl (bD 200 1 bc) ?_;iterate 2 refine ab ?_
  refine bj [ag,ag,ag,ag,ag,ag,ag,ag,ag,ag,ag,ag,ag] [af [0] [] 15,af [14] [0] 16,af [15] [0] 17,af [16] [0] 18,af [0] [] 19,af [18] [0] 20,af [19] [0] 21,af [20] [0] 22,af [1] [] 23,af [17] [] 9,af [21] [] 10,af [22] [] 11,af [] [] 12] rfl ⟨ah,ah,ah,ah,ah,ah,ah,ah,ah,ah,ah,ah,ah,trivial⟩ ?_;refine hj _ ⟨(p0,p0,en,none,[],0),?_,Back.mk' (HasT.cons (HasT.cons (HasT.cons (HasT.cons (HasT.cons HasT.nil))))) (HasH.cons HasH.nil)⟩;exact ⟨rfl,he,by show 0<255;decide,by show p0≤_;omega,hp⟩
 ·
  rintro ⟨p,fi,li,bh,n,v⟩ hI;change rdN b sh p fi li bh n=rdN b sh p0 p0 en none []∧li≤b.length∧n.length<255∧p≤200000∧fi≤100000 at hI;obtain ⟨hE,hL,hN,hP,hF⟩:=hI;refine AWp.as (s':=AS.over _ [6,7,8,9,10,11,12,13,14,15,16,17,18,19,20,21,22,23,24,25,26,27,28,29,30,31,32,33,34,35,36,37,38,39,40,41,42,43,44,45,46,47,48,49,50,51,52,53,54,55,56,57,58,59,60,61,62,63,64,65,66,67,68,69,70,71,72,73,74,75,76,77,78,79,80,81,82,83,84,85,86,87,88,89,90,91,92,93,94,95,96,97,98,99,100,101,102,103,104,105,106,107,108,109,110,111,112,113,114,115,116,117,118,119,120,121,122,123] [(8,i64 p),(9,i64 fi),(10,i64 li),(11,i64 (bhI bh)),(7,.sl 200 v 0 n.length 1)] [(200,.row (cl bc n) 1 v)]) rfl ?_;have hk256:=Dy b p;iterate 4 refine ab ?_
  refine ai rfl rfl (e8) ?_;refine ab ?_;refine AOps.callP (hp':=fun k=>[]) (1) [] [] [] (co (decide ((p:Int)<(li:Int))) sh) (fun h3_4=>?_) (fun x k h3_4=>?_)
  ·
   iterate 3 refine ab ?_
   have g1:¬ li≤p:=by have:=d6 h3_4;simp at this;omega
   iterate 14 refine ab ?_
   rw [show (b.getD ((p:Nat):Int).toNat default).toNat=kB b p from rfl];refine ab ?_;refine am (fun h5_1=>?_) (fun h5_1=>?_)
   ·
    iterate 7 refine ab ?_
    refine ai rfl rfl (e8) ?_;refine AOps.callP (hp':=fun k=>[]) (1) [] [] [] (co (decide ((n.length:Int)<255)) 11) (fun h6_3=>?_) (fun x k h6_3=>?_)
    ·
     iterate 4 refine ab ?_
     have g2:n.length<255:=hN;have hk0:kB b p=0:=by omega
     refine ab ?_;refine am (fun h7_1=>?_) (fun h7_1=>?_)
     ·
      iterate 3 refine ab ?_
      obtain rfl:=xJ h7_1;iterate 15 refine ab ?_
      refine ai rfl rfl (bO 1101 bc [0] [(_,_)]) ?_;refine ab ?_;refine ai rfl rfl (aU) ?_;iterate 3 refine ab ?_
      rw [← hE,eg g1 hk0 g2];refine Fin.retP (by rfl) ?_;refine im (1) (0) [] [_] [_] [(_,_)] ?_;rfl
     ·
      iterate 5 refine ab ?_
      obtain ⟨a,rfl⟩:=xI h7_1;iterate 9 refine ab ?_
      refine ai rfl rfl (bO 1101 bc [0] [(_,_)]) ?_;refine ab ?_;refine ai rfl rfl (aU) ?_;iterate 3 refine ab ?_
      rw [← hE,eg g1 hk0 g2];refine Fin.retP (by rfl) ?_;refine im (1) (0) [] [_] [_] [(_,_)] ?_;rfl
    ·
     show Post te Tryz.f132 _ (.panic _) _;refine Post.panicH (1) (p0) ?_ (by repeat' (first|exact trivial|exact aK rfl|exact bd rfl rfl|exact aV rfl rfl|exact bw rfl rfl|exact aF (fun _=>rfl)|refine ar ?_|refine ⟨rfl,⟨_,rfl,?_⟩,?_⟩|refine ⟨?_,?_⟩)) rfl;obtain ⟨c1,rfl⟩:=cf h6_3;rw [← hE,dk g1 (by omega) (by simp at c1;omega)];rfl
   ·
    iterate 6 refine ab ?_
    refine am (fun h11_1=>?_) (fun h11_1=>?_)
    ·
     iterate 8 refine ab ?_
     refine ai rfl rfl (e8) ?_;refine ab ?_;refine AOps.callP (hp':=fun k=>[]) (1) [] [] [] (co (decide ((p:Int)+1<(li:Int))) sh) (fun h12_5=>?_) (fun x k h12_5=>?_)
     ·
      iterate 3 refine ab ?_
      have g2:¬ li≤p+1:=by have:=d6 h12_5;simp at this;omega
      have hk:192≤kB b p:=by omega
      refine ab ?_;refine ai rfl rfl (BO (k:=kB b p) (hk:=hk256)) ?_;refine ai rfl rfl (ik 8) ?_;iterate 9 refine ab ?_
      refine ai rfl rfl (Gi (k:=kB b p)) ?_;iterate 4 refine ab ?_
      rw [show (kB b p%64*256+(b.getD ((p:Int)+1).toNat default).toNat:Nat)=toI b p from rfl];iterate 2 refine ab ?_
      refine ai rfl rfl (e8) ?_;refine AOps.callP (hp':=fun k=>[]) (1) [] [] [] (co (decide ((toI b p:Int)<(fi:Int))) 40) (fun h14_3=>?_) (fun x k h14_3=>?_)
      ·
       iterate 4 refine ab ?_
       have g3:toI b p<fi:=by have:=d6 h14_3;simp at this;omega
       refine ab ?_;refine am (fun h15_1=>?_) (fun h15_1=>?_)
       ·
        iterate 3 refine ab ?_
        obtain rfl:=xJ h15_1;iterate 5 refine ab ?_
        refine bj [ag,ag,ag,ag,ag,ag,ag,ag,ag,ag] [af [13] [] 86,af [13] [] 87,af [0] [] 88,af [87] [0] 89,af [88] [0] 90,af [89] [0] 91,af [90] [] 92,af [85] [] 9,af [86] [] 10,af [91] [] 11] rfl ⟨ah,ah,ah,ah,ah,ah,ah,ah,ah,ah,trivial⟩ ?_;refine AWp.goto ?_;refine ⟨rfl,(toI b p,toI b p,b.length,some (p+2),n,v),?_,Back.mk' (HasT.cons (HasT.cons (HasT.cons (HasT.cons (HasT.cons HasT.nil))))) (HasH.cons HasH.nil),?_⟩
        ·
         try dsimp only
         exact ⟨by rw [← hE,ed g1 hk g2 g3];rfl,Nat.le_refl _,hN,by omega,by omega⟩
        ·
         try dsimp only
         have:=Nat.mul_le_mul_right (b.length+1) (show toI b p+1≤fi by omega);rw [Nat.succ_mul] at this;omega
       ·
        iterate 4 refine ab ?_
        obtain ⟨a,rfl⟩:=xI h15_1;refine bj [ag,ag,ag,ag,ag,ag,ag,ag,ag,ag] [af [13] [] 86,af [13] [] 87,af [0] [] 88,af [87] [0] 89,af [88] [0] 90,af [89] [0] 91,af [90] [] 92,af [85] [] 9,af [86] [] 10,af [91] [] 11] rfl ⟨ah,ah,ah,ah,ah,ah,ah,ah,ah,ah,trivial⟩ ?_;refine AWp.goto ?_;refine ⟨rfl,(toI b p,toI b p,b.length,some a,n,v),?_,Back.mk' (HasT.cons (HasT.cons (HasT.cons (HasT.cons (HasT.cons HasT.nil))))) (HasH.cons HasH.nil),?_⟩
        ·
         try dsimp only
         exact ⟨by rw [← hE,ed g1 hk g2 g3];rfl,Nat.le_refl _,hN,by omega,by omega⟩
        ·
         try dsimp only
         have:=Nat.mul_le_mul_right (b.length+1) (show toI b p+1≤fi by omega);rw [Nat.succ_mul] at this;omega
      ·
       show Post te Tryz.f132 _ (.panic _) _;refine Post.panicH (1) (p0) ?_ (by repeat' (first|exact trivial|exact aK rfl|exact bd rfl rfl|exact aV rfl rfl|exact bw rfl rfl|exact aF (fun _=>rfl)|refine ar ?_|refine ⟨rfl,⟨_,rfl,?_⟩,?_⟩|refine ⟨?_,?_⟩)) rfl;obtain ⟨c1,rfl⟩:=cf h14_3;rw [← hE,fk g1 hk g2 (by simp at c1;omega)];rfl
     ·
      show Post te Tryz.f132 _ (.panic _) _;refine Post.panicH (1) (p0) ?_ (by repeat' (first|exact trivial|exact aK rfl|exact bd rfl rfl|exact aV rfl rfl|exact bw rfl rfl|exact aF (fun _=>rfl)|refine ar ?_|refine ⟨rfl,⟨_,rfl,?_⟩,?_⟩|refine ⟨?_,?_⟩)) rfl;obtain ⟨c1,rfl⟩:=cf h12_5;rw [← hE,dA g1 (by omega) (by simp at c1;omega)];rfl
    ·
     iterate 6 refine ab ?_
     refine am (fun h18_1=>?_) (fun h18_1=>?_)
     ·
      iterate 4 refine ab ?_
      refine ai rfl rfl (zE) ?_;refine AOps.panic ?_;show Post te Tryz.f132 _ (.panic _) _;refine Post.panicH (1) (p0) ?_ (by repeat' (first|exact trivial|exact aK rfl|exact bd rfl rfl|exact aV rfl rfl|exact bw rfl rfl|exact aF (fun _=>rfl)|refine ar ?_|refine ⟨rfl,⟨_,rfl,?_⟩,?_⟩|refine ⟨?_,?_⟩)) rfl;rw [← hE,ef g1 (by omega) (by omega)];rfl
     ·
      iterate 6 refine ab ?_
      have hk0:kB b p≠0:=by omega
      have hk1:¬ 64≤kB b p:=by omega
      iterate 5 refine ab ?_
      refine ai rfl rfl (iN) ?_;refine ab ?_;refine AOps.callP (hp':=fun k=>[]) (1) [] [] [] (co (decide ((p:Int)+1+(kB b p:Int)≤(li:Int))) sh) (fun h20_7=>?_) (fun x k h20_7=>?_)
      ·
       iterate 3 refine ab ?_
       have g2:¬ li<p+1+kB b p:=by have:=d6 h20_7;simp at this;omega
       iterate 16 refine ab ?_
       rw [show ((p:Int)+1+(kB b p:Int)).toNat=p+1+kB b p by omega,show ((p:Nat):Int).toNat=p by omega];obtain ⟨N,hNN⟩:∃ N,N=n++(b.take (p+1+kB b p)).drop p:=⟨_,rfl⟩;rw [← hNN];have hNl:N.length=n.length+(1+kB b p):=by rw [hNN,List.length_append,List.length_drop,List.length_take];omega
       iterate 2 refine ab ?_
       refine ai rfl rfl (e8) ?_;refine AOps.callP (hp':=fun k=>[]) (1) [] [] [] (co (decide ((N.length:Int)<255)) 11) (fun h22_3=>?_) (fun x k h22_3=>?_)
       ·
        iterate 3 refine ab ?_
        have g3:N.length<255:=by have:=d6 h22_3;simp at this;omega
        iterate 6 refine ab ?_
        refine AWp.goto ?_;refine ⟨rfl,(p+1+kB b p,fi,li,bh,N,v+1),?_,Back.mk' (HasT.cons (HasT.cons (HasT.cons (HasT.cons (HasT.cons HasT.nil)))) (h1:=by exact ci (by omega)) ) (HasH.cons HasH.nil),?_⟩
        ·
         try dsimp only
         exact ⟨by rw [← hE,fV g1 hk0 hk1 g2 (by rw [← hNN];omega),← hNN],hL,by omega,by omega,hF⟩
        ·
         try dsimp only
         omega
       ·
        show Post te Tryz.f132 _ (.panic _) _;refine Post.panicH (1) (p0) ?_ (by repeat' (first|exact trivial|exact aK rfl|exact bd rfl rfl|exact aV rfl rfl|exact bw rfl rfl|exact aF (fun _=>rfl)|refine ar ?_|refine ⟨rfl,⟨_,rfl,?_⟩,?_⟩|refine ⟨?_,?_⟩)) rfl;obtain ⟨c1,rfl⟩:=cf h22_3;rw [← hE,ee g1 hk0 hk1 g2 (by rw [← hNN];simp at c1;omega)];rfl
      ·
       show Post te Tryz.f132 _ (.panic _) _;refine Post.panicH (1) (p0) ?_ (by repeat' (first|exact trivial|exact aK rfl|exact bd rfl rfl|exact aV rfl rfl|exact bw rfl rfl|exact aF (fun _=>rfl)|refine ar ?_|refine ⟨rfl,⟨_,rfl,?_⟩,?_⟩|refine ⟨?_,?_⟩)) rfl;obtain ⟨c1,rfl⟩:=cf h20_7;rw [← hE,dD g1 hk0 hk1 (by simp at c1;omega)];rfl
  ·
   show Post te Tryz.f132 _ (.panic _) _;refine Post.panicH (1) (p0) ?_ (by repeat' (first|exact trivial|exact aK rfl|exact bd rfl rfl|exact aV rfl rfl|exact bw rfl rfl|exact aF (fun _=>rfl)|refine ar ?_|refine ⟨rfl,⟨_,rfl,?_⟩,?_⟩|refine ⟨?_,?_⟩)) rfl;obtain ⟨c1,rfl⟩:=cf h3_4;rw [← hE,ec (by simp at c1;omega)];rfl
theorem eW {α:Type} {r:Except Int α} (h:nP r=none):∃ a,r=.ok a:=by
 cases r with
 | error e=>simp [nP] at h
 | ok a=>exact ⟨a,rfl⟩
theorem eV {α:Type} {r:Except Int α} {x:Value} (h:nP r=some x):∃ e,r=.error e∧pE e=x:=by
 cases r with
 | error e=>exact ⟨e,rfl,by simpa [nP] using h⟩
 | ok a=>simp [nP] at h
theorem Eg {b:List UInt8} {sh:Int}:∀ (p fi li:Nat) (bh:Option Nat) (n:List UInt8),∀ {N:List UInt8} {P:Nat},rdN b sh p fi li bh n=.ok (N,P)→N.length≤255∧(bh=none→p<P∧P≤li)∧(∀ a,bh=some a→P=a):=by
 intro p fi li bh n;induction p,fi,li,bh,n using rdN.induct b with
 | case1 p fi li bh n h=>intro N P e;rw [ec h] at e;cases e
 | case2 p fi li bh n h h1 h2=>
  intro N P e;rw [eg h h1 h2] at e;cases e;refine ⟨by simp;omega,fun hb=>by subst hb;simp;omega,fun a ha=>by subst ha;rfl⟩
 | case3 p fi li bh n h h1 h2=>intro N P e;rw [dk h h1 h2] at e;cases e
 | case4 p fi li bh n h h1 h2 h3=>intro N P e;rw [dA h h2 h3] at e;cases e
 | case5 p fi li bh n h h1 h2 h3 h4 ih=>
  intro N P e;rw [ed h h2 h3 h4] at e;obtain ⟨a,b1,c⟩:=ih e;have hP:=c _ rfl;refine ⟨a,fun hb=>?_,fun x hx=>?_⟩
  · subst hb;rw [hP];show p<p+2∧p+2≤li;omega
  · subst hx;rw [hP];rfl
 | case6 p fi li bh n h h1 h2 h3 h4=>intro N P e;rw [fk h h2 h3 h4] at e;cases e
 | case7 p fi li bh n h h1 h2 h3=>intro N P e;rw [ef h h3 h2] at e;cases e
 | case8 p fi li bh n h h1 h2 h3 h4=>intro N P e;rw [dD h h1 h3 h4] at e;cases e
 | case9 p fi li bh n h h1 h2 h3 h4 h5 ih=>
  intro N P e;rw [fV h h1 h3 h4 h5] at e;obtain ⟨a,b1,c⟩:=ih e;exact ⟨a,fun hb=>by have:=b1 hb;omega,c⟩
 | case10 p fi li bh n h h1 h2 h3 h4 h5=>intro N P e;rw [ee h h1 h3 h4 h5] at e;cases e
def nV (l:List UInt8):Nat:=l.foldl (fun a x=>a*256+x.toNat) 0
theorem wZ (l:List UInt8) (x:UInt8):nV (l++[x])=nV l*256+x.toNat:=by simp [nV,List.foldl_append]
theorem EB (l:List UInt8) (a:Nat):l.foldl (fun a x=>a*256+x.toNat) a<(a+1)*256 ^ l.length:=by
 induction l generalizing a with
 | nil=>simp
 | cons x l ih=>
  have h1:=ih (a*256+x.toNat);have h2:=x.toNat_lt;have h3:(a*256+x.toNat+1)*256 ^ l.length≤((a+1)*256)*256 ^ l.length:=Nat.mul_le_mul_right _ (by omega);rw [List.foldl_cons,List.length_cons,Nat.pow_succ,Nat.mul_comm (256 ^ l.length) 256,← Nat.mul_assoc];omega
theorem Dw (l:List UInt8):nV l<256 ^ l.length:=by have:=EB l 0;simpa [nV] using this
theorem wa {l:List UInt8} (h:l.length≤4):nV l<4294967296:=
 Nat.lt_of_lt_of_le (Dw l) (Nat.le_trans (Nat.pow_le_pow_right (by decide) h) (by decide))
def bN (b:List UInt8) (i w:Nat):Nat:=nV ((b.take (i+w)).drop i)
theorem Es (a:Nat) (q:UInt8):(((a:Int)*2 ^ 8).toNat ||| ((q.toNat:Int)).toNat:Nat)=a*256+q.toNat:=by
 have hq:=q.toNat_lt;have e:((a:Int)*2 ^ 8).toNat=2 ^ 8*a:=by omega
 rw [e,Int.toNat_natCast,← Nat.two_pow_add_eq_or_of_lt (by omega:q.toNat<2 ^ 8) a];omega
theorem Gk {n:Nat} {s:AS} {o:Oper} {d:Option Tmp} {t u:TypeId} {x y:Operand} {a:Nat} {q:UInt8} (ho:o.op=.binOp .or t x y u:=by exact rfl) (hx:s.ev x=i64 ((a:Int)*2 ^ 8):=by exact rfl) (hy:s.ev y=i64 q.toNat:=by exact rfl) (ha:a<4294967296)
 (hdd:o.dst=d:=by conv=>lhs;whnf) (hd:d.all (Nat.blt · n)=true:=by exact rfl):OpOk Tryz.prog n o s (s.put d (i64 ((a*256+q.toNat:Nat):Int))):=by
 have hq:=q.toNat_lt;rw [← Es];exact vP ho hx hy (by omega) (by omega) hdd hd
def cR (t:Int):Nat:=if t=6 then 2 else if t=2∨t=5∨t=12∨t=15 then 1 else 0
def ED:List (Int×Int):=cp (cp (cp (cp (cp [] 2 1) 5 1) 12 1) 15 1) 6 2
theorem C4 (t:Int):(bg ED t).getD 0=(cR t:Int):=by
 have e:ED=[(2,1),(5,1),(12,1),(15,1),(6,2)]:=rfl;rw [e];unfold cR;by_cases h6:t=6
 · subst h6;rfl
 · by_cases h:t=2∨t=5∨t=12∨t=15
   · rw [if_neg h6,if_pos h]
     rcases h with rfl|rfl|rfl|rfl<;>rfl
   · rw [if_neg h6,if_neg h]
     simp only [not_or] at h;simp [bg,Ne.symm h.1,Ne.symm h.2.1,Ne.symm h.2.2.1,Ne.symm h.2.2.2,Ne.symm h6]
def fS (b:List UInt8) (en:Nat):Nat→List UInt8→Nat→Except Int (List UInt8×Nat)
 | 0,acc,p=>.ok (acc,p)
 | k+1,acc,p=>match rdN b 30 p p en none [] with
  | .error e=>.error e
  | .ok a=>fS b en k (acc++a.1) a.2
def rdO (b:List UInt8) (t:Int) (en:Nat):Except Int (List UInt8×Nat)→Except Int (List UInt8)
 | .error e=>.error e
 | .ok a=>if fA t (a.1++(b.take en).drop a.2) then .ok (a.1++(b.take en).drop a.2) else .error 30
def rdD (b:List UInt8) (t:Int) (p en:Nat):Except Int (List UInt8):=
 if t=15∧en<p+2 then .error 30
 else rdO b t en (fS b en (cR t) (if t=15 then (b.take (p+2)).drop p else []) (if t=15 then p+2 else p))
theorem jV {b:List UInt8} {en k:Nat} {acc:List UInt8} {p:Nat} {e:Int} (h:rdN b 30 p p en none []=.error e):fS b en (k+1) acc p=.error e:=by simp only [fS,h]
theorem mP {b:List UInt8} {en k:Nat} {acc:List UInt8} {p:Nat} {a:List UInt8×Nat} (h:rdN b 30 p p en none []=.ok a):fS b en (k+1) acc p=fS b en k (acc++a.1) a.2:=by simp only [fS,h]
theorem jW {b:List UInt8} {t:Int} {p en:Nat} (h:¬ (t=15∧en<p+2)):rdD b t p en=rdO b t en (fS b en (cR t) (if t=15 then (b.take (p+2)).drop p else []) (if t=15 then p+2 else p)):=if_neg h
theorem lG (b:List UInt8) (p0 w:Nat) (hb:b.length≤65535) (hp:p0≤200000) (hw:w≤4):AC Tryz.prog 133 [.ptr 0 0 0,i64 w] (ao [(0,.box [.fz 1 b.length (cl bc b),i64 p0])]) (oA (pNo (decide (p0+w≤b.length)) 20) (i64 (bN b p0 w)) [(0,.box [.fz 1 b.length (cl bc b),i64 ((p0+w:Nat):Int)])] (fun k=>[(0,.box [.fz 1 b.length (cl bc b),i64 k])])):=by
 refine AC.intro te_ok (fn:=Tryz.f133) ⟨Tryz.func133,rfl,rfl⟩ (aE rfl) ?_;iterate 5 refine ab ?_
 rcases hpo:pNo (decide ((w:Int)≤(b.length:Int)-(p0:Int))) 20 with _|xx
 ·
  refine AWp.drawsX _ [⟨0,[0],[],some 8,_,[]⟩,
   ⟨1,[8],[0],some 9,_,[]⟩,
   ⟨2,[9],[0],some 10,_,[]⟩,
   ⟨3,[10],[0],some 11,_,[]⟩,
   ⟨4,[11],[],some 12,_,[]⟩,
   ⟨5,[0],[],some 13,_,[]⟩,
   ⟨6,[13],[0],some 14,_,[]⟩,
   ⟨7,[14],[0],some 15,_,[]⟩,
   ⟨8,[15],[0],some 16,_,[]⟩,
   ⟨9,[12,16],[],some 17,_,[]⟩,
   ⟨10,[1],[],some 18,_,[]⟩,
   ⟨11,[17,18],[],some 19,_,[]⟩,
   ⟨12,[19],[0,1,2,3,4,5,6,7],some 20,_,[]⟩]
   [⟨0,[0],[],some 8,.any,[]⟩,
    ⟨1,[8],[0],some 9,.any,[]⟩,
    ⟨2,[9],[0],some 10,.any,[]⟩,
    ⟨3,[10],[0],some 11,.any,[]⟩,
    ⟨4,[11],[],some 12,.any,[]⟩,
    ⟨5,[0],[],some 13,.any,[]⟩,
    ⟨6,[13],[0],some 14,.any,[]⟩,
    ⟨7,[14],[0],some 15,.any,[]⟩,
    ⟨8,[15],[0],some 16,.any,[]⟩,
    ⟨9,[12,16],[],some 17,.any,[]⟩,
    ⟨10,[1],[],some 18,.any,[]⟩,
    ⟨11,[17,18],[],some 19,.any,[]⟩,
    ⟨12,[19],[0,1,2,3,4,5,6,7],some 20,.any,[]⟩]
   cE rfl (by kernel_rfl) ⟨DS.okX_over fun s0=>(OpAt.go rfl rfl (aA)).x,
    DS.okX_over fun s0=>(OpAt.go rfl rfl (cW)).x,
    DS.okX_over fun s0=>(OpAt.go rfl rfl (fJ)).x,
    DS.okX_over fun s0=>(OpAt.go rfl rfl (bb)).x,
    DS.okX_over fun s0=>(OpAt.go rfl rfl (jE)).x,
    DS.okX_over fun s0=>(OpAt.go rfl rfl (aA)).x,
    DS.okX_over fun s0=>(OpAt.go rfl rfl (cW)).x,
    DS.okX_over fun s0=>(OpAt.go rfl rfl (fJ)).x,
    DS.okX_over fun s0=>(OpAt.go rfl rfl (bb)).x,
    DS.okX_over fun s0=>(OpAt.go rfl rfl (oG)).x,
    DS.okX_over fun s0=>(OpAt.go rfl rfl (aA)).x,
    DS.okX_over fun s0=>(OpAt.go rfl rfl (gX)).x,
    DS.okX_over fun s0=>db (hp':=fun k=>[]) (1) [] [] [] (co (decide ((w:Int)≤(b.length:Int)-(p0:Int))) 20) (fun x k h1_12=>?_),trivial⟩ ?_ (fun _ _ h=>h)
  ·
   exact absurd (hpo.symm.trans h1_12) (by simp)
  dsimp only [cS,DS.upd,AS.seto];iterate 2 refine ab ?_
  have g1:p0+w≤b.length:=by have:=d6 hpo;simp at this;omega
  iterate 4 refine ab ?_
  refine bj [ag,ag,ag,ag,ag,ag,ag,ag,ag,ag,ag,ag,ag,ag,ag,ag,ag] [af [0] [] 22,af [21] [0] 23,af [22] [0] 24,af [23] [0] 25,af [0] [] 26,af [25] [0] 27,af [26] [0] 28,af [27] [0] 29,af [0] [] 30,af [29] [0] 31,af [30] [0] 32,af [31] [0] 33,af [1] [] 34,af [32,33] [] 35,af [24,28,34] [] 36,af [35] [] 37,af [] [] 38] rfl ⟨ah,ah,ah,ah,ah,ah,ah,ah,ah,ah,ah,ah,ah,ah,ah,ah,ah,trivial⟩ ?_;rw [show ((p0:Int)+(w:Int)).toNat=p0+w by omega,show ((p0:Nat):Int).toNat=p0 by omega];refine ab ?_;refine AWp.loopR (α:=Nat) [5,7,37,38,39,40,41,42,43,44,45,46] (fun i=>[(37,i64 i),(5,i64 (nV (((b.take (p0+w)).drop p0).take i)))]) (fun i=>[]) (fun i=>i≤w) (fun i=>w-i) 0 ?_ (Back.mk' (HasT.cons (HasT.cons HasT.nil)) HasH.nil) ?_
  ·
   exact Nat.zero_le _
  ·
   rintro i hi;have hSl:((b.take (p0+w)).drop p0).length=w:=by rw [List.length_drop,List.length_take];omega
   have hv:nV (((b.take (p0+w)).drop p0).take i)<4294967296:=wa (by rw [List.length_take];omega);iterate 2 refine ab ?_
   refine am (fun h4_0=>?_) (fun h4_0=>?_)
   ·
    iterate 14 refine ab ?_
    refine ai rfl rfl (ik 8) ?_;iterate 2 refine ab ?_
    refine ai rfl rfl (Gk (ha:=hv)) ?_;iterate 6 refine ab ?_
    refine ⟨i+1,?_,Back.mk' (HasT.cons (HasT.cons HasT.nil (h1:=by exact ci (by rw [bK (by omega),wZ];rfl)) )) HasH.nil,?_⟩
    ·
     first|assumption|omega|decide|(simp;omega)|(simp [*];done)
    ·
     first|omega|(simp;omega)
   ·
    iterate 22 refine ab ?_
    obtain rfl:i=w:=by omega
    rw [decide_eq_true g1];have hSi:((b.take (p0+i)).drop p0).take i=(b.take (p0+i)).drop p0:=List.take_of_length_le (by omega);rw [hSi];refine Fin.retP (by rfl) ?_;refine im (1) (0) [] [_] [_] [(_,_)] ?_;rfl
 ·
  refine AWp.drawsX _ [⟨0,[0],[],some 8,_,[]⟩,
   ⟨1,[8],[0],some 9,_,[]⟩,
   ⟨2,[9],[0],some 10,_,[]⟩,
   ⟨3,[10],[0],some 11,_,[]⟩,
   ⟨4,[11],[],some 12,_,[]⟩,
   ⟨5,[0],[],some 13,_,[]⟩,
   ⟨6,[13],[0],some 14,_,[]⟩,
   ⟨7,[14],[0],some 15,_,[]⟩,
   ⟨8,[15],[0],some 16,_,[]⟩,
   ⟨9,[12,16],[],some 17,_,[]⟩,
   ⟨10,[1],[],some 18,_,[]⟩,
   ⟨11,[17,18],[],some 19,_,[]⟩,
   ⟨12,[19],[0,1,2,3,4,5,6,7],some 20,_,[]⟩]
   [⟨0,[0],[],some 8,.any,[]⟩,
    ⟨1,[8],[0],some 9,.any,[]⟩,
    ⟨2,[9],[0],some 10,.any,[]⟩,
    ⟨3,[10],[0],some 11,.any,[]⟩,
    ⟨4,[11],[],some 12,.any,[]⟩,
    ⟨5,[0],[],some 13,.any,[]⟩,
    ⟨6,[13],[0],some 14,.any,[]⟩,
    ⟨7,[14],[0],some 15,.any,[]⟩,
    ⟨8,[15],[0],some 16,.any,[]⟩,
    ⟨9,[12,16],[],some 17,.any,[]⟩,
    ⟨10,[1],[],some 18,.any,[]⟩,
    ⟨11,[17,18],[],some 19,.any,[]⟩,
    ⟨12,[19],[0,1,2,3,4,5,6,7],some 20,.any,[]⟩]
   cE rfl (by kernel_rfl) ⟨DS.okX_over fun s0=>(OpAt.go rfl rfl (aA)).x,
    DS.okX_over fun s0=>(OpAt.go rfl rfl (cW)).x,
    DS.okX_over fun s0=>(OpAt.go rfl rfl (fJ)).x,
    DS.okX_over fun s0=>(OpAt.go rfl rfl (bb)).x,
    DS.okX_over fun s0=>(OpAt.go rfl rfl (jE)).x,
    DS.okX_over fun s0=>(OpAt.go rfl rfl (aA)).x,
    DS.okX_over fun s0=>(OpAt.go rfl rfl (cW)).x,
    DS.okX_over fun s0=>(OpAt.go rfl rfl (fJ)).x,
    DS.okX_over fun s0=>(OpAt.go rfl rfl (bb)).x,
    DS.okX_over fun s0=>(OpAt.go rfl rfl (oG)).x,
    DS.okX_over fun s0=>(OpAt.go rfl rfl (aA)).x,
    DS.okX_over fun s0=>(OpAt.go rfl rfl (gX)).x,
    DS.okX_over fun s0=>db (hp':=fun k=>[]) (1) [] [] [] (AC.bad hpo (co (decide ((w:Int)≤(b.length:Int)-(p0:Int))) 20)) (fun x k h1_12=>?_),trivial⟩ ?_ (fun _ _ h=>h)
  ·
   show Post te Tryz.f133 _ (.panic _) _;refine Post.panicH (1) (p0) ?_ (by repeat' (first|exact trivial|exact aK rfl|exact bd rfl rfl|exact aV rfl rfl|exact bw rfl rfl|exact aF (fun _=>rfl)|refine ar ?_|refine ⟨rfl,⟨_,rfl,?_⟩,?_⟩|refine ⟨?_,?_⟩)) rfl;obtain ⟨c1,rfl⟩:=cf h1_12;rw [decide_eq_false (by simp at c1;omega)];rfl
  dsimp only [cS,DS.upd,AS.seto];exact AWp.bot (d:=20) rfl
end Go.Proofs.YthnfcmgpedppaaaGreat.Fw
