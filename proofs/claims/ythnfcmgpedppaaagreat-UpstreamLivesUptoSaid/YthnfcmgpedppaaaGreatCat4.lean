/- The texts Q20, Q7, Q8, Q9, Q10, Q11, Q12, Q13, Q14, Q15, Q22, one behind the other: what the walks and plain laws need; conditions stand with each theorem. -/
import Derived.JoinedCond
import Derived.Laws.MakeOwn
import Derived.MapKept
import Derived.ScopeJumps
import Derived.Test.YthnfcmgpedppaaaGreatCat3
set_option linter.unusedVariables false
set_option linter.unusedSimpArgs false
set_option linter.unusedSectionVars false
set_option maxRecDepth 20000
set_option maxHeartbeats 4000000
namespace Go.Proofs.YthnfcmgpedppaaaGreat.Fw
open Go.RowKit
end Go.Proofs.YthnfcmgpedppaaaGreat.Fw
namespace Go.Proofs.YthnfcmgpedppaaaGreat.Fw.Up
open Go.RowKit Go.ChangeShapes Go.WideShapes
def upB:Nat:=1073741824
def Has (te:TE):Nat→TypeId→List AV→Prop
 | 0,_,_=>False
 | d+1,t,cs=>match te.get t with
  | none=>False
  | some i=>match i.k with
   | .bool=>∃ b,cs=[tf b]
   | .int k=>∃ n:Int,(Lit.int k n).wf=true∧cs=[.v (.int k n)]
   | .str=>∃ l:List UInt8,l.length≤upB∧cs=[str l]
   | .slice e=>∃ es:List (List AV),(∀ c∈es,Has te d e c)∧(∀ j,te.get e=some j→es.length*j.bytes≤upB)∧cs=[.fz 0 es.length es.flatten]
   | .arr m e=>∃ es:List (List AV),es.length=m∧(∀ c∈es,Has te d e c)∧cs=es.flatten
   | .struct fs=>oO (Has te d) fs cs
   | _=>False
theorem kE {α:Type} {p:Nat→α→Prop}:∀ n:Nat,(∀ i,i<n→∃ x,p i x)→∃ l:List α,l.length=n∧∀ i x,l[i]?=some x→p i x
 | 0,_=>⟨[],rfl,fun i x h=>by simp at h⟩
 | n+1,h=>by
  obtain ⟨l,h1,h2⟩:=kE n fun i hi=>h i (by omega)
  obtain ⟨x,hx⟩:=h n (by omega);refine ⟨l++[x],by simp [h1],fun i y hy=>?_⟩;by_cases hi:i<n
  · rw [List.getElem?_append_left (by omega)] at hy
    exact h2 i y hy
  · rw [List.getElem?_append_right (by omega)] at hy
    have:i-l.length=0:=by
     have:=(List.getElem?_eq_some_iff.1 hy).1;simp at this;omega
    rw [this] at hy;simp at hy;subst hy;have:i=n:=by omega
    subst this;exact hx
theorem fu {α:Type} {m:Nat}:∀ {es:List (List α)},(∀ c∈es,c.length=m)→es.flatten.length=es.length*m
 | [],_=>by simp
 | c::es,h=>by
  rw [List.flatten_cons,List.length_append,h c List.mem_cons_self,fu fun x hx=>h x (List.mem_cons_of_mem _ hx),List.length_cons,Nat.add_mul,Nat.one_mul,Nat.add_comm]
theorem kp {α:Type} {m:Nat} (hm:0<m):∀ {es:List (List α)},(∀ c∈es,c.length=m)→∀ {j:Nat} {x:α},es.flatten[j]?=some x→∃ c,es[j / m]?=some c∧c[j%m]?=some x
 | [],_,j,x,hj=>by simp at hj
 | c::es,h,j,x,hj=>by
  have hc:=h c List.mem_cons_self;rw [List.flatten_cons] at hj;by_cases h1:j<m
  · rw [List.getElem?_append_left (by omega)] at hj
    exact ⟨c,by rw [Nat.div_eq_of_lt h1];rfl,by rw [Nat.mod_eq_of_lt h1];exact hj⟩
  · rw [List.getElem?_append_right (by omega),hc] at hj
    obtain ⟨c',k1,k2⟩:=kp hm (fun x hx=>h x (List.mem_cons_of_mem _ hx)) hj;refine ⟨c',?_,?_⟩
    · have:j / m=(j-m) / m+1:=by
       rw [Nat.div_eq_sub_div hm (by omega)]
      rw [this]
      simpa using k1
    · rw [Nat.mod_eq_sub_mod (by omega)]
      exact k2
abbrev noL:aW:=fun _ _=>False
abbrev noO:aD:=fun _=>none
theorem Ab (lv b:Nat):may noO noL lv b:=⟨aI,fun _ _ h=>h⟩
theorem gT {H:Type} {P:Program} {e:TypeId}:∀ {l:List (DataW H)} {d:DataW H},d∈l→∀ m∈d.weights P e,m∈DataW.weightsAll P e l
 | a::l,d,h,m,hm=>by
  simp only [DataW.weightsAll,List.mem_append];rcases List.mem_cons.1 h with rfl|h
  · exact .inl hm
  · exact .inr (gT h m hm)
section
variable {P:Program} {te:TE} {w:World} {H:Type} {enc:TypeId×Value→H} {held:Bool}
def CellsAre (w:World) (cs:List Value) (av:List AV):Prop:=av.length=cs.length∧∀ (j:Nat) c,av[j]?=some c→c.ok 0=true∧∃ v,cs[j]?=some v∧Rep w noO noL c v
theorem CellsAre.one {v:Value} {a:AV} (h1:a.ok 0=true) (h2:Rep w noO noL a v):CellsAre w [v] [a]:=
 ⟨rfl,fun j c hj=>by
  cases j with
  | zero=>simp at hj;subst hj;exact ⟨h1,v,rfl,h2⟩
  | succ j=>simp at hj⟩
theorem oJ (hte:TEok P te) {d n:Nat} (ih:∀ t,bS te d t=true→∀ n (cs:List Value) x,DataW.trod enc P w 0 (fun _=>true) held n t cs=some x→(∀ m∈x.1.weights P t,m≤upB)→∃ av,Has te d t av∧CellsAre w cs av)
 {cs:List Value}:∀ (l:List Field) (o:Nat) (xs:List (DataW H×List MemPlace)),xs.length=l.length→(∀ (i:Nat) (f:Field),l[i]?=some f→DataW.trod enc P w 0 (fun _=>true) held n f.type ((cs.drop f.offset).take (P.cellsOf f.type))=xs[i]?)→
  fw te o (l.map fun f=>(f.offset,f.type)) cs.length=true→((l.map fun f=>(f.offset,f.type)).all fun p=>bS te d p.2)=true→
  (∀ m∈DataW.weightsEach P (l.map (·.type)) (xs.map (·.1)),m≤upB)→∃ av,oO (Has te d) (l.map fun f=>(f.offset,f.type)) av∧CellsAre w (cs.drop o) av
 | [],o,xs,hx,hf,hc,hp,hw=>by
  simp only [List.map_nil,fw] at hc;have:=Nat.eq_of_beq_eq_true hc;refine ⟨[],rfl,by simp;omega,fun j c hj=>by simp at hj⟩
 | f::l,o,[],hx,hf,hc,hp,hw=>by simp at hx
 | f::l,o,y::xs,hx,hf,hc,hp,hw=>by
  simp only [List.map_cons,fw,Bool.and_eq_true] at hc;obtain ⟨c1,c2⟩:=hc;have c1:=Nat.eq_of_beq_eq_true c1;simp only [List.map_cons,List.all_cons,Bool.and_eq_true] at hp;have h0:=hf 0 f rfl;simp only [List.getElem?_cons_zero] at h0;simp only [List.map_cons,DataW.weightsEach,List.mem_append] at hw;obtain ⟨a,a1,a2⟩:=ih f.type hp.1 n _ y h0 fun m hm=>hw m (.inl hm)
  cases hg:te.get f.type with
  | none=>rw [hg] at c2;cases c2
  | some j=>
   rw [hg] at c2;simp only at c2;obtain ⟨b,b1,b2⟩:=oJ hte ih l (o+j.size) xs (by simpa using hx) (fun i g hg=>by simpa using hf (i+1) g (by simpa using hg)) c2 hp.2 (fun m hm=>hw m (.inr hm));rw [((hte.tells hg).cells).1,← c1] at a2;refine ⟨a++b,⟨a,b,rfl,a1,b1⟩,?_⟩;have hle:∀ (l:List (Nat×TypeId)) (o:Nat),fw te o l cs.length=true→o≤cs.length:=by
    intro l;induction l with
    | nil=>intro o h;simp only [fw] at h;exact Nat.le_of_eq (Nat.eq_of_beq_eq_true h)
    | cons p l ihl=>
     intro o h;obtain ⟨po,pt⟩:=p;simp only [fw,Bool.and_eq_true] at h;cases hgp:te.get pt with
     | none=>rw [hgp] at h;cases h.2
     | some q=>
      rw [hgp] at h;have:=ihl _ h.2;omega
   have hlen:=hle _ _ c2;have al:a.length=j.size:=by rw [a2.1];simp;omega
   refine ⟨by rw [List.length_append,al,b2.1];simp;omega,fun k c hk=>?_⟩;by_cases hk1:k<a.length
   · rw [List.getElem?_append_left hk1] at hk
     obtain ⟨z1,v,z2,z3⟩:=a2.2 k c hk;rw [List.getElem?_take,if_pos (by omega)] at z2;exact ⟨z1,v,z2,z3⟩
   · rw [List.getElem?_append_right (by omega)] at hk
     obtain ⟨z1,v,z2,z3⟩:=b2.2 _ c hk;refine ⟨z1,v,?_,z3⟩;rw [List.getElem?_drop] at z2 ⊢;rw [← z2];congr 1;omega
theorem uj (hte:TEok P te):∀ d t,bS te d t=true→∀ n (cs:List Value) x,DataW.trod enc P w 0 (fun _=>true) held n t cs=some x→(∀ m∈x.1.weights P t,m≤upB)→
 ∃ av,Has te d t av∧CellsAre w cs av
 | 0,t,hp,n,cs,x,h,hw=>by simp [bS] at hp
 | d+1,t,hp,n,cs,x,h,hw=>by
  have ih:=uj hte d;simp only [bS] at hp;simp only [Has];cases hg:te.get t with
  | none=>rw [hg] at hp;cases hp
  | some i=>
   rw [hg] at hp;have ht:=hte.tells hg;obtain ⟨k,size,bytes,zero⟩:=i;cases k with
   | int k=>
    obtain ⟨m,rfl,rfl,h3⟩:=DataW.trod_int (ht.int rfl) h;exact ⟨[.v (.int k m)],⟨m,h3,rfl⟩,.one rfl .v⟩
   | bool=>
    obtain ⟨b,rfl,rfl⟩:=DataW.trod_bool (ht.bool rfl) h;exact ⟨[tf b],⟨b,rfl⟩,.one rfl .v⟩
   | str=>
    obtain ⟨s,rfl,rfl,_⟩:=DataW.trod_string (ht.str rfl) h;exact ⟨[str s.data.toList],⟨_,hw _ (by simp [DataW.weights]),rfl⟩,.one rfl .v⟩
   | slice e=>
    simp only [Bool.and_eq_true] at hp;obtain ⟨hp1,hp2⟩:=hp;cases he:te.get e with
    | none=>rw [he] at hp2;cases hp2
    | some j=>
     rw [he] at hp2;have hpos:0<j.size:=Nat.blt_eq.mp hp2;have hce:=(hte.tells he).cells;rcases DataW.trod_slice (ht.slice rfl) h with ⟨rfl,rfl⟩|⟨a,len,cap,elems,rest,n',rfl,rfl,rfl,hb,hlc,hcm,hel,hget,_,_⟩
     · exact ⟨[.fz 0 0 []],⟨[],by simp,fun _ _=>by simp,rfl⟩,.one rfl .fz0⟩
     · have hwt:∀ y∈elems,∀ m∈y.1.weights P e,m≤upB:=fun y hy m hm=>by
        refine hw m ?_;simp only [DataW.weights,ht.slice rfl,List.mem_cons,List.mem_append];exact .inr (.inl (gT (List.mem_map_of_mem hy) m hm))
       have hone:∀ i,i<len→∃ av,Has te d e av∧av.length=j.size∧∀ (r:Nat) c,av[r]?=some c→c.ok 0=true∧∃ v,w.cell? ((a.add (i*j.size)).add r)=some v∧Rep w noO noL c v:=by
        intro i hi;have h1:=hget i hi;have hil:i<elems.length:=by omega
        rw [List.getElem?_eq_getElem hil] at h1;obtain ⟨cs',h2,h3⟩:=Option.bind_eq_some_iff.1 h1;obtain ⟨_,q1,q2⟩:=World.cells?_some h2;obtain ⟨av,b1,b2,b3⟩:=ih e hp1 n' cs' _ h3 (hwt _ (List.getElem_mem hil));rw [hce.1] at q1 q2;refine ⟨av,b1,by rw [b2,q1],fun r c hr=>?_⟩;obtain ⟨z1,v,z2,z3⟩:=b3 r c hr;have hrl:r<j.size:=by rw [← q1,← b2];exact (List.getElem?_eq_some_iff.1 hr).1
        exact ⟨z1,v,by rw [q2 r hrl,z2],z3⟩
       obtain ⟨es,l1,l2⟩:=kE len hone;have hlen:∀ c∈es,c.length=j.size:=fun c hc=>by
        obtain ⟨i,hi⟩:=List.mem_iff_getElem?.1 hc;exact (l2 i c hi).2.1
       have hfl:=fu hlen;refine ⟨[.fz 0 es.length es.flatten],⟨es,fun c hc=>?_,fun j' hj'=>?_,rfl⟩,.one rfl ?_⟩
       · obtain ⟨i,hi⟩:=List.mem_iff_getElem?.1 hc
         exact (l2 i c hi).1
       · rw [he] at hj'
         cases hj';have:=hw ((elems.length+rest.length)*P.bytesOf e) (by simp [DataW.weights,ht.slice rfl]);rw [hce.2] at this;have h2:es.length*j.bytes≤(elems.length+rest.length)*j.bytes:=Nat.mul_le_mul_right _ (by omega);omega
       · by_cases hl0:len=0
         · have:es=[]:=List.eq_nil_of_length_eq_zero (by omega)
           subst this;rw [hl0];exact .fz0
         ·
          have hc0:∀ q,q<es.flatten.length→∃ c v,es.flatten[q]?=some c∧c.ok 0=true∧w.cell? (a.add q)=some v∧Rep w noO noL c v:=by
           intro q hq;obtain ⟨c,k1,k2⟩:=kp hpos hlen (List.getElem?_eq_getElem hq);obtain ⟨_,_,g3⟩:=l2 _ c k1;obtain ⟨z1,v,z2,z3⟩:=g3 _ _ k2;refine ⟨_,v,List.getElem?_eq_getElem hq,z1,?_,z3⟩;rw [Addr.add_add,Nat.mul_comm,Nat.div_add_mod] at z2;exact z2
          have hpf:0<es.flatten.length:=by rw [hfl,l1];exact Nat.mul_pos (by omega) hpos
          obtain ⟨b,o,sp⟩:=a;have hsp:sp=none:=by
           obtain ⟨c,v,_,_,h3,_⟩:=hc0 0 hpf;simp only [Addr.add,if_true,World.cell?] at h3;split at h3
           · split at h3
             · cases h3
             · rename_i hs
               simpa using hs
           · cases h3
          subst hsp;rw [l1];refine .fz (fun q=>(w.cell? ⟨b,o+q,none⟩).getD undef) (Ab _ _) hlc (fun c hc=>?_) (fun q hq=>?_) (fun q c hq=>?_) hpf
          · obtain ⟨q,hq⟩:=List.mem_iff_getElem?.1 hc
            obtain ⟨c',v,h1,h2,_⟩:=hc0 q (List.getElem?_eq_some_iff.1 hq).1;rw [hq] at h1;cases h1;exact h2
          · obtain ⟨c',v,h1,h2,h3,h4⟩:=hc0 q hq
            rw [Addr.add_lit] at h3;rw [h3];rfl
          · obtain ⟨c',v,h1,h2,h3,h4⟩:=hc0 q (List.getElem?_eq_some_iff.1 hq).1
            rw [hq] at h1;cases h1;rw [Addr.add_lit] at h3;rw [h3];exact h4
   | arr m e=>
    simp only [Bool.and_eq_true] at hp;obtain ⟨hp1,hp2⟩:=hp;cases he:te.get e with
    | none=>rw [he] at hp2;cases hp2
    | some j=>
     rw [he] at hp2;simp only [Bool.and_eq_true] at hp2;have hpos:0<j.size:=Nat.blt_eq.mp hp2.1;have hsz:size=m*j.size:=Nat.eq_of_beq_eq_true hp2.2;have hce:=(hte.tells he).cells;obtain ⟨xs,n',rfl,rfl,hl,hxl,hget⟩:=DataW.trod_array (ht.arr rfl) h;have hl:cs.length=m*j.size:=by rw [hl,ht.cells.1,← hsz]
     have hone:∀ i,i<m→∃ av,Has te d e av∧CellsAre w ((cs.drop (i*j.size)).take j.size) av:=by
      intro i hi;have h1:=hget i hi;have hil:i<xs.length:=by omega
      rw [List.getElem?_eq_getElem hil,hce.1] at h1;refine ih e hp1 n' _ _ h1 fun q hq=>hw q ?_
      simp only [DataW.weights,ht.arr rfl];exact gT (List.mem_map_of_mem (List.getElem_mem hil)) q hq
     obtain ⟨es,l1,l2⟩:=kE m hone;have hlen:∀ c∈es,c.length=j.size:=fun c hc=>by
      obtain ⟨i,hi⟩:=List.mem_iff_getElem?.1 hc;have hil:i<m:=by rw [← l1];exact (List.getElem?_eq_some_iff.1 hi).1
      rw [(l2 i c hi).2.1];show ((cs.drop (i*j.size)).take j.size).length=j.size;have:(i+1)*j.size≤m*j.size:=Nat.mul_le_mul_right _ hil;rw [Nat.add_mul,Nat.one_mul,← hl] at this;simp;omega
     refine ⟨es.flatten,⟨es,l1,fun c hc=>?_,rfl⟩,by rw [fu hlen,l1,hl],fun q c hq=>?_⟩
     · obtain ⟨i,hi⟩:=List.mem_iff_getElem?.1 hc
       exact (l2 i c hi).1
     · obtain ⟨c',k1,k2⟩:=kp hpos hlen hq
       obtain ⟨z1,v,z2,z3⟩:=(l2 _ c' k1).2.2 _ c k2;refine ⟨z1,v,?_,z3⟩;rw [List.getElem?_take,if_pos (Nat.mod_lt _ hpos),List.getElem?_drop,Nat.mul_comm,Nat.div_add_mod] at z2;exact z2
   | struct fs=>
    simp only [Bool.and_eq_true] at hp;obtain ⟨fl,f1,f2⟩:=ht.struct rfl;obtain ⟨xs,n',rfl,rfl,hl,hxl,hget⟩:=DataW.trod_struct f1 h;rw [ht.cells.1] at hl;subst f2;simp only at hl;rw [← hl] at hp;have:=oJ hte ih (n:=n') (cs:=cs) fl.toList 0 xs (by simpa using hxl) (fun i f hf=>hget i f (by simpa using hf)) hp.1 hp.2 (fun m hm=>hw m (by simpa [DataW.weights,f1] using hm))
    simpa using this
   | _=>cases hp
end
def HasArgs (te:TE) (d:Nat):List TypeId→List AV→Prop
 | [],[]=>True
 | t::ts,a::r=>(∃ i cs,te.get t=some i∧Has te d t cs∧a=jM i.k.agg cs)∧HasArgs te d ts r
 | _,_=>False
section
variable {P:Program} {te:TE} {w:World} {H:Type} {enc:TypeId×Value→H}
theorem gI {t:TypeId} {v:Value} {dsc:TypeDesc} {r:Reach} {base:Nat} (hu:P.underlying t=some dsc) (hn:(match dsc with|.int _|.bool|.string|.slice _=>true|_=>false)=true)
 (h:Value.okWide P w r base t v):v.cells=#[v]:=by
 cases dsc<;>simp at hn
 · simp only [Value.okWide,hu,Cell.okWide] at h
   cases v<;>simp_all [Cell.ok,Value.cells]
 · simp only [Value.okWide,hu,Cell.okWide] at h
   cases v<;>simp_all [Cell.ok,Value.cells]
 · simp only [Value.okWide,hu,Cell.okWide] at h
   cases v<;>simp_all [Cell.ok,Value.cells]
 · simp only [Value.okWide,hu,Cell.okWide] at h
   cases v<;>simp_all [Cell.ok,Value.cells]
theorem D7 (hte:TEok P te) {d:Nat} {t:TypeId} {i:TI} {v:Value} {r:Reach} {base:Nat} {l:List AV} (hg:te.get t=some i) (hp:bS te d t=true) (hv:Value.okWide P w r base t v)
 (hc:CellsAre w v.cells.toList l):Rep w noO noL (jM i.k.agg l) v:=by
 cases d with
 | zero=>simp [bS] at hp
 | succ d=>
  simp only [bS,hg] at hp;have ht:=hte.tells hg;have one:v.cells=#[v]→i.k.agg=false→Rep w noO noL (jM i.k.agg l) v:=by
   intro h1 h2;rw [h1] at hc;obtain ⟨h3,h4⟩:=hc;have h3:l.length=1:=h3;obtain ⟨a,rfl⟩:=List.length_eq_one_iff.1 h3;obtain ⟨_,v',h5,h6⟩:=h4 0 a rfl;simp at h5;subst h5;rw [h2];exact h6
  have many:(∃ cs,v=.agg cs)→i.k.agg=true→Rep w noO noL (jM i.k.agg l) v:=by
   rintro ⟨cs,rfl⟩ h2;simp only [Value.cells] at hc;obtain ⟨h3,h4⟩:=hc;rw [h2];refine .agg (fun j=>cs.getD j undef) (by simpa using h3.symm) (fun j hj=>?_) (fun j c hj=>?_)
   · have:j<cs.size:=by simp at h3;omega
     simp [Array.getD,this]
   · obtain ⟨_,v,h5,h6⟩:=h4 j c hj
     rw [Array.getElem?_toList] at h5;rw [Array.getD_eq_getD_getElem?,h5];exact h6
  obtain ⟨k,size,bytes,zero⟩:=i;cases k with
  | int k=>exact one (gI (ht.int rfl) rfl hv) rfl
  | bool=>exact one (gI (ht.bool rfl) rfl hv) rfl
  | str=>exact one (gI (ht.str rfl) rfl hv) rfl
  | slice e=>exact one (gI (ht.slice rfl) rfl hv) rfl
  | arr m e=>
   refine many ?_ rfl;simp only [Value.okWide,ht.arr rfl] at hv;exact ⟨hv.choose,hv.choose_spec.1⟩
  | struct fs=>
   obtain ⟨fl,f1,f2⟩:=ht.struct rfl;refine many ?_ rfl;simp only [Value.okWide,f1] at hv;exact ⟨hv.choose,hv.choose_spec.1⟩
  | _=>cases hp
theorem rS (hte:TEok P te) {d:Nat} {r:Reach} {base:Nat}:∀ {ts:List TypeId} {vs:List Value} {ds:List (DataW H)} {ps:List MemPlace},DataW.TrodAll enc P w 0 (fun _=>true) true ts vs ds ps→(ts.all fun t=>bS te d t)=true→
 (∀ (j:Nat) t v,ts[j]?=some t→vs[j]?=some v→Value.okWide P w r base t v)→(∀ m∈DataW.weightsEach P ts ds,m≤upB)→
 ∃ l,HasArgs te d ts l∧vs.length=l.length∧∀ (j:Nat) c,l[j]?=some c→∃ v,vs[j]?=some v∧Rep w noO noL c v
 | [],[],[],ps,h,hp,hv,hw=>⟨[],trivial,rfl,fun j c hj=>by simp at hj⟩
 | t::ts,v::vs,x::ds,ps,h,hp,hv,hw=>by
  obtain ⟨p,q,⟨n,h1⟩,h2,rfl⟩:=h;simp only [List.all_cons,Bool.and_eq_true] at hp;simp only [DataW.weightsEach,List.mem_append] at hw;obtain ⟨l,l1,l2,l3⟩:=rS hte h2 hp.2 (fun j t v ht hv'=>hv (j+1) t v (by simpa using ht) (by simpa using hv')) (fun m hm=>hw m (.inr hm));obtain ⟨a,a1,a2⟩:=uj hte d t hp.1 n _ _ h1 (fun m hm=>hw m (.inl hm));have hg:∃ i,te.get t=some i:=by
   cases d with
   | zero=>simp [bS] at hp
   | succ d=>
    have:=hp.1;simp only [bS] at this;cases hg:te.get t with
    | none=>rw [hg] at this;cases this
    | some i=>exact ⟨i,rfl⟩
  obtain ⟨i,hg⟩:=hg;have hr:=D7 hte hg hp.1 (hv 0 t v rfl rfl) a2;refine ⟨jM i.k.agg a::l,⟨⟨i,a,hg,a1,rfl⟩,l1⟩,by simp [l2],fun j c hj=>?_⟩;cases j with
  | zero=>simp at hj;subst hj;exact ⟨v,rfl,hr⟩
  | succ j=>simpa using l3 j c (by simpa using hj)
 | [],_::_,_,_,h,_,_,_=>by simp [DataW.TrodAll] at h
 | [],[],_::_,_,h,_,_,_=>by simp [DataW.TrodAll] at h
 | _::_,[],_,_,h,_,_,_=>by simp [DataW.TrodAll] at h
 | _::_,_::_,[],_,h,_,_,_=>by simp [DataW.TrodAll] at h
theorem mF (hl:laidOutB P=true) {w':World} (hb:Below w.heap.size w w'):∀ {ts:List TypeId} {vs:List Value} {ds:List (DataW H)} {ps:List MemPlace},DataW.TrodAll enc P w 0 (fun _=>true) true ts vs ds ps→
 (ts.all fun t=>P.readableRec t&&decide (t<P.types.size))=true→DataW.TrodAll enc P w' 0 (fun b=>decide (b<w.heap.size)) true ts vs ds ps
 | [],[],[],ps,h,hp=>h
 | t::ts,v::vs,y::ds,ps,h,hp=>by
  obtain ⟨p,q,h1,h2,rfl⟩:=h;simp only [List.all_cons,Bool.and_eq_true,decide_eq_true_eq] at hp;have hlt:∀ x∈p,x.block<w.heap.size:=fun x hx=>by obtain ⟨n,h1⟩:=h1;exact DataW.trod_lt n _ _ _ h1 x hx
  exact ⟨p,q,Below.trod hl hp.1.1 hp.1.2 h1 hb hlt,mF hl hb h2 (by simpa using hp.2),rfl⟩
 | [],_::_,_,_,h,_=>by simp [DataW.TrodAll] at h
 | [],[],_::_,_,h,_=>by simp [DataW.TrodAll] at h
 | _::_,[],_,_,h,_=>by simp [DataW.TrodAll] at h
 | _::_,_::_,[],_,h,_=>by simp [DataW.TrodAll] at h
theorem law_row (hte:TEok P te) {f:FuncId} {fn:Func} {s:ChangeSpec} {d:Nat} {tb:TypeId} (hl:laidOutB P=true) (hp:(fn.params.toList.all fun t=>bS te d t)=true)
 (hp2:(fn.params.toList.all fun t=>P.readableRec t&&decide (t<P.types.size))=true) (hres:fn.resultTypes=#[tb]) (hb:P.underlying tb=some .bool) (hvars:s.vars=[])
 (hfn:∀ ds:List (DataW H),ds.length=fn.params.toList.length→(s.fn H ds).results=[.lit (.bool true)]∧(s.fn H ds).args=ds∧(s.fn H ds).vars=[])
 (hac:∀ l,HasArgs te d fn.params.toList l→AC P f l emp (Ret (tf true)))
 {W:World} {base:Nat} {args:Array Value} {ds gs:List (DataW H)} {before:List MemPlace}
 (hval:∀ (j:Nat) t v,fn.params[j]?=some t→args[j]?=some v→Value.okWide P W .any base t v) (hW:DataW.Whole enc P fn.params.toList s.vars false W args.toList ds gs before)
 (hsz:(DataW.weightsEach P (fn.params.toList++s.plain.varTypes P) (ds++gs)).all (·≤upB)=true) :
 Calls P f args W fun e W'=>∃ v,e=.returned v∧s.post enc P fn false true false false W args v W':=by
 have hW':=hW;obtain ⟨p,q,hA,hV,rfl,hfz,hnd⟩:=hW;rw [hvars] at hV;obtain ⟨rfl,rfl⟩:=trodVars_none hV;have hlen:∀ {ts:List TypeId} {vs:List Value} {ds:List (DataW H)} {ps:List MemPlace},DataW.TrodAll enc P W 0 (fun _=>true) true ts vs ds ps→ds.length=ts.length:=by
  intro ts;induction ts with
  | nil=>intro vs ds ps h;cases vs<;>cases ds<;>first|rfl|(simp [DataW.TrodAll] at h)
  | cons t ts ih=>
   intro vs ds ps h;cases vs with
   | nil=>simp [DataW.TrodAll] at h
   | cons v vs=>
    cases ds with
    | nil=>simp [DataW.TrodAll] at h
    | cons x ds=>
     obtain ⟨_,_,_,h2,_⟩:=h;simp [ih h2]
 have hdl:=hlen hA;obtain ⟨l,l1,l2,l3⟩:=rS hte hA hp (fun j t v ht hv=>hval j t v (by simpa using ht) (by simpa using hv)) (fun m hm=>by
  have:=List.all_eq_true.1 hsz m ?_
  · simpa using this
  · rw [List.append_nil]
    have key:∀ (ts us:List TypeId) (ds:List (DataW H)),m∈DataW.weightsEach P ts ds→m∈DataW.weightsEach P (ts++us) ds:=by
     intro ts;induction ts with
     | nil=>intro us ds h;simp [DataW.weightsEach] at h
     | cons t ts ih=>
      intro us ds h;cases ds with
      | nil=>simp [DataW.weightsEach] at h
      | cons x ds=>
       simp only [DataW.weightsEach,List.mem_append,List.cons_append] at h ⊢;exact h.imp id (ih us ds)
    exact key _ _ _ hm)
 obtain ⟨_,hcall⟩:=hac l l1;have hs0:HSim W noO noL emp:=⟨(fun id ob h=>by cases h),fun _ _=>rfl,(fun id l b o h=>by cases h),(fun id id' l l' b o o' h=>by cases h),fun k b h=>h.elim⟩;refine hcall noL W noO args hs0 ⟨by simpa using l2,fun j c hj=>by simpa using l3 j c hj⟩ _ ?_ ?_
 · intro r h' w' φ' v hR hs' g hr
   obtain ⟨hr1,_⟩:=hR;cases hr1;cases hr;have bel:Below W.heap.size W w':=⟨g.os,g.tape,g.output,g.size,fun k hk=>g.keep k hk aI⟩;obtain ⟨f1,f2,f3⟩:=hfn ds hdl;refine ⟨_,rfl,ds,[],p++[],[],p,[],hW',?_,?_,?_,bel.frame _,fun h=>by cases h⟩
   · rw [List.append_nil,f1,hres]
     exact trodAll_mk1 (shut_bool hb true)
   · rw [List.append_nil,f2]
     exact mF hl bel hA hp2
   · rw [List.append_nil,f3,hvars]
     rfl
 · intro x h' w' φ' hR
   exact absurd hR.1 (by simp)
end
section
variable {te:TE}
theorem has_u8 {d:Nat} {t:TypeId} {i:TI} {cs:List AV} (h:Has te d t cs) (hg:te.get t=some i) (hk:i.k=.int .u8):∃ b:UInt8,cs=[u8 b.toNat]:=by
 cases d with
 | zero=>simp [Has] at h
 | succ d=>
  simp only [Has,hg,hk] at h;obtain ⟨n,h1,rfl⟩:=h;have h2:(0:Int)≤n∧n≤255:=by
   simp only [Lit.wf,Bool.and_eq_true,decide_eq_true_eq] at h1;have e1:IntKind.u8.min=0:=by decide
   have e2:IntKind.u8.max=255:=by decide
   omega
  refine ⟨ct n,?_⟩;rw [bV,Int.emod_eq_of_lt h2.1 (by omega)]
theorem has_int {d:Nat} {t:TypeId} {i:TI} {cs:List AV} (h:Has te d t cs) (hg:te.get t=some i) (hk:i.k=.int .i64):∃ n:Int,cs=[i64 n]∧-9223372036854775808≤n∧n≤9223372036854775807:=by
 cases d with
 | zero=>simp [Has] at h
 | succ d=>
  simp only [Has,hg,hk] at h;obtain ⟨n,h1,rfl⟩:=h;simp only [Lit.wf,Bool.and_eq_true,decide_eq_true_eq] at h1;have e1:IntKind.i64.min=-9223372036854775808:=by decide
  have e2:IntKind.i64.max=9223372036854775807:=by decide
  exact ⟨n,rfl,by omega,by omega⟩
theorem has_bool {d:Nat} {t:TypeId} {i:TI} {cs:List AV} (h:Has te d t cs) (hg:te.get t=some i) (hk:i.k=.bool):∃ b:Bool,cs=[tf b]:=by
 cases d with
 | zero=>simp [Has] at h
 | succ d=>simpa only [Has,hg,hk] using h
theorem choose_eq {α:Type} {f:α→List AV} {q:α→Prop}:∀ {es:List (List AV)},(∀ c∈es,∃ a,c=f a∧q a)→∃ l:List α,es=l.map f∧∀ a∈l,q a
 | [],_=>⟨[],rfl,fun a h=>by simp at h⟩
 | c::es,h=>by
  obtain ⟨a,rfl,ha⟩:=h c List.mem_cons_self;obtain ⟨l,h1,h2⟩:=choose_eq fun x hx=>h x (List.mem_cons_of_mem _ hx)
  refine ⟨a::l,by rw [h1];rfl,fun x hx=>?_⟩;rcases List.mem_cons.1 hx with rfl|hx
  · exact ha
  · exact h2 x hx
theorem has_slice {α:Type} {f:α→List AV} {q:α→Prop} {d:Nat} {t e:TypeId} {i j:TI} {cs:List AV} (h:Has te (d+1) t cs) (hg:te.get t=some i) (hk:i.k=.slice e) (he:te.get e=some j)
 (hq:∀ c,Has te d e c→∃ a,c=f a∧q a):∃ l:List α,cs=[.fz 0 l.length (l.flatMap f)]∧l.length*j.bytes≤1073741824∧∀ a∈l,q a:=by
 simp only [Has,hg,hk] at h;obtain ⟨es,h1,h2,h3⟩:=h;obtain ⟨l,rfl,h4⟩:=choose_eq (f:=f) (q:=q) fun c hc=>hq c (h1 c hc)
 exact ⟨l,by rw [h3,List.length_map,List.flatMap_def],by have:=h2 j he;rw [List.length_map] at this;exact this,h4⟩
theorem has_bytes {d:Nat} {t e:TypeId} {i j:TI} {cs:List AV} (h:Has te (d+1) t cs) (hg:te.get t=some i) (hk:i.k=.slice e) (he:te.get e=some j) (hj:j.k=.int .u8) (hb:j.bytes=1) :
 ∃ l:List UInt8,cs=[.fz 0 l.length (cl bc l)]∧l.length≤1073741824:=by
 obtain ⟨l,h1,h2,_⟩:=has_slice (f:=bc) (q:=fun _=>True) h hg hk he fun c hc=>by
  obtain ⟨b,hb⟩:=has_u8 hc he hj;exact ⟨b,hb,trivial⟩
 exact ⟨l,h1,by rw [hb] at h2;omega⟩
theorem vB {d:Nat} {t:TypeId} {i:TI} {ts:List TypeId} {l:List AV} (h:HasArgs te d (t::ts) l) (hg:te.get t=some i):∃ cs r,Has te d t cs∧HasArgs te d ts r∧l=jM i.k.agg cs::r:=by
 cases l with
 | nil=>exact h.elim
 | cons a r=>
  obtain ⟨⟨i',cs,h1,h2,h3⟩,h4⟩:=h;rw [hg] at h1;cases h1;subst h3;exact ⟨cs,r,h2,h4,rfl⟩
theorem D8 {d:Nat} {l:List AV} (h:HasArgs te d [] l):l=[]:=by
 cases l with
 | nil=>rfl
 | cons a r=>exact h.elim
theorem GG {d:Nat} {t:TypeId} {i:TI} {l:List AV} (h:HasArgs te d [t] l) (hg:te.get t=some i):∃ cs,Has te d t cs∧l=[jM i.k.agg cs]:=by
 obtain ⟨cs,r,h1,h2,rfl⟩:=vB h hg;obtain rfl:=D8 h2;exact ⟨cs,h1,rfl⟩
theorem args2 {d:Nat} {t u:TypeId} {i j:TI} {l:List AV} (h:HasArgs te d [t,u] l) (hg:te.get t=some i) (hg2:te.get u=some j):∃ cs es,Has te d t cs∧Has te d u es∧l=[jM i.k.agg cs,jM j.k.agg es]:=by
 obtain ⟨cs,r,h1,h2,rfl⟩:=vB h hg;obtain ⟨es,h3,rfl⟩:=GG h2 hg2;exact ⟨cs,es,h1,h3,rfl⟩
theorem has_struct {d:Nat} {t:TypeId} {i:TI} {fs:List (Nat×TypeId)} {cs:List AV} (h:Has te (d+1) t cs) (hg:te.get t=some i) (hk:i.k=.struct fs):oO (Has te d) fs cs:=by
 simpa only [Has,hg,hk] using h
end
section
variable {te:TE}
theorem has_sl {α:Type} {f:α→List AV} {q:α→Prop} {d:Nat} {t e:TypeId} {i j:TI} {cs:List AV} (h:Has te (d+1) t cs) (hg:te.get t=some i) (hk:i.k=.slice e) (he:te.get e=some j)
 (hq:∀ c,Has te d e c→∃ a,c=f a∧q a):∃ l:List α,cs=[.fz 0 l.length (cl f l)]∧l.length*j.bytes≤1073741824∧∀ a∈l,q a:=has_slice h hg hk he hq
end
section
variable {H:Type} {P:Program} {K:Nat}
theorem Ew (d:DataW H):1≤Rows.uptoBulk d:=by
 cases d with
 | lit l=>cases l<;>simp [Rows.uptoBulk]
 | nil=>simp [Rows.uptoBulk]
 | ptr d=>simp [Rows.uptoBulk]
 | slice elems spare=>simp [Rows.uptoBulk]
 | agg parts=>simp [Rows.uptoBulk]
 | iface t d=>simp [Rows.uptoBulk]
 | map entries=>simp [Rows.uptoBulk]
 | held h=>simp [Rows.uptoBulk]
theorem wi:∀ l:List (DataW H),l.length≤Rows.uptoBulkAll l
 | []=>by simp [Rows.uptoBulkAll]
 | x::r=>by have:=Ew x;have:=wi r;simp only [Rows.uptoBulkAll,List.length_cons];omega
theorem Cb {m a b:Nat} (h:m≤a) (hb:1≤b):m≤a*b:=Nat.le_trans h (Nat.le_mul_of_pos_right _ hb)
theorem gZ {te:TE} (hte:TEok P te) {d:Nat} {t:TypeId} {D:TypeDesc} (h:bS te d t=true) (hu:P.underlying t=some D):∃ d' i,d=d'+1∧te.get t=some i∧i.k.chk D=true:=by
 cases d with
 | zero=>simp [bS] at h
 | succ d=>
  cases hg:te.get t with
  | none=>simp [bS,hg] at h
  | some i=>
   obtain ⟨D',h1,h2⟩:=(hte.tells hg).desc;rw [hu] at h1;cases h1;exact ⟨d,i,rfl,rfl,h2⟩
theorem uf {te:TE} (hte:TEok P te) {d:Nat} {t e:TypeId} (h:bS te d t=true) (hu:P.underlying t=some (.slice e)):∃ d',bS te d' e=true∧∃ j,te.get e=some j:=by
 obtain ⟨d',⟨k,sz,by_,z⟩,rfl,hg,hc⟩:=gZ hte h hu;cases k<;>simp only [TK.chk,Bool.false_eq_true] at hc
 rename_i e'
 have:=Nat.eq_of_beq_eq_true hc;subst this;simp only [bS,hg,Bool.and_eq_true] at h;cases he:te.get e' with
 | none=>rw [he] at h;cases h.2
 | some j=>exact ⟨d',h.1,j,rfl⟩
theorem y7 {te:TE} (hte:TEok P te) {d n:Nat} {t e:TypeId} (h:bS te d t=true) (hu:P.underlying t=some (.array n e)):∃ d',bS te d' e=true:=by
 obtain ⟨d',⟨k,sz,by_,z⟩,rfl,hg,hc⟩:=gZ hte h hu;cases k<;>simp only [TK.chk,Bool.false_eq_true,Bool.and_eq_true] at hc
 rename_i e'
 have:=Nat.eq_of_beq_eq_true hc.2;subst this;simp only [bS,hg,Bool.and_eq_true] at h;exact ⟨d',h.1⟩
theorem sN {te:TE} (hte:TEok P te) {d:Nat} {t:TypeId} {fs:Array Field} (h:bS te d t=true) (hu:P.underlying t=some (.struct fs)):∃ d',∀ t∈fs.toList.map (·.type),bS te d' t=true:=by
 obtain ⟨d',⟨k,sz,by_,z⟩,rfl,hg,hc⟩:=gZ hte h hu;cases k<;>simp only [TK.chk,Bool.false_eq_true] at hc
 rename_i l
 have hl:l=fs.toList.map fun f=>(f.offset,f.type):=by simpa using hc
 simp only [bS,hg,Bool.and_eq_true,List.all_eq_true] at h;refine ⟨d',fun t ht=>?_⟩;obtain ⟨f,hf,rfl⟩:=List.mem_map.1 ht;exact h.2 (f.offset,f.type) (by rw [hl];exact List.mem_map.2 ⟨f,hf,rfl⟩)
theorem y5 {te:TE} (hte:TEok P te) {d:Nat} {t e:TypeId} (h:bS te d t=true) (hu:P.underlying t=some (.pointer e)):False:=by
 obtain ⟨d',⟨k,sz,by_,z⟩,rfl,hg,hc⟩:=gZ hte h hu;cases k<;>simp only [TK.chk,Bool.false_eq_true] at hc
 simp [bS,hg] at h
theorem y6 {te:TE} (hte:TEok P te) {d:Nat} {t k e:TypeId} (h:bS te d t=true) (hu:P.underlying t=some (.map k e)):False:=by
 obtain ⟨d',⟨k,sz,by_,z⟩,rfl,hg,hc⟩:=gZ hte h hu;cases k<;>simp only [TK.chk,Bool.false_eq_true] at hc
 simp [bS,hg] at h
mutual
theorem G8 {te:TE} (hte:TEok P te) (hK:∀ t j,te.get t=some j→P.bytesOf t≤K) (h1:1≤K):∀ (x:DataW H) (d:Nat) (t:TypeId),bS te d t=true→∀ m∈x.weights P t,m≤Rows.uptoBulk x*K
 | .lit l,d,t,hp,m,h=>by
  cases l with
  | string b=>
   simp only [DataW.weights,List.mem_singleton] at h;subst h;exact Cb (by simp [Rows.uptoBulk]) h1
  | _=>simp [DataW.weights] at h
 | .nil,d,t,hp,m,h=>by simp [DataW.weights] at h
 | .ptr x,d,t,hp,m,h=>by
  simp only [DataW.weights] at h;split at h
  · rename_i hu;exact (y5 hte hp hu).elim
  · cases h
 | .slice es sp,d,t,hp,m,h=>by
  simp only [DataW.weights] at h;split at h
  · rename_i e hu
    obtain ⟨d',hp',j,hj⟩:=uf hte hp hu;rcases List.mem_cons.1 h with rfl|h
    · have h2:=wi es
      have h3:=wi sp;exact Nat.mul_le_mul (by simp only [Rows.uptoBulk];omega) (hK _ _ hj)
    · rcases List.mem_append.1 h with h|h
      · exact Nat.le_trans (wF hte hK h1 es d' e hp' m h) (Nat.mul_le_mul_right _ (by simp only [Rows.uptoBulk];omega))
      · exact Nat.le_trans (wF hte hK h1 sp d' e hp' m h) (Nat.mul_le_mul_right _ (by simp only [Rows.uptoBulk];omega))
  · cases h
 | .agg ps,d,t,hp,m,h=>by
  simp only [DataW.weights] at h;split at h
  · rename_i fs hu
    obtain ⟨d',hp'⟩:=sN hte hp hu;exact Nat.le_trans (vG hte hK h1 ps d' _ hp' m h) (Nat.mul_le_mul_right _ (by simp only [Rows.uptoBulk];omega))
  · rename_i n e hu
    obtain ⟨d',hp'⟩:=y7 hte hp hu;exact Nat.le_trans (wF hte hK h1 ps d' e hp' m h) (Nat.mul_le_mul_right _ (by simp only [Rows.uptoBulk];omega))
  · cases h
 | .iface t2 x,d,t,hp,m,h=>by simp [DataW.weights] at h
 | .map es,d,t,hp,m,h=>by
  simp only [DataW.weights] at h;split at h
  · rename_i hu;exact (y6 hte hp hu).elim
  · cases h
 | .held x,d,t,hp,m,h=>by simp [DataW.weights] at h
theorem wF {te:TE} (hte:TEok P te) (hK:∀ t j,te.get t=some j→P.bytesOf t≤K) (h1:1≤K):∀ (l:List (DataW H)) (d:Nat) (e:TypeId),bS te d e=true→∀ m∈DataW.weightsAll P e l,m≤Rows.uptoBulkAll l*K
 | [],d,e,hp,m,h=>by simp [DataW.weightsAll] at h
 | x::r,d,e,hp,m,h=>by
  simp only [DataW.weightsAll,List.mem_append] at h;rcases h with h|h
  · exact Nat.le_trans (G8 hte hK h1 x d e hp m h) (Nat.mul_le_mul_right _ (by simp only [Rows.uptoBulkAll];omega))
  · exact Nat.le_trans (wF hte hK h1 r d e hp m h) (Nat.mul_le_mul_right _ (by simp only [Rows.uptoBulkAll];omega))
theorem vG {te:TE} (hte:TEok P te) (hK:∀ t j,te.get t=some j→P.bytesOf t≤K) (h1:1≤K):∀ (l:List (DataW H)) (d:Nat) (ts:List TypeId),(∀ t∈ts,bS te d t=true)→∀ m∈DataW.weightsEach P ts l,m≤Rows.uptoBulkAll l*K
 | [],d,ts,hp,m,h=>by cases ts<;>simp [DataW.weightsEach] at h
 | x::r,d,[],hp,m,h=>by simp [DataW.weightsEach] at h
 | x::r,d,t::ts,hp,m,h=>by
  simp only [DataW.weightsEach,List.mem_append] at h;rcases h with h|h
  · exact Nat.le_trans (G8 hte hK h1 x d t (hp t List.mem_cons_self) m h) (Nat.mul_le_mul_right _ (by simp only [Rows.uptoBulkAll];omega))
  · exact Nat.le_trans (vG hte hK h1 r d ts (fun t ht=>hp t (List.mem_cons_of_mem _ ht)) m h) (Nat.mul_le_mul_right _ (by simp only [Rows.uptoBulkAll];omega))
end
theorem sized {te:TE} (hte:TEok P te) (hb:(te.all fun p=>Nat.ble p.2.bytes 1024)=true) {d:Nat} {ts us:List TypeId} {l:List (DataW H)} (hp:(ts.all fun t=>bS te d t)=true) (hus:us=[]) (hk:Rows.uptoSmall H l=true):(DataW.weightsEach P (ts++us) l).all (·≤upB)=true:=by
 have h:Rows.uptoBulkAll l≤1048576:=of_decide_eq_true hk;subst hus;rw [List.append_nil];refine List.all_eq_true.2 fun m hm=>decide_eq_true ?_
 have hK:∀ t j,te.get t=some j→P.bytesOf t≤1024:=fun t j hg=>by
  rw [((hte.tells hg).cells).2];have key:∀ r:TE,(r.all fun p=>Nat.ble p.2.bytes 1024)=true→TE.get r t=some j→j.bytes≤1024:=by
   intro r;induction r with
   | nil=>intro _ h;cases h
   | cons p r ih=>
    intro h1 h2;simp only [List.all_cons,Bool.and_eq_true] at h1;simp only [TE.get] at h2;cases hb:Nat.beq t p.1 with
    | true=>rw [hb] at h2;cases h2;exact Nat.le_of_ble_eq_true h1.1
    | false=>rw [hb] at h2;exact ih h1.2 h2
  exact key te hb hg
 have h2:=vG hte hK (by decide) l d ts (fun t ht=>List.all_eq_true.1 hp t ht) m hm;show m≤1073741824;omega
end
end Go.Proofs.YthnfcmgpedppaaaGreat.Fw.Up


namespace Go.Proofs.YthnfcmgpedppaaaGreat.Fw
open Go.RowKit
theorem Sim.yielded_no {n:Nat} {ops:Array Oper} {s:AS} {w:World} {φ:aD} {Λ:aW} {a:Act} (hs:Sim n w φ Λ s a) {j:Nat} {oj:Oper} {d:Nat} (hj:ops[j]?=some oj) (hd:oj.dst=some d)
 (hb:s.t d=.v undef):Go.yielded ops a.tmps j=none:=by
 have h:=hs.tmps d;rw [hb] at h;generalize hv:a.tmps.getD d undef=v at h;cases h;simp only [Go.yielded,hj,Option.bind_some,hd];cases hx:a.tmps[d]? with
 | none=>rfl
 | some y=>
  rw [Array.getD_eq_getD_getElem?,hx] at hv;simp only [Option.getD_some] at hv;rw [hv];rfl
theorem AOps.gskipu {P:Program} {n:Nat} {ops:Array Oper} {Q:bB} {s:AS} {i:Nat} {rest:List Nat} {o:Oper} {j:Nat} {want:Bool} {oj:Oper} {d:Nat} {dd:Option Tmp} (ho:ops[i]?=some o) (hg:o.guard=some (j,want)) (hj:ops[j]?=some oj)
 (hd:oj.dst=some d) (hb:s.t d=.v undef) (hdd:o.dst=dd) (hn:dd.all (Nat.blt · n)=true) (hr:AOps P n ops Q rest (s.put dd (.v undef))) :
 AOps P n ops Q (i::rest) s:=by
 intro Λ w φ a hs QQ hQ;have hy:=hs.yielded_no hj hd hb;have hw:((none:Option Bool) == some want)=false:=rfl;simp only [wpOps,ho,Region.wanted,hg,hy,hw,Bool.false_eq_true,if_false];subst hdd;exact hr Λ w φ _ (hs.put o.dst hn .v) QQ hQ
theorem OpAt.gskipu {P:Program} {n:Nat} {ops:Array Oper} {i:Nat} {o:Oper} {s:AS} {j:Nat} {want:Bool} {oj:Oper} {d:Nat} {dd:Option Tmp} (ho:ops[i]?=some o) (hg:o.guard=some (j,want)) (hj:ops[j]?=some oj)
 (hd:oj.dst=some d) (hb:s.t d=.v undef) (hdd:o.dst=dd) (hn:dd.all (Nat.blt · n)=true):OpAt P n ops i s (s.put dd (.v undef)):=by
 intro Λ w φ a hs K QQ hK;have hy:=hs.yielded_no hj hd hb;have hw:((none:Option Bool) == some want)=false:=rfl;simp only [wpOp,ho,Region.wanted,hg,hy,hw,Bool.false_eq_true,if_false];subst hdd;exact hK w φ _ (hs.put o.dst hn .v) (Goes.refl _ _)
theorem Gr {a b:Int} (ha:0≤a) (hb:0≤b∧b<256):(((a*2 ^ 8).toNat ||| b.toNat:Nat):Int)=a*256+b:=by
 have e:(a*2 ^ 8).toNat=2 ^ 8*a.toNat:=by omega
 rw [e,← Nat.two_pow_add_eq_or_of_lt (by omega:b.toNat<2 ^ 8) a.toNat];omega
theorem rM {n:Nat} {s:AS} {o:Oper} {d:Option Tmp} {t u:TypeId} {x y:Operand} {a b:Int} (ho:o.op=.binOp .or t x y u:=by exact rfl) (hx:s.ev x=i64 (a*2 ^ 8):=by exact rfl) (hy:s.ev y=i64 b:=by exact rfl)
 (ha:0≤a∧a≤36028797018963967:=by first|omega|decide|(simp;omega)) (hb:0≤b∧b<256:=by first|omega|decide|(simp;omega))
 (hdd:o.dst=d:=by conv=>lhs;whnf) (hd:d.all (Nat.blt · n)=true:=by exact rfl):OpOk Tryz.prog n o s (s.put d (i64 (a*256+b))):=by
 rw [← Gr ha.1 hb];exact vP ho hx hy (by omega) (by omega) hdd hd
theorem Weak.niltmp (k id esz:Nat) {α:Type} (f:α→List AV) {s:AS} (hk:s.t k=.v (.slice none 0 0):=by exact rfl) (hid:s.h id=none:=by exact rfl) :
 Weak s ((s.seth id (some (.row (cl f []) esz 0))).put (some k) (.sl id 0 0 ([]:List α).length esz)):=by
 intro n Λ w φ a hs;have hn:=hs.hs.dom id hid;have hc:Chg w φ Λ s.h id ⟨none,0⟩ w:=⟨hs.hs,Nat.le_refl _,rfl,rfl,rfl,fun _ _ _=>rfl,(fun b' o' h=>by cases h),(fun l hl=>by rw [hn] at hl;cases hl),(fun l hl=>by rw [hn] at hl;cases hl),.refl w⟩;have h1:HSim w (upd φ id (some ⟨none,0⟩)) Λ (upd s.h id (some (.row (cl f []) esz 0))):=hc.hsim ⟨rfl,.inl ⟨rfl,rfl⟩⟩;refine ⟨upd φ id (some ⟨none,0⟩),⟨hs.defs,hs.size,fun i=>?_,h1⟩,hc.goes⟩;show Rep w _ Λ (upd s.t k (.sl id 0 0 0 esz) i) _;by_cases he:i=k
 · subst he
   rw [aZ];have:=hs.tmps i;rw [hk] at this;generalize a.tmps.getD i undef=v at this;cases this;exact .sl0 (aZ _ _ _) rfl
 · rw [bf _ _ _ _ he]
   exact hc.rep (hs.tmps i)
section
variable {n:Nat} {s:AS} {o:Oper} {d:Option Tmp}
end
section
variable {n:Nat} {s:AS} {o:Oper} {d:Option Tmp}
theorem BZ {P:Program} {te:TE} (hte:TEok P te) {t e:TypeId} {x y:Operand} {k k':IntKind} {c id:Nat} {ti tj:TI} (ho:o.op=.makeSlice t x y) (hx:s.ev x=.v (.int k c)) (hy:s.ev y=.v (.int k' c))
 (ht:te.get t=some ti) (hk:ti.k=.slice e) (he:te.get e=some tj) (hid:s.h id=none) (hz:Nat.beq tj.zero.length tj.size=true) (hb:tj.bytes*c≤140737488351232) (h63:c≤9223372036854775807)
 (hdd:o.dst=d) (hd:d.all (Nat.blt · n)=true):OpOk P n o s ((s.seth id (some (.row (jc tj.zero c) tj.size 0))).put d (.sl id 0 0 c tj.size)):=
 .chg hdd hd fun Λ w φ a hs=>by
  have hu:=(hte.tells ht).slice hk;obtain ⟨f,z,z1,z2,z3,z4,z5,z6,z7⟩:=(hte.tells he).info;have hzl:=Nat.eq_of_beq_eq_true hz;have hb':(f.bytes:Int)*(c:Int)≤281474976710656:=by
   have:((f.bytes*c:Nat):Int)≤281474976710656:=by rw [z3];omega
   rwa [Int.natCast_mul] at this
  have hrun:=run_make (P:=P) w t e f z hu z1 z4 k k' (c:Int) (c:Int) (by omega) (Int.le_refl _) hb' (by omega);simp only [Int.toNat_natCast] at hrun;have hrep:lH w φ Λ (madeCells z.cells (c*f.size)) (jc tj.zero c):=pJ z5 c _ (by rw [z2,hzl]);have hc:=Chg.alloc hs.hs hid (.cells (madeCells z.cells (c*f.size)) e) 0 0;have hsz:(madeCells z.cells (c*f.size)).size=c*f.size:=size_madeCells _ _;refine ⟨_,_,_,?_,hc,jj rfl (w0:=w) (by rw [eT,hzl,hsz,z2];exact Nat.le_refl _) (fun j q hj=>?_),.slice (some ⟨w.heap.size,0,none⟩) c c,.inl rfl,?_⟩
  · simp [execOp,ho,cc hs hx,cc hs hy,hrun]
  · obtain ⟨v,hv,hr⟩:=hrep.2 j q hj
    rw [Nat.zero_add] at hv;exact ⟨v,hv,hc.rep hr⟩
  · have hcs:(madeCells z.cells (c*f.size)).size=c*tj.size:=by rw [hsz,z2]
    exact Rep.sl (off:=0) (aZ _ _ _) rfl rfl (heap_alloc_new w _) (by omega) (Nat.le_refl _)
theorem wL {α:Type} {f:α→List AV} {a:α} {zs:List ZC} (h:zs.map (fun z=>AV.v z.val)=f a):∀ c,jc zs c=cl f (List.replicate c a)
 | 0=>rfl
 | c+1=>by rw [jc,wL h c,h];rfl
theorem En (id:Nat) {α:Type} (f:α→List AV) (a:α) (c:Nat) {t e:TypeId} {x y:Operand} {k k':IntKind} {ti tj:TI} (ho:o.op=.makeSlice t x y:=by exact rfl) (hx:s.ev x=.v (.int k c):=by exact rfl) (hy:s.ev y=.v (.int k' c):=by exact rfl)
 (ht:te.get t=some ti:=by exact rfl) (hk:ti.k=.slice e:=by exact rfl) (he:te.get e=some tj:=by exact rfl) (hid:s.h id=none:=by exact rfl) (hz:Nat.beq tj.zero.length tj.size=true:=by exact rfl)
 (hf:tj.zero.map (fun z=>AV.v z.val)=f a:=by exact rfl) (hb:tj.bytes*c≤140737488351232:=by first|omega|(simp;omega)) (h63:c≤9223372036854775807:=by omega)
 (hdd:o.dst=d:=by conv=>lhs;whnf) (hd:d.all (Nat.blt · n)=true:=by exact rfl):OpOk Tryz.prog n o s ((s.seth id (some (.row (cl f (List.replicate c a)) tj.size 0))).put d (.sl id 0 0 (List.replicate c a).length tj.size)):=by
 rw [List.length_replicate,← wL hf];exact BZ te_ok ho hx hy ht hk he hid hz hb h63 hdd hd
end
section
variable {n:Nat} {s:AS} {o:Oper} {d:Option Tmp}
theorem OpOk.weak {P:Program} {s1 s2:AS} (h:OpOk P n o s s1) (hw:Weak s1 s2):OpOk P n o s s2:=by
 intro Λ w φ a hs next QQ hn;refine h Λ w φ a hs next QQ fun w' φ' a' hs' g=>?_
 obtain ⟨φ2,hs2,g2⟩:=hw n Λ w' φ' a' hs';exact hn w' φ2 a' hs2 (g.trans g2)
theorem Weak.kill (d id ver esz:Nat) {α:Type} {f:α→List AV} {l:List α} (hd:s.t d=.sl id ver 0 l.length esz) (hob:s.h id=some (.row (cl f l) esz ver)) (hf:∀ x,(f x).length=esz) (h5:0<esz)
 (h3:∀ x,AV.oks 0 (f x)=true):Weak s ((s.seth id (some (.row [] esz (ver+1)))).put (some d) (.fz 0 l.length (cl f l))):=by
 intro n Λ w φ a hs;obtain ⟨l0,hl0,hv0⟩:=hs.hs.ver (ver:=ver) (cells:=cl f l) hob (by simp [AObj.at]);have hc:Chg w φ Λ s.h id ⟨none,ver+1⟩ w:=⟨hs.hs,Nat.le_refl _,rfl,rfl,rfl,fun _ _ _=>rfl,(fun b' o' h=>by cases h),(fun l hl=>.inr (by rw [hl0] at hl;cases hl;show l0.ver<ver+1;omega)),(fun l hl e=>by rw [hl0] at hl;cases hl;subst e;simp at hv0),.refl w⟩;have h1:HSim w (upd φ id (some ⟨none,ver+1⟩)) Λ (upd s.h id (some (.row [] esz (ver+1)))):=hc.hsim ⟨rfl,.inl ⟨rfl,rfl⟩⟩;refine ⟨upd φ id (some ⟨none,ver+1⟩),⟨hs.defs,hs.size,fun i=>?_,h1⟩,hc.goes⟩;show Rep w _ Λ (upd s.t d (.fz 0 l.length (cl f l)) i) _;by_cases hi:i=d
 · subst hi
   rw [aZ];have hr:=hs.tmps i;rw [hd] at hr;by_cases hz:l=[]
   · subst hz
     obtain ⟨ad,cap,e⟩:=ij hr rfl;rw [e];exact .fz0
   · have hpos:0<l.length:=List.length_pos_iff.2 hz
     have hcl:(cl f l).length=l.length*esz:=bJ hf l;have hcp:0<(cl f l).length:=by rw [hcl];exact Nat.mul_pos hpos h5
     obtain ⟨l1,b0,oo0,arr,T,lo,hi,g1,g2,g3,g4,g5,g6,g7⟩:=hs.hs.at (ver:=ver) (cells:=cl f l) hob (by simp [AObj.at]) hcp;generalize hv:a.tmps.getD i undef=v at hr ⊢;generalize hL:l.length=L at hr ⊢;cases hr with
     | slx e1 e2=>rw [g1] at e1;cases e1;omega
     | sl0 e1 e2=>omega
     | sl e1 e2 e3 e4 e5 e6=>
      rw [g1] at e1;cases e1;rw [g3] at e3;cases e3;refine .fz (fun j=>arr.getD (oo0+0+j) undef) ⟨?_,fun k hk=>(hs.hs.lt id l1 b0 oo0 g1 g3).2 k⟩ e6 (gu fun x _=>AV.oks_iff.1 (h3 x)) (fun j hj=>?_) (fun j c hj=>?_) hcp
      · rintro ⟨id',l',o',q1,q2⟩
        by_cases e:id'=id
        · subst e;rw [aZ] at q1;cases q1;cases q2
        · rw [bf _ _ _ _ e] at q1
          exact e (hs.hs.inj id' id l' l1 b0 o' oo0 q1 g1 q2 g3)
      · have:oo0+0+j<arr.size:=by omega
        simp only [World.cell?,g4,Array.getD,this,dif_pos,getElem?_pos];rfl
      · obtain ⟨u,q1,q2⟩:=g7 j c hj
        have q3:arr[oo0+0+j]?=some u:=q1;rw [Array.getD_eq_getD_getElem?,q3];exact hc.rep q2
 · rw [bf _ _ _ _ hi]
   exact hc.rep (hs.tmps i)
theorem xW (s:AS) (id:Nat) (a b:Option AObj):(s.seth id a).seth id b=s.seth id b:=by
 simp only [AS.seth];congr 1
 funext i
 by_cases h:i=id
 · subst h;rw [aZ,aZ]
 · rw [bf _ _ _ _ h,bf _ _ _ _ h,bf _ _ _ _ h]
theorem BR (s:AS) (d:Nat) (x y:AV):(s.put (some d) x).put (some d) y=s.put (some d) y:=by
 simp only [AS.put];congr 1
 funext i
 by_cases h:i=d
 · subst h;rw [aZ,aZ]
 · rw [bf _ _ _ _ h,bf _ _ _ _ h,bf _ _ _ _ h]
theorem vS {dd:Nat} {t t2 e:TypeId} {x y:Operand} {id ver esz bt:Nat} {α:Type} {f:α→List AV} {l m:List α} {ti tj tk:TI} (ho:o.op=.call { callee:=.builtin .append,args:=#[x,y],argTypes:=#[t,t2] }:=by exact rfl)
 (hx:s.ev x=.sl id ver 0 l.length esz:=by exact rfl) (hob:s.h id=some (.row (cl f l) esz ver):=by exact rfl) (ht:te.get t=some ti:=by exact rfl) (hk:ti.k=.slice e:=by exact rfl) (he:te.get e=some tj:=by exact rfl)
 (hesz:tj.size=esz:=by exact rfl) (hbt:tj.bytes=bt:=by conv=>lhs;whnf) (ht2:te.get t2=some tk:=by exact rfl) (hk2:(match tk.k with|.slice _|.str=>true|_=>false)=true:=by exact rfl)
 (hsrc:SrcTo s y f esz m:=by first|exact .sl rfl rfl .row (fun _=>rfl)|exact .fz rfl (fun _=>rfl)|exact .str rfl|exact .nil rfl) (hf:∀ x,(f x).length=esz:=by exact fun _=>rfl) (h1:∀ x,(f x).all AV.one=true:=by exact fun _=>rfl)
 (h3:∀ x,AV.oks 0 (f x)=true:=by exact fun _=>rfl) (h5:0<esz:=by exact Nat.le_of_ble_eq_true rfl)
 (hb:(l.length+m.length)*bt≤140737488355328:=by first|omega|(simp;omega)) (hbp:0<bt:=by exact Nat.le_of_ble_eq_true rfl)
 (hdd:o.dst=some dd:=by conv=>lhs;whnf) (hd:(some dd).all (Nat.blt · n)=true:=by exact rfl) :
 OpOk Tryz.prog n o s ((s.seth id (some (.row [] esz (ver+2)))).put (some dd) (.fz 0 (l++m).length (cl f (l++m)))):=by
 have h:=gY (n:=n) (d:=some dd) ho hx hob ht hk he rfl hesz hbt ht2 hk2 hsrc hf h1 hb hbp hdd hd;have h2:=h.weak (Weak.kill (s:=(s.seth id (some (.row (cl f (l++m)) esz (ver+1)))).put (some dd) (.sl id (ver+1) 0 (l++m).length esz)) dd id (ver+1) esz (f:=f) (l:=l++m) (aZ _ _ _) (aZ _ _ _) hf h5 h3);have e:∀ (a b:Option AObj) (u v:AV),(((s.seth id a).put (some dd) u).seth id b).put (some dd) v=(s.seth id b).put (some dd) v:=by
  intro a b u v;have e1:((s.seth id a).put (some dd) u).seth id b=((s.seth id a).seth id b).put (some dd) u:=rfl;rw [e1,xW,BR]
 rwa [e] at h2
end
section pure
variable {κ β:Type} [DecidableEq κ]
def bg:List (κ×β)→κ→Option β
 | [],_=>none
 | (a,b)::m,k=>if a=k then some b else bg m k
def cp:List (κ×β)→κ→β→List (κ×β)
 | [],k,v=>[(k,v)]
 | (a,b)::m,k,v=>if a=k then (k,v)::m else (a,b)::cp m k v
def eJ:List (κ×β)→κ→List (κ×β)
 | [],_=>[]
 | (a,b)::m,k=>if a=k then m else (a,b)::eJ m k
def MNd (m:List (κ×β)):Prop:=(m.map (·.1)).Nodup
theorem iR (m:List (κ×β)) (k k':κ) (v:β):bg (cp m k v) k'=if k=k' then some v else bg m k':=by
 induction m with
 | nil=>simp [cp,bg]
 | cons p m ih=>
  obtain ⟨a,b⟩:=p;simp only [cp];split
  · rename_i h;subst h
    simp only [bg];split<;>rfl
  · rename_i h
    simp only [bg,ih];by_cases h1:a=k'
    · subst h1
      rw [if_pos rfl,if_neg (fun e=>h e.symm),if_pos rfl]
    · rw [if_neg h1,if_neg h1]
theorem rV {m:List (κ×β)} {k:κ} (h:k ∉ m.map (·.1)):bg m k=none:=by
 induction m with
 | nil=>rfl
 | cons p m ih=>
  obtain ⟨a,b⟩:=p;simp only [List.map_cons,List.mem_cons,not_or] at h;rw [bg,if_neg (fun e=>h.1 e.symm),ih h.2]
theorem uw {m:List (κ×β)} (hn:MNd m) (k k':κ):bg (eJ m k) k'=if k=k' then none else bg m k':=by
 induction m with
 | nil=>simp [eJ,bg]
 | cons p m ih=>
  obtain ⟨a,b⟩:=p;have hn':a ∉ m.map (·.1)∧MNd m:=by simpa [MNd] using hn
  simp only [eJ];split
  · rename_i h;subst h
    by_cases h1:a=k'
    · subst h1;rw [if_pos rfl];exact rV hn'.1
    · rw [if_neg h1,bg,if_neg h1]
  · rename_i h
    simp only [bg,ih hn'.2];by_cases h1:a=k'
    · subst h1
      rw [if_pos rfl,if_neg (fun e=>h e.symm),if_pos rfl]
    · rw [if_neg h1,if_neg h1]
theorem A3 {m:List (κ×β)} {k x:κ} {v:β} (h:x∈(cp m k v).map (·.1)):x=k∨x∈m.map (·.1):=by
 induction m with
 | nil=>simp [cp] at h;exact .inl h
 | cons p m ih=>
  obtain ⟨a,b⟩:=p;simp only [cp] at h;split at h
  · rename_i e;subst e;exact .inr (by simpa using h)
  · simp only [List.map_cons,List.mem_cons] at h ⊢
    rcases h with h|h
    · exact .inr (.inl h)
    · rcases ih h with h|h
      · exact .inl h
      · exact .inr (.inr h)
theorem MNd.put {m:List (κ×β)} (hn:MNd m) (k:κ) (v:β):MNd (cp m k v):=by
 induction m with
 | nil=>simp [cp,MNd]
 | cons p m ih=>
  obtain ⟨a,b⟩:=p;have hn':a ∉ m.map (·.1)∧MNd m:=by simpa [MNd] using hn
  simp only [cp];split
  · rename_i e;subst e;exact hn
  · rename_i e
    show ((a,b)::cp m k v |>.map (·.1)).Nodup;rw [List.map_cons,List.nodup_cons];refine ⟨fun h=>?_,ih hn'.2⟩;rcases A3 h with h|h
    · exact e h
    · exact hn'.1 h
theorem A9 {m:List (κ×β)} {k x:κ} (h:x∈(eJ m k).map (·.1)):x∈m.map (·.1):=by
 induction m with
 | nil=>exact h
 | cons p m ih=>
  obtain ⟨a,b⟩:=p;simp only [eJ] at h;split at h
  · simp only [List.map_cons,List.mem_cons];exact .inr h
  · simp only [List.map_cons,List.mem_cons] at h ⊢
    exact h.imp_right ih
theorem MNd.del {m:List (κ×β)} (hn:MNd m) (k:κ):MNd (eJ m k):=by
 induction m with
 | nil=>exact hn
 | cons p m ih=>
  obtain ⟨a,b⟩:=p;have hn':a ∉ m.map (·.1)∧MNd m:=by simpa [MNd] using hn
  simp only [eJ];split
  · exact hn'.2
  · show ((a,b)::eJ m k |>.map (·.1)).Nodup
    rw [List.map_cons,List.nodup_cons];exact ⟨fun h=>hn'.1 (A9 h),ih hn'.2⟩
theorem MNd.nil:MNd ([]:List (κ×β)):=by simp [MNd]
theorem ux (m:List (κ×β)) (k:κ):(bg m k=none∧(∀ (i:Nat) (q:κ×β),m[i]?=some q→q.1≠k)∧(∀ v,cp m k v=m++[(k,v)])∧eJ m k=m)∨
 ∃ j p,m[j]?=some p∧p.1=k∧(∀ (i:Nat) (q:κ×β),i<j→m[i]?=some q→q.1≠k)∧bg m k=some p.2∧(∀ v,cp m k v=m.set j (k,v))∧eJ m k=m.eraseIdx j:=by
 induction m with
 | nil=>exact .inl ⟨rfl,by simp,fun v=>rfl,rfl⟩
 | cons p m ih=>
  obtain ⟨a,b⟩:=p;by_cases h:a=k
  · refine .inr ⟨0,(a,b),rfl,h,by simp,by rw [bg,if_pos h],fun v=>by rw [cp,if_pos h];rfl,by rw [eJ,if_pos h];rfl⟩
  · rcases ih with ⟨h1,h2,h3,h4⟩|⟨j,p,h1,h2,h3,h4,h5,h6⟩
    · refine .inl ⟨by rw [bg,if_neg h,h1],fun i q hq=>?_,fun v=>by rw [cp,if_neg h,h3];rfl,by rw [eJ,if_neg h,h4]⟩
      cases i with
      | zero=>simp at hq;subst hq;exact h
      | succ i=>exact h2 i q (by simpa using hq)
    · refine .inr ⟨j+1,p,by simpa using h1,h2,fun i q hi hq=>?_,by rw [bg,if_neg h,h4],fun v=>by rw [cp,if_neg h,h5];rfl,by rw [eJ,if_neg h,h6];rfl⟩
      cases i with
      | zero=>simp at hq;subst hq;exact h
      | succ i=>exact h3 i q (by omega) (by simpa using hq)
end pure
structure MKey (κ:Type) where
 kv:κ→Value
 d:TypeDesc
 isKey:∀ k,MapKept.IsKey d (kv k)
 inj:∀ a b,kv a=kv b→a=b
 same:∀ k,Instr.sameBits 10000 (kv k) (kv k)=true
def cm:MKey Int:=⟨fun k=>.int .i64 k,.int .i64,fun _=>rfl,fun a b h=>by cases h;rfl,fun k=>by simp [Instr.sameBits]⟩
def fI:MKey (List UInt8):=⟨fun k=>.string ⟨⟨k⟩⟩,.string,fun _=>trivial,fun a b h=>by cases h;rfl,fun k=>MapKept.sameBits_self (d:=.string) (show MapKept.IsKey .string (.string ⟨⟨k⟩⟩) from trivial) 10000⟩
theorem nd {d:TypeDesc} {kk:Value} (hk:MapKept.IsKey d kk):∀ (l:List MapEntry) (i:Nat),(∀ e∈l,MapKept.IsKey d e.key∧e.key≠kk)→Instr.findNow d kk l i=some none
 | [],_,_=>rfl
 | e::l,i,h=>by
  obtain ⟨r,hr,hiff⟩:=MapKept.sameNow_of_keys hk (h e (by simp)).1;cases r with
  | true=>exact absurd (hiff.1 rfl).symm (h e (by simp)).2
  | false=>
   simp only [Instr.findNow,hr];exact nd hk l (i+1) fun e he=>h e (by simp [he])
theorem nc {d:TypeDesc} {kk:Value} (hk:MapKept.IsKey d kk):∀ (l:List MapEntry) (i j:Nat) (e:MapEntry),l[j]?=some e→e.key=kk→(∀ i' e',i'<j→l[i']?=some e'→MapKept.IsKey d e'.key∧e'.key≠kk)→
 Instr.findNow d kk l i=some (some (i+j,e.val))
 | [],_,_,_,h,_,_=>by simp at h
 | x::l,i,0,e,h,he,_=>by
  simp at h;subst h;obtain ⟨r,hr,hiff⟩:=MapKept.sameNow_of_keys hk (he▸hk:MapKept.IsKey d x.key);have:r=true:=hiff.2 he.symm;subst this;simp [Instr.findNow,hr]
 | x::l,i,j+1,e,h,he,hb=>by
  have h0:=hb 0 x (by omega) rfl;obtain ⟨r,hr,hiff⟩:=MapKept.sameNow_of_keys hk h0.1;cases r with
  | true=>exact absurd (hiff.1 rfl).symm h0.2
  | false=>
   simp only [Instr.findNow,hr];have:=nc hk l (i+1) j e (by simpa using h) he fun i' e' hi he'=>hb (i'+1) e' (by omega) (by simpa using he')
   rw [this];congr 3;omega
section rules
variable {n:Nat} {s:AS} {o:Oper} {d:Option Tmp} {κ β:Type} [DecidableEq κ]
def me (K:MKey κ) (f:β→AV) (m:List (κ×β)):List (Value×AV):=m.map fun p=>(K.kv p.1,f p.2)
structure MEnts (w:World) (φ:aD) (Λ:aW) (K:MKey κ) (f:β→AV) (m:List (κ×β)) (ents:Array MapEntry):Prop where
 size:ents.size=m.length
 at':∀ (j:Nat) p,m[j]?=some p→∃ e,ents[j]?=some e∧e.key=K.kv p.1∧Rep w φ Λ (f p.2) e.val
theorem qx {w:World} {φ:aD} {Λ:aW} {h:aX} (hs:HSim w φ Λ h) {id:Nat} {K:MKey κ} {f:β→AV} {m:List (κ×β)} (hob:h id=some (.map (me K f m))) :
 ∃ l b ents clock,φ id=some l∧l.bo=some (b,0)∧l.ver=0∧w.heap[b]?=some (.map ents clock)∧MEnts w φ Λ K f m ents:=by
 obtain ⟨l,hl,b,ents,clock,h1,h2,h3,h4,h5⟩:=hs.heap id _ hob;refine ⟨l,b,ents,clock,hl,h1,h2,h3,by rw [h4,me,List.length_map],fun j p hp=>?_⟩;exact h5 j (K.kv p.1,f p.2) (by rw [me,List.getElem?_map,hp];rfl)
theorem MEnts.key {w:World} {φ:aD} {Λ:aW} {K:MKey κ} {f:β→AV} {m:List (κ×β)} {ents:Array MapEntry} (h:MEnts w φ Λ K f m ents) {i:Nat} {e:MapEntry} (he:ents[i]?=some e):∃ p,m[i]?=some p∧e.key=K.kv p.1:=by
 have hlt:i<m.length:=by
  have:=(Array.getElem?_eq_some_iff.1 he).1;rw [← h.size];exact this
 obtain ⟨e',h1,h2,_⟩:=h.at' i m[i] (List.getElem?_eq_getElem hlt);rw [he] at h1;cases h1;exact ⟨_,List.getElem?_eq_getElem hlt,h2⟩
theorem MEnts.none {w:World} {φ:aD} {Λ:aW} {K:MKey κ} {f:β→AV} {m:List (κ×β)} {ents:Array MapEntry} (h:MEnts w φ Λ K f m ents) {k:κ} (hk:∀ (i:Nat) (q:κ×β),m[i]?=some q→q.1≠k) :
 Instr.findNow K.d (K.kv k) ents.toList 0=some none:=by
 refine nd (K.isKey k) _ 0 fun e he=>?_
 obtain ⟨i,hi,rfl⟩:=List.getElem_of_mem he;obtain ⟨p,h1,h2⟩:=h.key (i:=i) (e:=ents.toList[i]) (by rw [← Array.getElem?_toList,List.getElem?_eq_getElem hi]);rw [h2];exact ⟨K.isKey _,fun e=>hk i p h1 (K.inj _ _ e)⟩
theorem MEnts.some {w:World} {φ:aD} {Λ:aW} {K:MKey κ} {f:β→AV} {m:List (κ×β)} {ents:Array MapEntry} (h:MEnts w φ Λ K f m ents) {k:κ} {j:Nat} {p:κ×β} (h1:m[j]?=some p) (h2:p.1=k) (hk:∀ (i:Nat) (q:κ×β),i<j→m[i]?=some q→q.1≠k) :
 ∃ e,ents[j]?=some e∧e.key=K.kv k∧Rep w φ Λ (f p.2) e.val∧Instr.findNow K.d (K.kv k) ents.toList 0=some (some (j,e.val)):=by
 obtain ⟨e,q1,q2,q3⟩:=h.at' j p h1;refine ⟨e,q1,by rw [q2,h2],q3,?_⟩;have:=nc (K.isKey k) ents.toList 0 j e (by rw [Array.getElem?_toList,q1]) (by rw [q2,h2]) fun i' e' hi he'=>?_
 · rwa [Nat.zero_add] at this
 · rw [Array.getElem?_toList] at he'
   obtain ⟨p',g1,g2⟩:=h.key he';rw [g2];exact ⟨K.isKey _,fun e=>hk i' p' hi g1 (K.inj _ _ e)⟩
theorem q8 {w:World} {φ:aD} {Λ:aW} {id:Nat} {l:Loc} {b:Nat} {v:Value} (h:Rep w φ Λ (.mp id 0) v) (hl:φ id=some l) (hv:l.ver=0) (hb:l.bo=some (b,0)):v=.map (some b):=by
 cases h with
 | mp h1 h2 h3=>rw [hl] at h1;cases h1;rw [hb] at h3;cases h3;rfl
 | mpx h1 h2=>rw [hl] at h1;cases h1;omega
def A2 (f:β→AV) (z:AV):Option β→AV
 | some b=>f b
 | none=>z
theorem x7 (x:Option Bool):A2 (fun b=>tf b) (tf false) x=tf (x.getD false):=by cases x<;>rfl
theorem ur (x:Option Int):A2 (fun b=>i64 b) (i64 0) x=i64 (x.getD 0):=by cases x<;>rfl
theorem cg {S:Nat→Bool} {K:MKey κ} {f:β→AV} {m:List (κ×β)} (h:∀ b,(f b).refs S=true):ObjIn S (.map (me K f m)):=by
 intro p hp;rw [me,List.mem_map] at hp;obtain ⟨q,_,rfl⟩:=hp;exact h q.2
theorem C8 {K:MKey κ} {f:β→AV} {m:List (κ×β)}:(me K f m).map (·.2)=m.map fun p=>f p.2:=by simp [me]
theorem A7 {K:MKey κ} {f:β→AV} {m:List (κ×β)} {lv:Nat} (h:∀ b,(f b).ok lv=true):AV.oks lv ((me K f m).map (·.2))=true:=by
 rw [C8];refine AV.oks_of fun c hc=>?_
 rw [List.mem_map] at hc;obtain ⟨q,_,rfl⟩:=hc;exact h q.2
theorem dF {ρ:Nat→Bool} {σ:IdMap} {h:aX} {lo hi:Nat} {rn:Bool} {K:MKey κ} {f:β→AV} {m:List (κ×β)} (h3:∀ b,(f b).ok lo=true):LObj ρ σ h lo hi rn (.map (me K f m)) (.map (me K f m)):=⟨rfl,wb (A7 h3)⟩
theorem n8 {g:Nat→Nat} {K:MKey κ} {f:β→AV} {m:List (κ×β)} {lv:Nat} (h:∀ b,(f b).ok lv=true):(AObj.map (me K f m)).ren g=.map (me K f m):=by
 simp only [AObj.ren];congr 1;simp only [me,List.map_map];refine List.map_congr_left fun p _=>?_
 simp only [Function.comp];rw [AV.ren_ok (h p.2)]
theorem n7 {lv:Nat} {S:Nat→Bool} {K:MKey κ} {f:β→AV} {m:List (κ×β)} (h:∀ b,(f b).ok lv=true):(AObj.map (me K f m)).lev lv=true∧ObjIn S (.map (me K f m)):=
 ⟨AV.levs_ok (A7 h),cg fun b=>AV.refs_ok (h b)⟩
theorem gQ (id:Nat) (K:MKey κ) (f:β→AV) {t:TypeId} (ho:o.op=.makeMap t none:=by exact rfl) (hid:s.h id=none:=by exact rfl)
 (hdd:o.dst=d:=by conv=>lhs;whnf) (hd:d.all (Nat.blt · n)=true:=by exact rfl):OpOk Tryz.prog n o s ((s.seth id (some (.map (me K f [])))).put d (.mp id 0)):=
 .chg hdd hd fun Λ w φ a hs=>by
  have hc:=Chg.alloc hs.hs hid (.map #[] 0) 0 0;refine ⟨_,_,_,?_,hc,?_,.map (some w.heap.size),.inl rfl,.mp (aZ _ _ _) rfl rfl⟩
  · simp [execOp,ho,Instr.makeMap]
  · exact ⟨w.heap.size,#[],0,rfl,rfl,(MapKept.heap_alloc w _).1,rfl,fun j p hp=>by simp [me] at hp⟩
theorem pU {P:Program} {w:World} {φ:aD} {Λ:aW} {K:MKey κ} {f:β→AV} {m:List (κ×β)} {ents:Array MapEntry} {b clock:Nat} {t kt et:TypeId} {z:Value} {k:κ} {ok:Bool} (hu:P.underlying t=some (.map kt et)) (hd:P.underlying kt=some K.d)
 (hz:(zeroValue et).run P w=.ok z w) (hb:w.heap[b]?=some (.map ents clock)) (hm:MEnts w φ Λ K f m ents) {za:AV} (hza:Rep w φ Λ za z) :
 ∃ v,Rep w φ Λ (A2 f za (bg m k)) v∧(Instr.lookup t (.map (some b)) (K.kv k) ok).run P w=.ok (if ok then .tuple #[v,.bool (bg m k).isSome] else v) w:=by
 have hck:=MapKept.run_checkKey (w:=w) hd (K.isKey k) ents.isEmpty 9999;rcases ux m k with ⟨h1,h2,_,_⟩|⟨j,p,h1,h2,h3,h4,_,_⟩
 · have hf:=MapKept.run_findKey (w:=w) hd (hm.none h2)
   refine ⟨z,by rw [h1];exact hza,?_⟩;rw [h1];simp [Instr.lookup,run_underlying hu,MapKept.run_getObj_map hb,hck,hf,hz,Result.andThen]
 · obtain ⟨e,e1,e2,e3,e4⟩:=hm.some h1 h2 h3
   have hf:=MapKept.run_findKey (w:=w) hd e4;refine ⟨e.val,by rw [h4];exact e3,?_⟩;rw [h4];simp [Instr.lookup,run_underlying hu,MapKept.run_getObj_map hb,hck,hf,Result.andThen]
theorem ey {t kt et:TypeId} {x y:Operand} {id:Nat} (K:MKey κ) {f:β→AV} {m:List (κ×β)} {k:κ} {ti tj:TI} {r:AV} (ho:o.op=.lookup t x y false:=by exact rfl) (hx:s.ev x=.mp id 0:=by exact rfl) (hy:s.ev y=.v (K.kv k):=by exact rfl)
 (hob:s.h id=some (.map (me K f m)):=by exact rfl) (ht:te.get t=some ti:=by exact rfl) (hk:ti.k=.map kt et:=by exact rfl) (hkd:Tryz.prog.underlying kt=some K.d:=by exact rfl) (he:te.get et=some tj:=by exact rfl) (ha:tj.k.agg=false:=by exact rfl)
 (hr:A2 f (.v ((tj.zero.map ZC.val).headD undef)) (bg m k)=r:=by first|exact x7 _|exact ur _|exact rfl)
 (hdd:o.dst=d:=by conv=>lhs;whnf) (hd:d.all (Nat.blt · n)=true:=by exact rfl):OpOk Tryz.prog n o s (s.put d r):=
 .val hdd hd fun Λ w φ a hs=>by
  obtain ⟨l,b,ents,clock,h1,h2,h3,h4,h5⟩:=qx hs.hs hob;have hxv:=hs.ev x;rw [hx] at hxv;have e1:=q8 hxv h1 h3 h2;have e2:=cc hs hy;obtain ⟨z,z1,z2,z3⟩:=(te_ok.tells he).run_zero w;rw [ha] at z3;obtain ⟨v,v1,v2⟩:=pU (P:=Tryz.prog) (k:=k) (ok:=false) ((te_ok.tells ht).map hk) hkd z1 h4 h5 (za:=.v ((tj.zero.map ZC.val).headD undef)) (by rw [z3];exact .v);exact ⟨v,by simp [execOp,ho,e1,e2,v2],hr▸v1⟩
theorem y3 {t kt et:TypeId} {x y:Operand} {id:Nat} (K:MKey κ) {f:β→AV} {m:List (κ×β)} {k:κ} {ti tj:TI} {r:AV} (ho:o.op=.lookup t x y true:=by exact rfl) (hx:s.ev x=.mp id 0:=by exact rfl) (hy:s.ev y=.v (K.kv k):=by exact rfl)
 (hob:s.h id=some (.map (me K f m)):=by exact rfl) (ht:te.get t=some ti:=by exact rfl) (hk:ti.k=.map kt et:=by exact rfl) (hkd:Tryz.prog.underlying kt=some K.d:=by exact rfl) (he:te.get et=some tj:=by exact rfl) (ha:tj.k.agg=false:=by exact rfl)
 (hr:A2 f (.v ((tj.zero.map ZC.val).headD undef)) (bg m k)=r:=by first|exact x7 _|exact ur _|exact rfl)
 (hdd:o.dst=d:=by conv=>lhs;whnf) (hd:d.all (Nat.blt · n)=true:=by exact rfl):OpOk Tryz.prog n o s (s.put d (.tup [r,tf (bg m k).isSome])):=
 .val hdd hd fun Λ w φ a hs=>by
  obtain ⟨l,b,ents,clock,h1,h2,h3,h4,h5⟩:=qx hs.hs hob;have hxv:=hs.ev x;rw [hx] at hxv;have e1:=q8 hxv h1 h3 h2;have e2:=cc hs hy;obtain ⟨z,z1,z2,z3⟩:=(te_ok.tells he).run_zero w;rw [ha] at z3;obtain ⟨v,v1,v2⟩:=pU (P:=Tryz.prog) (k:=k) (ok:=true) ((te_ok.tells ht).map hk) hkd z1 h4 h5 (za:=.v ((tj.zero.map ZC.val).headD undef)) (by rw [z3];exact .v);refine ⟨_,by simp [execOp,ho,e1,e2,v2];rfl,.tup (fun j=>if j=0 then v else .bool (bg m k).isSome) rfl (fun j hj=>?_) (fun j c hj=>?_)⟩
  · match j,hj with
    | 0,_=>rfl
    | 1,_=>rfl
  · match j,hj with
    | 0,hj=>cases hj;exact hr▸v1
    | 1,hj=>cases hj;exact .v
theorem Chg.map {w:World} {φ:aD} {Λ:aW} {h:aX} (hs:HSim w φ Λ h) {id b:Nat} {l:Loc} {ents:Array MapEntry} {clock:Nat} (hl:φ id=some l) (hbo:l.bo=some (b,0)) (hb:w.heap[b]?=some (.map ents clock)) (ob:Obj) (hno:∀ arr T m,ob≠.cells arr T m:=by exact fun _ _ _ h=>by cases h) :
 Chg w φ Λ h id l { w with heap:=w.heap.setIfInBounds b ob } where
 hs:=hs
 size:=by simp
 os:=rfl
 tape:=rfl
 output:=rfl
 other k hk hne:=(MapKept.heap_set hb).2 k (hne l b 0 hl hbo)
 loc b' o' h':=by
  rw [hbo] at h';cases h';exact ⟨by have:=(Array.getElem?_eq_some_iff.1 hb).1;simpa using this,.inr ⟨l,0,hl,hbo⟩⟩
 ver l0 h0:=by rw [hl] at h0;cases h0;exact .inl rfl
 sizes l0 h0 _ b0 o0 arr T mm hb0 hh:=by
  rw [hl] at h0;cases h0;rw [hbo] at hb0;cases hb0;rw [hb] at hh;cases hh
 fro:=.one (b0:=b) (fun k hk=>(MapKept.heap_set hb).2 k hk) fun _ arr T lo hi k=>by
  have hlt:b<w.heap.size:=(Array.getElem?_eq_some_iff.1 hb).1;rw [Array.getElem?_setIfInBounds_self_of_lt hlt] at k;exact absurd (Option.some.inj k) (hno _ _ _)
theorem gf {t kt et:TypeId} {x y z:Operand} {id:Nat} (K:MKey κ) {f:β→AV} {m:List (κ×β)} {k:κ} (v:β) {ti:TI} (ho:o.op=.mapUpdate t x y z:=by exact rfl) (hx:s.ev x=.mp id 0:=by exact rfl) (hy:s.ev y=.v (K.kv k):=by exact rfl)
 (hob:s.h id=some (.map (me K f m)):=by exact rfl) (hz:s.ev z=f v:=by exact rfl) (ht:te.get t=some ti:=by exact rfl) (hk:ti.k=.map kt et:=by exact rfl) (hkd:Tryz.prog.underlying kt=some K.d:=by exact rfl)
 (hdd:o.dst=d:=by conv=>lhs;whnf) (hd:d.all (Nat.blt · n)=true:=by exact rfl):OpOk Tryz.prog n o s ((s.seth id (some (.map (me K f (cp m k v))))).put d (.v undef)):=
 .chg hdd hd fun Λ w φ a hs=>by
  obtain ⟨l,b,ents,clock,h1,h2,h3,h4,h5⟩:=qx hs.hs hob;have hxv:=hs.ev x;rw [hx] at hxv;have e1:=q8 hxv h1 h3 h2;have e2:=cc hs hy;have e3:=hs.ev z;rw [hz] at e3;have hu:=(te_ok.tells ht).map hk;have hck:=MapKept.run_checkKey (w:=w) hkd (K.isKey k) false 9999;rcases ux m k with ⟨g1,g2,g3,_⟩|⟨j,p,g1,g2,g3,g4,g5,_⟩
  · have hf:=MapKept.run_findKey (w:=w) hkd (h5.none g2)
    have hc:=Chg.map hs.hs h1 h2 h4 (.map (ents.push { key:=K.kv k,val:=a.eval z,born:=clock }) (clock+1));refine ⟨.skip,_,l,?_,hc,⟨b,_,_,h2,h3,(MapKept.heap_set h4).1,?_,fun q r hq=>?_⟩,undef,.inr ⟨rfl,rfl⟩,.v⟩
    · simp [execOp,ho,e1,e2,Instr.mapUpdate,run_underlying hu,MapKept.run_getObj_map h4,hck,hf,Result.andThen,MapKept.run_setObj_map _ h4]
    · rw [g3];simp [me,h5.size]
    · rw [g3,me,List.getElem?_map,Option.map_eq_some_iff] at hq
      obtain ⟨p,hp,rfl⟩:=hq;by_cases hlt:q<m.length
      · rw [List.getElem?_append_left hlt] at hp
        obtain ⟨e,q1,q2,q3⟩:=h5.at' q p hp;exact ⟨e,by rw [Array.getElem?_push,if_neg (by rw [h5.size];omega)];exact q1,q2,hc.rep q3⟩
      · rw [List.getElem?_append_right (by omega)] at hp
        have hq0:q-m.length=0:=by
         have:=(List.getElem?_eq_some_iff.1 hp).1;simp at this;omega
        rw [hq0] at hp;simp at hp;subst hp;exact ⟨{ key:=K.kv k,val:=a.eval z,born:=clock },by rw [Array.getElem?_push,if_pos (by rw [h5.size];omega)],rfl,hc.rep e3⟩
  · obtain ⟨e,q1,q2,q3,q4⟩:=h5.some g1 g2 g3
    have hf:=MapKept.run_findKey (w:=w) hkd q4;have hc:=Chg.map hs.hs h1 h2 h4 (.map (ents.modify j fun e=>{ e with key:=K.kv k,val:=a.eval z }) clock);refine ⟨.skip,_,l,?_,hc,⟨b,_,_,h2,h3,(MapKept.heap_set h4).1,?_,fun q r hq=>?_⟩,undef,.inr ⟨rfl,rfl⟩,.v⟩
    · simp [execOp,ho,e1,e2,Instr.mapUpdate,run_underlying hu,MapKept.run_getObj_map h4,hck,hf,Result.andThen,MapKept.run_setObj_map _ h4,q1,q2,Instr.keyThatStays,K.same]
    · rw [g5];simp [me,h5.size]
    · rw [g5,me,List.getElem?_map,Option.map_eq_some_iff] at hq
      obtain ⟨p',hp,rfl⟩:=hq;rw [List.getElem?_set] at hp;by_cases hjq:j=q
      · subst hjq
        have hlt:=(List.getElem?_eq_some_iff.1 g1).1;simp [hlt] at hp;subst hp;exact ⟨{ e with key:=K.kv k,val:=a.eval z },by rw [Array.getElem?_modify,if_pos rfl,q1];rfl,rfl,hc.rep e3⟩
      · rw [if_neg hjq] at hp
        obtain ⟨e',r1,r2,r3⟩:=h5.at' q p' hp;exact ⟨e',by rw [Array.getElem?_modify,if_neg hjq];exact r1,r2,hc.rep r3⟩
theorem zG {t t2 kt et:TypeId} {x y:Operand} {id:Nat} (K:MKey κ) {f:β→AV} {m:List (κ×β)} {k:κ} {ti:TI} (ho:o.op=.call { callee:=.builtin .delete,args:=#[x,y],argTypes:=#[t,t2] }:=by exact rfl) (hx:s.ev x=.mp id 0:=by exact rfl) (hy:s.ev y=.v (K.kv k):=by exact rfl)
 (hob:s.h id=some (.map (me K f m)):=by exact rfl) (ht:te.get t=some ti:=by exact rfl) (hk:ti.k=.map kt et:=by exact rfl) (hkd:Tryz.prog.underlying kt=some K.d:=by exact rfl)
 (hdd:o.dst=d:=by conv=>lhs;whnf) (hd:d.all (Nat.blt · n)=true:=by exact rfl):OpOk Tryz.prog n o s ((s.seth id (some (.map (me K f (eJ m k))))).put d (.tup [])):=
 .chg hdd hd fun Λ w φ a hs=>by
  obtain ⟨l,b,ents,clock,h1,h2,h3,h4,h5⟩:=qx hs.hs hob;have hxv:=hs.ev x;rw [hx] at hxv;have e1:=q8 hxv h1 h3 h2;have e2:=cc hs hy;have hu:=(te_ok.tells ht).map hk;have hck:=MapKept.run_checkKey (w:=w) hkd (K.isKey k) ents.isEmpty 9999;have ht0:∀ (w':World) φ',Rep w' φ' Λ (.tup []) (.tuple #[]):=fun w' φ'=>.tup (fun _=>undef) rfl (fun j hj=>by simp at hj) (fun j c hj=>by simp at hj)
  rcases ux m k with ⟨g1,g2,_,g3⟩|⟨j,p,g1,g2,g3,g4,_,g5⟩
  · have hf:=MapKept.run_findKey (w:=w) hkd (h5.none g2)
    have hc:=Chg.map hs.hs h1 h2 h4 (.map ents clock);refine ⟨.value (.tuple #[]),_,l,?_,hc,⟨b,_,_,h2,h3,(MapKept.heap_set h4).1,?_,fun q r hq=>?_⟩,.tuple #[],.inl rfl,ht0 _ _⟩
    · simp [execOp,ho,resolve,invoke,builtin,e1,e2,Builtin.delete_,run_underlying hu,MapKept.run_getObj_map h4,hck,hf,Result.andThen,MapKept.run_setObj_map _ h4]
    · rw [g3];simp [me,h5.size]
    · rw [g3,me,List.getElem?_map,Option.map_eq_some_iff] at hq
      obtain ⟨p,hp,rfl⟩:=hq;obtain ⟨e,q1,q2,q3⟩:=h5.at' q p hp;exact ⟨e,q1,q2,hc.rep q3⟩
  · obtain ⟨e,q1,q2,q3,q4⟩:=h5.some g1 g2 g3
    have hf:=MapKept.run_findKey (w:=w) hkd q4;have hc:=Chg.map hs.hs h1 h2 h4 (.map (ents.eraseIdxIfInBounds j) clock);have hjl:j<ents.size:=(Array.getElem?_eq_some_iff.1 q1).1;have hl:(ents.eraseIdxIfInBounds j).toList=ents.toList.eraseIdx j:=by
     simp [Array.eraseIdxIfInBounds,hjl]
    refine ⟨.value (.tuple #[]),_,l,?_,hc,⟨b,_,_,h2,h3,(MapKept.heap_set h4).1,?_,fun q r hq=>?_⟩,.tuple #[],.inl rfl,ht0 _ _⟩
    · simp [execOp,ho,resolve,invoke,builtin,e1,e2,Builtin.delete_,run_underlying hu,MapKept.run_getObj_map h4,hck,hf,Result.andThen,MapKept.run_setObj_map _ h4]
    · rw [g5,← Array.length_toList,hl];simp [me,List.length_eraseIdx,h5.size]
    · rw [g5,me,List.getElem?_map,Option.map_eq_some_iff] at hq
      obtain ⟨p',hp,rfl⟩:=hq;rw [List.getElem?_eraseIdx] at hp;rw [← Array.getElem?_toList,hl,List.getElem?_eraseIdx];split at hp
      · rename_i hlt
        rw [if_pos hlt,Array.getElem?_toList];obtain ⟨e',r1,r2,r3⟩:=h5.at' q p' hp;exact ⟨e',r1,r2,hc.rep r3⟩
      · rename_i hlt
        rw [if_neg hlt,Array.getElem?_toList];obtain ⟨e',r1,r2,r3⟩:=h5.at' (q+1) p' hp;exact ⟨e',r1,r2,hc.rep r3⟩
end rules
section
variable {P:Program} {n:Nat} {ops:Array Oper} {Q:bB} {QP:Value→AS→Prop}
def OpAtX (P:Program) (n:Nat) (ops:Array Oper) (QP:Value→AS→Prop) (i:Nat) (s s':AS):Prop:=
 ∀ Λ w φ a,Sim n w φ Λ s a→∀ (K:Act→World→Prop) (QQ:Exit→Act→World→Prop),(∀ w' φ' a',Sim n w' φ' Λ s' a'→Goes w φ w' φ'→K a' w')→
  (∀ x s2 w' φ' a',QP x s2→Sim n w' φ' Λ s2 a'→Goes w φ w' φ'→QQ (.panic [{ v:=x,recovered:=false }]) a' w')→wpOp P ops QQ i K a w
theorem OpAt.x {i:Nat} {s s':AS} (h:OpAt P n ops i s s'):OpAtX P n ops QP i s s':=fun Λ w φ a hs K QQ hK _=>h Λ w φ a hs K QQ hK
theorem OpAtX.go {i:Nat} {o:Oper} {s s':AS} (ho:ops[i]?=some o) (hg:o.guard=none) (h:OpX P n o (fun e s2=>match e with|.panic x=>QP x s2|_=>False) s (fun s2=>s2=s')):OpAtX P n ops QP i s s':=by
 intro Λ w φ a hs K QQ hK hP;simp only [wpOp,ho,Region.wanted,hg,if_true];exact .inl (h Λ w φ a hs _ _ (fun s2 w' φ' a' e hs' g=>hK w' φ' a' (e▸hs') g) (fun x s2 w' φ' a' q hs' g=>hP x s2 w' φ' a' q hs' g))
def DS.OkX (P:Program) (n:Nat) (ops:Array Oper) (QP:Value→AS→Prop) (e:DS) (s:AS):Prop:=
 ∀ s',(∀ t∈e.rt,s'.t t=s.t t)→(∀ k∈e.rh,s'.h k=s.h k)→OpAtX P n ops QP e.i s' (e.upd s')
theorem DS.OkX.congr {e:DS} {s s2:AS} (h:e.OkX P n ops QP s) (ht:∀ t∈e.rt,s2.t t=s.t t) (hh:∀ k∈e.rh,s2.h k=s.h k):e.OkX P n ops QP s2:=
 fun s' h1 h2=>h s' (fun t k=>(h1 t k).trans (ht t k)) (fun t k=>(h2 t k).trans (hh t k))
theorem DS.OkX.over {a b:DS} {s:AS} (hi:eA a b=true) (h:b.OkX P n ops QP s):b.OkX P n ops QP (a.upd s):=by
 obtain ⟨h1,h2,h3,h4⟩:=eL hi;refine h.congr (fun t ht=>?_) (fun k hk=>?_)
 · rw [DS.upd_t,if_neg]
   intro e;exact (h1 t e).1 ht
 · rw [DS.upd_h,jo hi hk]
theorem DS.OkX.under {a b:DS} {s:AS} (hi:eA a b=true) (h:b.OkX P n ops QP (a.upd s)):b.OkX P n ops QP s:=by
 obtain ⟨h1,h2,h3,h4⟩:=eL hi;refine h.congr (fun t ht=>?_) (fun k hk=>?_)
 · rw [DS.upd_t,if_neg]
   intro e;exact (h1 t e).1 ht
 · rw [DS.upd_h,jo hi hk]
def GoodX (P:Program) (n:Nat) (ops:Array Oper) (QP:Value→AS→Prop):List DS→AS→Prop
 | [],_=>True
 | e::r,s=>e.OkX P n ops QP s∧GoodX P n ops QP r (e.upd s)
theorem GoodX.front {x:DS} {post:List DS}:∀ {pre:List DS} {s:AS},GoodX P n ops QP (pre++x::post) s→(∀ y∈pre,eA y x=true∧y.wf=true)→x.wf=true→
 GoodX P n ops QP (x::(pre++post)) s∧cS (pre++x::post) s=cS (x::(pre++post)) s
 | [],s,h,_,_=>⟨h,rfl⟩
 | y::pre,s,h,hi,hx=>by
  obtain ⟨h1,h2⟩:=h;obtain ⟨h3,h4⟩:=GoodX.front (pre:=pre) (s:=y.upd s) h2 (fun z hz=>hi z (List.mem_cons_of_mem _ hz)) hx;obtain ⟨h5,h6⟩:=h3;obtain ⟨hy,hyw⟩:=hi y List.mem_cons_self;have hc:=tR (jn hy) hyw s;refine ⟨⟨h5.under hy,?_⟩,?_⟩
  · show y.OkX P n ops QP (x.upd s)∧GoodX P n ops QP (pre++post) (y.upd (x.upd s))
    rw [← hc];exact ⟨h1.over (jn hy),h6⟩
  · show cS (pre++x::post) (y.upd s)=cS (pre++post) (y.upd (x.upd s))
    rw [h4,← hc];rfl
theorem xS {es:List DS} (hok:ep ops es=true) {QQ:Exit→Act→World→Prop} {Λ:aW}:∀ (rem:List DS) (listed:Array Bool) (s:AS) (a:Act) (w:World) (φ:aD),Sim n w φ Λ s a→
 listed.size=ops.size→FK ops listed→(∀ k,k<ops.size→listed.getD k true=false→∃ e∈rem,e.i=k)→(∀ e∈rem,listed.getD e.i true=false)→rem.Sublist es→
 GoodX P n ops QP rem s→(∀ w' φ' a',Sim n w' φ' Λ (cS rem s) a'→Goes w φ w' φ'→QQ .normal a' w')→(∀ x s2 w' φ' a',QP x s2→Sim n w' φ' Λ s2 a'→Goes w φ w' φ'→QQ (.panic [{ v:=x,recovered:=false }]) a' w')→wpAny P .any ops QQ rem.length listed a w:=by
 simp only [ep,Bool.and_eq_true] at hok;obtain ⟨⟨⟨hlen,hidx⟩,hedge⟩,hpair⟩:=hok;have hlen:=Nat.eq_of_beq_eq_true hlen;have hix:∀ (k:Nat) e,es[k]?=some e→e.i=k∧e.wf=true:=by
  intro k e hk;have hm:(e,k)∈es.zipIdx:=by
   rw [List.mem_iff_getElem?];exact ⟨k,by simp [hk]⟩
  have:=List.all_eq_true.1 hidx _ hm;simp only [Bool.and_eq_true] at this;exact ⟨Nat.eq_of_beq_eq_true this.1,this.2⟩
 have hed:∀ k o,ops[k]?=some o→∀ e∈o.after,Region.binds .any e=true→e.on<k:=by
  intro k o hk e he hb;have hlt:k<ops.size:=(Array.getElem?_eq_some_iff.1 hk).1;have:=List.all_eq_true.1 hedge k (List.mem_range.2 hlt);simp only [hk] at this;have h2:=List.all_eq_true.1 this e (by simpa using he);simp only [hb,Bool.not_true,Bool.false_or] at h2;exact Nat.blt_eq.mp h2
 have hmem:∀ x∈es,es[x.i]?=some x∧x.wf=true:=by
  intro x hx;obtain ⟨k,hk⟩:=List.mem_iff_getElem?.1 hx;obtain ⟨h1,h2⟩:=hix k x hk;rw [h1];exact ⟨hk,h2⟩
 have hpw:es.Pairwise (fun x y=>x.i<y.i):=by
  rw [List.pairwise_iff_getElem];intro a b ha hb hab;rw [(hix a es[a] (List.getElem?_eq_getElem ha)).1,(hix b es[b] (List.getElem?_eq_getElem hb)).1];exact hab
 have hind:∀ x∈es,∀ y∈es,x.i<y.i→eA x y=true∨dep ops ops.size y.i x.i=true:=by
  intro x hx y hy hlt;have hyl:y.i<es.length:=(List.getElem?_eq_some_iff.1 (hmem y hy).1).1;have h1:=List.all_eq_true.1 (List.all_eq_true.1 hpair y.i (List.mem_range.2 hyl)) x.i (List.mem_range.2 hlt);simp only [(hmem x hx).1,(hmem y hy).1,Bool.or_eq_true] at h1;exact h1
 have hflip:∀ (listed:Array Bool) (k:Nat),listed.size=ops.size→listed.getD k true=false→listed.getD k false=false:=by
  intro listed k _ h;rw [Array.getD_eq_getD_getElem?] at h ⊢;cases hk:listed[k]? with
  | none=>rw [hk] at h;simp at h
  | some b=>rw [hk] at h;simpa using h
 intro rem;generalize hr:rem.length=m;induction m generalizing rem with
 | zero=>
  intro listed s a w φ hs hsz hdown hall hun hsub hgood hQ hP;have hnil:rem=[]:=List.eq_nil_of_length_eq_zero hr;subst hnil;refine ⟨?_,hQ w φ a hs (Goes.refl _ _)⟩;rw [List.eq_nil_iff_forall_not_mem];intro j hj;obtain ⟨h1,o,ho,_⟩:=mem_ready.1 hj;obtain ⟨e,he,_⟩:=hall j (Array.getElem?_eq_some_iff.1 ho).1 h1;simp at he
 | succ m ih=>
  intro listed s a w φ hs hsz hdown hall hun hsub hgood hQ hP;have hpr:rem.Pairwise (fun x y=>x.i<y.i):=List.Pairwise.sublist hsub hpw;constructor
  · intro hnone
    exfalso;cases rem with
    | nil=>simp at hr
    | cons x0 r=>
     have hx0:=hsub.subset List.mem_cons_self;have hlt:x0.i<ops.size:=by rw [← hlen];exact (List.getElem?_eq_some_iff.1 (hmem x0 hx0).1).1
     have:x0.i∈Region.ready .any ops listed:=by
      rw [mem_ready];refine ⟨hun x0 List.mem_cons_self,ops[x0.i],Array.getElem?_eq_getElem hlt,fun e he hb=>?_⟩;have hlt2:=hed x0.i _ (Array.getElem?_eq_getElem hlt) e he hb;cases hl:listed.getD e.on true with
      | false=>
       obtain ⟨e',he',hi'⟩:=hall e.on (by omega) hl;rcases List.mem_cons.1 he' with rfl|he'
       · omega
       · have:=(List.pairwise_cons.1 hpr).1 e' he'
         omega
      | true=>
       rw [Array.getD_eq_getD_getElem?,Array.getElem?_eq_getElem (by omega)] at hl ⊢;exact hl
     rw [hnone] at this;simp at this
  · intro i hi
    obtain ⟨h1,o,ho,hpre⟩:=mem_ready.1 hi;have hilt:i<ops.size:=(Array.getElem?_eq_some_iff.1 ho).1;obtain ⟨x,hx,hxi⟩:=hall i hilt h1;subst hxi;obtain ⟨pre,post,rfl⟩:=List.append_of_mem hx;have hxe:=hsub.subset hx;have hpp:=(List.pairwise_append.1 hpr).2.2;have hin:∀ y∈pre,eA y x=true∧y.wf=true:=by
     intro y hy;have hym:y∈pre++x::post:=List.mem_append_left _ hy;have hye:=hsub.subset hym;refine ⟨?_,(hmem y hye).2⟩;rcases hind y hye x hxe (hpp y hy x List.mem_cons_self) with h|h
     · exact h
     · have h2:=mt hdown hsz _ _ _ h (fun o' ho' e he hb=>by
        rw [ho] at ho';cases ho';exact hpre e he hb)
       have h3:=hflip listed y.i hsz (hun y hym);rw [h3] at h2;cases h2
    obtain ⟨hg,hfin⟩:=GoodX.front hgood hin (hmem x hxe).2;have hstep:=hg.1 s (fun _ _=>rfl) (fun _ _=>rfl);refine hstep Λ w φ a hs _ QQ (fun w' φ' a' hs' g=>?_) hP;have hlen2:(pre++post).length=m:=by simp at hr ⊢;omega
    have hne:∀ y∈pre++post,y.i≠x.i:=by
     intro y hy;rcases List.mem_append.1 hy with hy|hy
     · have:=hpp y hy x List.mem_cons_self
       omega
     · have:=(List.pairwise_cons.1 (List.pairwise_append.1 hpr).2.1).1 y hy
       omega
    refine ih (pre++post) hlen2 (listed.setIfInBounds x.i true) (x.upd s) a' w' φ' hs' (by simpa using hsz) ?_ ?_ ?_ ?_ hg.2 ?_ (fun x s2 w2 φ2 a2 q hs2 g2=>hP x s2 w2 φ2 a2 q hs2 (g.trans g2))
    · intro k o' ho' hk e he hb
      by_cases hkx:k=x.i
      · subst hkx
        rw [ho] at ho';cases ho';exact getD_set_true (hpre e he hb)
      · rw [getD_set_ne true (fun e=>hkx e.symm)] at hk
        exact getD_set_true (hdown k o' ho' hk e he hb)
    · intro k hk hk2
      by_cases hkx:k=x.i
      · subst hkx
        rw [Array.getD_eq_getD_getElem?,Array.getElem?_setIfInBounds_self_of_lt (by omega)] at hk2;simp at hk2
      · rw [getD_set_ne true (fun e=>hkx e.symm)] at hk2
        obtain ⟨e,he,hei⟩:=hall k hk hk2;refine ⟨e,?_,hei⟩;rcases List.mem_append.1 he with h|h
        · exact List.mem_append_left _ h
        · rcases List.mem_cons.1 h with rfl|h
          · exact absurd hei.symm hkx
          · exact List.mem_append_right _ h
    · intro e he
      rw [getD_set_ne true (fun h=>hne e he h.symm)];refine hun e ?_;rcases List.mem_append.1 he with h|h
      · exact List.mem_append_left _ h
      · exact List.mem_append_right _ (List.mem_cons_of_mem _ h)
    · refine List.Sublist.trans ?_ hsub
      exact List.Sublist.append (List.Sublist.refl _) (List.sublist_cons_self _ _)
    · intro w2 φ2 a2 hs2 g2
      refine hQ w2 φ2 a2 ?_ (g.trans g2);rw [hfin];exact hs2
theorem AWp.drawX {id:Nat} {s:AS} {QP:Value→AS→Prop} (es:List DS) (hmix:P.follows .mixedOrders=true) (hok:ep ops es=true) (hgood:GoodX P n ops QP es s) (hQ:Q .normal (cS es s)) (hQP:∀ x s2,QP x s2→Q (.panic x) s2) :
 AWp P n (.region id ops true) Q s:=by
 intro Λ w φ a hs QQ hQQ;refine wp_region_any hmix ?_;have hlen:es.length=ops.size:=by
  simp only [ep,Bool.and_eq_true] at hok;exact Nat.eq_of_beq_eq_true hok.1.1.1
 have hix:∀ (k:Nat) e,es[k]?=some e→e.i=k:=by
  intro k e hk;simp only [ep,Bool.and_eq_true] at hok;have hm:(e,k)∈es.zipIdx:=by
   rw [List.mem_iff_getElem?];exact ⟨k,by simp [hk]⟩
  have:=List.all_eq_true.1 hok.1.1.2 _ hm;simp only [Bool.and_eq_true] at this;exact Nat.eq_of_beq_eq_true this.1
 have:=xS (P:=P) (n:=n) hok (QQ:=QQ) (Λ:=Λ) es (Array.replicate ops.size false) s a w.drew φ hs.drew (by simp) ?_ ?_ ?_ (List.Sublist.refl _) hgood
  (fun w' φ' a' hs' g=>hQQ .normal _ w' φ' a' hQ hs' ((gR w φ).trans g)) (fun x s2 w' φ' a' q hs' g=>hQQ (.panic x) s2 w' φ' a' (hQP x s2 q) hs' ((gR w φ).trans g))
 · rw [hlen] at this
   exact this
 · intro k o ho hk
   have hlt:k<ops.size:=(Array.getElem?_eq_some_iff.1 ho).1;rw [Array.getD_eq_getD_getElem?,Array.getElem?_replicate,if_pos hlt] at hk;simp at hk
 · intro k hk _
   have hk':k<es.length:=by omega
   exact ⟨es[k],List.getElem_mem hk',hix k _ (List.getElem?_eq_getElem hk')⟩
 · intro e he
   obtain ⟨k,hk⟩:=List.mem_iff_getElem?.1 he;have hkl:k<ops.size:=by rw [← hlen];exact (List.getElem?_eq_some_iff.1 hk).1
   rw [hix k e hk,Array.getD_eq_getD_getElem?,Array.getElem?_replicate,if_pos hkl];rfl
theorem DS.okX_over {e:DS} {s:AS} (h:∀ s0,OpAtX P n ops QP e.i (over s e.rt e.rh s0) (e.upd (over s e.rt e.rh s0))):e.OkX P n ops QP s:=fun s' h1 h2=>by
 have:=h s'
 rwa [wV h1 h2] at this
theorem AWp.drawsX {id:Nat} {s:AS} (QP:Value→AS→Prop) (es ks:List DS) (hmix:P.follows .mixedOrders=true) (hk:es.map DS.strip=ks) (hok:ep ops ks=true) (hgood:GoodX P n ops QP es s) (hQ:Q .normal (cS es s)) (hQP:∀ x s2,QP x s2→Q (.panic x) s2) :
 AWp P n (.region id ops true) Q s:=AWp.drawX es hmix (by rw [← ng,hk];exact hok) hgood hQ hQP
end
def oA (o:Option Value) (r:AV) (hl:List (Nat×AObj)) (hp:Int→List (Nat×AObj)):AEnd→aX→Prop:=fun e h=>
 match o with
 | none=>e=.ret r∧h=ao hl
 | some x=>e=.panic x∧∃ k,h=ao (hp k)
section rules
variable {n:Nat} {s:AS} {o:Oper} {d:Option Tmp} {Q:bB}
theorem callP {K:AS→Prop} {fop:Operand} {argops:Array Operand} {tys:Array TypeId} {f:FuncId} {first caps A:List AV} {r r':AV} {po:Option Value} {hp hp':Int→List (Nat×AObj)} (lv:Nat) (σ ν:IdMap) (hb:List (Nat×AObj)) {hl:List (Nat×AObj)} (hl':List (Nat×AObj))
 (ho:o.op=.call { callee:=.value fop,args:=argops,argTypes:=tys }) (hf:s.ev fop=.fn (.func f) first caps) (hc:AC Tryz.prog f A (ao hb) (oA po r hl hp)) (hwf:(σ++ν:IdMap).wf=true) (hwf1:σ.wf=true) (h8:(σ.all fun p=>Nat.blt p.1 8)=true)
 (hfresh:(ν.all fun p=>(s.h p.2).isNone)=true)
 (hobj:BObjs (fun _=>false) σ s.h lv (lv+1) σ hb) (hA:LVals (fun _=>false) σ s.h lv (lv+1) (first++argops.toList.map s.ev++caps) A) (hB:HB (IdMap.to (σ++ν)) (σ++ν) hl hl') (hL:HL lv (IdMap.has (σ++ν)) hl)
 (hBp:∀ k,HB (IdMap.to σ) σ (hp k) (hp' k)) (hLp:∀ k,HL lv (IdMap.has σ) (hp k))
 (hr:r.lev lv=true) (hr2:r.refs (IdMap.has (σ++ν))=true) (hr3:r.ren (IdMap.to (σ++ν))=r') (hdd:o.dst=d) (hd:d.all (Nat.blt · n)=true)
 (hret:po=none→K ((s.setl hl').put d r')) (hpan:∀ x k,po=some x→Q (.panic x) (s.setl (hp' k))):OpX Tryz.prog n o Q s K:=by
 refine OpX.callB lv σ hb ho hf hwf1 (fun c hc=>?_) hobj hA hc hdd hd (fun r2 h' hR=>?_) (fun x h' hR=>?_)
 · obtain ⟨k,hk⟩:=Option.isSome_iff_exists.1 hc
   exact Nat.blt_eq.mp (List.all_eq_true.1 h8 _ (pz hk))
 · cases po with
   | none=>
    obtain ⟨h1,h2⟩:=hR;cases h1;subst h2;exact ⟨σ++ν,uJ hwf hfresh hB hL,hr,hr2,by rw [ou hwf hB,hr3];exact hret rfl⟩
   | some x=>exact absurd hR.1 (by simp)
 · cases po with
   | none=>exact absurd hR.1 (by simp)
   | some y=>
    obtain ⟨h1,k,h2⟩:=hR;cases h1;subst h2;have hwf':(σ++[]:IdMap).wf=true:=by rw [List.append_nil];exact hwf1
    have e:=List.append_nil σ;have hb1:=hBp k;have hb2:=hLp k;refine ⟨σ,?_,by rw [ou hwf1 hb1];exact hpan x k rfl⟩;have:=uJ (ν:=[]) (lv:=lv) (h:=s.h) (hl:=hp k) (hl':=hp' k) hwf' rfl (by rw [e];exact hb1) (by rw [e];exact hb2)
    rwa [e] at this
theorem AOps.callP {ops:Array Oper} {i:Nat} {rest:List Nat} {fop:Operand} {argops:Array Operand} {tys:Array TypeId} {f:FuncId} {first caps A:List AV} {r r':AV} {po:Option Value} {hp hp':Int→List (Nat×AObj)} (lv:Nat) (σ ν:IdMap) {hb:List (Nat×AObj)} {hl:List (Nat×AObj)} (hl':List (Nat×AObj))
 (hc:AC Tryz.prog f A (ao hb) (oA po r hl hp)) (hret:po=none→AOps Tryz.prog n ops Q rest ((s.setl hl').put d r')) (hpan:∀ x k,po=some x→Q (.panic x) (s.setl (hp' k)))
 (hi:ops[i]?=some o:=by exact rfl) (hg:o.guard=none:=by exact rfl) (ho:o.op=.call { callee:=.value fop,args:=argops,argTypes:=tys }:=by exact rfl) (hf:s.ev fop=.fn (.func f) first caps:=by exact rfl)
 (hwf:(σ++ν:IdMap).wf=true:=by exact rfl) (hwf1:σ.wf=true:=by exact rfl) (h8:(σ.all fun p=>Nat.blt p.1 8)=true:=by exact rfl) (hfresh:(ν.all fun p=>(s.h p.2).isNone)=true:=by exact rfl)
 (hobj:BObjs (fun _=>false) σ s.h lv (lv+1) σ hb:=by repeat' (first|exact trivial|exact aK rfl|exact bd rfl rfl|exact aV rfl rfl|exact bw rfl rfl|exact aF (fun _=>rfl)|refine ar ?_|refine ⟨rfl,⟨_,rfl,?_⟩,?_⟩|refine ⟨?_,?_⟩))
 (hA:LVals (fun _=>false) σ s.h lv (lv+1) (first++argops.toList.map s.ev++caps) A:=by repeat' (first|exact trivial|exact aK rfl|exact aV rfl rfl|exact bd rfl rfl|exact bw rfl rfl|exact cJ|exact cT rfl rfl .row (fun _=>rfl) (Nat.le_of_ble_eq_true rfl) (fun _=>rfl)|refine ⟨?_,?_⟩|exact lv_row1 rfl rfl .row (fun _=>rfl) (fun _=>rfl) (by first|omega|(simp;omega))))
 (hB:HB (IdMap.to (σ++ν)) (σ++ν) hl hl':=by repeat' (first|exact trivial|exact cU (lv:=0) (fun _=>rfl)|exact rfl|refine ⟨rfl,rfl,?_,?_⟩))
 (hL:HL lv (IdMap.has (σ++ν)) hl:=by repeat' (first|exact trivial|exact em (fun _=>rfl)|exact ⟨rfl,rfl⟩|refine ⟨?_,?_⟩))
 (hBp:∀ k,HB (IdMap.to σ) σ (hp k) (hp' k):=by intro k;repeat' (first|exact trivial|exact cU (lv:=0) (fun _=>rfl)|exact rfl|refine ⟨rfl,rfl,?_,?_⟩))
 (hLp:∀ k,HL lv (IdMap.has σ) (hp k):=by intro k;repeat' (first|exact trivial|exact em (fun _=>rfl)|exact ⟨rfl,rfl⟩|refine ⟨?_,?_⟩))
 (hr:r.lev lv=true:=by exact rfl) (hr2:r.refs (IdMap.has (σ++ν))=true:=by exact rfl) (hr3:r.ren (IdMap.to (σ++ν))=r':=by conv=>lhs;whnf) (hdd:o.dst=d:=by conv=>lhs;whnf) (hd:d.all (Nat.blt · n)=true:=by exact rfl) :
 AOps Tryz.prog n ops Q (i::rest) s:=
 AOps.consx hi hg (Fw.callP lv σ ν hb hl' ho hf hc hwf hwf1 h8 hfresh hobj hA hB hL hBp hLp hr hr2 hr3 hdd hd hret hpan)
theorem db {ops:Array Oper} {i:Nat} {QP:Value→AS→Prop} {fop:Operand} {argops:Array Operand} {tys:Array TypeId} {f:FuncId} {first caps A:List AV} {r r':AV} {po:Option Value} {hp hp':Int→List (Nat×AObj)} (lv:Nat) (σ ν:IdMap) {hb:List (Nat×AObj)} {hl:List (Nat×AObj)} (hl':List (Nat×AObj))
 (hc:AC Tryz.prog f A (ao hb) (oA po r hl hp)) (hpan:∀ x k,po=some x→QP x (s.setl (hp' k)))
 (hi:ops[i]?=some o:=by exact rfl) (hg:o.guard=none:=by exact rfl) (ho:o.op=.call { callee:=.value fop,args:=argops,argTypes:=tys }:=by exact rfl) (hf:s.ev fop=.fn (.func f) first caps:=by exact rfl)
 (hwf:(σ++ν:IdMap).wf=true:=by exact rfl) (hwf1:σ.wf=true:=by exact rfl) (h8:(σ.all fun p=>Nat.blt p.1 8)=true:=by exact rfl) (hfresh:(ν.all fun p=>(s.h p.2).isNone)=true:=by exact rfl)
 (hobj:BObjs (fun _=>false) σ s.h lv (lv+1) σ hb:=by repeat' (first|exact trivial|exact aK rfl|exact bd rfl rfl|exact aV rfl rfl|exact bw rfl rfl|exact aF (fun _=>rfl)|refine ar ?_|refine ⟨rfl,⟨_,rfl,?_⟩,?_⟩|refine ⟨?_,?_⟩))
 (hA:LVals (fun _=>false) σ s.h lv (lv+1) (first++argops.toList.map s.ev++caps) A:=by repeat' (first|exact trivial|exact aK rfl|exact aV rfl rfl|exact bd rfl rfl|exact bw rfl rfl|exact cJ|exact cT rfl rfl .row (fun _=>rfl) (Nat.le_of_ble_eq_true rfl) (fun _=>rfl)|refine ⟨?_,?_⟩|exact lv_row1 rfl rfl .row (fun _=>rfl) (fun _=>rfl) (by first|omega|(simp;omega))))
 (hB:HB (IdMap.to (σ++ν)) (σ++ν) hl hl':=by repeat' (first|exact trivial|exact cU (lv:=0) (fun _=>rfl)|exact rfl|refine ⟨rfl,rfl,?_,?_⟩))
 (hL:HL lv (IdMap.has (σ++ν)) hl:=by repeat' (first|exact trivial|exact em (fun _=>rfl)|exact ⟨rfl,rfl⟩|refine ⟨?_,?_⟩))
 (hBp:∀ k,HB (IdMap.to σ) σ (hp k) (hp' k):=by intro k;repeat' (first|exact trivial|exact cU (lv:=0) (fun _=>rfl)|exact rfl|refine ⟨rfl,rfl,?_,?_⟩))
 (hLp:∀ k,HL lv (IdMap.has σ) (hp k):=by intro k;repeat' (first|exact trivial|exact em (fun _=>rfl)|exact ⟨rfl,rfl⟩|refine ⟨?_,?_⟩))
 (hr:r.lev lv=true:=by exact rfl) (hr2:r.refs (IdMap.has (σ++ν))=true:=by exact rfl) (hr3:r.ren (IdMap.to (σ++ν))=r':=by conv=>lhs;whnf) (hdd:o.dst=d:=by conv=>lhs;whnf) (hd:d.all (Nat.blt · n)=true:=by exact rfl) :
 OpAtX Tryz.prog n ops QP i s ((s.setl hl').put d r'):=
 OpAtX.go hi hg (Fw.callP (Q:=fun e s2=>match e with|.panic x=>QP x s2|_=>False) lv σ ν hb hl' ho hf hc hwf hwf1 h8 hfresh hobj hA hB hL hBp hLp hr hr2 hr3 hdd hd (fun _=>rfl) hpan)
theorem zF {t:TypeId} {x:Operand} {v:Value} {ti:TI} (ho:o.op=.makeInterface t x:=by exact rfl) (hx:s.ev x=.v v:=by exact rfl) (ht:te.get t=some ti:=by exact rfl) (hk:(match ti.k with|.int _|.bool|.str=>true|_=>false)=true:=by exact rfl)
 (hdd:o.dst=d:=by conv=>lhs;whnf) (hd:d.all (Nat.blt · n)=true:=by exact rfl):OpOk Tryz.prog n o s (s.put d (.v (.iface t v))):=
 .val hdd hd fun Λ w φ a hs=>by
  obtain ⟨ds,h1,h2⟩:=(te_ok.tells ht).desc;refine ⟨.iface t v,?_,.v⟩;cases hk0:ti.k<;>rw [hk0] at h2 hk<;>cases ds<;>simp_all [TK.chk,execOp,cc hs hx,Instr.makeInterface,run_underlying h1]
theorem AOps.panic {ops:Array Oper} {i:Nat} {rest:List Nat} {x:Operand} {t:TypeId} {v:Value} (hQ:Q (.panic (.iface t v)) s) (hi:ops[i]?=some o:=by exact rfl) (hg:o.guard=none:=by exact rfl) (ho:o.op=.panic x:=by exact rfl) (hx:s.ev x=.v (.iface t v):=by exact rfl) :
 AOps Tryz.prog n ops Q (i::rest) s:=
 AOps.consx hi hg fun Λ w φ a hs next QQ hN hP=>by
  have e:=cc hs hx;have hrun:(execOp a.eval o).run Tryz.prog w=.halt (.panic (.iface t v)) w:=by simp [execOp,ho,e,Instr.panic,goPanic]
  unfold Oper.wp;rw [hrun];exact hP (.iface t v) s w φ a hQ hs (Goes.refl _ _)
theorem Post.panicH {te':TE} {fn:Func} {po:Option Value} {r:AV} {hl:List (Nat×AObj)} {hp:Int→List (Nat×AObj)} {x:Value} (lv:Nat) (k:Int) (hx:po=some x) (hobj:BObjs (inl []) (idm (hp k)) s.h lv lv (idm (hp k)) (hp k)) (hpk:dY s.h (dS (hp k))=true) :
 Post te' fn (oA po r hl hp) (.panic x) s:=by
 refine ⟨ao (hp k),fun w φ Λ v k1 k2=>?_,?_⟩
 · obtain ⟨φ2,g1,g2,g3⟩:=zt [] rfl k1 hobj hpk
   exact ⟨φ2,g1,.any,g2⟩
 · rw [hx];exact ⟨rfl,k,rfl⟩
theorem Fin.retP {fn:Func} {po:Option Value} {r:AV} {hl:List (Nat×AObj)} {hp:Int→List (Nat×AObj)} (hx:po=none) (h:Fin te fn (bZ r hl) s):Fin te fn (oA po r hl hp) s:=by
 obtain ⟨xs,r',h',a,b,c,e⟩:=h;subst hx;exact ⟨xs,r',h',a,b,c,e⟩
end rules
section jumps
variable {P:Program} {n:Nat} {Q:bB} {s:AS}
def AExit.jumpTo {α:Type} (l:Nat) (S:α→AS) (I:α→Prop) (Q:bB):bB
 | .goto l',s'=>l'=l∧∃ x,I x∧Weak s' (S x)
 | e,s'=>Q e s'
def AExit.jumpBack {α:Type} (l:Nat) (S:α→AS) (I:α→Prop) (μ:α→Nat) (m:Nat) (Q:bB):bB
 | .goto l',s'=>l'=l∧∃ x,I x∧Weak s' (S x)∧μ x<m
 | e,s'=>Q e s'
theorem pM {c rest:Code} {a:Act} {w:World} {Q:Exit→Act→World→Prop} (l:Nat) (J:Nat→Act→World→Prop) (hf:findLabel c l=some rest)
 (first:c.wp P (Exit.jump l (fun a' w'=>∃ m,J m a' w') Q) a w)
 (pass:∀ m a w,J m a w→rest.wp P (Exit.jump l (fun a' w'=>∃ m',m'<m∧J m' a' w') Q) a w):(Code.scope c).wp P Q a w:=by
 intro b k cs;have hg:gotoIn l (.inScope c::k)=some (.code rest::.inScope c::k):=by simp [gotoIn,hf]
 have key:∀ m a w,J m a w→∃ e a' w',Q e a' w'∧Arrives P (lone (b.at a (.code rest::.inScope c::k)) cs w) b k cs e a' w':=by
  intro m;induction m using Nat.strongRecOn with
  | _ m ih=>
   intro a w hJ;obtain ⟨e,a₁,w₁,hq,harr⟩:=pass m a w hJ b (.inScope c::k) cs;cases e with
   | normal=>exact ⟨.normal,a₁,w₁,hq,Steps.trans harr (.one step_inScope)⟩
   | exit id=>exact ⟨.exit id,a₁,w₁,hq,fun k' hk=>harr k' (by simp [exitTo,hk])⟩
   | goto l'=>
    obtain ⟨rfl,m',hlt,hJ'⟩:=hq;obtain ⟨e₂,a₂,w₂,hq₂,harr₂⟩:=ih m' hlt a₁ w₁ hJ';exact ⟨e₂,a₂,w₂,hq₂,.of_steps (harr _ hg) harr₂⟩
   | ret=>exact ⟨_,a₁,w₁,hq,harr⟩
   | panic ch=>exact ⟨_,a₁,w₁,hq,harr⟩
   | outgrown=>exact ⟨_,a₁,w₁,hq,harr⟩
 obtain ⟨e,a₁,w₁,hq,harr⟩:=first b (.inScope c::k) cs;cases e with
 | normal=>exact ⟨.normal,a₁,w₁,hq,.head step_scope (Steps.trans harr (.one step_inScope))⟩
 | exit id=>exact ⟨.exit id,a₁,w₁,hq,fun k' hk=>.head step_scope (harr k' (by simp [exitTo,hk]))⟩
 | goto l'=>
  obtain ⟨rfl,m,hJ'⟩:=hq;obtain ⟨e₂,a₂,w₂,hq₂,harr₂⟩:=key m a₁ w₁ hJ';exact ⟨e₂,a₂,w₂,hq₂,.of_steps (.head step_scope (harr _ hg)) harr₂⟩
 | ret=>exact ⟨_,a₁,w₁,hq,.of_steps (.one step_scope) harr⟩
 | panic ch=>exact ⟨_,a₁,w₁,hq,.of_steps (.one step_scope) harr⟩
 | outgrown=>exact ⟨_,a₁,w₁,hq,.of_steps (.one step_scope) harr⟩
theorem AWp.jumps {α:Type} {c rest:Code} (l:Nat) (S:α→AS) (I:α→Prop) (μ:α→Nat) (hf:findLabel c l=some (.seq .skip rest))
 (first:(∀ s',(∃ x,I x∧Weak s' (S x))→AWp P n (.seq (.label l) rest) (AExit.jumpTo l S I Q) s')→AWp P n c (AExit.jumpTo l S I Q) s)
 (pass:∀ x,I x→AWp P n rest (AExit.jumpBack l S I μ (μ x) Q) (S x)):AWp P n (.scope c) Q s:=by
 have hpass:∀ x,I x→AWp P n rest (AExit.jumpTo l S I Q) (S x):=fun x hx=>(pass x hx).mono fun e s2 q=>by
  cases e with
  | goto l'=>obtain ⟨h1,y,h2,h3,_⟩:=q;exact ⟨h1,y,h2,h3⟩
  | normal=>exact q
  | exit id=>exact q
  | ret=>exact q
  | panic v=>exact q
 have h1:=first fun s' ⟨x,hx,hw⟩=>AWp.seq (AWp.label (AWp.weak hw ((hpass x hx).mono fun e s2 q=>q)))
 intro Λ w φ a hs QQ hQ;refine pM l (fun m a' w'=>∃ x φ',μ x=m∧I x∧Sim n w' φ' Λ (S x) a'∧Goes w φ w' φ') hf ?_ ?_
 · refine h1 Λ w φ a hs _ fun ae s2 w2 φ2 a2 q2 hs2 g2=>?_
   cases ae with
   | goto l'=>
    obtain ⟨e,x,hx,hw⟩:=q2;obtain ⟨φ3,hs3,g3⟩:=hw n Λ w2 φ2 a2 hs2;exact ⟨e,μ x,x,φ3,rfl,hx,hs3,g2.trans g3⟩
   | normal=>exact hQ .normal s2 w2 φ2 a2 q2 hs2 g2
   | exit id=>exact hQ (.exit id) s2 w2 φ2 a2 q2 hs2 g2
   | ret=>exact hQ .ret s2 w2 φ2 a2 q2 hs2 g2
   | panic v=>exact hQ (.panic v) s2 w2 φ2 a2 q2 hs2 g2
 · rintro m a' w' ⟨x,φ',hm,hx,hs',g⟩
   refine wp_seq (wp_skip ?_);refine pass x hx Λ w' φ' a' hs' _ fun ae s2 w2 φ2 a2 q2 hs2 g2=>?_
   cases ae with
   | goto l'=>
    obtain ⟨e,y,hy,hw,hlt⟩:=q2;obtain ⟨φ3,hs3,g3⟩:=hw n Λ w2 φ2 a2 hs2;exact ⟨e,μ y,by omega,y,φ3,rfl,hy,hs3,(g.trans g2).trans g3⟩
   | normal=>exact hQ .normal s2 w2 φ2 a2 q2 hs2 (g.trans g2)
   | exit id=>exact hQ (.exit id) s2 w2 φ2 a2 q2 hs2 (g.trans g2)
   | ret=>exact hQ .ret s2 w2 φ2 a2 q2 hs2 (g.trans g2)
   | panic v=>exact hQ (.panic v) s2 w2 φ2 a2 q2 hs2 (g.trans g2)
end jumps
section rules
variable {n:Nat} {s:AS} {o:Oper} {d:Option Tmp} {Q:bB}
theorem rO {t e:TypeId} {x:Operand} {ti:TI} (ho:o.op=.call { callee:=.builtin .cap,args:=#[x],argTypes:=#[t] }:=by exact rfl) (hx:s.ev x=.v (.slice none 0 0):=by exact rfl) (ht:te.get t=some ti:=by exact rfl) (hk:ti.k=.slice e:=by exact rfl)
 (hdd:o.dst=d:=by conv=>lhs;whnf) (hd:d.all (Nat.blt · n)=true:=by exact rfl):OpOk Tryz.prog n o s (s.put d (i64 0)):=
 .val hdd hd fun Λ w φ a hs=>⟨.int .i64 0,by
  have hu:=(te_ok.tells ht).slice hk;simp [execOp,ho,resolve,invoke,builtin,cc hs hx,Builtin.cap_,run_underlying hu,goInt],.v⟩
theorem zC {t e:TypeId} {x hi:Operand} {ti tj:TI} (ho:o.op=.slice t x none (some hi) none:=by exact rfl) (hx:s.ev x=.v (.slice none 0 0):=by exact rfl) (hy:s.ev hi=i64 0:=by exact rfl) (ht:te.get t=some ti:=by exact rfl) (hk:ti.k=.slice e:=by exact rfl) (he:te.get e=some tj:=by exact rfl)
 (hdd:o.dst=d:=by conv=>lhs;whnf) (hd:d.all (Nat.blt · n)=true:=by exact rfl):OpOk Tryz.prog n o s (s.put d (.v (.slice none 0 0))):=
 .val hdd hd fun Λ w φ a hs=>⟨.slice none 0 0,by
  have hu:=(te_ok.tells ht).slice hk;have hb:=cZ (P:=Tryz.prog) (w:=w) hs (sl:=true) (len:=0) (cap:=0) (lo:=none) (hi:=some hi) (mx:=none) (l:=0) (h:=0) (m:=0) rfl ⟨_,_,hy,by decide,rfl⟩ rfl (fun h=>by cases h) (Nat.le_refl _) (Nat.le_refl _) (Nat.le_refl _);simp only [Option.map_some,Option.map_none] at hb;simp [execOp,ho,cc hs hx,Instr.sliceAt,Instr.slice,run_underlying hu,hb,(te_ok.tells he).run_sizeOf],.v⟩
theorem p4 {P:Program} {w:World} {t t2 ty e:TypeId} {k k2:IntKind} {f:TypeInfo} {z:Value} (ht:P.underlying t=some (.slice e)) (h2:P.underlying t2=some (.int k2)) (hi:P.info? e=some f) (hz:f.zero=some z) {m:Nat} (h0:0<m) (hs0:0<f.size)
 (hb:m*f.bytes≤140737488355328) (h63:m≤9223372036854775807) :
 ∃ arr,(Builtin.append_ #[t,t2] ty #[.slice none 0 0,.int k m]).run P w=.ok (.slice (some ⟨w.heap.size,0,none⟩) m (grownCap w m 0 e)) (w.drew.alloc (.cells arr e))∧arr.size=(m+(grownCap w m 0 e-m))*z.cells.size:=by
 have hn:¬ (m≤0):=by omega
 have h48:=growslice_fits (need:=m) (old:=0) (by omega) hb;have h48':¬ (281474976710656<Builtin.nextslicecap m 0*f.bytes):=by omega
 have hw:IntKind.i64.wrap (m:Int)=m:=j9 (by omega) (by omega);have hneg:¬ ((m:Int)<0):=by omega
 have hbig:¬ (281474976710656<(m:Int)*(f.bytes:Int)):=by
  have:((m*f.bytes:Nat):Int)≤140737488355328:=by omega
  rw [Int.natCast_mul] at this;omega
 have hmax:¬ (9223372036854775807<(m:Int)):=by omega
 have hs:¬ (m*f.size=0):=by have:=Nat.mul_pos h0 hs0;omega
 refine ⟨#[]++Builtin.zeroCells z.cells m++Builtin.zeroCells z.cells (grownCap w m 0 e-m),?_,?_⟩
 · simp [Builtin.append_,run_underlying ht,run_underlying h2,sizeOf,typeInfo,zeroValue,hi,hz,asInt,asIntOf,hw,hneg,hbig,hn,hmax,h48',Question.forced,newRow,grownCap,Builtin.firstCells,hs]
   omega
 · simp [Builtin.zeroCells,Nat.add_mul]
theorem vT (id m:Nat) {α:Type} (f:α→List AV) {t t2 e:TypeId} {x y:Operand} {k:IntKind} {esz bt:Nat} {ti tj tk:TI} {k2:IntKind} (ho:o.op=.call { callee:=.builtin .append,args:=#[x,y],argTypes:=#[t,t2] }:=by exact rfl) (hx:s.ev x=.v (.slice none 0 0):=by exact rfl) (hy:s.ev y=.v (.int k m):=by exact rfl)
 (ht:te.get t=some ti:=by exact rfl) (hk:ti.k=.slice e:=by exact rfl) (he:te.get e=some tj:=by exact rfl) (hesz:tj.size=esz:=by exact rfl) (hbt:tj.bytes=bt:=by conv=>lhs;whnf) (hz0:Nat.beq tj.zero.length tj.size=true:=by exact rfl) (hp:0<esz:=by exact Nat.le_of_ble_eq_true rfl)
 (ht2:te.get t2=some tk:=by exact rfl) (hk2:tk.k=.int k2:=by exact rfl) (hid:s.h id=none:=by exact rfl) (h0:0<m:=by omega) (hb:m*bt≤140737488355328:=by first|omega|(simp;omega)) (h63:m≤9223372036854775807:=by omega)
 (hdd:o.dst=d:=by conv=>lhs;whnf) (hd:d.all (Nat.blt · n)=true:=by exact rfl):OpOk Tryz.prog n o s ((s.seth id (some (.row (cl f []) esz 0))).put d (.sl id 0 0 m esz)):=
 .chg hdd hd fun Λ w φ a hs=>by
  subst hesz;subst hbt;obtain ⟨f',z,f1,f2,f3,f4,z1,z2,z3⟩:=(te_ok.tells he).info;have hu:=(te_ok.tells ht).slice hk;have hu2:=(te_ok.tells ht2).int hk2;obtain ⟨arr,hrun,hsz⟩:=p4 (P:=Tryz.prog) (w:=w) (ty:=o.type) (k:=k) hu hu2 f1 f4 h0 (by rw [f2];exact hp) (by rw [f3];exact hb) h63;have hsw:=hs.hs.drew;have hc:=Chg.alloc hsw hid (.cells arr e) 0 0;have hc2:Chg w φ Λ s.h id ⟨some (w.heap.size,0),0⟩ (w.drew.alloc (.cells arr e)):=
   ⟨hs.hs,hc.size,hc.os,hc.tape,hc.output,hc.other,hc.loc,hc.ver,hc.sizes,(Fro.same rfl).trans hc.fro⟩
  have hge:=grownCap_ge w m 0 e;have hsz2:arr.size=grownCap w m 0 e*tj.size:=by
   rw [hsz,z1];have:(tj.zero.map ZC.val).toArray.size=tj.size:=by simp [z2]
   rw [this];have hm:m+(grownCap w m 0 e-m)=grownCap w m 0 e:=by omega
   rw [hm]
  refine ⟨_,_,_,?_,hc2,jj rfl (w0:=w.drew) (Nat.zero_le _) (fun j c hj=>by simp [cl] at hj),.slice (some ⟨w.heap.size,0,none⟩) m (grownCap w m 0 e),.inl rfl,?_⟩
  · simp [execOp,ho,resolve,invoke,builtin,cc hs hx,cc hs hy,hrun]
  · have:=Rep.sl (w:=w.drew.alloc (.cells arr e)) (φ:=upd φ id (some ⟨some (w.heap.size,0),0⟩)) (Λ:=Λ) (id:=id) (ver:=0) (off:=0) (len:=m) (esz:=tj.size) (cap:=grownCap w m 0 e) (aZ _ _ _) rfl rfl (heap_alloc_new w.drew _) (by omega) hge
    exact this
end rules
abbrev Bn:=Nat→Nat→Prop
class HasJ where
 J:Bn
abbrev NoL:aW:=fun _ _=>False
namespace J
def NU (x:AV):Prop:=∀ (w:World) (φ:aD) (Λ:aW) (v:Value),Rep w φ Λ x v→∀ k,v≠.int .u8 k
inductive SF:AV→Prop
 | v {x}:SF (.v x)
 | any:SF .any
 | bl:SF .bl
 | ptr {i v o}:SF (.ptr i v o)
 | sl {i v o l e}:SF (.sl i v o l e)
 | fz {lv n cells}:(∀ c∈cells,NU c)→(∀ c∈cells,SF c)→SF (.fz lv n cells)
 | agg {cells}:(∀ c∈cells,SF c)→SF (.agg cells)
 | tup0:SF (.tup [])
 | fn0 {f}:SF (.fn f [] [])
 | p {D x}:SF x→SF (.p D x)
def SFO:AObj→Prop
 | .gbox _ cs=>∀ c∈cs,SF c
 | .grow _ cs _ _=>∀ c∈cs,SF c
 | .map _=>False
theorem zV {l:List UInt8}:NU (str l):=fun _ _ _ _ h k e=>by cases h;cases e
theorem vZ {k:IntKind} {a:Int} (hk:k≠.u8):NU (.v (.int k a)):=fun _ _ _ _ h q e=>by cases h;cases e;exact hk rfl
theorem Gs {lv n:Nat} {cs:List AV}:NU (.fz lv n cs):=fun _ _ _ _ h q e=>by cases h<;>cases e
theorem BC {t:List (Nat×AV)} (h:∀ p∈t,SF p.2) (i:Nat):SF (jm t i):=by
 induction t with
 | nil=>exact .any
 | cons p r ih=>
  obtain ⟨k,x⟩:=p;simp only [jm];cases Nat.beq i k with
  | true=>exact h _ List.mem_cons_self
  | false=>exact ih fun q hq=>h q (List.mem_cons_of_mem _ hq)
theorem zm {l:List (Nat×AObj)} (h:∀ p∈l,SFO p.2):∀ id ob,ao l id=some ob→SFO ob:=by
 induction l with
 | nil=>intro id ob e;cases e
 | cons p r ih=>
  obtain ⟨k,x⟩:=p;intro id ob e;simp only [ao] at e;cases hb:Nat.beq id k with
  | true=>rw [hb] at e;cases e;exact h _ List.mem_cons_self
  | false=>rw [hb] at e;exact ih (fun q hq=>h q (List.mem_cons_of_mem _ hq)) id ob e
section
variable [hJ:HasJ]
structure JG (w:World) (φ:aD) (w':World) (φ':aD):Prop where
 keep:∀ b,b<w.heap.size→¬ bp φ b→(∀ o,¬ hJ.J b o)→w'.heap[b]?=w.heap[b]?
 kc:∀ b o x,¬ bp φ b→¬ hJ.J b o→w.cell? ⟨b,o,none⟩=some x→w'.cell? ⟨b,o,none⟩=some x
 size:w.heap.size≤w'.heap.size
 own:∀ b,bp φ' b→bp φ b∨w.heap.size≤b
 os:w'.os=w.os
 tape:w'.tape=w.tape
 output:w'.output=w.output
 fro:Fro w w'
def JInv (w:World) (φ:aD):Prop:=∀ b o,hJ.J b o→¬ bp φ b∧Unfro w b∧∃ c:UInt8,w.cell? ⟨b,o,none⟩=some (.int .u8 c.toNat)
theorem JG.refl (w:World) (φ:aD):JG w φ w φ:=⟨fun _ _ _ _=>rfl,fun _ _ _ _ _ h=>h,Nat.le_refl _,fun _ h=>.inl h,rfl,rfl,rfl,.refl w⟩
theorem JG.trans {w w1 w2:World} {φ φ1 φ2:aD} (h:JG w φ w1 φ1) (k:JG w1 φ1 w2 φ2):JG w φ w2 φ2 where
 keep b hb ho hj:=by
  have h1:¬ bp φ1 b:=fun h1=>(h.own b h1).elim ho (fun h2=>by omega)
  rw [k.keep b (Nat.lt_of_lt_of_le hb h.size) h1 hj,h.keep b hb ho hj]
 kc b o x ho hj hc:=by
  have hb:=e9 hc;have h1:¬ bp φ1 b:=fun h1=>(h.own b h1).elim ho (fun h2=>by omega)
  exact k.kc b o x h1 hj (h.kc b o x ho hj hc)
 size:=Nat.le_trans h.size k.size
 own b hb:=by
  rcases k.own b hb with h1|h1
  · exact h.own b h1
  · exact .inr (Nat.le_trans h.size h1)
 os:=k.os.trans h.os
 tape:=k.tape.trans h.tape
 output:=k.output.trans h.output
 fro:=h.fro.trans k.fro
theorem JInv.goes {w w':World} {φ φ':aD} (h:JInv w φ) (g:Goes w φ w' φ'):JG w φ w' φ'∧JInv w' φ':=by
 refine ⟨⟨fun b hb ho _=>g.keep b hb ho,fun b o x ho _ hc=>?_,g.size,g.own,g.os,g.tape,g.output,g.fro⟩,fun b o hj=>?_⟩
 · rw [World.cell?_of_block (g.keep b (e9 hc) ho)]
   exact hc
 · obtain ⟨h1,h2,c,h3⟩:=h b o hj
   have hb:=e9 h3;have e:=g.keep b hb h1;exact ⟨fun h4=>(g.own b h4).elim h1 (fun h5=>by omega),h2.of e,c,by rw [World.cell?_of_block e];exact h3⟩
def AWp (P:Program) (n:Nat) (c:Code) (Q:bB) (s:AS):Prop:=
 ∀ w φ a,Sim n w φ NoL s a→JInv w φ→∀ QQ:Exit→Act→World→Prop,
  (∀ ae s' w' φ' a',Q ae s'→Sim n w' φ' NoL s' a'→JG w φ w' φ'→JInv w' φ'→QQ ae.conc a' w')→c.wp P QQ a w
def AOps (P:Program) (n:Nat) (ops:Array Oper) (Q:bB) (l:List Nat) (s:AS):Prop:=
 ∀ w φ a,Sim n w φ NoL s a→JInv w φ→∀ QQ:Exit→Act→World→Prop,
  (∀ ae s' w' φ' a',Q ae s'→Sim n w' φ' NoL s' a'→JG w φ w' φ'→JInv w' φ'→QQ ae.conc a' w')→wpOps P ops QQ l a w
section rules
variable {P:Program} {n:Nat} {Q:bB} {s:AS} {ops:Array Oper}
theorem AWp.skip (h:Q .normal s):AWp P n .skip Q s:=fun w φ a hs hj _ hQ=>wp_skip (hQ .normal s w φ a h hs (JG.refl _ _) hj)
theorem AWp.exit {id:Nat} (h:Q (.exit id) s):AWp P n (.exit id) Q s:=fun w φ a hs hj _ hQ=>wp_exit (hQ (.exit id) s w φ a h hs (JG.refl _ _) hj)
theorem AWp.seq {x y:Code} (h:AWp P n x (AExit.then (AWp P n y Q) Q) s):AWp P n (.seq x y) Q s:=by
 intro w φ a hs hj QQ hQ;refine wp_seq (h w φ a hs hj _ ?_);intro ae s' w' φ' a' q hs' g hj';cases ae with
 | normal=>exact q w' φ' a' hs' hj' QQ fun ae s2 w2 φ2 a2 q2 hs2 g2 hj2=>hQ ae s2 w2 φ2 a2 q2 hs2 (g.trans g2) hj2
 | exit id=>exact hQ _ s' w' φ' a' q hs' g hj'
 | goto l=>exact hQ _ s' w' φ' a' q hs' g hj'
 | ret=>exact hQ _ s' w' φ' a' q hs' g hj'
 | panic v=>exact hQ _ s' w' φ' a' q hs' g hj'
theorem AWp.cond {c:Operand} {x y:Code} {b:Bool} (hc:s.ev c=.v (.bool b)) (ht:b=true→AWp P n x Q s) (hf:b=false→AWp P n y Q s):AWp P n (.cond c x y) Q s:=by
 intro w φ a hs hj QQ hQ;have he:=hs.ev c;rw [hc] at he;generalize hv:a.eval c=v at he;cases he;exact wp_cond_split hv (fun e=>ht e w φ a hs hj QQ hQ) (fun e=>hf e w φ a hs hj QQ hQ)
theorem AWp.cond_t {c:Operand} {x y:Code} (hc:s.ev c=tf true) (h:AWp P n x Q s):AWp P n (.cond c x y) Q s:=AWp.cond hc (fun _=>h) (fun e=>by cases e)
theorem AWp.cond_f {c:Operand} {x y:Code} (hc:s.ev c=tf false) (h:AWp P n y Q s):AWp P n (.cond c x y) Q s:=AWp.cond hc (fun e=>by cases e) (fun _=>h)
theorem AWp.block {id:Nat} {c:Code} (h:AWp P n c (AExit.inBlock id Q) s):AWp P n (.block id c) Q s:=by
 intro w φ a hs hj QQ hQ;refine wp_block (h w φ a hs hj _ ?_);intro ae s' w' φ' a' q hs' g hj';cases ae with
 | normal=>exact hQ .normal s' w' φ' a' q hs' g hj'
 | exit id'=>
  simp only [AExit.inBlock] at q;simp only [AExit.conc,Exit.inBlock];split at q
  · rename_i e
    rw [if_pos e];exact hQ .normal s' w' φ' a' q hs' g hj'
  · rename_i e
    rw [if_neg e];exact hQ (.exit id') s' w' φ' a' q hs' g hj'
 | goto l=>exact hQ _ s' w' φ' a' q hs' g hj'
 | ret=>exact hQ _ s' w' φ' a' q hs' g hj'
 | panic v=>exact hQ _ s' w' φ' a' q hs' g hj'
theorem AOps.weak {l:List Nat} {s':AS} (hw:Weak s s') (h:AOps P n ops Q l s'):AOps P n ops Q l s:=by
 intro w φ a hs hj QQ hQ;obtain ⟨φ1,hs1,g1⟩:=hw n NoL w φ a hs;obtain ⟨k1,k2⟩:=hj.goes g1;exact h w φ1 a hs1 k2 QQ fun ae s2 w2 φ2 a2 q2 hs2 g2 hj2=>hQ ae s2 w2 φ2 a2 q2 hs2 (k1.trans g2) hj2
theorem AWp.loopI {α:Type} {c:Code} (S:α→AS) (I:α→Prop) (μ:α→Nat) (x0:α) (hI:I x0) (h0:Weak s (S x0))
 (round:∀ x,I x→AWp P n c (AExit.then (fun s'=>∃ x',I x'∧Weak s' (S x')∧μ x'<μ x) Q) (S x)):AWp P n (.loop c) Q s:=by
 intro w φ a hs hj QQ hQ;obtain ⟨φ0,hs0,g0⟩:=h0 n NoL w φ a hs;obtain ⟨k0,hj0⟩:=hj.goes g0
 let V:Nat→Act→World→Prop:=fun m a' w'=>∃ x φ',I x∧μ x=m∧Sim n w' φ' NoL (S x) a'∧JG w φ w' φ'∧JInv w' φ'
 refine wp_loop_ghost V (μ x0) ⟨x0,φ0,hI,rfl,hs0,k0,hj0⟩ ?_;rintro m a' w' ⟨x,φ',hx,hm,hs',g,hj'⟩;refine round x hx w' φ' a' hs' hj' _ ?_;intro ae s2 w2 φ2 a2 q2 hs2 g2 hj2;cases ae with
 | normal=>
  obtain ⟨x',hx',hw',hlt⟩:=q2;obtain ⟨φ3,hs3,g3⟩:=hw' n NoL w2 φ2 a2 hs2;obtain ⟨k3,hj3⟩:=hj2.goes g3;exact ⟨μ x',by omega,x',φ3,hx',rfl,hs3,(g.trans g2).trans k3,hj3⟩
 | exit id=>exact hQ _ s2 w2 φ2 a2 q2 hs2 (g.trans g2) hj2
 | goto l=>exact hQ _ s2 w2 φ2 a2 q2 hs2 (g.trans g2) hj2
 | ret=>exact hQ _ s2 w2 φ2 a2 q2 hs2 (g.trans g2) hj2
 | panic v=>exact hQ _ s2 w2 φ2 a2 q2 hs2 (g.trans g2) hj2
theorem AWp.region {id:Nat} (h:AOps P n ops Q (List.range ops.size) s):AWp P n (.region id ops false) Q s:=
 fun w φ a hs hj QQ hQ=>wp_region (h w φ a hs hj QQ hQ)
theorem AOps.nil (h:Q .normal s):AOps P n ops Q [] s:=fun w φ a hs hj _ hQ=>hQ .normal s w φ a h hs (JG.refl _ _) hj
theorem AOps.cons {i:Nat} {rest:List Nat} {o:Oper} {s':AS} (ho:ops[i]?=some o) (hg:o.guard=none) (h:OpOk P n o s s') (hr:AOps P n ops Q rest s') :
 AOps P n ops Q (i::rest) s:=by
 intro w φ a hs hj QQ hQ;simp only [wpOps,ho,Region.wanted,hg,if_true];refine .inl (h NoL w φ a hs _ _ fun w' φ' a' hs' g=>?_);obtain ⟨k1,k2⟩:=hj.goes g;exact hr w' φ' a' hs' k2 QQ fun ae s2 w2 φ2 a2 q2 hs2 g2 hj2=>hQ ae s2 w2 φ2 a2 q2 hs2 (k1.trans g2) hj2
theorem AOps.dec {i:Nat} {rest:List Nat} {o:Oper} {p:Prop} {hp:Decidable p} {d:Option Tmp} (ho:ops[i]?=some o) (hg:o.guard=none) (h:OpOk P n o s (s.put d (tf (decide p))))
 (ht:p→AOps P n ops Q rest (s.put d (tf true))) (hf:¬ p→AOps P n ops Q rest (s.put d (tf false))):AOps P n ops Q (i::rest) s:=by
 by_cases hx:p
 · rw [decide_eq_true hx] at h
   exact AOps.cons ho hg h (ht hx)
 · rw [decide_eq_false hx] at h
   exact AOps.cons ho hg h (hf hx)
def OpJ (P:Program) (n:Nat) (o:Oper) (s:AS) (K:AS→Prop):Prop:=
 ∀ w φ a,Sim n w φ NoL s a→JInv w φ→∀ (next:Act→World→Prop) (QQ:Exit→Act→World→Prop),
  (∀ s' w' φ' a',K s'→Sim n w' φ' NoL s' a'→JG w φ w' φ'→JInv w' φ'→next a' w')→o.wp P a w next QQ
theorem AOps.consj {i:Nat} {rest:List Nat} {o:Oper} (ho:ops[i]?=some o) (hg:o.guard=none) (h:OpJ P n o s (AOps P n ops Q rest)):AOps P n ops Q (i::rest) s:=by
 intro w φ a hs hj QQ hQ;simp only [wpOps,ho,Region.wanted,hg,if_true];exact .inl (h w φ a hs hj _ _ fun s' w' φ' a' k hs' g hj'=>k w' φ' a' hs' hj' QQ fun ae s2 w2 φ2 a2 q2 hs2 g2 hj2=>hQ ae s2 w2 φ2 a2 q2 hs2 (g.trans g2) hj2)
end rules
structure Kc (w:World) (φ:aD) (w':World):Prop where
 kc:∀ b o x,¬ hJ.J b o→w.cell? ⟨b,o,none⟩=some x→w'.cell? ⟨b,o,none⟩=some x
 kb:∀ b,bp φ b→w'.heap[b]?=w.heap[b]?
 size:w.heap.size≤w'.heap.size
theorem Rep.kc {w w':World} {φ:aD} (k:Kc w φ w') (hj:JInv w φ) {x:AV} {v:Value} (h:Rep w φ NoL x v):SF x→Rep w' φ NoL x v:=by
 have nj:∀ b o y,w.cell? ⟨b,o,none⟩=some y→(∀ q,y≠.int .u8 q)→w'.cell? ⟨b,o,none⟩=some y:=fun b o y hc hy=>k.kc b o y (fun hjc=>by
  obtain ⟨_,_,c,h3⟩:=hj b o hjc;rw [hc] at h3;exact hy _ (Option.some.inj h3)) hc
 induction h with
 | v=>exact fun _=>.v
 | any=>exact fun _=>.any
 | bl=>exact fun _=>.bl
 | fz0=>exact fun _=>.fz0
 | fz vf hm hn hok hc hr hp ih=>
  intro hs;cases hs with
  | fz h1 h2=>
   refine .fz vf hm hn hok (fun j hj=>?_) (fun j c hj=>ih j c hj (h2 c (List.mem_of_getElem? hj))) hp;exact nj _ _ _ (hc j hj) (h1 _ (List.getElem_mem hj) _ _ _ _ (hr j _ (List.getElem?_eq_getElem hj)))
 | fp vf hm hok hc hr hp ih=>exact fun hs=>by cases hs
 | agg vf h1 h2 h3 ih=>
  intro hs;cases hs with
  | agg h=>exact .agg vf h1 h2 fun j c hj=>ih j c hj (h c (List.mem_of_getElem? hj))
 | tup vf h1 h2 h3 ih=>
  intro hs;cases hs with
  | tup0=>exact .tup vf h1 h2 fun j c hj=>by simp at hj
 | fn vf wf h1 h2 h3 h4 h5 h6 ih1 ih2=>
  intro hs;cases hs with
  | fn0=>exact .fn vf wf h1 h2 (fun j c hj=>by simp at hj) h4 h5 (fun j c hj=>by simp at hj)
 | ifc h ih=>exact fun hs=>by cases hs
 | p a b h ih=>
  intro hs;cases hs with
  | p h2=>exact .p a b (ih h2)
 | ptr h1 h2 h3=>exact fun _=>.ptr h1 h2 h3
 | ptrx h1 h2=>exact fun _=>.ptrx h1 h2
 | sl h1 h2 h3 h4 h5 h6=>exact fun _=>.sl h1 h2 h3 (by rw [k.kb _ ⟨_,_,_,h1,h3⟩];exact h4) h5 h6
 | sl0 h1 h2=>exact fun _=>.sl0 h1 h2
 | slx h1 h2 h3=>exact fun _=>.slx h1 h2 h3
 | mp h1 h2 h3=>exact fun hs=>by cases hs
 | mpx h1 h2=>exact fun hs=>by cases hs
 | dp h1 h2 h3 h4 h5=>exact fun hs=>by cases hs
 | dp0 h1=>exact fun hs=>by cases hs
 | dpx h1 h2=>exact fun hs=>by cases hs
theorem Sim.kc {n:Nat} {w w':World} {φ:aD} {s:AS} {a:Act} (k:Kc w φ w') (hj:JInv w φ) (hs:Sim n w φ NoL s a) (h1:∀ i,SF (s.t i)) (h2:∀ id ob,s.h id=some ob→SFO ob):Sim n w' φ NoL s a:=by
 have hcells:∀ {arr:Array Value} {o:Nat} {cs:List AV},CellsRep w φ NoL arr o cs→(∀ c∈cs,SF c)→CellsRep w' φ NoL arr o cs:=fun hc h j c hj2=>by
  obtain ⟨v,e1,e2⟩:=hc j c hj2;exact ⟨v,e1,Rep.kc k hj e2 (h c (List.mem_of_getElem? hj2))⟩
 refine ⟨hs.defs,hs.size,fun i=>Rep.kc k hj (hs.tmps i) (h1 i),fun id ob h=>?_,hs.hs.dom,fun id l b o e1 e2=>?_,hs.hs.inj,fun _ _ h=>h.elim⟩
 · obtain ⟨l,e1,e2⟩:=hs.hs.heap id ob h
   refine ⟨l,e1,?_⟩;have h3:=h2 id ob h;cases ob with
   | gbox ty cs=>
    obtain ⟨b,arr,T,g1,g2,g3,g4,g5⟩:=e2;exact ⟨b,arr,T,g1,g2,by rw [k.kb b ⟨id,l,0,e1,g1⟩];exact g3,g4,hcells g5 h3⟩
   | grow ty cs e v=>
    obtain ⟨g0,g⟩:=e2;refine ⟨g0,?_⟩;rcases g with g|⟨b,o,arr,T,lo,hi,g1,g2,g3,g4,g5⟩
    · exact .inl g
    · exact .inr ⟨b,o,arr,T,lo,hi,g1,by rw [k.kb b ⟨id,l,o,e1,g1⟩];exact g2,g3,g4,hcells g5 h3⟩
   | map es=>exact h3.elim
 · obtain ⟨h3,_⟩:=hs.hs.lt id l b o e1 e2
   exact ⟨Nat.lt_of_lt_of_le h3 k.size,fun _ h=>h.elim⟩
def AC (P:Program) (f:FuncId) (args:List AV) (h:aX) (R:AEnd→aX→Prop):Prop:=
 (∃ fn c,wC P f fn c)∧∀ w φ (vals:Array Value),HSim w φ NoL h→eI w φ NoL args vals→JInv w φ→∀ QQ:Ending→World→Prop,
  (∀ r h' w' φ' v,R (.ret r) h'→HSim w' φ' NoL h'→JG w φ w' φ'→JInv w' φ'→Rep w' φ' NoL r v→QQ (.returned v) w')→Calls P f vals w QQ
section fn
variable {te:TE}
theorem AC.intro {P:Program} (hte:TEok P te) {f:FuncId} {fn:Func} {c:Code} {args:List AV} {h:aX} {r0:AV} (hb:wC P f fn c) (hn:args.length≤fn.ntmps)
 (hw:AWp P fn.ntmps c (Post te fn (Ret r0)) ⟨fun i=>args.getD i (.v undef),h⟩):AC P f args h (Ret r0):=by
 refine ⟨⟨fn,c,hb⟩,fun w φ vals hs ha hj QQ hret=>?_⟩;have hs0:Sim fn.ntmps w φ NoL ⟨fun i=>args.getD i (.v undef),h⟩ { tmps:=vals++Array.replicate (fn.ntmps-vals.size) undef,defers:=[] }:=by
  refine ⟨rfl,by simp [ha.1];omega,fun i=>?_,hs⟩;simp only [Array.getD_eq_getD_getElem?,List.getD_eq_getElem?_getD];by_cases hi:i<args.length
  · obtain ⟨v,h1,h2⟩:=ha.2 i args[i] (List.getElem?_eq_getElem hi)
    rw [Array.getElem?_append_left (by rw [ha.1];exact hi),h1,List.getElem?_eq_getElem hi];exact h2
  · rw [List.getElem?_eq_none (by omega),Array.getElem?_append_right (by rw [ha.1];omega)]
    have:((Array.replicate (fn.ntmps-vals.size) undef)[i-vals.size]?).getD undef=undef:=by
     rw [Array.getElem?_replicate];split<;>rfl
    rw [this];exact .v
 refine calls_of_wp hb.1 hb.2.1 (hw w φ _ hs0 hj _ ?_);intro ae s' w' φ' a' q hs' g hj';have fin:Fin te fn (Ret r0) s'→a'.defers=[]∧∃ v,(results fn a'.tmps).run P w'=.ok v w'∧QQ (.returned v) w':=by
  rintro ⟨xs,r,h',h1,h2,h3⟩;refine ⟨hs'.defs,?_⟩;obtain ⟨vs,v1,v2,v3⟩:=fj hte hs' h1;have hrun:(results fn a'.tmps).run P w'=.ok (if h:vs.toArray.size=1 then vs.toArray[0] else .tuple vs.toArray) w':=by
   rw [ml,← Array.toArray_toList (xs:=fn.results),List.mapM_toArray];simp only [Sem.run_bind,Sem.run_map,v1,Result.andThen_ok,Sem.run_pure]
  have hrep:Rep w' φ' NoL (bX xs) (if h:vs.toArray.size=1 then vs.toArray[0] else .tuple vs.toArray):=by
   by_cases hx:∃ x,xs=[x]
   · obtain ⟨x,rfl⟩:=hx
     have hvl:vs.length=1:=by simpa using v2
     obtain ⟨v,hv1,hv2⟩:=v3 0 x rfl;rw [dif_pos (by simpa using hvl)];simp only [bX];have:vs.toArray[0]'(by simp;omega)=v:=by
      have:=(List.getElem?_eq_some_iff.1 hv1).2
      simpa using this
     rw [this];exact hv2
   · have hne:vs.length≠1:=by
      intro h1;rw [v2] at h1;obtain ⟨x,hx2⟩:=List.length_eq_one_iff.1 h1;exact hx ⟨x,hx2⟩
     rw [dif_neg (by simpa using hne)];have:bX xs=.tup xs:=by
      unfold bX;split
      · exact absurd ⟨_,rfl⟩ hx
      · rfl
     rw [this];refine .tup (fun j=>vs.getD j undef) (by simp [v2]) (fun j hj=>?_) (fun j c hj=>?_)
     · rw [List.getElem?_toArray,List.getElem?_eq_getElem (by omega),List.getD_eq_getElem?_getD,List.getElem?_eq_getElem (by omega)]
       rfl
     · obtain ⟨v,k1,k2⟩:=v3 j c hj
       rw [List.getD_eq_getElem?_getD,k1];exact k2
  obtain ⟨φ2,k1,k2,k3⟩:=h2 w' φ' NoL _ hs'.hs hrep;obtain ⟨g3,hj3⟩:=hj'.goes k3;exact ⟨_,hrun,hret r h' w' φ2 _ h3 k1 (g.trans g3) hj3 k2⟩
 cases ae with
 | normal=>exact fin q
 | ret=>exact fin q
 | exit id=>exact q.elim
 | goto l=>exact q.elim
 | panic x=>
  obtain ⟨h',_,q1⟩:=q;exact absurd q1.1 (by simp)
end fn
end
end J
end Go.Proofs.YthnfcmgpedppaaaGreat.Fw
